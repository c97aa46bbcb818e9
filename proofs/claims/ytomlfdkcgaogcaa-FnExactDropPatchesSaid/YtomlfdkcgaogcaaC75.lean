/- The patches of a map, in plain Lean. -/
import Derived.Test.YtomlfdkcgaogcaaC31
import Derived.Test.YtomlfdkcgaogcaaC28
namespace Go.Fx
/-- How many numbers are below nought. -/
def gNeg (out : List Int) : Nat := (out.filter fun v => decide (v < 0)).length
theorem gNeg_set {out : List Int} {j : Nat} {v : Int} (hj : j < out.length) (h : out.getD j 0 < 0) (hv : 0 ≤ v) : gNeg (out.set j v) + 1 = gNeg out := by
  induction out generalizing j with
  | nil => simp at hj
  | cons a l ih =>
    cases j with
    | zero =>
      have ha : a < 0 := by simpa using h
      have hv' : ¬ v < 0 := by omega
      simp [gNeg, ha, hv']
    | succ j =>
      have := ih (j := j) (by simpa using hj) (by simpa using h)
      unfold gNeg at this ⊢
      rw [List.set_cons_succ, List.filter_cons, List.filter_cons]
      split
      · rw [List.length_cons, List.length_cons]; omega
      · exact this
/-- The cells beside c that hang on it and have no number yet take the number and join the list. -/
def gAdd (h : Int → Int → Bool) (num c : Int) : List Int → List Int × List Int → List Int × List Int
  | [], s => s
  | j :: js, s => gAdd h num c js (if s.1.getD j.toNat 0 < 0 ∧ h c j = true then (s.1.set j.toNat num, s.2 ++ [j]) else s)
/-- A patch: its list is gone through from place k on. -/
def gFlood (h : Int → Int → Bool) (nb : Int → List Int) (num : Int) : Nat → Nat → List Int × List Int → List Int × List Int
  | 0, _, s => s
  | f + 1, k, s => if k < s.2.length then gFlood h nb num f (k + 1) (gAdd h num (s.2.getD k 0) (nb (s.2.getD k 0)) s) else s
/-- What holds of a patch on its way: n cells; every cell of the list is one; cells of the list and cells without a number are no more than n. -/
structure Pat (n : Nat) (s : List Int × List Int) : Prop where
  len : s.1.length = n
  mem : ∀ c ∈ s.2, 0 ≤ c ∧ c < n
  sum : s.2.length + gNeg s.1 ≤ n
theorem Pat.push {n : Nat} {s : List Int × List Int} (p : Pat n s) {num j : Int} (hnum : 0 ≤ num) (h0 : 0 ≤ j) (h1 : j < n) (h : s.1.getD j.toNat 0 < 0) : Pat n (s.1.set j.toNat num, s.2 ++ [j]) := by
  have hs := gNeg_set (v := num) (show j.toNat < s.1.length by rw [p.len]; omega) h hnum
  refine ⟨by simpa using p.len, fun c hc => ?_, ?_⟩
  · rcases List.mem_append.1 hc with hc | hc
    · exact p.mem c hc
    · simp at hc; subst hc; exact ⟨h0, h1⟩
  · have := p.sum
    simp only [List.length_append, List.length_cons, List.length_nil]
    omega
theorem gAdd_pat {n : Nat} {h : Int → Int → Bool} {num c : Int} (hnum : 0 ≤ num) : ∀ (js : List Int) (s : List Int × List Int), (∀ j ∈ js, 0 ≤ j ∧ j < n) → Pat n s → Pat n (gAdd h num c js s)
  | [], s, _, p => p
  | j :: js, s, hj, p => by
    unfold gAdd
    refine gAdd_pat hnum js _ (fun i hi => hj i (List.mem_cons_of_mem _ hi)) ?_
    split
    · rename_i hc
      exact p.push hnum (hj j (List.mem_cons_self ..)).1 (hj j (List.mem_cons_self ..)).2 hc.1
    · exact p
/-- The patches of the first k cells: their numbers, and how many cells each has. -/
def gPat (hole : Nat → Bool) (h : Int → Int → Bool) (nb : Int → List Int) (n : Nat) : Nat → List Int × List Int
  | 0 => (List.replicate n (-1), [])
  | k + 1 =>
    let s := gPat hole h nb n k
    if 0 ≤ s.1.getD k 0 ∨ hole k = true then s
    else
      let r := gFlood h nb (s.2.length : Int) (2 * n + 2) 0 (s.1.set k (s.2.length : Int), [(k : Int)])
      (r.1, s.2 ++ [(r.2.length : Int)])
theorem gFlood_end {h : Int → Int → Bool} {nb : Int → List Int} {num : Int} {k : Nat} {s : List Int × List Int} (hk : s.2.length ≤ k) : ∀ f, gFlood h nb num f k s = s
  | 0 => rfl
  | f + 1 => by unfold gFlood; rw [if_neg (by omega)]
theorem gFlood_step {h : Int → Int → Bool} {nb : Int → List Int} {num : Int} {f k : Nat} {s : List Int × List Int} (hk : k < s.2.length) : gFlood h nb num (f + 1) k s = gFlood h nb num f (k + 1) (gAdd h num (s.2.getD k 0) (nb (s.2.getD k 0)) s) := by
  rw [gFlood, if_pos hk]
theorem gFlood_pat {n : Nat} {h : Int → Int → Bool} {nb : Int → List Int} {num : Int} (hnum : 0 ≤ num) (hnb : ∀ c : Int, 0 ≤ c → c < (n : Int) → ∀ j ∈ nb c, 0 ≤ j ∧ j < (n : Int)) : ∀ f k s, Pat n s → Pat n (gFlood h nb num f k s)
  | 0, _, _, p => p
  | f + 1, k, s, p => by
    unfold gFlood
    split
    · rename_i hk
      have hc := p.mem (s.2.getD k 0) (by rw [List.getD_eq_getElem?_getD, List.getElem?_eq_getElem hk]; exact List.getElem_mem hk)
      exact gFlood_pat hnum hnb f _ _ (gAdd_pat hnum _ _ (hnb _ hc.1 hc.2) p)
    · exact p
/-- A patch begins. -/
theorem Pat.first {n k : Nat} {out : List Int} {num : Int} (hl : out.length = n) (hk : k < n) (h : out.getD k 0 < 0) (hnum : 0 ≤ num) : Pat n (out.set k num, [(k : Int)]) := by
  have hs := gNeg_set (v := num) (show k < out.length by omega) h hnum
  have hle : gNeg out ≤ out.length := List.length_filter_le _ _
  refine ⟨by simpa using hl, fun c hc => by simp at hc; omega, ?_⟩
  simp only [List.length_cons, List.length_nil]
  omega
theorem gPat_len {hole : Nat → Bool} {h : Int → Int → Bool} {nb : Int → List Int} {n : Nat} (hnb : ∀ c : Int, 0 ≤ c → c < (n : Int) → ∀ j ∈ nb c, 0 ≤ j ∧ j < (n : Int)) : ∀ k, k ≤ n → (gPat hole h nb n k).1.length = n ∧ (gPat hole h nb n k).2.length ≤ k
  | 0, _ => by simp [gPat]
  | k + 1, hk => by
    have ih := gPat_len (hole := hole) (h := h) (nb := nb) hnb k (by omega)
    unfold gPat
    simp only
    split
    · exact ⟨ih.1, by omega⟩
    · rename_i hc
      have hneg : (gPat hole h nb n k).1.getD k 0 < 0 := by
        rcases Int.lt_or_le ((gPat hole h nb n k).1.getD k 0) 0 with h' | h'
        · exact h'
        · exact absurd (.inl h') hc
      have p := gFlood_pat (h := h) (nb := nb) (num := ((gPat hole h nb n k).2.length : Int)) (by omega) hnb (2 * n + 2) 0 _ (Pat.first (num := ((gPat hole h nb n k).2.length : Int)) ih.1 (by omega) hneg (by omega))
      refine ⟨p.len, ?_⟩
      simp only [List.length_append, List.length_cons, List.length_nil]
      omega
end Go.Fx
