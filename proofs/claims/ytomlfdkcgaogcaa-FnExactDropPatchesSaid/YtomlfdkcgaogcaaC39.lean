/- Contracts: values counted between limits. MAXREC -/
import Derived.Test.YtomlfdkcgaogcaaProg
import Derived.Test.YtomlfdkcgaogcaaC14
import Derived.Test.YtomlfdkcgaogcaaGi2
import Derived.Deep.DeepCutAuto
namespace Go.Proofs.Ytomlfdkcgaogcaa
open Go.RowKit Go.Fx Go.Soft
/-- How many limits a value has reached, from the first one on. -/
def gSlot (ls : List Nat) (x : Nat) : Nat := (ls.takeWhile fun l => fcmp .geq .f32 x l).length
theorem slot_of (p : Nat → Bool) : ∀ (ls : List Nat) (k : Nat), k ≤ ls.length → (∀ j, j < k → p (ls.getD j 0) = true) → (k < ls.length → p (ls.getD k 0) = false) → (ls.takeWhile p).length = k
  | [], k, hk, _, _ => by simp at hk; subst hk; rfl
  | l :: ls, 0, _, _, h => by
    have := h (by simp)
    simp at this
    simp [List.takeWhile, this]
  | l :: ls, k + 1, hk, h1, h2 => by
    have h0 : p l = true := by simpa using h1 0 (by omega)
    have ih := slot_of p ls k (by simpa using hk) (fun j hj => by simpa using h1 (j + 1) (by omega)) (fun hl => by simpa using h2 (by simpa using hl))
    simp [List.takeWhile, h0, ih]
theorem gSlot_le (ls : List Nat) (x : Nat) : gSlot ls x ≤ ls.length := by
  unfold gSlot
  exact (List.takeWhile_sublist _).length_le
/-- The counts behind k values. -/
def gCnt (ls xs : List Nat) : Nat → List Int
  | 0 => List.replicate (ls.length + 1) 0
  | k + 1 => if gHole (xs.getD k 0) then gCnt ls xs k else (gCnt ls xs k).set (gSlot ls (xs.getD k 0)) ((gCnt ls xs k).getD (gSlot ls (xs.getD k 0)) 0 + 1)
theorem gCnt_length (ls xs : List Nat) : ∀ k, (gCnt ls xs k).length = ls.length + 1
  | 0 => by simp [gCnt]
  | k + 1 => by rw [gCnt]; split <;> simp [gCnt_length ls xs k]
theorem getD_set_int (l : List Int) (i j : Nat) (v : Int) (hi : i < l.length) : (l.set i v).getD j 0 = if i = j then v else l.getD j 0 := by
  rw [List.getD_eq_getElem?_getD, List.getD_eq_getElem?_getD, List.getElem?_set]
  split
  · rename_i h; subst h; simp [hi]
  · rfl
theorem gCnt_range (ls xs : List Nat) : ∀ k i, 0 ≤ (gCnt ls xs k).getD i 0 ∧ (gCnt ls xs k).getD i 0 ≤ (k : Int)
  | 0, i => by
    have : (List.replicate (ls.length + 1) (0 : Int)).getD i 0 = 0 := by
      rw [List.getD_eq_getElem?_getD, List.getElem?_replicate]; split <;> rfl
    rw [gCnt, this]; omega
  | k + 1, i => by
    have ih := gCnt_range ls xs k
    rw [gCnt]
    split
    · have := ih i; omega
    · rw [getD_set_int _ _ _ _ (by rw [gCnt_length]; have := gSlot_le ls (xs.getD k 0); omega)]
      split
      · have := ih (gSlot ls (xs.getD k 0)); omega
      · have := ih i; omega
def gRise (ls : List Nat) : Bool := (List.range ls.length).all fun i => !(decide (0 < i) && fcmp .geq .f32 (ls.getD (i - 1) 0) (ls.getD i 0))
def gLims (ls : List Nat) : Bool := decide (ls.length ≤ 256) && (gFinAll ls && gRise ls)
theorem gFinAll_iff (ls : List Nat) : gFinAll ls = true ↔ ∀ j, j < ls.length → gFin (ls.getD j 0) = true := by
  unfold gFinAll
  rw [Bool.not_eq_true', Bool.eq_false_iff]
  simp only [ne_eq, List.any_eq_true, not_exists, not_and, Bool.not_eq_true', Bool.not_eq_false]
  constructor
  · intro h j hj
    rw [List.getD_eq_getElem?_getD, List.getElem?_eq_getElem hj]
    exact h _ (List.getElem_mem hj)
  · intro h x hx
    obtain ⟨j, hj, rfl⟩ := List.getElem_of_mem hx
    have := h j hj
    rw [List.getD_eq_getElem?_getD, List.getElem?_eq_getElem hj] at this
    exact this
theorem gRise_iff (ls : List Nat) : gRise ls = true ↔ ∀ j, 0 < j → j < ls.length → fcmp .geq .f32 (ls.getD (j - 1) 0) (ls.getD j 0) = false := by
  unfold gRise
  simp only [List.all_eq_true, List.mem_range, Bool.not_eq_true', Bool.and_eq_false_iff, decide_eq_false_iff_not]
  constructor
  · intro h j h0 hj
    rcases h j hj with h1 | h1
    · omega
    · exact h1
  · intro h j hj
    by_cases h0 : 0 < j
    · exact .inr (h j h0 hj)
    · exact .inl h0
theorem gLims_iff (ls : List Nat) : gLims ls = true ↔ ls.length ≤ 256 ∧ (∀ j, j < ls.length → gFin (ls.getD j 0) = true) ∧ ∀ j, 0 < j → j < ls.length → fcmp .geq .f32 (ls.getD (j - 1) 0) (ls.getD j 0) = false := by
  unfold gLims
  rw [Bool.and_eq_true, Bool.and_eq_true, decide_eq_true_eq, gFinAll_iff, gRise_iff]
theorem info_int64c : (Try.prog.info? 2).map (fun i => (i.zero, i.size, i.bytes)) = some (some (.int .i64 0), 1, 8) := by kernel_rfl
theorem run_make_ints (n : Nat) (hn : n ≤ 1048576) (w : World) : (Instr.makeSlice 27 (.int .i64 (n : Int)) (.int .i64 (n : Int))).run Try.prog w = .ok (.slice (some ⟨w.heap.size, 0, none⟩) n n) (w.alloc (.cells (madeCells #[.int .i64 0] n) 2)) := by
  obtain ⟨i0, hi, hz0, hz1, hz2⟩ := info_parts info_int64c
  have h := run_make (P := Try.prog) w 27 2 i0 (.int .i64 0) Try.underlying27 hi hz0 .i64 .i64 (n : Int) (n : Int) (by omega) (Int.le_refl _) (by rw [hz2]; omega) (by omega)
  rw [hz1, Int.toNat_natCast, Nat.mul_one] at h
  exact h
end Go.Proofs.Ytomlfdkcgaogcaa
