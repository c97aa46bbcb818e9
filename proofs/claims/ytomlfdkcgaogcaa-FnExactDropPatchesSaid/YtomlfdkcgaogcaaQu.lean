/- A queue: numbers of the call's own, from some place of their block on. -/
import Derived.Test.YtomlfdkcgaogcaaPt
import Derived.Test.YtomlfdkcgaogcaaGi2
import Derived.ArgAppend
import Derived.Maps.AppendAt
namespace Go.Fx
open Go Go.Soft Go.RowKit
def QOwn (w : World) (lo : Nat) (e : TypeId) (v : Value) (xs : List Int) : Prop :=
  ∃ g off cap cs, v = .slice (some ⟨g, off, none⟩) xs.length cap ∧ lo ≤ g ∧ Blk w g cs e ∧ xs.length ≤ cap ∧ off + cap = cs.length ∧ cs.length ≤ maxLen ∧ ∀ j (h : j < xs.length), cs[off + j]? = some (.int .i64 xs[j])
section
variable {w w' : World} {lo : Nat} {e : TypeId} {v : Value} {xs : List Int}
theorem QOwn.gr (h : QOwn w lo e v xs) (k : Gr w w') : QOwn w' lo e v xs := by
  obtain ⟨g, off, cap, cs, h1, h2, h3, h4⟩ := h
  exact ⟨g, off, cap, cs, h1, h2, h3.gr k, h4⟩
theorem QOwn.base {lo' : Nat} (h : QOwn w lo e v xs) (hB : lo' ≤ lo) : QOwn w lo' e v xs := by
  obtain ⟨g, off, cap, cs, h1, h2, h4⟩ := h
  exact ⟨g, off, cap, cs, h1, Nat.le_trans hB h2, h4⟩
theorem QOwn.block (h : QOwn w lo e v xs) : ∃ k, v.ownBlock = some k ∧ lo ≤ k ∧ k < w.heap.size := by
  obtain ⟨g, off, cap, cs, rfl, h2, h3, h4⟩ := h
  exact ⟨g, rfl, h2, h3.lt⟩
theorem QOwn.notBlk {b : Nat} (h : QOwn w lo e v xs) (hb : b < lo) : v.ownBlock ≠ some b := by
  intro hk; obtain ⟨k, h1, h2, -⟩ := h.block; rw [h1] at hk; injection hk; omega
theorem QOwn.setOther (h : QOwn w lo e v xs) {p : Addr} (u : Value) (hp : v.ownBlock ≠ some p.block) : QOwn (w.setCell p u) lo e v xs := by
  obtain ⟨g, off, cap, cs, rfl, h2, h3, h4⟩ := h
  exact ⟨g, off, cap, cs, rfl, h2, h3.setOther u (fun e => hp (by rw [e]; rfl)), h4⟩
/-- The head and the rest. -/
theorem QOwn.head {x : Int} (h : QOwn w lo e v (x :: xs)) : ∃ g off cap, v = .slice (some ⟨g, off, none⟩) (xs.length + 1) (cap + 1) ∧ lo ≤ g ∧ w.cell? ⟨g, off, none⟩ = some (.int .i64 x) ∧ xs.length ≤ cap ∧ cap + 1 ≤ maxLen ∧ QOwn w lo e (.slice (some ⟨g, off + 1, none⟩) xs.length cap) xs := by
  obtain ⟨g, off, cap, cs, rfl, h2, h3, h4, h5, h6, h7⟩ := h
  simp only [List.length_cons] at h4 h7
  obtain ⟨cap, rfl⟩ : ∃ c, cap = c + 1 := ⟨cap - 1, by omega⟩
  refine ⟨g, off, cap, rfl, h2, ?_, by omega, by omega, g, off + 1, cap, cs, rfl, h2, h3, by omega, by omega, h6, fun j hj => ?_⟩
  · rw [h3.cell]; have := h7 0 (by omega); simpa using this
  · have := h7 (j + 1) (by omega)
    rw [show off + 1 + j = off + (j + 1) by omega, this]; rfl
theorem QOwn.ofI (h : IOwn w lo e v xs) (hx : xs ≠ []) : QOwn w lo e v xs := by
  rcases h.2 with ⟨rfl, h0⟩ | ⟨g, cap, cur, rfl, hb, hg, hnc, hcm, hcs, ht⟩
  · exact absurd (List.eq_nil_of_length_eq_zero h0) hx
  · refine ⟨g, 0, cap, cur.toList, rfl, hb, ⟨by simpa using hg⟩, hnc, by simp [hcs], by simp [hcs]; omega, fun j hj => ?_⟩
    have e0 : (cur.toList.take (xs.length * 1))[j]? = (xs.map (Value.int .i64))[j]? := by rw [ht]
    rw [List.getElem?_take_of_lt (by omega)] at e0
    rw [Nat.zero_add, e0]; simp [hj]
end
/-- A queue that may be empty. -/
def QE (w : World) (lo : Nat) (e : TypeId) (v : Value) (xs : List Int) : Prop := (xs = [] ∧ ∃ p c, v = .slice p 0 c) ∨ (xs ≠ [] ∧ QOwn w lo e v xs)
/-- What is left behind the head, as the program cuts it. -/
theorem QOwn.tail {w : World} {lo : Nat} {e : TypeId} {x : Int} {xs : List Int} {g off cap : Nat} {p : Option Addr} (h : QOwn w lo e (.slice (some ⟨g, off, none⟩) (xs.length + 1) (cap + 1)) (x :: xs)) (hp : 1 < cap + 1 → p = some ⟨g, off + 1, none⟩) : QE w lo e (.slice p xs.length cap) xs := by
  rcases xs with _ | ⟨y, ys⟩
  · exact .inl ⟨rfl, _, _, rfl⟩
  · refine .inr ⟨by simp, ?_⟩
    obtain ⟨g', off', cap', e1, h2, h3, h4, h5, h6⟩ := h.head
    obtain ⟨⟨rfl, rfl⟩, rfl⟩ : (g = g' ∧ off = off') ∧ cap = cap' := by simpa using e1
    rw [hp (by simp at h4; omega)]
    exact h6
/-- 'append(q, x)', one number, x laid in a block of its own. -/
theorem wpList_append_q {P : Program} {w : World} {ops : Array Oper} {rest : List Oper} {o : Oper} {a : Act} {Q : Exit → Act → World → Prop} (hgd : o.guard = none) {s x : Operand} {t : TypeId}
    (ho : o.op = .call { callee := .builtin .append, args := #[s, x], argTypes := #[t, t] }) {B : Nat} {e : TypeId} (i : TypeInfo) (ht : P.underlying t = some (.slice e)) (hi : P.info? e = some i) (hz : i.zero = some (.int .i64 0)) (hsize : i.size = 1) (hby : i.bytes = 8)
    {v : Value} {xs : List Int} (hs : a.eval s = v) (hown : QOwn w B e v xs) {ad : Addr} {c : Nat} {X : Int} (hx : a.eval x = .slice (some ad) 1 c) (hcell : w.cell? ad = some (.int .i64 X)) (hn : xs.length ≤ 1048576) (hB : B ≤ w.heap.size)
    (h : ∀ v' w', QOwn w' B e v' (xs ++ [X]) → w.grownBy w' v.ownBlock → wpList P ops Q rest (a.put o.dst v') w') : wpList P ops Q (o :: rest) a w := by
  obtain ⟨g, off, cap, cs, rfl, h2, h3, h4, h5, h6, h7⟩ := hown
  refine wpList_append_arg w hgd s x t ho e i (.int .i64 0) 1 8 ht hi hz hsize hby rfl (by decide) g off xs.length cap (xs.map (Value.int .i64)) hs (by simp) ?_ ad 1 c [.int .i64 X] hx rfl ?_ ?_ ?_ (by unfold maxLen; omega) (by omega) ?_ ?_
  · intro j u hj
    have hjl : j < xs.length := by
      rcases Nat.lt_or_ge j xs.length with h | h
      · exact h
      · rw [List.getElem?_eq_none (by simpa using h)] at hj; cases hj
    rw [h3.cell, h7 j hjl]
    simpa [hjl] using hj
  · intro j u hj
    match j, hj with
    | 0, hj => simp at hj; subst hj; simpa [Addr.add] using hcell
  · intro u hu; simp at hu; subst hu; rfl
  · intro hr j hj
    refine ⟨?_, h3.frozen _⟩
    rw [h3.cell, List.getElem?_eq_getElem (by simp at hj; omega)]; rfl
  · intro hr
    refine h _ _ ?_ ?_
    · refine ⟨g, off, cap, cs.set (off + xs.length * 1) (.int .i64 X), by simp, h2, h3.set _, by simpa using hr, by simpa using h5, by simpa using h6, fun j hj => ?_⟩
      simp only [List.length_append, List.length_cons, List.length_nil, Nat.zero_add] at hj
      by_cases hjl : j < xs.length
      · rw [List.getElem?_set_ne (by omega), h7 j hjl, List.getElem_append_left hjl]
      · obtain rfl : j = xs.length := by omega
        rw [Nat.mul_one, List.getElem?_set_self (by omega)]
        simp
    · exact ⟨rfl, rfl, rfl, by simp [World.setCells, World.setCell], fun k _ hne => Below.heap_setCell _ _ _ _ (by intro e; subst e; exact hne rfl)⟩
  · intro hr v' w' ho' hg'
    refine h v' w' ?_ ⟨hg'.os, hg'.tape, hg'.output, hg'.size, fun k hk _ => hg'.block k hk (by simp)⟩
    have : IOwn w' w.heap.size e v' (xs ++ [X]) := by
      show w'.ownsRow w.heap.size e 1 v' (xs ++ [X]).length ((xs ++ [X]).map (Value.int .i64))
      simpa using ho'
    exact QOwn.ofI (this.base hB) (by simp)
/-- 'append(v, x)', one number; the row's block is the old one or a new one. -/
theorem wpList_append_ia {P : Program} {w : World} {ops : Array Oper} {rest : List Oper} {o : Oper} {a : Act} {Q : Exit → Act → World → Prop} (hgd : o.guard = none) {s x : Operand} {t : TypeId}
    (ho : o.op = .call { callee := .builtin .append, args := #[s, x], argTypes := #[t, t] }) {B : Nat} {e : TypeId} (i : TypeInfo) (ht : P.underlying t = some (.slice e)) (hi : P.info? e = some i) (hz : i.zero = some (.int .i64 0)) (hsize : i.size = 1) (hby : i.bytes = 8)
    {v : Value} {xs : List Int} (hs : a.eval s = v) (hown : IOwn w B e v xs) {ad : Addr} {c : Nat} {X : Int} (hx : a.eval x = .slice (some ad) 1 c) (hcell : w.cell? ad = some (.int .i64 X)) (hn : xs.length ≤ 1048576) (hB : B ≤ w.heap.size)
    (h : ∀ v' w', IOwn w' B e v' (xs ++ [X]) → w.grownBy w' v.ownBlock → (v'.ownBlock = v.ownBlock ∨ v'.ownBlock = some w.heap.size) → wpList P ops Q rest (a.put o.dst v') w') : wpList P ops Q (o :: rest) a w := by
  refine wpList_append_own_at w hgd s x t ho B e i (.int .i64 0) 1 8 ht hi hz hsize hby rfl (by decide) v xs.length (xs.map (Value.int .i64)) hs hown ad 1 c [.int .i64 X] hx rfl ?_ ?_ (by unfold maxLen; omega) (by omega) hB ?_
  · intro j u hj
    match j, hj with
    | 0, hj => simp at hj; subst hj; simpa [Addr.add] using hcell
  · intro u hu; simp at hu; subst hu; rfl
  · intro v' w' h3 h4 _ h5
    refine h v' w' ?_ h4 h5
    show w'.ownsRow B e 1 v' (xs ++ [X]).length ((xs ++ [X]).map (Value.int .i64))
    simpa using h3
end Go.Fx
