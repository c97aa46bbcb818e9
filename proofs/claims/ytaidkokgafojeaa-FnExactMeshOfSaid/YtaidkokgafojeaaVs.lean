/- Rows of vectors: three floats each. -/
import Derived.Test.YtaidkokgafojeaaLw
import Derived.Laws.MakeOwn
import Derived.Laws.OwnMore
namespace Go.Fx
open Go Go.Soft Go.RowKit
theorem grownBy_trans {w w' w'' : World} {row : Option Nat} (h : w.grownBy w' row) (g : w'.grownBy w'' row) : w.grownBy w'' row :=
  ⟨g.os.trans h.os, g.tape.trans h.tape, g.output.trans h.output, Nat.le_trans h.size g.size, fun b hb hne => (g.block b (Nat.lt_of_lt_of_le hb h.size) hne).trans (h.block b hb hne)⟩
def VOwn (w : World) (B : Nat) (e : TypeId) (v : Value) (n : Nat) (xs : List Nat) : Prop := ∃ rs, FEs rs xs ∧ w.ownsRow B e 3 v n (rs.map (Value.float .f32))
section
variable {w w' : World} {B : Nat} {e : TypeId} {v : Value} {n : Nat} {xs : List Nat}
theorem VOwn.len (h : VOwn w B e v n xs) : xs.length = n * 3 := by
  obtain ⟨rs, h1, h2⟩ := h
  rw [← h1.len]; simpa using h2.1
theorem VOwn.gr (h : VOwn w B e v n xs) (k : Gr w w') : VOwn w' B e v n xs := by obtain ⟨rs, h1, h2⟩ := h; exact ⟨rs, h1, own_gr h2 k⟩
theorem VOwn.base {B' : Nat} (h : VOwn w B e v n xs) (hB : B' ≤ B) : VOwn w B' e v n xs := by obtain ⟨rs, h1, h2⟩ := h; exact ⟨rs, h1, own_base h2 hB⟩
theorem VOwn.swap {os : Array Obj} {m m' : Nat} (h : VOwn (w.grew os m) B e v n xs) (hB : w.heap.size ≤ B) (hs : w.heap.size = w'.heap.size) : VOwn (w'.grew os m') B e v n xs := by
  obtain ⟨rs, h1, h2⟩ := h; exact ⟨rs, h1, own_swap h2 hB hs⟩
theorem VOwn.nil (w : World) (B : Nat) (e : TypeId) : VOwn w B e (.slice none 0 0) 0 [] := ⟨[], FEs.nil, World.ownsRow_nil _ _ _ _⟩
theorem VOwn.empty {lo g : Nat} (h : Blk w g [] e) (hl : lo ≤ g) : VOwn w lo e (.slice (some ⟨g, 0, none⟩) 0 0) 0 [] :=
  ⟨[], FEs.nil, rfl, .inr ⟨g, 0, #[], rfl, hl, h.at_, Nat.le_refl _, Nat.zero_le _, rfl, rfl⟩⟩
theorem VOwn.block (h : VOwn w B e v n xs) {k : Nat} (hk : v.ownBlock = some k) : B ≤ k ∧ k < w.heap.size := by
  obtain ⟨rs, h1, h2⟩ := h; exact h2.lt k hk
theorem VOwn.ptr (h : VOwn w B e v n xs) (hn : 0 < n) : ∃ g cap, v = .slice (some ⟨g, 0, none⟩) n cap ∧ B ≤ g := by
  obtain ⟨rs, h1, h2⟩ := h
  rcases h2.2 with ⟨_, h0⟩ | ⟨g, cap, cur, rfl, hb, _⟩
  · omega
  · exact ⟨g, cap, rfl, hb⟩
theorem VOwn.get {g cap : Nat} (h : VOwn w B e (.slice (some ⟨g, 0, none⟩) n cap) n xs) (i : Nat) (hi : i < xs.length) : ∃ r, w.cell? ⟨g, i, none⟩ = some (.float .f32 r) ∧ FE .f32 r xs[i] := by
  have hl := h.len
  obtain ⟨rs, h1, h2⟩ := h
  have hl2 := h1.len
  refine ⟨rs[i], ?_, h1.at_ i (by omega) hi⟩
  rw [h2.cellAt i (by omega)]
  simp [hl2, hi]
theorem VOwn.free {g cap : Nat} (h : VOwn w B e (.slice (some ⟨g, 0, none⟩) n cap) n xs) (i : Nat) : w.frozen? ⟨g, i, none⟩ = false := by
  obtain ⟨rs, h1, h2⟩ := h
  exact h2.frozenAt i
theorem VOwn.store {g cap k r x : Nat} (h : VOwn w B e (.slice (some ⟨g, 0, none⟩) n cap) n xs) (hr : FE .f32 r x) : VOwn (w.setCell ⟨g, k, none⟩ (.float .f32 r)) B e (.slice (some ⟨g, 0, none⟩) n cap) n (xs.set k x) := by
  obtain ⟨rs, h1, h2⟩ := h
  refine ⟨rs.set k r, h1.set hr k, ?_⟩
  rw [List.map_set]
  exact (h2.stored k (.float .f32 r)).1
theorem VOwn.grown {row : Option Nat} (h : VOwn w B e v n xs) (g : w.grownBy w' row) (hr : v.ownBlock = none ∨ v.ownBlock ≠ row) : VOwn w' B e v n xs := by
  obtain ⟨rs, h1, h2⟩ := h; exact ⟨rs, h1, h2.kept g hr⟩
theorem VOwn.setOther (h : VOwn w B e v n xs) {p : Addr} (u : Value) (hp : v.ownBlock ≠ some p.block) : VOwn (w.setCell p u) B e v n xs := by
  obtain ⟨rs, h1, h2⟩ := h; exact ⟨rs, h1, own_setCell h2 u hp⟩
theorem VOwn.sl (h : VOwn w B e v n xs) : ∃ a cap, v = .slice a n cap ∧ FSl w a (n * 3) xs ∧ n ≤ maxLen := by
  have hl := h.len
  obtain ⟨rs, h1, h2⟩ := h
  have hl2 := h1.len
  rcases h2.2 with ⟨rfl, hn⟩ | ⟨g, cap, cur, rfl, hb, hg, hnc, hcm, hcs, ht⟩
  · subst hn
    have hx : xs = [] := List.eq_nil_of_length_eq_zero (by omega)
    subst hx
    exact ⟨none, 0, rfl, ⟨rfl, fun i hi => by simp at hi⟩, Nat.zero_le _⟩
  · refine ⟨some ⟨g, 0, none⟩, cap, rfl, ⟨hl.symm, fun i hi => ?_⟩, by omega⟩
    refine ⟨g, 0, rs[i], rfl, ?_, h1.at_ i (by omega) hi⟩
    rw [Nat.zero_add, World.ownsRow.cellAt h2 i (by omega)]
    simp [hl2, hi]
theorem toList_three (z : Value) (m : Nat) : (madeCells #[z, z, z] m).toList = List.replicate m z := by
  apply List.ext_getElem?
  intro j
  by_cases hj : j < m
  · have h3 : j % 3 < 3 := Nat.mod_lt _ (by decide)
    have : j % 3 = 0 ∨ j % 3 = 1 ∨ j % 3 = 2 := by omega
    rcases this with h | h | h <;> simp [madeCells, hj, h]
  · simp [madeCells, hj]
theorem VOwn.made (n : Nat) (hb : B ≤ w.heap.size) (hm : n ≤ maxLen) : VOwn (w.alloc (.cells (madeCells #[.float .f32 0, .float .f32 0, .float .f32 0] (n * 3)) e)) B e (.slice (some ⟨w.heap.size, 0, none⟩) n n) n (List.replicate (n * 3) 0) := by
  have h := World.ownsRow_lit (base := B) (e := e) (size := 3) w (madeCells #[.float .f32 0, .float .f32 0, .float .f32 0] (n * 3)) n hb hm (size_madeCells _ _)
  rw [toList_three] at h
  refine ⟨List.replicate (n * 3) 0, FEs.replicate (FE.lit (by decide +kernel)) _, ?_⟩
  rw [List.map_replicate]
  exact h
end
/-- Such a row between two numbers of blocks. -/
def VIn (w : World) (lo hi : Nat) (e : Nat) (v : Value) (n : Nat) (xs : List Nat) : Prop := ∃ rs, FEs rs xs ∧ Own w lo hi e 3 v n (rs.map (Value.float .f32))
section
variable {w w' : World} {lo hi : Nat} {e : TypeId} {v : Value} {n : Nat} {xs : List Nat}
theorem VOwn.fin (h : VOwn w lo e v n xs) : VIn w lo w.heap.size e v n xs := by
  obtain ⟨rs, h1, h2⟩ := h; exact ⟨rs, h1, ⟨h2, fun k hk => (h2.lt k hk).2⟩⟩
theorem VIn.vown (h : VIn w lo hi e v n xs) : VOwn w lo e v n xs := by
  obtain ⟨rs, h1, h2⟩ := h; exact ⟨rs, h1, h2.own⟩
theorem VIn.gr (h : VIn w lo hi e v n xs) (g : Gr w w') : VIn w' lo hi e v n xs := by
  obtain ⟨rs, h1, h2⟩ := h; exact ⟨rs, h1, h2.gr g⟩
theorem VIn.wrote {lo' hi' e' size' n' : Nat} {v' : Value} {xs' : List Value} (h : VIn w lo hi e v n xs) (h' : Own w lo' hi' e' size' v' n' xs') (g : Wrote w w' v') (hd : hi ≤ lo' ∨ hi' ≤ lo) : VIn w' lo hi e v n xs := by
  obtain ⟨rs, h1, h2⟩ := h; exact ⟨rs, h1, h2.wrote h' g hd⟩
theorem VIn.sl (h : VIn w lo hi e v n xs) : ∃ a cap, v = .slice a n cap ∧ FSl w a (n * 3) xs ∧ n ≤ maxLen := h.vown.sl
theorem VIn.fsl {a : Option Addr} {cap : Nat} (h : VIn w lo hi e (.slice a n cap) n xs) : FSl w a (n * 3) xs := by
  obtain ⟨a', cap', e', h1, _⟩ := h.sl
  simp only [Value.slice.injEq] at e'
  obtain ⟨rfl, -, rfl⟩ := e'
  exact h1
theorem VIn.row (h : VIn w lo hi e v n xs) : ∃ vs, Own w lo hi e 3 v n vs ∧ ∀ x ∈ vs, ∃ r, x = .float .f32 r := by
  obtain ⟨rs, h1, h2⟩ := h
  exact ⟨_, h2, fun x hx => by obtain ⟨r, _, hr⟩ := List.mem_map.1 hx; exact ⟨r, hr.symm⟩⟩
end
end Go.Fx
