/- Slices that are read; worlds that keep their cells. -/
import Derived.Test.YtaidkokgafojeaaWk
namespace Go.Fx
open Go Go.Soft Go.RowKit

/-- Every cell of w is there in w', as it was, and frozen as it was. -/
structure Kp (w w' : World) : Prop where
  cell : ∀ (p : Addr) (v : Value), w.cell? p = some v → w'.cell? p = some v
theorem Kp.refl (w : World) : Kp w w := ⟨fun _ _ h => h⟩
theorem Kp.trans {a b c : World} (h : Kp a b) (k : Kp b c) : Kp a c := ⟨fun p v hv => k.cell p v (h.cell p v hv)⟩
theorem Kp.grew {w w' : World} (h : Kp w w') (os : Array Obj) (m : Nat) : Kp w (w'.grew os m) :=
  ⟨fun p v hv => by rw [cell?_grew _ _ _ (by rw [h.cell p v hv]; rfl)]; exact h.cell p v hv⟩
theorem Kp.alloc {w w' : World} (h : Kp w w') (o : Obj) : Kp w (w'.alloc o) := by rw [alloc_grew]; exact h.grew _ _
theorem Kp.drewN {w w' : World} (h : Kp w w') (n : Nat) : Kp w (w'.drewN n) := ⟨fun p v hv => h.cell p v hv⟩
theorem Gr.kp {w w' : World} (h : Gr w w') : Kp w w' := by obtain ⟨os, m, rfl⟩ := h; exact (Kp.refl w).grew os m

theorem kp_pre {w : World} {A B : Array Obj} {m n : Nat} (h : ∃ C, B = A ++ C) : Kp (w.grew A m) (w.grew B n) := by
  obtain ⟨C, rfl⟩ := h
  rw [← grew_grew w A C m n]
  exact (Kp.refl _).grew _ _
theorem gr_app1 {w : World} {A B : Array Obj} {m n : Nat} : Gr (w.grew A m) (w.grew (A ++ B) n) := ⟨B, n, (grew_grew w A B m n).symm⟩
theorem gr_app2 {w : World} {A B C : Array Obj} {m n : Nat} : Gr (w.grew (A ++ B) m) (w.grew (A ++ (B ++ C)) n) := by rw [← Array.append_assoc]; exact gr_app1
theorem gr_app3 {w : World} {A B C D : Array Obj} {m n : Nat} : Gr (w.grew (A ++ (B ++ C)) m) (w.grew (A ++ (B ++ (C ++ D))) n) := by
  rw [show A ++ (B ++ (C ++ D)) = (A ++ (B ++ C)) ++ D by simp only [Array.append_assoc]]; exact gr_app1
theorem kp_app1 {w : World} {A B : Array Obj} {m n : Nat} : Kp (w.grew A m) (w.grew (A ++ B) n) := gr_app1.kp
theorem kp_app2 {w : World} {A B C : Array Obj} {m n : Nat} : Kp (w.grew (A ++ B) m) (w.grew (A ++ (B ++ C)) n) := gr_app2.kp
theorem kp_app3 {w : World} {A B C D : Array Obj} {m n : Nat} : Kp (w.grew (A ++ (B ++ C)) m) (w.grew (A ++ (B ++ (C ++ D))) n) := gr_app3.kp
theorem kp_same {w : World} {A : Array Obj} {m n : Nat} : Kp (w.grew A m) (w.grew A n) := ⟨fun _ _ h => h⟩
theorem gr_pre {w : World} {A B : Array Obj} {m n : Nat} (h : ∃ C, B = A ++ C) : Gr (w.grew A m) (w.grew B n) := by
  obtain ⟨C, rfl⟩ := h
  exact ⟨C, n, (grew_grew w A C m n).symm⟩
theorem gr_same {w : World} {A : Array Obj} {m n : Nat} : Gr (w.grew A m) (w.grew A n) := ⟨#[], n, by simp⟩

/-- The slice value '.slice a n _' holds the numbers xs. -/
structure FSl (w : World) (a : Option Addr) (n : Nat) (xs : List Nat) : Prop where
  len : n = xs.length
  at_ : ∀ i (h : i < xs.length), ∃ b off r, a = some ⟨b, off, none⟩ ∧ w.cell? ⟨b, off + i, none⟩ = some (.float .f32 r) ∧ FE .f32 r xs[i]
theorem FSl.keep {w w' : World} {a : Option Addr} {n : Nat} {xs : List Nat} (h : FSl w a n xs) (k : Kp w w') : FSl w' a n xs :=
  ⟨h.len, fun i hi => by obtain ⟨b, off, r, e, hc, hr⟩ := h.at_ i hi; exact ⟨b, off, r, e, k.cell _ _ hc, hr⟩⟩
theorem FSl.grew {w : World} {a : Option Addr} {n : Nat} {xs : List Nat} (h : FSl w a n xs) (os : Array Obj) (m : Nat) : FSl (w.grew os m) a n xs := h.keep ((Kp.refl w).grew os m)
theorem FSl.drewN {w : World} {a : Option Addr} {n : Nat} {xs : List Nat} (h : FSl w a n xs) (m : Nat) : FSl (w.drewN m) a n xs := h.keep ((Kp.refl w).drewN m)
theorem FSl.alloc {w : World} {a : Option Addr} {n : Nat} {xs : List Nat} (h : FSl w a n xs) (o : Obj) : FSl (w.alloc o) a n xs := h.keep ((Kp.refl w).alloc o)
theorem FSl.get {w : World} {b off n : Nat} {xs : List Nat} (h : FSl w (some ⟨b, off, none⟩) n xs) (i : Nat) (hi : i < xs.length) : ∃ r, w.cell? ⟨b, off + i, none⟩ = some (.float .f32 r) ∧ FE .f32 r (xs.getD i 0) := by
  obtain ⟨b', off', r, e, hc, hr⟩ := h.at_ i hi
  simp only [Option.some.injEq, Addr.mk.injEq, and_true] at e
  obtain ⟨rfl, rfl⟩ := e
  exact ⟨r, hc, by rw [List.getD_eq_getElem?_getD, List.getElem?_eq_getElem hi]; exact hr⟩
theorem FSl.ptr {w : World} {a : Option Addr} {n : Nat} {xs : List Nat} (h : FSl w a n xs) (hn : 0 < xs.length) : ∃ b off, a = some ⟨b, off, none⟩ := by
  obtain ⟨b, off, r, e, _⟩ := h.at_ 0 hn
  exact ⟨b, off, e⟩
/-- The numbers of a block, cell by cell. -/
theorem FSl.one {w : World} {g o x X : Nat} (hx : FE .f32 x X) (c0 : w.cell? ⟨g, o, none⟩ = some (.float .f32 x)) : FSl w (some ⟨g, o, none⟩) 1 [X] :=
  ⟨rfl, fun i hi => by
    match i, hi with
    | 0, _ => exact ⟨_, _, x, rfl, c0, hx⟩⟩
theorem FSl.two {w : World} {g o x y X Y : Nat} (hx : FE .f32 x X) (hy : FE .f32 y Y) (c0 : w.cell? ⟨g, o, none⟩ = some (.float .f32 x)) (c1 : w.cell? ⟨g, o + 1, none⟩ = some (.float .f32 y)) : FSl w (some ⟨g, o, none⟩) 2 [X, Y] :=
  ⟨rfl, fun i hi => by
    match i, hi with
    | 0, _ => exact ⟨_, _, x, rfl, c0, hx⟩
    | 1, _ => exact ⟨_, _, y, rfl, c1, hy⟩⟩
theorem FSl.three {w : World} {g o x y z X Y Z : Nat} (hx : FE .f32 x X) (hy : FE .f32 y Y) (hz : FE .f32 z Z) (c0 : w.cell? ⟨g, o, none⟩ = some (.float .f32 x)) (c1 : w.cell? ⟨g, o + 1, none⟩ = some (.float .f32 y)) (c2 : w.cell? ⟨g, o + 2, none⟩ = some (.float .f32 z)) : FSl w (some ⟨g, o, none⟩) 3 [X, Y, Z] :=
  ⟨rfl, fun i hi => by
    match i, hi with
    | 0, _ => exact ⟨_, _, x, rfl, c0, hx⟩
    | 1, _ => exact ⟨_, _, y, rfl, c1, hy⟩
    | 2, _ => exact ⟨_, _, z, rfl, c2, hz⟩⟩

/-! ### Memory of the call's own -/
theorem Gr.of_below {w w' : World} (h : Below w.heap.size w w') : Gr w w' := by
  refine ⟨w'.heap.extract w.heap.size w'.heap.size, w'.drawn, ?_⟩
  have e : w'.heap = w.heap ++ w'.heap.extract w.heap.size w'.heap.size := by
    have hs := h.size
    apply Array.ext_getElem?
    intro k
    rw [Array.getElem?_append]
    split
    · rename_i hk; exact h.block k hk
    · rename_i hk
      rw [Array.getElem?_extract]
      split
      · congr 1; omega
      · rw [Array.getElem?_eq_none (by omega)]
  obtain ⟨hp, tp, dr, os, out⟩ := w'
  have h1 := h.os; have h2 := h.tape; have h3 := h.output
  simp only at h1 h2 h3 e
  unfold World.grew
  simp only [World.mk.injEq]
  exact ⟨e, h2, trivial, h1, h3⟩
theorem grownBy_grew (w : World) (os : Array Obj) (m : Nat) (row : Option Nat) : w.grownBy (w.grew os m) row :=
  ⟨rfl, rfl, rfl, by simp, fun _ hk _ => heap_grew w os m hk⟩
theorem Gr.grownBy {w w' w'' : World} {row : Option Nat} (h : Gr w w') (g : w'.grownBy w'' row) (hr : ∀ k, row = some k → w.heap.size ≤ k) : Gr w w'' :=
  Gr.of_below (h.below.grown g (by obtain ⟨os, m, rfl⟩ := h; simp) hr)
theorem Gr.setCell {w w' : World} (h : Gr w w') {p : Addr} (hp : w.heap.size ≤ p.block) (u : Value) : Gr w (w'.setCell p u) :=
  Gr.of_below (h.below.setCell hp u)
theorem Gr.size {w w' : World} (h : Gr w w') : w.heap.size ≤ w'.heap.size := h.below.size
section
variable {w : World} {B : Nat} {e : TypeId} {size n : Nat} {v : Value} {xs : List Value}
theorem own_grew (h : w.ownsRow B e size v n xs) (os : Array Obj) (m : Nat) : (w.grew os m).ownsRow B e size v n xs :=
  h.kept (grownBy_grew w os m none) (by cases v.ownBlock <;> simp)
theorem own_drewN (h : w.ownsRow B e size v n xs) (m : Nat) : (w.drewN m).ownsRow B e size v n xs := h
theorem own_gr {w' : World} (h : w.ownsRow B e size v n xs) (k : Gr w w') : w'.ownsRow B e size v n xs := by
  obtain ⟨os, m, rfl⟩ := k; exact own_grew h os m
theorem own_base {B' : Nat} (h : w.ownsRow B e size v n xs) (hB : B' ≤ B) : w.ownsRow B' e size v n xs := by
  refine ⟨h.1, ?_⟩
  rcases h.2 with h2 | ⟨g, cap, cur, hv, hb, r⟩
  · exact .inl h2
  · exact .inr ⟨g, cap, cur, hv, Nat.le_trans hB hb, r⟩
/-- What was written is another block. -/
theorem own_setCell (h : w.ownsRow B e size v n xs) {p : Addr} (u : Value) (hp : v.ownBlock ≠ some p.block) : (w.setCell p u).ownsRow B e size v n xs :=
  h.kept (row := some p.block) ⟨rfl, rfl, rfl, by simp [World.setCell], fun k _ hne => Below.heap_setCell _ _ _ _ (by intro e; subst e; exact hne rfl)⟩ (.inr hp)
end

@[go_sem] theorem setCell_drewN (w : World) (n : Nat) (p : Addr) (u : Value) : (w.drewN n).setCell p u = (w.setCell p u).drewN n := rfl
@[go_sem] theorem setCell_drew (w : World) (p : Addr) (u : Value) : w.drew.setCell p u = (w.setCell p u).drewN 1 := rfl
@[go_sem] theorem setCell_grew (w : World) (os : Array Obj) (m : Nat) (p : Addr) (u : Value) (h : (w.cell? p).isSome = true) : (w.grew os m).setCell p u = (w.setCell p u).grew os m := by
  have hl := lt_of_cell h
  unfold World.setCell World.grew
  simp only [World.mk.injEq, and_true, true_and]
  apply Array.ext_getElem?
  intro k
  simp only [Array.getElem?_modify, Array.getElem?_append, Array.size_modify]
  by_cases hk : p.block = k
  · subst hk; simp [hl]
  · simp [hk]
theorem heap_grew_past (w w' : World) (os : Array Obj) (m m' k : Nat) (hs : w.heap.size = w'.heap.size) (hk : w.heap.size ≤ k) : (w.grew os m).heap[k]? = (w'.grew os m').heap[k]? := by
  simp only [World.grew]
  rw [Array.getElem?_append_right hk, Array.getElem?_append_right (by omega), hs]
/-- What was below a call may have changed meanwhile. -/
theorem own_swap {w w' : World} {os : Array Obj} {m m' B e size n : Nat} {v : Value} {xs : List Value} (h : (w.grew os m).ownsRow B e size v n xs) (hB : w.heap.size ≤ B) (hs : w.heap.size = w'.heap.size) : (w'.grew os m').ownsRow B e size v n xs := by
  refine ⟨h.1, ?_⟩
  rcases h.2 with h2 | ⟨g, cap, cur, hv, hb, hg, r⟩
  · exact .inl h2
  · exact .inr ⟨g, cap, cur, hv, hb, by rw [← heap_grew_past w w' os m m' g hs (by omega)]; exact hg, r⟩

/-- Bits and their numbers, one by one. -/
structure FEs (rs xs : List Nat) : Prop where
  len : rs.length = xs.length
  at_ : ∀ i (h : i < rs.length) (h' : i < xs.length), FE .f32 rs[i] xs[i]
theorem FEs.nil : FEs [] [] := ⟨rfl, fun i h => by simp at h⟩
theorem FEs.snoc {rs xs : List Nat} (h : FEs rs xs) {r x : Nat} (hr : FE .f32 r x) : FEs (rs ++ [r]) (xs ++ [x]) := by
  refine ⟨by simp [h.len], fun i h1 h2 => ?_⟩
  rcases Nat.lt_or_ge i rs.length with hi | hi
  · rw [List.getElem_append_left hi, List.getElem_append_left (by rw [← h.len]; exact hi)]
    exact h.at_ i hi _
  · have e1 : i = rs.length := by simp at h1; omega
    subst e1
    simp only [List.getElem_append_right (Nat.le_refl _), Nat.sub_self, List.getElem_cons_zero]
    rw [List.getElem_append_right (by rw [h.len]; exact Nat.le_refl _)]
    simpa [h.len] using hr
/-- v is a slice of the call's own whose elements are the numbers xs. -/
def FOwn (w : World) (B : Nat) (e : TypeId) (v : Value) (xs : List Nat) : Prop := ∃ rs, FEs rs xs ∧ w.ownsRow B e 1 v rs.length (rs.map (Value.float .f32))
theorem FOwn.gr {w w' : World} {B : Nat} {e : TypeId} {v : Value} {xs : List Nat} (h : FOwn w B e v xs) (k : Gr w w') : FOwn w' B e v xs := by
  obtain ⟨rs, h1, h2⟩ := h; exact ⟨rs, h1, own_gr h2 k⟩
theorem FOwn.swap {w w' : World} {os : Array Obj} {m m' B : Nat} {e : TypeId} {v : Value} {xs : List Nat} (h : FOwn (w.grew os m) B e v xs) (hB : w.heap.size ≤ B) (hs : w.heap.size = w'.heap.size) : FOwn (w'.grew os m') B e v xs := by
  obtain ⟨rs, h1, h2⟩ := h; exact ⟨rs, h1, own_swap h2 hB hs⟩
theorem FOwn.base {w : World} {B B' : Nat} {e : TypeId} {v : Value} {xs : List Nat} (h : FOwn w B e v xs) (hB : B' ≤ B) : FOwn w B' e v xs := by
  obtain ⟨rs, h1, h2⟩ := h; exact ⟨rs, h1, own_base h2 hB⟩
/-- Read as any slice. -/
theorem FOwn.sl {w : World} {B : Nat} {e : TypeId} {v : Value} {xs : List Nat} (h : FOwn w B e v xs) : ∃ a cap, v = .slice a xs.length cap ∧ FSl w a xs.length xs ∧ xs.length ≤ maxLen := by
  obtain ⟨rs, h1, h2⟩ := h
  rcases h2.2 with ⟨rfl, hn⟩ | ⟨g, cap, cur, rfl, hb, hg, hnc, hcm, hcs, ht⟩
  · have hx : xs = [] := List.eq_nil_of_length_eq_zero (by rw [← h1.len]; exact hn)
    subst hx
    exact ⟨none, 0, rfl, ⟨rfl, fun i hi => by simp at hi⟩, Nat.zero_le _⟩
  · have hl := h1.len
    refine ⟨some ⟨g, 0, none⟩, cap, by rw [hl], ⟨rfl, fun i hi => ?_⟩, by omega⟩
    have hi' : i < rs.length := by omega
    refine ⟨g, 0, rs[i], rfl, ?_, h1.at_ i hi' hi⟩
    have := h2.cellAt i (by omega)
    rw [Nat.zero_add, this]
    simp [hi']

/-- The place of the first element that passes, or -1. -/
def fstIx (p : Nat → Bool) : List Nat → Nat → Int
  | [], _ => -1
  | x :: xs, k => if p x then k else fstIx p xs (k + 1)
theorem fstIx_nonneg (p : Nat → Bool) : ∀ (xs : List Nat) (k : Nat), decide (0 ≤ fstIx p xs k) = xs.any p
  | [], k => by simp [fstIx]
  | x :: xs, k => by
    have ih := fstIx_nonneg p xs (k + 1)
    by_cases h : p x = true
    · simp [fstIx, h]
    · simp only [fstIx, h, List.any_cons]; simpa using ih
theorem fstIx_drop {p : Nat → Bool} {xs : List Nat} {k : Nat} (hk : k < xs.length) : fstIx p (xs.drop k) k = if p xs[k] then (k : Int) else fstIx p (xs.drop (k + 1)) (k + 1) := by
  rw [List.drop_eq_getElem_cons hk]; rfl
end Go.Fx
