/- The memory of a law: slices of the call's own, marked and read again. -/
import Derived.Test.YtkaikcabnhhciaaC3
namespace Go
/-- The block b holds cells of a type other than t. -/
def World.okb (w : World) (t b : Nat) : Bool := match w.heap[b]? with
  | some (.cells _ e _) => e != t
  | _ => false
end Go
namespace Go.Fx
open Go Go.Soft Go.RowKit
theorem okb_lt {w : World} {t b : Nat} (h : w.okb t b = true) : b < w.heap.size := by
  rcases Nat.lt_or_ge b w.heap.size with h' | h'
  · exact h'
  · simp [World.okb, Array.getElem?_eq_none h'] at h
theorem okb_block {w w' : World} {t b : Nat} (h : w'.heap[b]? = w.heap[b]?) : w'.okb t b = w.okb t b := by unfold World.okb; rw [h]
@[go_sem] theorem okb_grew (w : World) (os : Array Obj) (m t b : Nat) (h : w.okb t b = true) : (w.grew os m).okb t b = true := by
  rw [okb_block (heap_grew w os m (okb_lt h))]; exact h
@[go_sem] theorem okb_alloc (w : World) (o : Obj) (t b : Nat) (h : w.okb t b = true) : (w.alloc o).okb t b = true := by
  rw [okb_block (Below.heap_alloc w o b (okb_lt h))]; exact h
@[go_sem] theorem okb_drewN (w : World) (n t b : Nat) : (w.drewN n).okb t b = w.okb t b := rfl
@[go_sem] theorem okb_alloc_at (w : World) (c : Array Value) (e t b : Nat) (hb : b = w.heap.size) : (w.alloc (.cells c e)).okb t b = (e != t) := by
  subst hb
  show (match (w.heap.push (.cells c e))[w.heap.size]? with | some (.cells _ e _) => e != t | _ => false) = _
  simp
/-- What a write into one row leaves: every block of another type. -/
structure Kb (t : Nat) (w w' : World) : Prop where
  cell : ∀ b o, w.okb t b = true → w'.cell? ⟨b, o, none⟩ = w.cell? ⟨b, o, none⟩
  frozen : ∀ b o, w.okb t b = true → w'.frozen? ⟨b, o, none⟩ = w.frozen? ⟨b, o, none⟩
  okb : ∀ b, w.okb t b = true → w'.okb t b = true
/-- A row of the call's own between two numbers of blocks. -/
structure Own (w : World) (lo hi : Nat) (e size : Nat) (v : Value) (n : Nat) (xs : List Value) : Prop where
  own : w.ownsRow lo e size v n xs
  hi : ∀ k, v.ownBlock = some k → k < hi
theorem Own.gr {w w' : World} {lo hi e size n : Nat} {v : Value} {xs : List Value} (h : Own w lo hi e size v n xs) (g : Gr w w') : Own w' lo hi e size v n xs := ⟨own_gr h.own g, h.hi⟩
/-- The row of v has been written, nothing else of the old. -/
structure Wrote (w w' : World) (v : Value) : Prop where
  by_ : w.grownBy w' v.ownBlock
theorem Own.wrote {w w' : World} {lo hi lo' hi' e e' size size' n n' : Nat} {v v' : Value} {xs xs' : List Value} (h : Own w lo hi e size v n xs) (h' : Own w lo' hi' e' size' v' n' xs') (g : Wrote w w' v') (hd : hi ≤ lo' ∨ hi' ≤ lo) : Own w' lo hi e size v n xs := by
  refine ⟨h.own.kept g.by_ ?_, h.hi⟩
  cases hv : v.ownBlock with
  | none => exact .inl rfl
  | some k =>
    right
    intro e
    have h1 := h.own.lt k hv
    have h2 := h.hi k hv
    have h3 := h'.own.lt k e.symm
    have h4 := h'.hi k e.symm
    omega
theorem Gr.wrote {w0 w w' : World} {lo hi e size n : Nat} {v : Value} {xs : List Value} (g : Gr w0 w) (h : Own w lo hi e size v n xs) (k : Wrote w w' v) (hl : w0.heap.size ≤ lo) : Gr w0 w' :=
  g.grownBy k.by_ (fun b hb => Nat.le_trans hl (h.own.lt b hb).1)
theorem Kb.wrote {w w' : World} {lo hi e size n : Nat} {v : Value} {xs : List Value} (h : Own w lo hi e size v n xs) (k : Wrote w w' v) : Kb e w w' := by
  have key : ∀ b, w.okb e b = true → w'.heap[b]? = w.heap[b]? := by
    intro b hb
    refine k.by_.block b (okb_lt hb) ?_
    intro he
    rcases h.own.2 with ⟨rfl, _⟩ | ⟨g, cap, cur, rfl, _, hg, _⟩
    · simp [Value.ownBlock] at he
    · simp only [Value.ownBlock, Option.some.injEq] at he
      subst he
      simp [World.okb, hg] at hb
  exact ⟨fun b o hb => World.cell?_of_block (w := w) (a := ⟨b, o, none⟩) (key b hb), fun b o hb => World.frozen?_of_block (w := w) (a := ⟨b, o, none⟩) (key b hb), fun b hb => by rw [okb_block (key b hb)]; exact hb⟩
/-- Floats of the call's own. -/
def FIn (w : World) (lo hi : Nat) (e : Nat) (v : Value) (xs : List Nat) : Prop := ∃ rs, FEs rs xs ∧ Own w lo hi e 1 v rs.length (rs.map (Value.float .f32))
theorem FOwn.fin {w : World} {lo : Nat} {e : TypeId} {v : Value} {xs : List Nat} (h : FOwn w lo e v xs) : FIn w lo w.heap.size e v xs := by
  obtain ⟨rs, h1, h2⟩ := h
  exact ⟨rs, h1, h2, fun k hk => (h2.lt k hk).2⟩
theorem FIn.fown {w : World} {lo hi : Nat} {e : TypeId} {v : Value} {xs : List Nat} (h : FIn w lo hi e v xs) : FOwn w lo e v xs := by
  obtain ⟨rs, h1, h2⟩ := h; exact ⟨rs, h1, h2.own⟩
theorem FIn.gr {w w' : World} {lo hi : Nat} {e : TypeId} {v : Value} {xs : List Nat} (h : FIn w lo hi e v xs) (g : Gr w w') : FIn w' lo hi e v xs := by
  obtain ⟨rs, h1, h2⟩ := h; exact ⟨rs, h1, h2.gr g⟩
theorem FIn.wrote {w w' : World} {lo hi lo' hi' e' size' n' : Nat} {e : TypeId} {v v' : Value} {xs : List Nat} {xs' : List Value} (h : FIn w lo hi e v xs) (h' : Own w lo' hi' e' size' v' n' xs') (g : Wrote w w' v') (hd : hi ≤ lo' ∨ hi' ≤ lo) : FIn w' lo hi e v xs := by
  obtain ⟨rs, h1, h2⟩ := h; exact ⟨rs, h1, h2.wrote h' g hd⟩
/-- The marks of a list of floats. -/
def marks (k : Int) (n : Nat) : List Value := (List.range n).map fun (i : Nat) => Value.float .f32 (floatOfInt .f32 (k + (i : Int)))
theorem marks_length (k : Int) (n : Nat) : (marks k n).length = n := by simp [marks]
end Go.Fx
namespace Go.Proofs.Ytkaikcabnhhciaa
open Go.RowKit Go.Fx Go.Soft
end Go.Proofs.Ytkaikcabnhhciaa
