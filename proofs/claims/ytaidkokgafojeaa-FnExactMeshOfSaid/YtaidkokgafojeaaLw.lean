/- The frame of a law: boxes and rows carried from call to call. MAXREC -/
import Derived.Test.YtaidkokgafojeaaLp
import Derived.Test.YtaidkokgafojeaaGd
namespace Go.Fx
open Go Go.Soft Go.RowKit
theorem Kp.drew {w w' : World} (h : Kp w w') : Kp w w'.drew := h.drewN 1
theorem Blk.wrote {w w' : World} {b : Nat} {cs : List Value} {t : TypeId} (h : Blk w b cs t) {lo hi e size n : Nat} {v : Value} {xs : List Value} (o : Own w lo hi e size v n xs) (k : Wrote w w' v) (ht : t ≠ e) : Blk w' b cs t := by
  refine h.grown k.by_ ?_
  intro he
  rcases o.own.2 with ⟨rfl, _⟩ | ⟨g, cap, cur, rfl, _, hg, _⟩
  · simp [Value.ownBlock] at he
  · simp only [Value.ownBlock, Option.some.injEq] at he
    subst he
    have h1 := h.at_
    rw [hg] at h1
    simp at h1
    exact ht h1.2.symm
theorem Own.swap {w w' : World} {os : Array Obj} {m m' lo hi e size n : Nat} {v : Value} {xs : List Value} (h : Own (w.grew os m) lo hi e size v n xs) (hB : w.heap.size ≤ lo) (hs : w.heap.size = w'.heap.size) : Own (w'.grew os m') lo hi e size v n xs :=
  ⟨own_swap h.own hB hs, h.hi⟩
theorem FIn.swap {w w' : World} {os : Array Obj} {m m' lo hi : Nat} {e : TypeId} {v : Value} {xs : List Nat} (h : FIn (w.grew os m) lo hi e v xs) (hB : w.heap.size ≤ lo) (hs : w.heap.size = w'.heap.size) : FIn (w'.grew os m') lo hi e v xs := by
  obtain ⟨rs, h1, h2⟩ := h; exact ⟨rs, h1, h2.swap hB hs⟩
/-- A row that has come behind world c. -/
structure RowIn (c w : World) (e : TypeId) (v : Value) (L : List Nat) : Prop where
  at_ : ∃ lo hi, c.heap.size ≤ lo ∧ hi ≤ w.heap.size ∧ FIn w lo hi e v L
theorem RowIn.of {c w w' : World} {lo hi : Nat} {e : TypeId} {v : Value} {L : List Nat} (h : FIn w lo hi e v L) (g : Gr w w') (h1 : c.heap.size ≤ lo) (h2 : hi ≤ w.heap.size) : RowIn c w' e v L :=
  ⟨lo, hi, h1, Nat.le_trans h2 g.size, h.gr g⟩
theorem RowIn.swap {c w w' : World} {os : Array Obj} {m m' lo hi : Nat} {e : TypeId} {v : Value} {L : List Nat} (h : FIn (w.grew os m) lo hi e v L) (hB : w.heap.size ≤ lo) (hs : w.heap.size = w'.heap.size) (h1 : c.heap.size ≤ lo) (h2 : hi ≤ (w'.grew os m').heap.size) : RowIn c (w'.grew os m') e v L :=
  ⟨lo, hi, h1, h2, h.swap hB hs⟩
theorem FIn.sl {w : World} {lo hi : Nat} {e : TypeId} {v : Value} {xs : List Nat} (h : FIn w lo hi e v xs) : ∃ a cap, v = .slice a xs.length cap ∧ FSl w a xs.length xs ∧ xs.length ≤ maxLen := h.fown.sl
theorem FIn.fsl {w : World} {lo hi : Nat} {e : TypeId} {a : Option Addr} {n cap : Nat} {xs : List Nat} (h : FIn w lo hi e (.slice a n cap) xs) : FSl w a n xs := by
  obtain ⟨a', cap', e', h1, _⟩ := h.sl
  simp only [Value.slice.injEq] at e'
  obtain ⟨rfl, rfl, rfl⟩ := e'
  exact h1
/-- The row as it is marked. -/
theorem FIn.row {w : World} {lo hi : Nat} {e : TypeId} {v : Value} {xs : List Nat} (h : FIn w lo hi e v xs) : ∃ vs, Own w lo hi e 1 v xs.length vs ∧ ∀ x ∈ vs, ∃ r, x = .float .f32 r := by
  obtain ⟨rs, h1, h2⟩ := h
  rw [h1.len] at h2
  exact ⟨_, h2, fun x hx => by obtain ⟨r, _, hr⟩ := List.mem_map.1 hx; exact ⟨r, hr.symm⟩⟩
end Go.Fx
namespace Go.Proofs.Ytaidkokgafojeaa
open Go.RowKit Go.Fx Go.Soft
/-- What a function that hands back a picture or a map leaves. -/
def PostP (w : World) (A B : Int) (ok : Bool) (L : List Nat) (e : Ending) (w' : World) : Prop :=
  (∃ v, e = .returned (.tuple #[.agg #[.int .i64 A, .int .i64 B, v], .bool ok]) ∧ FOwn w' w.heap.size 65 v L) ∧ Gr w w'
end Go.Proofs.Ytaidkokgafojeaa
