/- Contracts: the median's closure: it appends to a captured row. MAXREC -/
import Derived.Test.YtaidkokgafojeaaProg
import Derived.Test.YtaidkokgafojeaaC95
import Derived.Test.YtaidkokgafojeaaC14
import Derived.Test.YtaidkokgafojeaaWk2
namespace Go.Proofs.Ytaidkokgafojeaa
open Go.RowKit Go.Fx Go.Soft
/-- The values of cells that are no holes. -/
def gMv (xs : List Nat) (W : Nat) (l : List (Nat × Nat)) : List Nat := (l.filter fun c => !gHole (xs.getD (c.1 + W * c.2) 0)).map fun c => xs.getD (c.1 + W * c.2) 0
theorem gMv_no {xs : List Nat} {W u v : Nat} (l : List (Nat × Nat)) (h : gHole (xs.getD (u + W * v) 0) = true) : gMv xs W (l ++ [(u, v)]) = gMv xs W l := by
  unfold gMv
  rw [List.filter_append, List.map_append, List.filter_cons_of_neg (by show ¬ (!gHole (xs.getD (u + W * v) 0)) = true; rw [h]; decide)]
  simp
theorem gMv_yes {xs : List Nat} {W u v : Nat} (l : List (Nat × Nat)) (h : gHole (xs.getD (u + W * v) 0) = false) : gMv xs W (l ++ [(u, v)]) = gMv xs W l ++ [xs.getD (u + W * v) 0] := by
  unfold gMv
  rw [List.filter_append, List.map_append, List.filter_cons_of_pos (by show (!gHole (xs.getD (u + W * v) 0)) = true; rw [h]; decide)]
  rfl
/-- A row is gathered in a captured cell. -/
def Gath (wb : World) (bl : Nat) (vals : List (Nat × Nat) → List Nat) (l : List (Nat × Nat)) (w : World) : Prop :=
  Gr wb w ∧ ∃ v, Blk w bl [v] 22 ∧ FOwn w wb.heap.size 65 v (vals l)
end Go.Proofs.Ytaidkokgafojeaa
