/- Contracts: SharpMap. MAXREC -/
import Derived.Test.YtomlfdkcgaogcaaProg
import Derived.Test.YtomlfdkcgaogcaaC26
namespace Go.Proofs.Ytomlfdkcgaogcaa
open Go.RowKit Go.Fx Go.Soft
def gSharpAt (xs : List Nat) (D : Int) (i : Nat) : Nat := gSharp (fun j => xs.getD (i * D.toNat + j) 0) D.toNat
def tSharp (ys : List Nat) : Nat := gSharp (fun j => ys.getD j 0) ys.length
theorem gCell_sharp (xs : List Nat) (D : Int) : gCellAt tSharp xs D = gSharpAt xs D := by
  funext i
  unfold gCellAt tSharp gSharpAt
  rw [lst_length]
  apply gSharp_congr
  intro j hj
  rw [List.getD_eq_getElem?_getD, List.getElem?_eq_getElem (by simpa using hj)]
  simp [lst]
end Go.Proofs.Ytomlfdkcgaogcaa
