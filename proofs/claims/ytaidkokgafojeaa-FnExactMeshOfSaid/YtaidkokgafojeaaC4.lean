/- Contracts: cells and points of a camera. -/
import Derived.Test.YtaidkokgafojeaaProg
import Derived.Test.YtaidkokgafojeaaC3
namespace Go.Proofs.Ytaidkokgafojeaa
open Go.RowKit Go.Fx Go.Soft
/-- CellOf: a coordinate; 0 where there is no depth. -/
def gCell (f m p z : Nat) (d : Option Nat) : Nat := match d with
  | some _ => fop .add .f32 m (fop .mul .f32 f (fop .quo .f32 p z))
  | none => 0
end Go.Proofs.Ytaidkokgafojeaa
