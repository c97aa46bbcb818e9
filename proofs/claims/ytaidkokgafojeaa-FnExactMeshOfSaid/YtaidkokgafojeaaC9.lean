/- Contracts: tiles. -/
import Derived.Test.YtaidkokgafojeaaProg
import Derived.Test.YtaidkokgafojeaaC8
import Derived.IntWalk
namespace Go.Proofs.Ytaidkokgafojeaa
open Go.RowKit Go.Fx Go.Soft
def gTile (h f c : Int) : Bool := gIn f 0 (h - 1) && gIn c 1 (h - f)
theorem gPic_true {w h : Int} {n : Nat} (H : gPic w h n = true) : gSize w h = true ∧ (n : Int) = w * h := by
  simpa [gPic] using H
theorem gPic_high {w h : Int} {n : Nat} (H : gPic w h n = true) : 1 ≤ h ∧ h ≤ 24 := by
  obtain ⟨_, _, h1, h2, _, _⟩ := gSize_true (gPic_true H).1
  exact ⟨h1, h2⟩
end Go.Proofs.Ytaidkokgafojeaa
