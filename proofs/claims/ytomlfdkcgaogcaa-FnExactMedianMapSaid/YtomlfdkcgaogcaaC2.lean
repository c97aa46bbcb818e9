/- Contracts: finite numbers, cameras. -/
import Derived.Test.YtomlfdkcgaogcaaProg
import Derived.Test.YtomlfdkcgaogcaaC1
import Derived.Test.YtomlfdkcgaogcaaSl
import Derived.Lib.Hide
namespace Go.Proofs.Ytomlfdkcgaogcaa
open Go.RowKit Go.Fx Go.Soft
def gFin (x : Nat) : Bool := fcmp .eql .f32 (fop .sub .f32 x x) 0
def gPlus (x : Nat) : Bool := gFin x && fcmp .gtr .f32 x 0
def gFinAll (xs : List Nat) : Bool := !xs.any fun x => !gFin x
def gCam (f b x y : Nat) : Bool := gPlus f && gPlus b && gFin x && gFin y
set_option maxHeartbeats 400000 in
theorem I_IsFinite (x X : Nat) (w : World) (hx : FE .f32 x X) :
    Calls Try.prog 125 #[.float .f32 x] w fun e w' => e = .returned (.bool (gFin X)) ∧ ∃ n, w' = w.drewN n := by
  have h0 := FE0
  go_enter Try.func125, Try.ntmps125
  go_wp2_with (first
      | ((with_reducible apply wpList_fop); (case hw => rfl); (case hop => rfl); (case hx => rfl); (case hy => rfl); (case hA => (first | assumption | exact FE.ofInt _ _ | exact FE.lit (by decide +kernel))); (case hB => (first | assumption | exact FE.ofInt _ _ | exact FE.lit (by decide +kernel))); intro r n hr)
      | ((with_reducible apply wpList_fcmp); (case hw => rfl); (case hop => rfl); (case hx => rfl); (case hy => rfl); (case hA => (first | assumption | exact FE.ofInt _ _ | exact FE.lit (by decide +kernel))); (case hB => (first | assumption | exact FE.ofInt _ _ | exact FE.lit (by decide +kernel))); (case hb => (first | assumption | rfl)))
      | ((with_reducible apply wpList_widen); (case hw => rfl); (case hs => exact Try.underlying25); (case hd => exact Try.underlying61); (case hx => rfl); (case hA => (first | assumption | exact FE.ofInt _ _ | exact FE.lit (by decide +kernel))); intro r n hr)
      | ((with_reducible apply wpList_fneg); (case hw => rfl); (case hx => rfl); (case hA => (first | assumption | exact FE.ofInt _ _ | exact FE.lit (by decide +kernel))); intro r hr))
  go_ret
  exact ⟨rfl, (by first | exact ⟨0, rfl⟩ | exact ⟨_, rfl⟩)⟩
set_option maxHeartbeats 400000 in
theorem S_l01Finite (x X : Nat) (w : World) (hx : FE .f32 x X) :
    Calls Try.prog 120 #[.float .f32 x] w fun e w' => e = .returned (.bool (gFin X)) ∧ ∃ n, w' = w.drewN n := by
  have h0 := FE0
  go_enter Try.func120, Try.ntmps120
  go_wp2_with (first
      | ((with_reducible apply wpList_fop); (case hw => rfl); (case hop => rfl); (case hx => rfl); (case hy => rfl); (case hA => (first | assumption | exact FE.ofInt _ _ | exact FE.lit (by decide +kernel))); (case hB => (first | assumption | exact FE.ofInt _ _ | exact FE.lit (by decide +kernel))); intro r n hr)
      | ((with_reducible apply wpList_fcmp); (case hw => rfl); (case hop => rfl); (case hx => rfl); (case hy => rfl); (case hA => (first | assumption | exact FE.ofInt _ _ | exact FE.lit (by decide +kernel))); (case hB => (first | assumption | exact FE.ofInt _ _ | exact FE.lit (by decide +kernel))); (case hb => (first | assumption | rfl)))
      | ((with_reducible apply wpList_widen); (case hw => rfl); (case hs => exact Try.underlying25); (case hd => exact Try.underlying61); (case hx => rfl); (case hA => (first | assumption | exact FE.ofInt _ _ | exact FE.lit (by decide +kernel))); intro r n hr)
      | ((with_reducible apply wpList_fneg); (case hw => rfl); (case hx => rfl); (case hA => (first | assumption | exact FE.ofInt _ _ | exact FE.lit (by decide +kernel))); intro r hr))
  go_ret
  exact ⟨rfl, (by first | exact ⟨0, rfl⟩ | exact ⟨_, rfl⟩)⟩
def gFar (f b d : Nat) : Option Nat :=
  if gPlus d && gPlus (fop .quo .f32 (fop .mul .f32 f b) d) then some (fop .quo .f32 (fop .mul .f32 f b) d) else none
/-- DepthOf: the depth, and whether there is one. -/
def gDepth (f b x y d : Nat) : Option Nat := if gCam f b x y then gFar f b d else none
end Go.Proofs.Ytomlfdkcgaogcaa
