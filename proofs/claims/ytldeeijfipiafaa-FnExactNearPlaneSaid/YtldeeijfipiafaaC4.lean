/- Contracts: cells and points of a camera. -/
import Derived.Test.YtldeeijfipiafaaProg
import Derived.Test.YtldeeijfipiafaaC3
namespace Go.Proofs.Ytldeeijfipiafaa
open Go.RowKit Go.Fx Go.Soft
set_option maxHeartbeats 400000 in
theorem L_toVector (a b c : Nat) (w : World) :
    Calls Try.prog 121 #[.agg #[.float .f32 a, .float .f32 b, .float .f32 c]] w fun e w' => e = .returned (.agg #[.float .f32 a, .float .f32 b, .float .f32 c]) ∧ ∃ os m, w' = w.grew os m := by
  go_enter Try.func121, Try.ntmps121
  go_wp2_with (first
      | ((with_reducible apply wpList_fop); (case hw => rfl); (case hop => rfl); (case hx => rfl); (case hy => rfl); (case hA => (first | assumption | exact FE.ofInt _ _ | exact FE.lit (by decide +kernel))); (case hB => (first | assumption | exact FE.ofInt _ _ | exact FE.lit (by decide +kernel))); intro r n hr)
      | ((with_reducible apply wpList_fcmp); (case hw => rfl); (case hop => rfl); (case hx => rfl); (case hy => rfl); (case hA => (first | assumption | exact FE.ofInt _ _ | exact FE.lit (by decide +kernel))); (case hB => (first | assumption | exact FE.ofInt _ _ | exact FE.lit (by decide +kernel))); (case hb => (first | assumption | rfl)))
      | ((with_reducible apply wpList_widen); (case hw => rfl); (case hs => exact Try.underlying42); (case hd => exact Try.underlying84); (case hx => rfl); (case hA => (first | assumption | exact FE.ofInt _ _ | exact FE.lit (by decide +kernel))); intro r n hr)
      | ((with_reducible apply wpList_fneg); (case hw => rfl); (case hx => rfl); (case hA => (first | assumption | exact FE.ofInt _ _ | exact FE.lit (by decide +kernel))); intro r hr))
  exact bodyPost_ret (v := .agg #[.float .f32 a, .float .f32 b, .float .f32 c]) (by simp [results, Try.results121, go_sem]) rfl ⟨rfl, (by (try show Gr _ _); repeat (with_reducible first | exact Gr.refl _ | refine Gr.drewN ?_ _ | refine Gr.grew ?_ _ _ | refine Gr.alloc ?_ _ | refine Gr.drew ?_))⟩
/-- CellOf: a coordinate; 0 where there is no depth. -/
def gCell (f m p z : Nat) (d : Option Nat) : Nat := match d with
  | some _ => fop .add .f32 m (fop .mul .f32 f (fop .quo .f32 p z))
  | none => 0
end Go.Proofs.Ytldeeijfipiafaa
