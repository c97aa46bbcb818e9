/- Contracts: numbers, cameras, planes. -/
import Derived.Test.YtaidkokgafojeaaProg
import Derived.Test.YtaidkokgafojeaaWk
import Derived.WalkSpells
namespace Go.Proofs.Ytaidkokgafojeaa
open Go.RowKit Go.Fx Go.Soft

theorem FE0 : FE .f32 0 0 := FE.lit (by decide +kernel)
theorem FE0w : FE .f64 0 0 := FE.lit (by decide +kernel)
theorem FE1w : FE .f64 4607182418800017408 4607182418800017408 := FE.lit (by decide +kernel)
set_option maxHeartbeats 400000 in
theorem L_sameFloat (x y A : Nat) (w : World) (hx : FE .f64 x A) (hy : FE .f64 y A) :
    Calls Try.prog 119 #[.float .f64 x, .float .f64 y] w fun e w' => e = .returned (.bool true) ∧ ∃ n, w' = w.drewN n := by
  have h0 := FE0w
  have h1 := FE1w
  cases hN : isN .f64 A
  · have c1 : fcmp .neq .f64 A A = false := fcmp_neq_self hN
    have c2 : fcmp .eql .f64 A A = true := fcmp_eql_self hN
    cases c3 : fcmp .eql .f64 A 0
    all_goals
      go_enter Try.func119, Try.ntmps119
      go_wp2_with (first
      | ((with_reducible apply wpList_fop); (case hw => rfl); (case hop => rfl); (case hx => rfl); (case hy => rfl); (case hA => (first | assumption | exact FE.ofInt _ _ | exact FE.lit (by decide +kernel))); (case hB => (first | assumption | exact FE.ofInt _ _ | exact FE.lit (by decide +kernel))); intro r n hr)
      | ((with_reducible apply wpList_fcmp); (case hw => rfl); (case hop => rfl); (case hx => rfl); (case hy => rfl); (case hA => (first | assumption | exact FE.ofInt _ _ | exact FE.lit (by decide +kernel))); (case hB => (first | assumption | exact FE.ofInt _ _ | exact FE.lit (by decide +kernel))); (case hb => (first | assumption | rfl)))
      | ((with_reducible apply wpList_widen); (case hw => rfl); (case hs => exact Try.underlying65); (case hd => exact Try.underlying147); (case hx => rfl); (case hA => (first | assumption | exact FE.ofInt _ _ | exact FE.lit (by decide +kernel))); intro r n hr)
      | ((with_reducible apply wpList_fneg); (case hw => rfl); (case hx => rfl); (case hA => (first | assumption | exact FE.ofInt _ _ | exact FE.lit (by decide +kernel))); intro r hr))
      go_ret
      exact ⟨by simp, (by first | exact ⟨0, rfl⟩ | exact ⟨_, rfl⟩)⟩
  · have c1 : fcmp .neq .f64 A A = true := fcmp_neq_nan hN
    go_enter Try.func119, Try.ntmps119
    go_wp2_with (first
      | ((with_reducible apply wpList_fop); (case hw => rfl); (case hop => rfl); (case hx => rfl); (case hy => rfl); (case hA => (first | assumption | exact FE.ofInt _ _ | exact FE.lit (by decide +kernel))); (case hB => (first | assumption | exact FE.ofInt _ _ | exact FE.lit (by decide +kernel))); intro r n hr)
      | ((with_reducible apply wpList_fcmp); (case hw => rfl); (case hop => rfl); (case hx => rfl); (case hy => rfl); (case hA => (first | assumption | exact FE.ofInt _ _ | exact FE.lit (by decide +kernel))); (case hB => (first | assumption | exact FE.ofInt _ _ | exact FE.lit (by decide +kernel))); (case hb => (first | assumption | rfl)))
      | ((with_reducible apply wpList_widen); (case hw => rfl); (case hs => exact Try.underlying65); (case hd => exact Try.underlying147); (case hx => rfl); (case hA => (first | assumption | exact FE.ofInt _ _ | exact FE.lit (by decide +kernel))); intro r n hr)
      | ((with_reducible apply wpList_fneg); (case hw => rfl); (case hx => rfl); (case hA => (first | assumption | exact FE.ofInt _ _ | exact FE.lit (by decide +kernel))); intro r hr))
    go_ret
    exact ⟨rfl, (by first | exact ⟨0, rfl⟩ | exact ⟨_, rfl⟩)⟩
def gHeight (a b c x y : Nat) : Nat := fop .add .f32 (fop .add .f32 (fop .mul .f32 a x) (fop .mul .f32 b y)) c
end Go.Proofs.Ytaidkokgafojeaa
