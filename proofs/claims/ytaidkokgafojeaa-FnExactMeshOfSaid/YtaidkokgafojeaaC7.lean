/- Contracts: prices and jobs. -/
import Derived.Test.YtaidkokgafojeaaProg
import Derived.Test.YtaidkokgafojeaaC2
namespace Go.Proofs.Ytaidkokgafojeaa
open Go.RowKit Go.Fx Go.Soft
def gIn (n a b : Int) : Bool := decide (a ≤ n) && decide (n ≤ b)
theorem gIn_true {n a b : Int} (h : gIn n a b = true) : a ≤ n ∧ n ≤ b := by simpa [gIn] using h
theorem gIn_false {n a b : Int} (h : gIn n a b = false) : n < a ∨ b < n := by
  simp only [gIn, Bool.and_eq_false_iff, decide_eq_false_iff_not, Int.not_le] at h; exact h
set_option maxHeartbeats 400000 in
theorem I_in (n a b : Int) (w : World) :
    Calls Try.prog 84 #[.int .i64 n, .int .i64 a, .int .i64 b] w fun e w' => e = .returned (.bool (gIn n a b)) ∧ w' = w := by
  by_cases h1 : a ≤ n
  all_goals
    go_enter Try.func84, Try.ntmps84
    go_wp2_with (first
      | ((with_reducible apply wpList_fop); (case hw => rfl); (case hop => rfl); (case hx => rfl); (case hy => rfl); (case hA => (first | assumption | exact FE.ofInt _ _ | exact FE.lit (by decide +kernel))); (case hB => (first | assumption | exact FE.ofInt _ _ | exact FE.lit (by decide +kernel))); intro r n hr)
      | ((with_reducible apply wpList_fcmp); (case hw => rfl); (case hop => rfl); (case hx => rfl); (case hy => rfl); (case hA => (first | assumption | exact FE.ofInt _ _ | exact FE.lit (by decide +kernel))); (case hB => (first | assumption | exact FE.ofInt _ _ | exact FE.lit (by decide +kernel))); (case hb => (first | assumption | rfl)))
      | ((with_reducible apply wpList_widen); (case hw => rfl); (case hs => exact Try.underlying65); (case hd => exact Try.underlying147); (case hx => rfl); (case hA => (first | assumption | exact FE.ofInt _ _ | exact FE.lit (by decide +kernel))); intro r n hr)
      | ((with_reducible apply wpList_fneg); (case hw => rfl); (case hx => rfl); (case hA => (first | assumption | exact FE.ofInt _ _ | exact FE.lit (by decide +kernel))); intro r hr))
    go_ret
    exact ⟨by simp [gIn, h1] <;> omega, rfl⟩
set_option maxHeartbeats 400000 in
theorem S_l00In (n a b : Int) (w : World) :
    Calls Try.prog 82 #[.int .i64 n, .int .i64 a, .int .i64 b] w fun e w' => e = .returned (.bool (gIn n a b)) ∧ w' = w := by
  by_cases h1 : a ≤ n
  all_goals
    go_enter Try.func82, Try.ntmps82
    go_wp2_with (first
      | ((with_reducible apply wpList_fop); (case hw => rfl); (case hop => rfl); (case hx => rfl); (case hy => rfl); (case hA => (first | assumption | exact FE.ofInt _ _ | exact FE.lit (by decide +kernel))); (case hB => (first | assumption | exact FE.ofInt _ _ | exact FE.lit (by decide +kernel))); intro r n hr)
      | ((with_reducible apply wpList_fcmp); (case hw => rfl); (case hop => rfl); (case hx => rfl); (case hy => rfl); (case hA => (first | assumption | exact FE.ofInt _ _ | exact FE.lit (by decide +kernel))); (case hB => (first | assumption | exact FE.ofInt _ _ | exact FE.lit (by decide +kernel))); (case hb => (first | assumption | rfl)))
      | ((with_reducible apply wpList_widen); (case hw => rfl); (case hs => exact Try.underlying65); (case hd => exact Try.underlying147); (case hx => rfl); (case hA => (first | assumption | exact FE.ofInt _ _ | exact FE.lit (by decide +kernel))); intro r n hr)
      | ((with_reducible apply wpList_fneg); (case hw => rfl); (case hx => rfl); (case hA => (first | assumption | exact FE.ofInt _ _ | exact FE.lit (by decide +kernel))); intro r hr))
    go_ret
    exact ⟨by simp [gIn, h1] <;> omega, rfl⟩
def gPrices (o m : Nat) : Bool := gFin o && gFin m && fcmp .geq .f32 o 0 && fcmp .leq .f32 o m
def gJob (k r d : Int) (O M : Nat) : Bool := gIn k 0 1 && gIn r 0 3 && gIn d 1 8 && gPrices O M
end Go.Proofs.Ytaidkokgafojeaa
