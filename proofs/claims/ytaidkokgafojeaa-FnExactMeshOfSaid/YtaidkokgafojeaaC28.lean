/- Contracts: absolute values; what is near. MAXREC -/
import Derived.Test.YtaidkokgafojeaaProg
import Derived.Test.YtaidkokgafojeaaC15
import Derived.Test.YtaidkokgafojeaaFa
import Derived.Laws.Externs
import Derived.Laws.BitsAllLaws
namespace Go.Proofs.Ytaidkokgafojeaa
open Go.RowKit Go.Fx Go.Soft
theorem call_f32bits (r : Nat) (w : World) : (callFunc 152 #[.float .f32 r]).run Try.prog w = .ok (.value (.int .u32 r)) w := by
  rw [run_callFunc_extern Try.func152 (e := Extern.MathFloatBits.float32bits) (by kernel_rfl) (by kernel_rfl) (by kernel_rfl) (by kernel_rfl)]
  rfl
theorem call_f32from (n : Int) (w : World) : (callFunc 155 #[.int .u32 n]).run Try.prog w = .ok (.value (.float .f32 n.toNat)) w := by
  rw [run_callFunc_extern Try.func155 (e := Extern.MathFloatBits.float32frombits) (by kernel_rfl) (by kernel_rfl) (by kernel_rfl) (by kernel_rfl)]
  rfl
theorem FE_abs {r X : Nat} (h : FE .f32 r X) : FE .f32 (r % 2147483648) (gAbs X) := by
  have hlt : r % 2147483648 < 2147483648 := Nat.mod_lt _ (by decide)
  have hm : isN .f32 (r % 2147483648) = isN .f32 r := by
    unfold isN
    show (Ieee.single.read _).isNaN = (Ieee.single.read _).isNaN
    unfold Ieee.Format.read
    simp only [sg_sign, Nat.mod_mod]
    split
    · rfl
    · split
      · rfl
      · split <;> rfl
  refine ⟨?_, Nat.lt_of_lt_of_le hlt (by decide)⟩
  have hc := h.cz
  unfold gAbs
  cases hn : isN .f32 r
  · rw [cz_num hn] at hc
    subst hc
    rw [hn, cz_num (by rw [hm, hn])]
    rfl
  · rw [cz_nan hn] at hc
    subst hc
    rw [isN_qn, cz_nan (by rw [hm, hn])]
    rfl
set_option maxRecDepth 20000 in
set_option maxHeartbeats 400000 in
theorem I_abs (r X : Nat) (w : World) (hx : FE .f32 r X) :
    Calls Try.prog 142 #[.float .f32 r] w fun e w' => ∃ r', e = .returned (.float .f32 r') ∧ FE .f32 r' (gAbs X) ∧ ∃ n, w' = w.drewN n := by
  have hr : r < 4294967296 := hx.lt
  have c1 := call_f32bits r
  have c2 := call_f32from
  have h0 := FE0
  go_enter Try.func142, Try.ntmps142
  go_wp2_with (simp only [c1, c2])
  go_ret
  refine ⟨_, rfl, ?_, (by first | exact ⟨0, rfl⟩ | exact ⟨_, rfl⟩)⟩
  have e1 : (bits .andNot .u32 (r : Int) 2147483648).toNat = r % 2147483648 := by
    rw [Go.u32_andNot _ _ (by omega) (by omega) (by omega) (by omega)]
    show (r &&& 2147483647 : Nat) = _
    exact Nat.and_two_pow_sub_one_eq_mod r 31
  rw [e1]
  exact FE_abs hx
def gNear (x y n : Nat) : Bool := fcmp .leq .f32 (gAbs (fop .sub .f32 x y)) n
set_option maxRecDepth 20000 in
set_option maxHeartbeats 400000 in
theorem I_nearTo (x y n X Y N : Nat) (w : World) (hx : FE .f32 x X) (hy : FE .f32 y Y) (hn : FE .f32 n N) :
    Calls Try.prog 104 #[.float .f32 x, .float .f32 y, .float .f32 n] w fun e w' => e = .returned (.bool (gNear X Y N)) ∧ ∃ n, w' = w.drewN n := by
  go_enter Try.func104, Try.ntmps104
  go_wp2_with (first
      | (go_at_call 142; refine (I_abs _ _ _ (by assumption)).mono ?_; rintro e w' ⟨r, rfl, hr, n, rfl⟩)
      | ((with_reducible apply wpList_fop); (case hw => rfl); (case hop => rfl); (case hx => rfl); (case hy => rfl); (case hA => (first | assumption | exact FE.ofInt _ _ | exact FE.lit (by decide +kernel))); (case hB => (first | assumption | exact FE.ofInt _ _ | exact FE.lit (by decide +kernel))); intro r n hr)
      | ((with_reducible apply wpList_fcmp); (case hw => rfl); (case hop => rfl); (case hx => rfl); (case hy => rfl); (case hA => (first | assumption | exact FE.ofInt _ _ | exact FE.lit (by decide +kernel))); (case hB => (first | assumption | exact FE.ofInt _ _ | exact FE.lit (by decide +kernel))); (case hb => (first | assumption | rfl)))
      | ((with_reducible apply wpList_widen); (case hw => rfl); (case hs => exact Try.underlying65); (case hd => exact Try.underlying147); (case hx => rfl); (case hA => (first | assumption | exact FE.ofInt _ _ | exact FE.lit (by decide +kernel))); intro r n hr)
      | ((with_reducible apply wpList_fneg); (case hw => rfl); (case hx => rfl); (case hA => (first | assumption | exact FE.ofInt _ _ | exact FE.lit (by decide +kernel))); intro r hr))
  go_ret
  exact ⟨rfl, (by first | exact ⟨0, rfl⟩ | exact ⟨_, rfl⟩)⟩
set_option maxRecDepth 20000 in
set_option maxHeartbeats 400000 in
theorem S_l03Size (x X : Nat) (w : World) (hx : FE .f32 x X) :
    Calls Try.prog 97 #[.float .f32 x] w fun e w' => ∃ r, e = .returned (.float .f32 r) ∧ FE .f32 r (gAbs X) ∧ ∃ n, w' = w.drewN n := by
  have h0 := FE0
  have hX : X < 2 ^ 32 := by
    have h1 := hx.lt
    have h2 := hx.cz
    unfold cz at h2
    split at h2
    · rw [← h2]; decide
    · rw [← h2]; exact h1
  have hs := size_abs hX hx.canon
  cases hl : fcmp .leq .f32 X 0
  · rw [hl] at hs
    simp only [Bool.false_eq_true, if_false] at hs
    have HS := Lib.hid hs
    clear hs
    go_enter Try.func97, Try.ntmps97
    go_wp2_with (first
      | ((with_reducible apply wpList_fop); (case hw => rfl); (case hop => rfl); (case hx => rfl); (case hy => rfl); (case hA => (first | assumption | exact FE.ofInt _ _ | exact FE.lit (by decide +kernel))); (case hB => (first | assumption | exact FE.ofInt _ _ | exact FE.lit (by decide +kernel))); intro r n hr)
      | ((with_reducible apply wpList_fcmp); (case hw => rfl); (case hop => rfl); (case hx => rfl); (case hy => rfl); (case hA => (first | assumption | exact FE.ofInt _ _ | exact FE.lit (by decide +kernel))); (case hB => (first | assumption | exact FE.ofInt _ _ | exact FE.lit (by decide +kernel))); (case hb => (first | assumption | rfl)))
      | ((with_reducible apply wpList_widen); (case hw => rfl); (case hs => exact Try.underlying65); (case hd => exact Try.underlying147); (case hx => rfl); (case hA => (first | assumption | exact FE.ofInt _ _ | exact FE.lit (by decide +kernel))); intro r n hr)
      | ((with_reducible apply wpList_fneg); (case hw => rfl); (case hx => rfl); (case hA => (first | assumption | exact FE.ofInt _ _ | exact FE.lit (by decide +kernel))); intro r hr))
    go_ret
    exact ⟨_, rfl, by rw [← HS.out]; assumption, (by first | exact ⟨0, rfl⟩ | exact ⟨_, rfl⟩)⟩
  · rw [hl, if_pos rfl] at hs
    have HS := Lib.hid hs
    clear hs
    go_enter Try.func97, Try.ntmps97
    go_wp2_with (first
      | ((with_reducible apply wpList_fop); (case hw => rfl); (case hop => rfl); (case hx => rfl); (case hy => rfl); (case hA => (first | assumption | exact FE.ofInt _ _ | exact FE.lit (by decide +kernel))); (case hB => (first | assumption | exact FE.ofInt _ _ | exact FE.lit (by decide +kernel))); intro r n hr)
      | ((with_reducible apply wpList_fcmp); (case hw => rfl); (case hop => rfl); (case hx => rfl); (case hy => rfl); (case hA => (first | assumption | exact FE.ofInt _ _ | exact FE.lit (by decide +kernel))); (case hB => (first | assumption | exact FE.ofInt _ _ | exact FE.lit (by decide +kernel))); (case hb => (first | assumption | rfl)))
      | ((with_reducible apply wpList_widen); (case hw => rfl); (case hs => exact Try.underlying65); (case hd => exact Try.underlying147); (case hx => rfl); (case hA => (first | assumption | exact FE.ofInt _ _ | exact FE.lit (by decide +kernel))); intro r n hr)
      | ((with_reducible apply wpList_fneg); (case hw => rfl); (case hx => rfl); (case hA => (first | assumption | exact FE.ofInt _ _ | exact FE.lit (by decide +kernel))); intro r hr))
    go_ret
    exact ⟨_, rfl, by rw [← HS.out]; assumption, (by first | exact ⟨0, rfl⟩ | exact ⟨_, rfl⟩)⟩
def gHang (x y n : Nat) : Bool := !gHole x && (!gHole y && gNear x y n)
end Go.Proofs.Ytaidkokgafojeaa
