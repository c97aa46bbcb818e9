/- Contracts: the place of a value; RoundMap. MAXREC -/
import Derived.Test.YthpdnblkbadhaaaProg
import Derived.Test.YthpdnblkbadhaaaC15
import Derived.Test.YthpdnblkbadhaaaPl
import Derived.Laws.Externs
namespace Go.Fx
open Go Go.Soft Go.RowKit
theorem FE.num {k : FloatKind} {r e : Nat} (h : FE k r e) (hn : isN k e = false) : r = e := by
  have h1 := h.cz
  cases hr : isN k r
  · rw [cz_num hr] at h1; exact h1
  · rw [← h1, isN_cz, hr] at hn; cases hn
theorem run_min20 {P : Program} {y : Nat} (hy : isN .f64 y = false) (ts : Array TypeId) (t : TypeId) (w : World) :
    (Builtin.min_ ts t #[.float .f64 y, .float .f64 4697254411347427328]).run P w = .ok (.float .f64 (fmin20 y)) w := by
  have e1 : Builtin.min_ ts t #[.float .f64 y, .float .f64 4697254411347427328] = Builtin.min2 (.float .f64 y) (.float .f64 4697254411347427328) := by
    simp [Builtin.min_]
  rw [e1]
  unfold Builtin.min2 fmin20
  have hd : FloatKind.f64.decode y = Ieee.double.read y := rfl
  show Sem.run P (match Ieee.double.order y 4697254411347427328 with | none => _ | some .lt => _ | some .gt => _ | some .eq => _) w = _
  unfold isN at hy
  have hy' : (Ieee.double.read y).isNaN = false := hy
  have hc := read_c20
  cases ho : Ieee.double.order y 4697254411347427328 with
  | none =>
    unfold Ieee.Format.order at ho
    rw [hc] at ho
    cases hr : Ieee.double.read y with
    | nan s t => rw [hr] at hy'; simp [Ieee.Datum.isNaN] at hy'
    | infinity s => rw [hr] at ho; simp [Ieee.Datum.order] at ho
    | number s m e => rw [hr] at ho; simp [Ieee.Datum.order] at ho
  | some o =>
    cases o with
    | lt => simp
    | gt => simp
    | eq =>
      have hneg : (FloatKind.f64.decode y).neg = false := by
        rw [hd]
        unfold Ieee.Format.order at ho
        rw [hc] at ho
        cases hr : Ieee.double.read y with
        | nan s t => rw [hr] at hy'; simp [Ieee.Datum.isNaN] at hy'
        | infinity s => rw [hr] at ho; cases s <;> simp [Ieee.Datum.order] at ho
        | number s m e =>
          rw [hr] at ho
          cases s
          · rfl
          · exfalso
            unfold Ieee.Datum.order at ho
            have h1 := Option.some.inj ho
            rw [Int.compare_eq_eq] at h1
            rw [signed_eq, signed_eq] at h1
            simp only [if_true, Bool.false_eq_true, if_false, Int.neg_mul] at h1
            have h2 := Nat.two_pow_pos ((-32 : Int) - min e (-32)).toNat
            have h3 : (0 : Int) < ((4503599627370496 : Nat) : Int) * ((2 ^ ((-32 : Int) - min e (-32)).toNat : Nat) : Int) := Int.mul_pos (by decide) (by exact_mod_cast h2)
            have h4 : (0 : Int) ≤ (m : Int) * ((2 ^ (e - min e (-32)).toNat : Nat) : Int) := Int.mul_nonneg (by omega) (Int.natCast_nonneg _)
            omega
      simp [hneg]
theorem toIntVal {y : Nat} {n : Int} (h : (Ieee.double.read y).toInt .zero = some n) (h1 : -9007199254740992 ≤ n) (h2 : n ≤ 9007199254740992) : floatToIntVal .f64 y .i64 = some n := by
  unfold floatToIntVal
  have hd : FloatKind.f64.decode y = Ieee.double.read y := rfl
  rw [hd, h]
  have a : IntKind.i64.min = -9223372036854775808 := by decide
  have b : IntKind.i64.max = 9223372036854775807 := by decide
  simp only [a, b]
  rw [if_pos (by omega)]
end Go.Fx
namespace Go.Proofs.Ythpdnblkbadhaaa
open Go.RowKit Go.Fx Go.Soft
theorem gFin_read {X : Nat} (h : gFin X = true) : ∃ s m e, Ieee.single.read X = .number s m e := by
  cases hr : Ieee.single.read X with
  | number s m e => exact ⟨s, m, e, rfl⟩
  | nan s t =>
    exfalso
    have hn : isN .f32 X = true := by unfold isN; show (Ieee.single.read X).isNaN = true; rw [hr]; rfl
    have e1 : fop .sub .f32 X X = qn .f32 := by unfold fop; rw [floatBits_nan_left hn]; decide +kernel
    unfold gFin at h
    rw [e1] at h
    exact absurd h (by unfold fcmp; decide +kernel)
  | infinity s =>
    exfalso
    have e1 : fop .sub .f32 X X = qn .f32 := by
      have h2 : floatBits .sub .f32 X X = none := by
        show Ieee.single.sub X X = none
        unfold Ieee.Format.sub
        rw [hr]
        cases s <;> rfl
      unfold fop; rw [h2]; decide +kernel
    unfold gFin at h
    rw [e1] at h
    exact absurd h (by unfold fcmp; decide +kernel)
/-- The place that the program finds, and the one that both keep. -/
def gPlaceBig (x : Nat) : Int := if !gFin x || fcmp .lss .f32 x 3204448256 then -1 else f2i (rte (fmin20 (widen x)))
def gPlace (x : Nat) : Int := min (gPlaceBig x) 25
theorem lss_order {X : Nat} (h : fcmp .lss .f32 X 3204448256 = false) : Ieee.single.order X 3204448256 ≠ some .lt := by
  intro h2
  have h3 : FloatKind.f32.format.order X 3204448256 = some .lt := h2
  unfold fcmp at h
  simp [h3] at h
theorem gPlaceBig_ge (x : Nat) : -9007199254740992 ≤ gPlaceBig x ∧ gPlaceBig x ≤ 9007199254740992 := by
  unfold gPlaceBig
  cases hf : gFin x
  · simp
  · cases hl : fcmp .lss .f32 x 3204448256
    · obtain ⟨s, m, e, hr⟩ := gFin_read hf
      obtain ⟨-, -, n, h1, h2, h3, -⟩ := place_law hr (lss_order hl)
      simp [f2i, h1, h2, h3]
    · simp
theorem call_rte {y : Nat} (hy : isN .f64 y = false) (w : World) : (callFunc 135 #[.float .f64 y]).run Try.prog w = .ok (.value (.float .f64 (rte y))) w := by
  rw [run_callFunc_extern Try.func135 (e := Extern.MathFloor.toIntegral "math.RoundToEven" .even) (by kernel_rfl) (by kernel_rfl) (by kernel_rfl) (by kernel_rfl)]
  have hd : FloatKind.f64.decode y = Ieee.double.read y := rfl
  unfold isN at hy
  have hy' : (Ieee.double.read y).isNaN = false := hy
  have e : (Extern.MathFloor.toIntegral "math.RoundToEven" .even #[.float .f64 y]) = pure (.float .f64 (rte y)) := by
    show (match Ieee.double.read y with
      | .nan s t => _
      | d => (pure (Value.float .f64 (FloatKind.f64.encode (d.integral .even))) : Sem Value)) = pure (Value.float .f64 (rte y))
    unfold rte
    cases hr : Ieee.double.read y with
    | nan s t => rw [hr] at hy'; simp [Ieee.Datum.isNaN] at hy'
    | infinity s => rfl
    | number s m e => rfl
  rw [e]
  rfl
set_option maxRecDepth 20000 in
set_option maxHeartbeats 1000000 in
theorem I_place (x X : Nat) (w : World) (hx : FE .f32 x X) :
    Calls Try.prog 110 #[.float .f32 x] w fun e w' => e = .returned (.int .i64 (gPlaceBig X)) ∧ ∃ n, w' = w.drewN n := by
  cases hf : gFin X
  · have eG := Lib.hid (show gPlaceBig X = -1 by unfold gPlaceBig; rw [hf]; rfl)
    go_enter Try.func110, Try.ntmps110
    go_wp2_with (first
      | (go_at_call 127; with_reducible refine (I_IsFinite _ _ _ hx).mono ?_; rintro e w' ⟨rfl, n, rfl⟩; rw [hf]))
    go_ret
    exact ⟨by rw [eG.out]; rfl, (by first | exact ⟨0, rfl⟩ | exact ⟨_, rfl⟩)⟩
  · cases hl : fcmp .lss .f32 X 3204448256
    · have eG := Lib.hid (show gPlaceBig X = f2i (rte (fmin20 (widen X))) by unfold gPlaceBig; rw [hf, hl]; rfl)
      obtain ⟨s, m, e, hr⟩ := gFin_read hf
      obtain ⟨hW, hR, n, h1, h2, h3, -⟩ := place_law hr (lss_order hl)
      have hm : isN .f64 (fmin20 (widen X)) = false := by
        unfold fmin20; split
        · exact hW
        · exact isN_of_read read_c20
      have en : f2i (rte (fmin20 (widen X))) = n := by unfold f2i; rw [h1]; rfl
      have EN := Lib.hid en
      have c1 := fun (ts : Array TypeId) (t : TypeId) (w : World) => run_min20 (P := Try.prog) hW ts t w
      have c2 := fun (w : World) => call_rte hm w
      have c3 := fun (w : World) => run_convert_float_int (P := Try.prog) w 63 2 .f64 .i64 _ n (by rw [Try.underlying63]; rfl) Try.underlying2 (toIntVal h1 h2 h3)
      clear hR h1 h2 h3 hr en
      go_enter Try.func110, Try.ntmps110
      go_wp2_with (first
        | (go_at_call 127; with_reducible refine (I_IsFinite _ _ _ hx).mono ?_; rintro e w' ⟨rfl, n, rfl⟩; rw [hf])
        | ((with_reducible apply wpList_fcmp); (case hw => rfl); (case hop => rfl); (case hx => rfl); (case hy => rfl); (case hA => assumption); (case hB => exact FE.lit (by decide +kernel)); (case hb => assumption))
        | ((with_reducible apply wpList_widen); (case hw => rfl); (case hs => exact Try.underlying37); (case hd => exact Try.underlying63); (case hx => rfl); (case hA => assumption); intro r n hr; obtain rfl := hr.num hW)
        | simp only [c1, c2, c3])
      go_ret
      exact ⟨by rw [eG.out, EN.out]; rfl, (by first | exact ⟨0, rfl⟩ | exact ⟨_, rfl⟩)⟩
    · have eG := Lib.hid (show gPlaceBig X = -1 by unfold gPlaceBig; rw [hf, hl]; rfl)
      go_enter Try.func110, Try.ntmps110
      go_wp2_with (first
      | (go_at_call 127; with_reducible refine (I_IsFinite _ _ _ hx).mono ?_; rintro e w' ⟨rfl, n, rfl⟩; rw [hf])
      | ((with_reducible apply wpList_fop); (case hw => rfl); (case hop => rfl); (case hx => rfl); (case hy => rfl); (case hA => (first | assumption | exact FE.ofInt _ _ | exact FE.lit (by decide +kernel))); (case hB => (first | assumption | exact FE.ofInt _ _ | exact FE.lit (by decide +kernel))); intro r n hr)
      | ((with_reducible apply wpList_fcmp); (case hw => rfl); (case hop => rfl); (case hx => rfl); (case hy => rfl); (case hA => (first | assumption | exact FE.ofInt _ _ | exact FE.lit (by decide +kernel))); (case hB => (first | assumption | exact FE.ofInt _ _ | exact FE.lit (by decide +kernel))); (case hb => (first | assumption | rfl)))
      | ((with_reducible apply wpList_widen); (case hw => rfl); (case hs => exact Try.underlying37); (case hd => exact Try.underlying63); (case hx => rfl); (case hA => (first | assumption | exact FE.ofInt _ _ | exact FE.lit (by decide +kernel))); intro r n hr)
      | ((with_reducible apply wpList_fneg); (case hw => rfl); (case hx => rfl); (case hA => (first | assumption | exact FE.ofInt _ _ | exact FE.lit (by decide +kernel))); intro r hr))
      go_ret
      exact ⟨by rw [eG.out]; rfl, (by first | exact ⟨0, rfl⟩ | exact ⟨_, rfl⟩)⟩
set_option maxRecDepth 20000 in
set_option maxHeartbeats 1000000 in
theorem S_l03Place (x X : Nat) (w : World) (hx : FE .f32 x X) :
    Calls Try.prog 108 #[.float .f32 x] w fun e w' => e = .returned (.int .i64 (gPlace X)) ∧ ∃ n, w' = w.drewN n := by
  cases hl : fcmp .lss .f32 X 3204448256
  · cases hf : gFin X
    · have eG := Lib.hid (show gPlace X = -1 by unfold gPlace gPlaceBig; rw [hf]; rfl)
      go_enter Try.func108, Try.ntmps108
      go_wp2_with (first
      | (go_at_call 105; with_reducible refine (S_l01Finite _ _ _ hx).mono ?_; rintro e w' ⟨rfl, n, rfl⟩; rw [hf])
      | ((with_reducible apply wpList_fop); (case hw => rfl); (case hop => rfl); (case hx => rfl); (case hy => rfl); (case hA => (first | assumption | exact FE.ofInt _ _ | exact FE.lit (by decide +kernel))); (case hB => (first | assumption | exact FE.ofInt _ _ | exact FE.lit (by decide +kernel))); intro r n hr)
      | ((with_reducible apply wpList_fcmp); (case hw => rfl); (case hop => rfl); (case hx => rfl); (case hy => rfl); (case hA => (first | assumption | exact FE.ofInt _ _ | exact FE.lit (by decide +kernel))); (case hB => (first | assumption | exact FE.ofInt _ _ | exact FE.lit (by decide +kernel))); (case hb => (first | assumption | rfl)))
      | ((with_reducible apply wpList_widen); (case hw => rfl); (case hs => exact Try.underlying37); (case hd => exact Try.underlying63); (case hx => rfl); (case hA => (first | assumption | exact FE.ofInt _ _ | exact FE.lit (by decide +kernel))); intro r n hr)
      | ((with_reducible apply wpList_fneg); (case hw => rfl); (case hx => rfl); (case hA => (first | assumption | exact FE.ofInt _ _ | exact FE.lit (by decide +kernel))); intro r hr))
      go_ret
      exact ⟨by rw [eG.out]; rfl, (by first | exact ⟨0, rfl⟩ | exact ⟨_, rfl⟩)⟩
    · have eG := Lib.hid (show gPlace X = min (f2i (rte (fmin20 (widen X)))) 25 by unfold gPlace gPlaceBig; rw [hf, hl]; rfl)
      obtain ⟨s, m, e, hr⟩ := gFin_read hf
      obtain ⟨hW, hR, n, h1, h2, h3, h4⟩ := place_law hr (lss_order hl)
      have en : f2i (rte (fmin20 (widen X))) = n := by unfold f2i; rw [h1]; rfl
      have EN := Lib.hid en
      have c2 := fun (w : World) => call_rte hW w
      have hRe : FE .f64 (rte (widen X)) (rte (widen X)) := ⟨cz_num hR, by
        unfold rte; exact Ieee.Format.write_lt _ _⟩
      rcases h4 with ⟨h4, h5⟩ | ⟨h4, h5, h6⟩
      · have hc : fcmp .gtr .f64 (rte (widen X)) 4627448617123184640 = true := by
          unfold fcmp
          have : FloatKind.f64.format.order (rte (widen X)) 4627448617123184640 = some .gt := h4
          simp [this]
        have eF := Lib.hid (show min n 25 = 25 by omega)
        clear h1 h2 h3 h4 h5 hr en hR
        go_enter Try.func108, Try.ntmps108
        go_wp2_with (first
          | (go_at_call 105; with_reducible refine (S_l01Finite _ _ _ hx).mono ?_; rintro e w' ⟨rfl, n, rfl⟩; rw [hf])
          | ((with_reducible apply wpList_fcmp); (case hw => rfl); (case hop => rfl); (case hx => rfl); (case hy => rfl); (case hA => assumption); (case hB => exact FE.lit (by decide +kernel)); (case hb => assumption))
          | ((with_reducible apply wpList_widen); (case hw => rfl); (case hs => exact Try.underlying37); (case hd => exact Try.underlying63); (case hx => rfl); (case hA => assumption); intro r n hr; obtain rfl := hr.num hW)
          | simp only [c2])
        go_ret
        exact ⟨by rw [eG.out, EN.out, eF.out]; rfl, (by first | exact ⟨0, rfl⟩ | exact ⟨_, rfl⟩)⟩
      · have hc : fcmp .gtr .f64 (rte (widen X)) 4627448617123184640 = false := by
          unfold fcmp
          have : ¬ FloatKind.f64.format.order (rte (widen X)) 4627448617123184640 = some .gt := h4
          simp [this]
        have eF := Lib.hid (show min n 25 = n by omega)
        have c3 := fun (w : World) => run_convert_float_int (P := Try.prog) w 63 2 .f64 .i64 _ n (by rw [Try.underlying63]; rfl) Try.underlying2 (toIntVal h5 h2 h3)
        clear h1 h2 h3 h4 h5 h6 hr en hR
        go_enter Try.func108, Try.ntmps108
        go_wp2_with (first
          | (go_at_call 105; with_reducible refine (S_l01Finite _ _ _ hx).mono ?_; rintro e w' ⟨rfl, n, rfl⟩; rw [hf])
          | ((with_reducible apply wpList_fcmp); (case hw => rfl); (case hop => rfl); (case hx => rfl); (case hy => rfl); (case hA => assumption); (case hB => exact FE.lit (by decide +kernel)); (case hb => assumption))
          | ((with_reducible apply wpList_widen); (case hw => rfl); (case hs => exact Try.underlying37); (case hd => exact Try.underlying63); (case hx => rfl); (case hA => assumption); intro r n hr; obtain rfl := hr.num hW)
          | simp only [c2, c3])
        go_ret
        exact ⟨by rw [eG.out, EN.out, eF.out]; rfl, (by first | exact ⟨0, rfl⟩ | exact ⟨_, rfl⟩)⟩
  · have eG := Lib.hid (show gPlace X = -1 by unfold gPlace gPlaceBig; rw [hl, Bool.or_true]; rfl)
    go_enter Try.func108, Try.ntmps108
    go_wp2_with (first
      | ((with_reducible apply wpList_fop); (case hw => rfl); (case hop => rfl); (case hx => rfl); (case hy => rfl); (case hA => (first | assumption | exact FE.ofInt _ _ | exact FE.lit (by decide +kernel))); (case hB => (first | assumption | exact FE.ofInt _ _ | exact FE.lit (by decide +kernel))); intro r n hr)
      | ((with_reducible apply wpList_fcmp); (case hw => rfl); (case hop => rfl); (case hx => rfl); (case hy => rfl); (case hA => (first | assumption | exact FE.ofInt _ _ | exact FE.lit (by decide +kernel))); (case hB => (first | assumption | exact FE.ofInt _ _ | exact FE.lit (by decide +kernel))); (case hb => (first | assumption | rfl)))
      | ((with_reducible apply wpList_widen); (case hw => rfl); (case hs => exact Try.underlying37); (case hd => exact Try.underlying63); (case hx => rfl); (case hA => (first | assumption | exact FE.ofInt _ _ | exact FE.lit (by decide +kernel))); intro r n hr)
      | ((with_reducible apply wpList_fneg); (case hw => rfl); (case hx => rfl); (case hA => (first | assumption | exact FE.ofInt _ _ | exact FE.lit (by decide +kernel))); intro r hr))
    go_ret
    exact ⟨by rw [eG.out]; rfl, (by first | exact ⟨0, rfl⟩ | exact ⟨_, rfl⟩)⟩
def gRound (x : Nat) : Nat := floatOfInt .f32 (gPlace x)
set_option maxRecDepth 20000 in
set_option maxHeartbeats 1000000 in
theorem I_RoundMap_1 (W H x y b1 ca : Nat) (a : Option Addr) (xs : List Nat) (w : World) (m1 : MP w b1 W H a xs.length ca xs)
    (hW : W ≤ 24) (hH : H ≤ 24) (hx : x < W) (hy : y < H) (hn : xs.length = W * H) :
    Calls Try.prog 109 #[.int .i64 x, .int .i64 y, .pointer (some ⟨b1, 0, none⟩)] w fun e w' => (∃ r, e = .returned (.float .f32 r) ∧ FE .f32 r (gRound (xs.getD (x + W * y) 0))) ∧ Gr w w' := by
  have HA := I_Map_at W H x y b1 _ _ xs _ m1 hW hH hx hy hn
  clear m1 hn
  generalize xs.getD (x + W * y) 0 = v at *
  have HA := Lib.hid HA
  by_cases hp : gPlaceBig v ≤ 25
  · have eG := Lib.hid (show gRound v = floatOfInt .f32 (gPlaceBig v) by unfold gRound gPlace; rw [Int.min_eq_left hp])
    go_enter Try.func109, Try.ntmps109
    go_wp2_with (first
      | (go_at_call 84; refine HA.out.mono ?_; rintro e w' ⟨r, rfl, hr, n, rfl⟩)
      | (go_at_call 110; with_reducible refine (I_place _ _ _ (by assumption)).mono ?_; rintro e w' ⟨rfl, n, rfl⟩))
    all_goals
      go_ret
      exact ⟨⟨_, rfl, by rw [eG.out]; first | exact FE.ofInt _ _ | (rw [show gPlaceBig v = 25 by omega]; exact FE.ofInt _ _)⟩, (by (try show Gr _ _); repeat (with_reducible first | exact Gr.refl _ | refine Gr.drewN ?_ _ | refine Gr.grew ?_ _ _ | refine Gr.alloc ?_ _ | refine Gr.drew ?_))⟩
  · have eG := Lib.hid (show gRound v = floatOfInt .f32 25 by unfold gRound gPlace; rw [Int.min_eq_right (by omega)])
    go_enter Try.func109, Try.ntmps109
    go_wp2_with (first
      | (go_at_call 84; refine HA.out.mono ?_; rintro e w' ⟨r, rfl, hr, n, rfl⟩)
      | (go_at_call 110; with_reducible refine (I_place _ _ _ (by assumption)).mono ?_; rintro e w' ⟨rfl, n, rfl⟩))
    all_goals
      go_ret
      exact ⟨⟨_, rfl, by rw [eG.out]; exact FE.ofInt _ _⟩, (by (try show Gr _ _); repeat (with_reducible first | exact Gr.refl _ | refine Gr.drewN ?_ _ | refine Gr.grew ?_ _ _ | refine Gr.alloc ?_ _ | refine Gr.drew ?_))⟩
set_option maxRecDepth 20000 in
set_option maxHeartbeats 800000 in
theorem S_RoundMap (W H : Int) (a : Option Addr) (ca : Nat) (xs : List Nat) (w : World) (fx : FSl w a xs.length xs) (hn : xs.length ≤ 1048576) :
    Calls Try.prog 49 #[.agg #[.int .i64 W, .int .i64 H, .slice a xs.length ca]] w
      (PostP w (gW (gPic W H xs.length) W) (gW (gPic W H xs.length) H) (gPic W H xs.length) (gVals (gPic W H xs.length) (xs.length) (fun i => gRound (xs.getD i 0)))) := by
  have Fx := Lib.hid fx
  clear fx
  have hn' : xs.length ≤ maxLen := by unfold maxLen; omega
  cases hT : gPic W H xs.length
  · go_enter Try.func49, Try.ntmps49
    go_wp2_with (first
      | (go_at_call 80; with_reducible refine (S_l03IsMap W H a _ ca _ _ _ hn' (by first | (simp (maxDischargeDepth := 12) [go_sem]; done) | (simp (maxDischargeDepth := 12) [go_sem, *]; done)) (by first | (simp (maxDischargeDepth := 12) [go_sem]; done) | (simp (maxDischargeDepth := 12) [go_sem, *]; done)) (by first | (simp (maxDischargeDepth := 12) [go_sem]; done) | (simp (maxDischargeDepth := 12) [go_sem, *]; done))).mono ?_; rintro e w' ⟨rfl, n, rfl⟩; rw [hT]))
    exact bodyPost_ret (v := .tuple #[.agg #[.int .i64 0, .int .i64 0, .slice none 0 0], .bool false]) (by simp [results, Try.results49, go_sem]) rfl ⟨⟨_, rfl, FOwn.nil _ _ _⟩, (by (try show Gr _ _); repeat (with_reducible first | exact Gr.refl _ | refine Gr.drewN ?_ _ | refine Gr.grew ?_ _ _ | refine Gr.alloc ?_ _ | refine Gr.drew ?_))⟩
  · have hp1 := (gPic_true hT).2
    obtain ⟨s1, s2, s3, s4, s5, s6⟩ := gSize_true (gPic_true hT).1
    obtain ⟨W, rfl⟩ := Int.eq_ofNat_of_zero_le (show 0 ≤ W by omega)
    obtain ⟨H, rfl⟩ := Int.eq_ofNat_of_zero_le (show 0 ≤ H by omega)
    have hpos : 0 < xs.length := by omega
    obtain ⟨bx, ox, rfl⟩ := Fx.out.ptr hpos
    clear hp1 s5 s6
    go_enter Try.func49, Try.ntmps49
    go_wp2_with (first
      | (go_at_call 80; with_reducible refine (S_l03IsMap W H (some ⟨bx, ox, none⟩) _ ca _ _ _ hn' (by first | (simp (maxDischargeDepth := 12) [go_sem]; done) | (simp (maxDischargeDepth := 12) [go_sem, *]; done)) (by first | (simp (maxDischargeDepth := 12) [go_sem]; done) | (simp (maxDischargeDepth := 12) [go_sem, *]; done)) (by first | (simp (maxDischargeDepth := 12) [go_sem]; done) | (simp (maxDischargeDepth := 12) [go_sem, *]; done))).mono ?_; rintro e w' ⟨rfl, n, rfl⟩; rw [hT])
      | (go_at_call 100; refine (S_l05Own W H _ ca _ xs _ ⟨(by first | (simp (maxDischargeDepth := 12) [go_sem]; done) | (simp (maxDischargeDepth := 12) [go_sem, *]; done)), (by first | (simp (maxDischargeDepth := 12) [go_sem]; done) | (simp (maxDischargeDepth := 12) [go_sem, *]; done)), (by first | (simp (maxDischargeDepth := 12) [go_sem]; done) | (simp (maxDischargeDepth := 12) [go_sem, *]; done)), Fx.out.keep (by (repeat (with_reducible first | exact Kp.refl _ | exact kp_same | exact kp_app1 | exact kp_app2 | exact kp_app3 | refine Kp.grew ?_ _ _ | refine Kp.drewN ?_ _ | refine Kp.drew ?_ | refine Kp.alloc ?_ _)))⟩ hpos hn).mono ?_; rintro e w1 ⟨⟨v0, rfl, ho0⟩, os0, m0, rfl⟩; obtain ⟨g, cg, rfl, -⟩ := ho0.ptr hpos; have Ho0 := Lib.hid ho0; clear ho0))
    go_loopw [5, 13] (fun s5 i wr => ∃ k : Nat, k ≤ xs.length ∧ i = .int .i64 k ∧ Blk wr (w.heap.size) [.int .i64 W, .int .i64 H, .slice (some ⟨bx, ox, none⟩) xs.length ca] 43 ∧ Blk wr (w.heap.size + 1) [.int .i64 0, .int .i64 0, .slice none 0 0] 43 ∧ Blk wr (w.heap.size + 1 + 1 + os0.size) [.int .i64 W, .int .i64 H, .slice (some ⟨g, 0, none⟩) (xs.length) cg] 43 ∧ FOwn wr (w.heap.size + 1 + 1) 37 (.slice (some ⟨g, 0, none⟩) (xs.length) cg) (upto (xs.length) k (fun i => gRound (xs.getD i 0)) (fun i => xs.getD i 0)) ∧ Gr w wr) (fun _ i _ => xs.length - (intOf i).toNat)
    case atStart => exact ⟨0, Nat.zero_le _, rfl, (by repeat (with_reducible first | assumption | exact Blk.atNew (by simp) | refine Blk.alloc ?_ _ | refine Blk.grew ?_ _ _ | refine Blk.drewN ?_ _ | refine Blk.drew ?_)), (by repeat (with_reducible first | assumption | exact Blk.atNew (by simp) | refine Blk.alloc ?_ _ | refine Blk.grew ?_ _ _ | refine Blk.drewN ?_ _ | refine Blk.drew ?_)), (by repeat (with_reducible first | assumption | exact Blk.atNew (by simp) | refine Blk.alloc ?_ _ | refine Blk.grew ?_ _ _ | refine Blk.drewN ?_ _ | refine Blk.drew ?_)), (by have h2 := Ho0.out.base (B' := w.heap.size + 1 + 1) (by simp <;> omega); (try simp only [grew_drewN] at h2); rw [upto_zero]; rw [lst_of]; exact h2.gr (by (try show Gr _ _); repeat (with_reducible first | exact Gr.refl _ | refine Gr.drewN ?_ _ | refine Gr.grew ?_ _ _ | refine Gr.alloc ?_ _ | refine Gr.drew ?_))), (by (try show Gr _ _); repeat (with_reducible first | exact Gr.refl _ | refine Gr.drewN ?_ _ | refine Gr.grew ?_ _ _ | refine Gr.alloc ?_ _ | refine Gr.drew ?_))⟩
    case round =>
      clear Ho0
      obtain ⟨k, hk, rfl, b0, b1, bO, ho, hg⟩ := hrel
      by_cases hlt : k < xs.length
      · obtain ⟨ro, hco, -⟩ := ho.get k (by simp; exact hlt)
        have hz := ho.free k
        have o2 := bO.cellv 2
        have hgb : g ≠ w.heap.size + 1 + 1 + os0.size := by
          intro e
          exact ho.okb (.inr (bO.okb (e := 37) (by decide))) (by simp [Value.ownBlock, e])
        have hg3 : w.heap.size + 1 + 1 ≤ g := (ho.block rfl).1
        obtain ⟨rx, hcx, hrx⟩ := (Fx.out.keep hg.kp).get k hlt
        have m2 := b0.cellv 2
        have Hgb := Lib.hid hgb
        have Hg3 := Lib.hid hg3
        have B0 := Lib.hid b0
        have B1 := Lib.hid b1
        have BO := Lib.hid bO
        have Ho := Lib.hid ho
        have Hg := Lib.hid hg
        clear b0 b1 bO ho hg hgb hg3
        obtain ⟨v, hv⟩ : ∃ v, v = xs.getD k 0 := ⟨_, rfl⟩
        rw [← hv] at hrx
        have Hv := Lib.hid hv
        clear hv
        go_wp2
        apply region_drew 10
        case hm => kernel_rfl
        case hB => kernel_rfl
        simp only [List.take_succ_cons, List.take_zero, List.drop_succ_cons, List.drop_zero]
        repeat (first
          | ((with_reducible apply wpSoft_calleq (f := 108)); (case hw => rfl); (case hc => exact Try.call108); (case hv => ((conv => lhs; simp [Act.eval]); try rfl)); (case hS => (rintro _ ⟨m, rfl⟩; with_reducible refine (S_l03Place _ _ _ (by assumption)).mono ?_; rintro e w' ⟨rfl, n, rfl⟩; exact ⟨rfl, ⟨_, World.drewN_drewN _ _ _⟩⟩)); (simp only [Act.put, List.setIfInBounds_toArray, List.set_cons_succ, List.set_cons_zero]))
          | (apply wpSoft_skip rfl; simp only [Act.put, List.setIfInBounds_toArray, List.set_cons_succ, List.set_cons_zero])
          | (apply wpSoft_nilCheck rfl rfl; simp only [Act.put, List.setIfInBounds_toArray, List.set_cons_succ, List.set_cons_zero])
          | ((with_reducible apply wpSoft_fop); (case hw => rfl); (case hD => exact closed_drew); (case hop => rfl); (case hx => rfl); (case hy => rfl); (case hA => (first | assumption | exact FE.ofInt _ _ | exact FE.lit (by decide +kernel))); (case hB => (first | assumption | exact FE.ofInt _ _ | exact FE.lit (by decide +kernel))); (intro r hr; simp only [Act.put, List.setIfInBounds_toArray, List.set_cons_succ, List.set_cons_zero]))

          | ((with_reducible apply wpSoft_widen); (case hw => rfl); (case hD => exact closed_drew); (case hs => exact Try.underlying37); (case hd => exact Try.underlying63); (case hx => rfl); (case hA => (first | assumption | exact FE.ofInt _ _ | exact FE.lit (by decide +kernel))); (intro r hr; simp only [Act.put, List.setIfInBounds_toArray, List.set_cons_succ, List.set_cons_zero]))
          | ((with_reducible apply wpSoft_fneg); (case hw => rfl); (case hx => rfl); (case hA => (first | assumption | exact FE.ofInt _ _ | exact FE.lit (by decide +kernel))); (intro r hr; simp only [Act.put, List.setIfInBounds_toArray, List.set_cons_succ, List.set_cons_zero]))
          | ((with_reducible apply wpSoft_fcmp); (case hw => rfl); (case hop => rfl); (case hx => rfl); (case hy => rfl); (case hA => (first | assumption | exact FE.ofInt _ _ | exact FE.lit (by decide +kernel))); (case hB => (first | assumption | exact FE.ofInt _ _ | exact FE.lit (by decide +kernel))); (case hb => (first | assumption | rfl)); simp only [Act.put, List.setIfInBounds_toArray, List.set_cons_succ, List.set_cons_zero])
          | (apply wpSoft_q rfl rfl; intro K hK; go_big_quiet_op; go_big_quiet_on))
        with_reducible apply wpSoft_nil
        intro m
        go_wp2
        go_roundw
        case rel =>
          have hx := Hg3.out
          refine ⟨k + 1, by omega, by go_num, B0.out.setG (by (try show Gr _ _); repeat (with_reducible first | exact Gr.refl _ | refine Gr.drewN ?_ _ | refine Gr.grew ?_ _ _ | refine Gr.alloc ?_ _ | refine Gr.drew ?_)) (by simp; omega), B1.out.setG (by (try show Gr _ _); repeat (with_reducible first | exact Gr.refl _ | refine Gr.drewN ?_ _ | refine Gr.grew ?_ _ _ | refine Gr.alloc ?_ _ | refine Gr.drew ?_)) (by simp; omega), BO.out.setG (by (try show Gr _ _); repeat (with_reducible first | exact Gr.refl _ | refine Gr.drewN ?_ _ | refine Gr.grew ?_ _ _ | refine Gr.alloc ?_ _ | refine Gr.drew ?_)) Hgb.out, ?_, Hg.out.setG (by (try show Gr _ _); repeat (with_reducible first | exact Gr.refl _ | refine Gr.drewN ?_ _ | refine Gr.grew ?_ _ _ | refine Gr.alloc ?_ _ | refine Gr.drew ?_)) (by simp; omega)⟩
          rw [← upto_set (G := fun i => gRound (xs.getD i 0)) (O := fun i => xs.getD i 0) hlt]
          refine FOwn.gr ?_ (by (try show Gr _ _); repeat (with_reducible first | exact Gr.refl _ | refine Gr.drewN ?_ _ | refine Gr.grew ?_ _ _ | refine Gr.alloc ?_ _ | refine Gr.drew ?_))
          rw [show gRound (xs.getD k 0) = floatOfInt .f32 (gPlace v) by rw [← Hv.out]; rfl]
          exact Ho.out.store (k := k) (by first | assumption | exact FE.ofInt _ _ | exact FE.lit (by decide +kernel))
        case measure => simp [intOf]; omega
      · obtain rfl : k = xs.length := by omega
        have p0 := bO.cellv 0
        have p1 := bO.cellv 1
        have p2 := bO.cellv 2
        have q0 := b1.cellv 0
        have q1 := b1.cellv 1
        have q2 := b1.cellv 2
        have z0 := b1.frozen 0
        have z1 := b1.frozen 1
        have z2 := b1.frozen 2
        have Ho := Lib.hid ho
        have Hg := Lib.hid hg
        clear b0 b1 bO ho hg
        go_wp2
        refine bodyPost_ret (v := .tuple #[.agg #[.int .i64 W, .int .i64 H, .slice (some ⟨g, 0, none⟩) (xs.length) cg], .bool true]) (by simp [results, Try.results49, go_sem, *]) rfl ⟨⟨_, rfl, ?_⟩, ?_⟩
        · have h := Ho.out
          rw [upto_all] at h
          show FOwn _ _ _ _ (lst (xs.length) _)
          exact FOwn.base (B := w.heap.size + 1 + 1) (by repeat (with_reducible first | assumption | refine FOwn.setOther ?_ _ (by simp <;> omega))) (by omega)
        · have h := Hg.out
          exact (by repeat (with_reducible first | assumption | refine Gr.setCell ?_ (by simp <;> omega) _))
theorem tells_RoundMap (W H b1 ca : Nat) (a : Option Addr) (xs : List Nat) (w : World) (m1 : MP w b1 W H a xs.length ca xs) (hW : W ≤ 24) (hH : H ≤ 24) (hn : xs.length = W * H) :
    Tells w 109 #[.pointer (some ⟨b1, 0, none⟩)] W H (fun x y => gRound (xs.getD (x + W * y) 0)) :=
  ⟨Try.call109, fun x y hx hy w1 g => I_RoundMap_1 W H x y b1 ca a xs w1 (m1.gr g) hW hH hx hy hn⟩
set_option maxRecDepth 20000 in
set_option maxHeartbeats 600000 in
theorem I_RoundMap (W H : Int) (a : Option Addr) (ca : Nat) (xs : List Nat) (w : World) (fx : FSl w a xs.length xs) (hn : xs.length ≤ 1048576) :
    Calls Try.prog 50 #[.agg #[.int .i64 W, .int .i64 H, .slice a xs.length ca]] w
      (PostP w (gW (gPic W H xs.length) W) (gW (gPic W H xs.length) H) (gPic W H xs.length) (gVals (gPic W H xs.length) xs.length (fun i => gRound (xs.getD i 0)))) := by
  have hn' : xs.length ≤ maxLen := by unfold maxLen; omega
  have EG : (if gPic W H xs.length then grid W.toNat (fun x y => gRound (xs.getD (x + W.toNat * y) 0)) xs.length else []) = gVals (gPic W H xs.length) xs.length (fun i => gRound (xs.getD i 0)) := by
    unfold gVals
    split
    · exact lst_congr fun i _ => by simp only [Nat.mod_add_div]
    · rfl
  obtain ⟨L, hL⟩ : ∃ L, L = gVals (gPic W H xs.length) xs.length (fun i => gRound (xs.getD i 0)) := ⟨_, rfl⟩
  have HR := Lib.hid (fun (u : World) (b1 : Nat) (m1 : MP u b1 W H a xs.length ca xs) =>
    I_remap W H a ca xs 109 #[.pointer (some ⟨b1, 0, none⟩)] (fun x y => gRound (xs.getD (x + W.toNat * y) 0)) u m1.fs hn'
      (fun W' H' h1 h2 _ h3 _ h4 e1 => by
        subst h1 h2
        rw [Int.toNat_natCast]
        exact tells_RoundMap W' H' b1 ca a xs u m1 h3 h4 e1))
  rw [EG, ← hL] at HR
  rw [← hL]
  have Fx := Lib.hid fx
  clear hL EG fx
  cases hP : gPic W H xs.length
  all_goals
    rw [hP] at HR
    go_enter Try.func50, Try.ntmps50
    go_wp2_with fail
    refine (HR.out _ w.heap.size ⟨(by first | (simp (maxDischargeDepth := 12) [go_sem]; done) | (simp (maxDischargeDepth := 12) [go_sem, *]; done)), (by first | (simp (maxDischargeDepth := 12) [go_sem]; done) | (simp (maxDischargeDepth := 12) [go_sem, *]; done)), (by first | (simp (maxDischargeDepth := 12) [go_sem]; done) | (simp (maxDischargeDepth := 12) [go_sem, *]; done)), Fx.out.keep (by (repeat (with_reducible first | exact Kp.refl _ | exact kp_same | exact kp_app1 | exact kp_app2 | exact kp_app3 | refine Kp.grew ?_ _ _ | refine Kp.drewN ?_ _ | refine Kp.drew ?_ | refine Kp.alloc ?_ _)))⟩).mono ?_
    rintro e u1 ⟨⟨v0, rfl, ho⟩, g⟩
    have k : Gr w u1 := Gr.trans (by (try show Gr _ _); repeat (with_reducible first | exact Gr.refl _ | refine Gr.drewN ?_ _ | refine Gr.grew ?_ _ _ | refine Gr.alloc ?_ _ | refine Gr.drew ?_)) g
    have B6 := Lib.hid (Blk.gr (show Blk _ (w.heap.size + 1) [.int .i64 0, .int .i64 0, .slice none 0 0] 43 from (by repeat (with_reducible first | assumption | exact Blk.atNew (by simp) | refine Blk.alloc ?_ _ | refine Blk.grew ?_ _ _ | refine Blk.drewN ?_ _ | refine Blk.drew ?_))) g)
    obtain ⟨a1, c1, rfl, -, -⟩ := ho.sl
    have Ho := Lib.hid ho
    have G := Lib.hid k
    clear ho g k
    have q0 := B6.out.cellv 0
    have q1 := B6.out.cellv 1
    have q2 := B6.out.cellv 2
    have z0 := B6.out.frozen 0
    have z1 := B6.out.frozen 1
    have z2 := B6.out.frozen 2
    go_wp2
    refine bodyPost_ret (v := .tuple #[.agg #[.int .i64 _, .int .i64 _, .slice a1 _ c1], .bool _]) (by simp [results, Try.results50, go_sem, *]; rfl) rfl ⟨⟨_, rfl, ?_⟩, ?_⟩
    · have h := Ho.out.base (B' := w.heap.size + 1 + 1) (by simp)
      exact FOwn.base (B := w.heap.size + 1 + 1) (by repeat (with_reducible first | assumption | refine FOwn.setOther ?_ _ (by simp <;> omega))) (by omega)
    · have h := G.out
      exact (by repeat (with_reducible first | assumption | refine Gr.setCell ?_ (by simp <;> omega) _))
end Go.Proofs.Ythpdnblkbadhaaa
