/- Contracts: the place of a value; RoundMap. MAXREC -/
import Derived.Test.YtomlfdkcgaogcaaProg
import Derived.Test.YtomlfdkcgaogcaaC15
import Derived.Test.YtomlfdkcgaogcaaPl
import Derived.Laws.Externs
namespace Go.Fx
open Go Go.Soft Go.RowKit
theorem FE.num {k : FloatKind} {r e : Nat} (h : FE k r e) (hn : isN k e = false) : r = e := by
  have h1 := h.cz
  cases hr : isN k r
  · rw [cz_num hr] at h1; exact h1
  · rw [← h1, isN_cz, hr] at hn; cases hn
theorem run_min20 {P : Program} {y : Nat} (hy : isN .f64 y = false) (ts : Array TypeId) (t : TypeId) (w : World) :
    (Builtin.min_ ts t #[.float .f64 y, .float .f64 4697254411347427328]).run P w = .ok (.float .f64 (fmin20 y)) w := by
  have e1 : Builtin.min_ ts t #[.float .f64 y, .float .f64 4697254411347427328] = Builtin.min2 (.float .f64 y) (.float .f64 4697254411347427328) := by
    simp [Builtin.min_]
  rw [e1]
  unfold Builtin.min2 fmin20
  have hd : FloatKind.f64.decode y = Ieee.double.read y := rfl
  show Sem.run P (match Ieee.double.order y 4697254411347427328 with | none => _ | some .lt => _ | some .gt => _ | some .eq => _) w = _
  unfold isN at hy
  have hy' : (Ieee.double.read y).isNaN = false := hy
  have hc := read_c20
  cases ho : Ieee.double.order y 4697254411347427328 with
  | none =>
    unfold Ieee.Format.order at ho
    rw [hc] at ho
    cases hr : Ieee.double.read y with
    | nan s t => rw [hr] at hy'; simp [Ieee.Datum.isNaN] at hy'
    | infinity s => rw [hr] at ho; simp [Ieee.Datum.order] at ho
    | number s m e => rw [hr] at ho; simp [Ieee.Datum.order] at ho
  | some o =>
    cases o with
    | lt => simp
    | gt => simp
    | eq =>
      have hneg : (FloatKind.f64.decode y).neg = false := by
        rw [hd]
        unfold Ieee.Format.order at ho
        rw [hc] at ho
        cases hr : Ieee.double.read y with
        | nan s t => rw [hr] at hy'; simp [Ieee.Datum.isNaN] at hy'
        | infinity s => rw [hr] at ho; cases s <;> simp [Ieee.Datum.order] at ho
        | number s m e =>
          rw [hr] at ho
          cases s
          · rfl
          · exfalso
            unfold Ieee.Datum.order at ho
            have h1 := Option.some.inj ho
            rw [Int.compare_eq_eq] at h1
            rw [signed_eq, signed_eq] at h1
            simp only [if_true, Bool.false_eq_true, if_false, Int.neg_mul] at h1
            have h2 := Nat.two_pow_pos ((-32 : Int) - min e (-32)).toNat
            have h3 : (0 : Int) < ((4503599627370496 : Nat) : Int) * ((2 ^ ((-32 : Int) - min e (-32)).toNat : Nat) : Int) := Int.mul_pos (by decide) (by exact_mod_cast h2)
            have h4 : (0 : Int) ≤ (m : Int) * ((2 ^ (e - min e (-32)).toNat : Nat) : Int) := Int.mul_nonneg (by omega) (Int.natCast_nonneg _)
            omega
      simp [hneg]
theorem toIntVal {y : Nat} {n : Int} (h : (Ieee.double.read y).toInt .zero = some n) (h1 : -9007199254740992 ≤ n) (h2 : n ≤ 9007199254740992) : floatToIntVal .f64 y .i64 = some n := by
  unfold floatToIntVal
  have hd : FloatKind.f64.decode y = Ieee.double.read y := rfl
  rw [hd, h]
  have a : IntKind.i64.min = -9223372036854775808 := by decide
  have b : IntKind.i64.max = 9223372036854775807 := by decide
  simp only [a, b]
  rw [if_pos (by omega)]
end Go.Fx
namespace Go.Proofs.Ytomlfdkcgaogcaa
open Go.RowKit Go.Fx Go.Soft
theorem gFin_read {X : Nat} (h : gFin X = true) : ∃ s m e, Ieee.single.read X = .number s m e := by
  cases hr : Ieee.single.read X with
  | number s m e => exact ⟨s, m, e, rfl⟩
  | nan s t =>
    exfalso
    have hn : isN .f32 X = true := by unfold isN; show (Ieee.single.read X).isNaN = true; rw [hr]; rfl
    have e1 : fop .sub .f32 X X = qn .f32 := by unfold fop; rw [floatBits_nan_left hn]; decide +kernel
    unfold gFin at h
    rw [e1] at h
    exact absurd h (by unfold fcmp; decide +kernel)
  | infinity s =>
    exfalso
    have e1 : fop .sub .f32 X X = qn .f32 := by
      have h2 : floatBits .sub .f32 X X = none := by
        show Ieee.single.sub X X = none
        unfold Ieee.Format.sub
        rw [hr]
        cases s <;> rfl
      unfold fop; rw [h2]; decide +kernel
    unfold gFin at h
    rw [e1] at h
    exact absurd h (by unfold fcmp; decide +kernel)
/-- The place that the program finds, and the one that both keep. -/
def gPlaceBig (x : Nat) : Int := if !gFin x || fcmp .lss .f32 x 3204448256 then -1 else f2i (rte (fmin20 (widen x)))
def gPlace (x : Nat) : Int := min (gPlaceBig x) 25
theorem lss_order {X : Nat} (h : fcmp .lss .f32 X 3204448256 = false) : Ieee.single.order X 3204448256 ≠ some .lt := by
  intro h2
  have h3 : FloatKind.f32.format.order X 3204448256 = some .lt := h2
  unfold fcmp at h
  simp [h3] at h
theorem gPlaceBig_ge (x : Nat) : -9007199254740992 ≤ gPlaceBig x ∧ gPlaceBig x ≤ 9007199254740992 := by
  unfold gPlaceBig
  cases hf : gFin x
  · simp
  · cases hl : fcmp .lss .f32 x 3204448256
    · obtain ⟨s, m, e, hr⟩ := gFin_read hf
      obtain ⟨-, -, n, h1, h2, h3, -⟩ := place_law hr (lss_order hl)
      simp [f2i, h1, h2, h3]
    · simp
theorem call_rte {y : Nat} (hy : isN .f64 y = false) (w : World) : (callFunc 121 #[.float .f64 y]).run Try.prog w = .ok (.value (.float .f64 (rte y))) w := by
  rw [run_callFunc_extern Try.func121 (e := Extern.MathFloor.toIntegral "math.RoundToEven" .even) (by kernel_rfl) (by kernel_rfl) (by kernel_rfl) (by kernel_rfl)]
  have hd : FloatKind.f64.decode y = Ieee.double.read y := rfl
  unfold isN at hy
  have hy' : (Ieee.double.read y).isNaN = false := hy
  have e : (Extern.MathFloor.toIntegral "math.RoundToEven" .even #[.float .f64 y]) = pure (.float .f64 (rte y)) := by
    show (match Ieee.double.read y with
      | .nan s t => _
      | d => (pure (Value.float .f64 (FloatKind.f64.encode (d.integral .even))) : Sem Value)) = pure (Value.float .f64 (rte y))
    unfold rte
    cases hr : Ieee.double.read y with
    | nan s t => rw [hr] at hy'; simp [Ieee.Datum.isNaN] at hy'
    | infinity s => rfl
    | number s m e => rfl
  rw [e]
  rfl
set_option maxRecDepth 20000 in
set_option maxHeartbeats 1000000 in
theorem I_place (x X : Nat) (w : World) (hx : FE .f32 x X) :
    Calls Try.prog 97 #[.float .f32 x] w fun e w' => e = .returned (.int .i64 (gPlaceBig X)) ∧ ∃ n, w' = w.drewN n := by
  cases hf : gFin X
  · have eG := Lib.hid (show gPlaceBig X = -1 by unfold gPlaceBig; rw [hf]; rfl)
    go_enter Try.func97, Try.ntmps97
    go_wp2_with (first
      | (go_at_call 125; with_reducible refine (I_IsFinite _ _ _ hx).mono ?_; rintro e w' ⟨rfl, n, rfl⟩; rw [hf]))
    go_ret
    exact ⟨by rw [eG.out]; rfl, (by first | exact ⟨0, rfl⟩ | exact ⟨_, rfl⟩)⟩
  · cases hl : fcmp .lss .f32 X 3204448256
    · have eG := Lib.hid (show gPlaceBig X = f2i (rte (fmin20 (widen X))) by unfold gPlaceBig; rw [hf, hl]; rfl)
      obtain ⟨s, m, e, hr⟩ := gFin_read hf
      obtain ⟨hW, hR, n, h1, h2, h3, -⟩ := place_law hr (lss_order hl)
      have hm : isN .f64 (fmin20 (widen X)) = false := by
        unfold fmin20; split
        · exact hW
        · exact isN_of_read read_c20
      have en : f2i (rte (fmin20 (widen X))) = n := by unfold f2i; rw [h1]; rfl
      have EN := Lib.hid en
      have c1 := fun (ts : Array TypeId) (t : TypeId) (w : World) => run_min20 (P := Try.prog) hW ts t w
      have c2 := fun (w : World) => call_rte hm w
      have c3 := fun (w : World) => run_convert_float_int (P := Try.prog) w 61 2 .f64 .i64 _ n (by rw [Try.underlying61]; rfl) Try.underlying2 (toIntVal h1 h2 h3)
      clear hR h1 h2 h3 hr en
      go_enter Try.func97, Try.ntmps97
      go_wp2_with (first
        | (go_at_call 125; with_reducible refine (I_IsFinite _ _ _ hx).mono ?_; rintro e w' ⟨rfl, n, rfl⟩; rw [hf])
        | ((with_reducible apply wpList_fcmp); (case hw => rfl); (case hop => rfl); (case hx => rfl); (case hy => rfl); (case hA => assumption); (case hB => exact FE.lit (by decide +kernel)); (case hb => assumption))
        | ((with_reducible apply wpList_widen); (case hw => rfl); (case hs => exact Try.underlying25); (case hd => exact Try.underlying61); (case hx => rfl); (case hA => assumption); intro r n hr; obtain rfl := hr.num hW)
        | simp only [c1, c2, c3])
      go_ret
      exact ⟨by rw [eG.out, EN.out]; rfl, (by first | exact ⟨0, rfl⟩ | exact ⟨_, rfl⟩)⟩
    · have eG := Lib.hid (show gPlaceBig X = -1 by unfold gPlaceBig; rw [hf, hl]; rfl)
      go_enter Try.func97, Try.ntmps97
      go_wp2_with (first
      | (go_at_call 125; with_reducible refine (I_IsFinite _ _ _ hx).mono ?_; rintro e w' ⟨rfl, n, rfl⟩; rw [hf])
      | ((with_reducible apply wpList_fop); (case hw => rfl); (case hop => rfl); (case hx => rfl); (case hy => rfl); (case hA => (first | assumption | exact FE.ofInt _ _ | exact FE.lit (by decide +kernel))); (case hB => (first | assumption | exact FE.ofInt _ _ | exact FE.lit (by decide +kernel))); intro r n hr)
      | ((with_reducible apply wpList_fcmp); (case hw => rfl); (case hop => rfl); (case hx => rfl); (case hy => rfl); (case hA => (first | assumption | exact FE.ofInt _ _ | exact FE.lit (by decide +kernel))); (case hB => (first | assumption | exact FE.ofInt _ _ | exact FE.lit (by decide +kernel))); (case hb => (first | assumption | rfl)))
      | ((with_reducible apply wpList_widen); (case hw => rfl); (case hs => exact Try.underlying25); (case hd => exact Try.underlying61); (case hx => rfl); (case hA => (first | assumption | exact FE.ofInt _ _ | exact FE.lit (by decide +kernel))); intro r n hr)
      | ((with_reducible apply wpList_fneg); (case hw => rfl); (case hx => rfl); (case hA => (first | assumption | exact FE.ofInt _ _ | exact FE.lit (by decide +kernel))); intro r hr))
      go_ret
      exact ⟨by rw [eG.out]; rfl, (by first | exact ⟨0, rfl⟩ | exact ⟨_, rfl⟩)⟩
set_option maxRecDepth 20000 in
set_option maxHeartbeats 1000000 in
theorem S_l03Place (x X : Nat) (w : World) (hx : FE .f32 x X) :
    Calls Try.prog 87 #[.float .f32 x] w fun e w' => e = .returned (.int .i64 (gPlace X)) ∧ ∃ n, w' = w.drewN n := by
  cases hl : fcmp .lss .f32 X 3204448256
  · cases hf : gFin X
    · have eG := Lib.hid (show gPlace X = -1 by unfold gPlace gPlaceBig; rw [hf]; rfl)
      go_enter Try.func87, Try.ntmps87
      go_wp2_with (first
      | (go_at_call 120; with_reducible refine (S_l01Finite _ _ _ hx).mono ?_; rintro e w' ⟨rfl, n, rfl⟩; rw [hf])
      | ((with_reducible apply wpList_fop); (case hw => rfl); (case hop => rfl); (case hx => rfl); (case hy => rfl); (case hA => (first | assumption | exact FE.ofInt _ _ | exact FE.lit (by decide +kernel))); (case hB => (first | assumption | exact FE.ofInt _ _ | exact FE.lit (by decide +kernel))); intro r n hr)
      | ((with_reducible apply wpList_fcmp); (case hw => rfl); (case hop => rfl); (case hx => rfl); (case hy => rfl); (case hA => (first | assumption | exact FE.ofInt _ _ | exact FE.lit (by decide +kernel))); (case hB => (first | assumption | exact FE.ofInt _ _ | exact FE.lit (by decide +kernel))); (case hb => (first | assumption | rfl)))
      | ((with_reducible apply wpList_widen); (case hw => rfl); (case hs => exact Try.underlying25); (case hd => exact Try.underlying61); (case hx => rfl); (case hA => (first | assumption | exact FE.ofInt _ _ | exact FE.lit (by decide +kernel))); intro r n hr)
      | ((with_reducible apply wpList_fneg); (case hw => rfl); (case hx => rfl); (case hA => (first | assumption | exact FE.ofInt _ _ | exact FE.lit (by decide +kernel))); intro r hr))
      go_ret
      exact ⟨by rw [eG.out]; rfl, (by first | exact ⟨0, rfl⟩ | exact ⟨_, rfl⟩)⟩
    · have eG := Lib.hid (show gPlace X = min (f2i (rte (fmin20 (widen X)))) 25 by unfold gPlace gPlaceBig; rw [hf, hl]; rfl)
      obtain ⟨s, m, e, hr⟩ := gFin_read hf
      obtain ⟨hW, hR, n, h1, h2, h3, h4⟩ := place_law hr (lss_order hl)
      have en : f2i (rte (fmin20 (widen X))) = n := by unfold f2i; rw [h1]; rfl
      have EN := Lib.hid en
      have c2 := fun (w : World) => call_rte hW w
      have hRe : FE .f64 (rte (widen X)) (rte (widen X)) := ⟨cz_num hR, by
        unfold rte; exact Ieee.Format.write_lt _ _⟩
      rcases h4 with ⟨h4, h5⟩ | ⟨h4, h5, h6⟩
      · have hc : fcmp .gtr .f64 (rte (widen X)) 4627448617123184640 = true := by
          unfold fcmp
          have : FloatKind.f64.format.order (rte (widen X)) 4627448617123184640 = some .gt := h4
          simp [this]
        have eF := Lib.hid (show min n 25 = 25 by omega)
        clear h1 h2 h3 h4 h5 hr en hR
        go_enter Try.func87, Try.ntmps87
        go_wp2_with (first
          | (go_at_call 120; with_reducible refine (S_l01Finite _ _ _ hx).mono ?_; rintro e w' ⟨rfl, n, rfl⟩; rw [hf])
          | ((with_reducible apply wpList_fcmp); (case hw => rfl); (case hop => rfl); (case hx => rfl); (case hy => rfl); (case hA => assumption); (case hB => exact FE.lit (by decide +kernel)); (case hb => assumption))
          | ((with_reducible apply wpList_widen); (case hw => rfl); (case hs => exact Try.underlying25); (case hd => exact Try.underlying61); (case hx => rfl); (case hA => assumption); intro r n hr; obtain rfl := hr.num hW)
          | simp only [c2])
        go_ret
        exact ⟨by rw [eG.out, EN.out, eF.out]; rfl, (by first | exact ⟨0, rfl⟩ | exact ⟨_, rfl⟩)⟩
      · have hc : fcmp .gtr .f64 (rte (widen X)) 4627448617123184640 = false := by
          unfold fcmp
          have : ¬ FloatKind.f64.format.order (rte (widen X)) 4627448617123184640 = some .gt := h4
          simp [this]
        have eF := Lib.hid (show min n 25 = n by omega)
        have c3 := fun (w : World) => run_convert_float_int (P := Try.prog) w 61 2 .f64 .i64 _ n (by rw [Try.underlying61]; rfl) Try.underlying2 (toIntVal h5 h2 h3)
        clear h1 h2 h3 h4 h5 h6 hr en hR
        go_enter Try.func87, Try.ntmps87
        go_wp2_with (first
          | (go_at_call 120; with_reducible refine (S_l01Finite _ _ _ hx).mono ?_; rintro e w' ⟨rfl, n, rfl⟩; rw [hf])
          | ((with_reducible apply wpList_fcmp); (case hw => rfl); (case hop => rfl); (case hx => rfl); (case hy => rfl); (case hA => assumption); (case hB => exact FE.lit (by decide +kernel)); (case hb => assumption))
          | ((with_reducible apply wpList_widen); (case hw => rfl); (case hs => exact Try.underlying25); (case hd => exact Try.underlying61); (case hx => rfl); (case hA => assumption); intro r n hr; obtain rfl := hr.num hW)
          | simp only [c2, c3])
        go_ret
        exact ⟨by rw [eG.out, EN.out, eF.out]; rfl, (by first | exact ⟨0, rfl⟩ | exact ⟨_, rfl⟩)⟩
  · have eG := Lib.hid (show gPlace X = -1 by unfold gPlace gPlaceBig; rw [hl, Bool.or_true]; rfl)
    go_enter Try.func87, Try.ntmps87
    go_wp2_with (first
      | ((with_reducible apply wpList_fop); (case hw => rfl); (case hop => rfl); (case hx => rfl); (case hy => rfl); (case hA => (first | assumption | exact FE.ofInt _ _ | exact FE.lit (by decide +kernel))); (case hB => (first | assumption | exact FE.ofInt _ _ | exact FE.lit (by decide +kernel))); intro r n hr)
      | ((with_reducible apply wpList_fcmp); (case hw => rfl); (case hop => rfl); (case hx => rfl); (case hy => rfl); (case hA => (first | assumption | exact FE.ofInt _ _ | exact FE.lit (by decide +kernel))); (case hB => (first | assumption | exact FE.ofInt _ _ | exact FE.lit (by decide +kernel))); (case hb => (first | assumption | rfl)))
      | ((with_reducible apply wpList_widen); (case hw => rfl); (case hs => exact Try.underlying25); (case hd => exact Try.underlying61); (case hx => rfl); (case hA => (first | assumption | exact FE.ofInt _ _ | exact FE.lit (by decide +kernel))); intro r n hr)
      | ((with_reducible apply wpList_fneg); (case hw => rfl); (case hx => rfl); (case hA => (first | assumption | exact FE.ofInt _ _ | exact FE.lit (by decide +kernel))); intro r hr))
    go_ret
    exact ⟨by rw [eG.out]; rfl, (by first | exact ⟨0, rfl⟩ | exact ⟨_, rfl⟩)⟩
end Go.Proofs.Ytomlfdkcgaogcaa
