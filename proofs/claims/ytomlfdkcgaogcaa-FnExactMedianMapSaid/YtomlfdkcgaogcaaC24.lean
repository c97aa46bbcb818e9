/- Contracts: volumes, their cells, their winners. MAXREC -/
import Derived.Test.YtomlfdkcgaogcaaProg
import Derived.Test.YtomlfdkcgaogcaaC15
namespace Go.Fx
open Go Go.Soft Go.RowKit
/-- A volume in a box. -/
structure MV (w : World) (b : Nat) (wd hg dp : Int) (a : Option Addr) (n cap : Nat) (xs : List Nat) : Prop where
  c0 : w.cell? ⟨b, 0, none⟩ = some (.int .i64 wd)
  c1 : w.cell? ⟨b, 1, none⟩ = some (.int .i64 hg)
  c2 : w.cell? ⟨b, 2, none⟩ = some (.int .i64 dp)
  c3 : w.cell? ⟨b, 3, none⟩ = some (.slice a n cap)
  fs : FSl w a n xs
theorem MV.gr {w w' : World} {b : Nat} {wd hg dp : Int} {a : Option Addr} {n cap : Nat} {xs : List Nat} (h : MV w b wd hg dp a n cap xs) (g : Gr w w') : MV w' b wd hg dp a n cap xs :=
  ⟨g.cell h.c0, g.cell h.c1, g.cell h.c2, g.cell h.c3, h.fs.keep g.kp⟩
end Go.Fx
namespace Go.Proofs.Ytomlfdkcgaogcaa
open Go.RowKit Go.Fx Go.Soft
def gVol (w h d : Int) (n : Nat) : Bool := gSize w h && (gIn d 1 8 && ((n : Int) == w * h * d))
theorem vol_small {w h d : Int} (h1 : gSize w h = true) (h2 : gIn d 1 8 = true) : 1 ≤ w * h * d ∧ w * h * d ≤ 2048 := by
  obtain ⟨s1, s2, s3, s4, s5, s6⟩ := gSize_true h1
  have t := gIn_true h2
  have a := Int.mul_pos (show 0 < w * h by omega) (show 0 < d by omega)
  have b : w * h * d ≤ 256 * 8 := Int.mul_le_mul s5 t.2 (by omega) (by omega)
  omega
theorem gVol_true {w h d : Int} {n : Nat} (H : gVol w h d n = true) : gSize w h = true ∧ 1 ≤ d ∧ d ≤ 8 ∧ (n : Int) = w * h * d ∧ n ≤ 2048 := by
  simp only [gVol, Bool.and_eq_true, beq_iff_eq] at H
  obtain ⟨h1, h2, h3⟩ := H
  have := vol_small h1 h2
  have t := gIn_true h2
  exact ⟨h1, t.1, t.2, h3, by omega⟩
set_option maxRecDepth 20000 in
set_option maxHeartbeats 1000000 in
theorem S_l03Is (wd hg dp : Int) (a : Option Addr) (k cap b : Nat) (w : World) (hk : k ≤ maxLen)
    (c0 : w.cell? ⟨b, 0, none⟩ = some (.int .i64 wd)) (c1 : w.cell? ⟨b, 1, none⟩ = some (.int .i64 hg)) (c2 : w.cell? ⟨b, 2, none⟩ = some (.int .i64 dp)) (c3 : w.cell? ⟨b, 3, none⟩ = some (.slice a k cap)) :
    Calls Try.prog 51 #[.pointer (some ⟨b, 0, none⟩)] w fun e w' => e = .returned (.bool (gVol wd hg dp k)) ∧ ∃ n, w' = w.drewN n := by
  unfold maxLen at hk
  cases hS : gSize wd hg
  · go_enter Try.func51, Try.ntmps51
    go_wp2
    apply region_drew 55
    case hm => kernel_rfl
    case hB => kernel_rfl
    simp only [List.take_succ_cons, List.take_zero, List.drop_succ_cons, List.drop_zero]
    repeat (first
      | ((with_reducible apply wpSoft_calleq (f := 73)); (case hw => rfl); (case hc => exact Try.call73); (case hv => ((conv => lhs; simp [Act.eval]); try rfl)); (case hS => (rintro _ ⟨m, rfl⟩; with_reducible refine (S_l02Size _ _ _).mono ?_; rintro e w' ⟨rfl, rfl⟩; exact ⟨rfl, ⟨_, rfl⟩⟩)); (simp only [Act.put, List.setIfInBounds_toArray, List.set_cons_succ, List.set_cons_zero]; try simp only [*]))
      | (apply wpSoft_skip rfl; simp only [Act.put, List.setIfInBounds_toArray, List.set_cons_succ, List.set_cons_zero])
      | (apply wpSoft_nilCheck rfl rfl; simp only [Act.put, List.setIfInBounds_toArray, List.set_cons_succ, List.set_cons_zero])
      | ((with_reducible apply wpSoft_fop); (case hw => rfl); (case hD => exact closed_drew); (case hop => rfl); (case hx => rfl); (case hy => rfl); (case hA => (first | assumption | exact FE.ofInt _ _ | exact FE.lit (by decide +kernel))); (case hB => (first | assumption | exact FE.ofInt _ _ | exact FE.lit (by decide +kernel))); (intro r hr; simp only [Act.put, List.setIfInBounds_toArray, List.set_cons_succ, List.set_cons_zero]))

      | ((with_reducible apply wpSoft_widen); (case hw => rfl); (case hD => exact closed_drew); (case hs => exact Try.underlying25); (case hd => exact Try.underlying61); (case hx => rfl); (case hA => (first | assumption | exact FE.ofInt _ _ | exact FE.lit (by decide +kernel))); (intro r hr; simp only [Act.put, List.setIfInBounds_toArray, List.set_cons_succ, List.set_cons_zero]))
      | ((with_reducible apply wpSoft_fneg); (case hw => rfl); (case hx => rfl); (case hA => (first | assumption | exact FE.ofInt _ _ | exact FE.lit (by decide +kernel))); (intro r hr; simp only [Act.put, List.setIfInBounds_toArray, List.set_cons_succ, List.set_cons_zero]))
      | ((with_reducible apply wpSoft_fcmp); (case hw => rfl); (case hop => rfl); (case hx => rfl); (case hy => rfl); (case hA => (first | assumption | exact FE.ofInt _ _ | exact FE.lit (by decide +kernel))); (case hB => (first | assumption | exact FE.ofInt _ _ | exact FE.lit (by decide +kernel))); (case hb => (first | assumption | rfl)); simp only [Act.put, List.setIfInBounds_toArray, List.set_cons_succ, List.set_cons_zero])
      | (apply wpSoft_q rfl rfl; intro K hK; go_big_quiet_op; go_big_quiet_on))
    with_reducible apply wpSoft_nil
    intro m
    go_wp2
    go_ret
    exact ⟨by simp [gVol, *], (by first | exact ⟨0, rfl⟩ | exact ⟨_, rfl⟩)⟩
  · cases hD : gIn dp 1 8
    · go_enter Try.func51, Try.ntmps51
      go_wp2
      apply region_drew 55
      case hm => kernel_rfl
      case hB => kernel_rfl
      simp only [List.take_succ_cons, List.take_zero, List.drop_succ_cons, List.drop_zero]
      repeat (first
        | ((with_reducible apply wpSoft_calleq (f := 73)); (case hw => rfl); (case hc => exact Try.call73); (case hv => ((conv => lhs; simp [Act.eval]); try rfl)); (case hS => (rintro _ ⟨m, rfl⟩; with_reducible refine (S_l02Size _ _ _).mono ?_; rintro e w' ⟨rfl, rfl⟩; exact ⟨rfl, ⟨_, rfl⟩⟩)); (simp only [Act.put, List.setIfInBounds_toArray, List.set_cons_succ, List.set_cons_zero]; try simp only [*]))
        | ((with_reducible apply wpSoft_calleq (f := 60)); (case hw => rfl); (case hc => exact Try.call60); (case hv => ((conv => lhs; simp [Act.eval]); try rfl)); (case hS => (rintro _ ⟨m, rfl⟩; with_reducible refine (S_l00In _ _ _ _).mono ?_; rintro e w' ⟨rfl, rfl⟩; exact ⟨rfl, ⟨_, rfl⟩⟩)); (simp only [Act.put, List.setIfInBounds_toArray, List.set_cons_succ, List.set_cons_zero]; try simp only [*]))
        | (apply wpSoft_skip rfl; simp only [Act.put, List.setIfInBounds_toArray, List.set_cons_succ, List.set_cons_zero])
        | (apply wpSoft_nilCheck rfl rfl; simp only [Act.put, List.setIfInBounds_toArray, List.set_cons_succ, List.set_cons_zero])
        | ((with_reducible apply wpSoft_fop); (case hw => rfl); (case hD => exact closed_drew); (case hop => rfl); (case hx => rfl); (case hy => rfl); (case hA => (first | assumption | exact FE.ofInt _ _ | exact FE.lit (by decide +kernel))); (case hB => (first | assumption | exact FE.ofInt _ _ | exact FE.lit (by decide +kernel))); (intro r hr; simp only [Act.put, List.setIfInBounds_toArray, List.set_cons_succ, List.set_cons_zero]))

        | ((with_reducible apply wpSoft_widen); (case hw => rfl); (case hD => exact closed_drew); (case hs => exact Try.underlying25); (case hd => exact Try.underlying61); (case hx => rfl); (case hA => (first | assumption | exact FE.ofInt _ _ | exact FE.lit (by decide +kernel))); (intro r hr; simp only [Act.put, List.setIfInBounds_toArray, List.set_cons_succ, List.set_cons_zero]))
        | ((with_reducible apply wpSoft_fneg); (case hw => rfl); (case hx => rfl); (case hA => (first | assumption | exact FE.ofInt _ _ | exact FE.lit (by decide +kernel))); (intro r hr; simp only [Act.put, List.setIfInBounds_toArray, List.set_cons_succ, List.set_cons_zero]))
        | ((with_reducible apply wpSoft_fcmp); (case hw => rfl); (case hop => rfl); (case hx => rfl); (case hy => rfl); (case hA => (first | assumption | exact FE.ofInt _ _ | exact FE.lit (by decide +kernel))); (case hB => (first | assumption | exact FE.ofInt _ _ | exact FE.lit (by decide +kernel))); (case hb => (first | assumption | rfl)); simp only [Act.put, List.setIfInBounds_toArray, List.set_cons_succ, List.set_cons_zero])
        | (apply wpSoft_q rfl rfl; intro K hK; go_big_quiet_op; go_big_quiet_on))
      with_reducible apply wpSoft_nil
      intro m
      go_wp2
      go_ret
      exact ⟨by simp [gVol, *], (by first | exact ⟨0, rfl⟩ | exact ⟨_, rfl⟩)⟩
    · obtain ⟨s1, s2, s3, s4, s5, s6⟩ := gSize_true hS
      obtain ⟨v1, v2⟩ := vol_small hS hD
      have H : Hid (gVol wd hg dp k = ((k : Int) == wd * hg * dp)) := by simp [gVol, hS, hD, Hid]
      go_enter Try.func51, Try.ntmps51
      go_wp2
      apply region_drew 55
      case hm => kernel_rfl
      case hB => kernel_rfl
      simp only [List.take_succ_cons, List.take_zero, List.drop_succ_cons, List.drop_zero]
      repeat (first
        | ((with_reducible apply wpSoft_calleq (f := 73)); (case hw => rfl); (case hc => exact Try.call73); (case hv => ((conv => lhs; simp [Act.eval]); try rfl)); (case hS => (rintro _ ⟨m, rfl⟩; with_reducible refine (S_l02Size _ _ _).mono ?_; rintro e w' ⟨rfl, rfl⟩; exact ⟨rfl, ⟨_, rfl⟩⟩)); (simp only [Act.put, List.setIfInBounds_toArray, List.set_cons_succ, List.set_cons_zero]; try simp only [*]))
        | ((with_reducible apply wpSoft_calleq (f := 60)); (case hw => rfl); (case hc => exact Try.call60); (case hv => ((conv => lhs; simp [Act.eval]); try rfl)); (case hS => (rintro _ ⟨m, rfl⟩; with_reducible refine (S_l00In _ _ _ _).mono ?_; rintro e w' ⟨rfl, rfl⟩; exact ⟨rfl, ⟨_, rfl⟩⟩)); (simp only [Act.put, List.setIfInBounds_toArray, List.set_cons_succ, List.set_cons_zero]; try simp only [*]))
        | (apply wpSoft_skip rfl; simp only [Act.put, List.setIfInBounds_toArray, List.set_cons_succ, List.set_cons_zero])
        | (apply wpSoft_nilCheck rfl rfl; simp only [Act.put, List.setIfInBounds_toArray, List.set_cons_succ, List.set_cons_zero])
        | ((with_reducible apply wpSoft_fop); (case hw => rfl); (case hD => exact closed_drew); (case hop => rfl); (case hx => rfl); (case hy => rfl); (case hA => (first | assumption | exact FE.ofInt _ _ | exact FE.lit (by decide +kernel))); (case hB => (first | assumption | exact FE.ofInt _ _ | exact FE.lit (by decide +kernel))); (intro r hr; simp only [Act.put, List.setIfInBounds_toArray, List.set_cons_succ, List.set_cons_zero]))

        | ((with_reducible apply wpSoft_widen); (case hw => rfl); (case hD => exact closed_drew); (case hs => exact Try.underlying25); (case hd => exact Try.underlying61); (case hx => rfl); (case hA => (first | assumption | exact FE.ofInt _ _ | exact FE.lit (by decide +kernel))); (intro r hr; simp only [Act.put, List.setIfInBounds_toArray, List.set_cons_succ, List.set_cons_zero]))
        | ((with_reducible apply wpSoft_fneg); (case hw => rfl); (case hx => rfl); (case hA => (first | assumption | exact FE.ofInt _ _ | exact FE.lit (by decide +kernel))); (intro r hr; simp only [Act.put, List.setIfInBounds_toArray, List.set_cons_succ, List.set_cons_zero]))
        | ((with_reducible apply wpSoft_fcmp); (case hw => rfl); (case hop => rfl); (case hx => rfl); (case hy => rfl); (case hA => (first | assumption | exact FE.ofInt _ _ | exact FE.lit (by decide +kernel))); (case hB => (first | assumption | exact FE.ofInt _ _ | exact FE.lit (by decide +kernel))); (case hb => (first | assumption | rfl)); simp only [Act.put, List.setIfInBounds_toArray, List.set_cons_succ, List.set_cons_zero])
        | (apply wpSoft_q rfl rfl; intro K hK; go_big_quiet_op; go_big_quiet_on))
      with_reducible apply wpSoft_nil
      intro m
      go_wp2
      go_ret
      exact ⟨by simp [H.out], (by first | exact ⟨0, rfl⟩ | exact ⟨_, rfl⟩)⟩
set_option maxRecDepth 20000 in
set_option maxHeartbeats 1000000 in
theorem I_ValidVolume (wd hg dp : Int) (a : Option Addr) (k cap : Nat) (w : World) (hk : k ≤ maxLen) :
    Calls Try.prog 55 #[.agg #[.int .i64 wd, .int .i64 hg, .int .i64 dp, .slice a k cap]] w fun e w' => e = .returned (.bool (gVol wd hg dp k)) ∧ ∃ os m, w' = w.grew os m := by
  unfold maxLen at hk
  cases hS : gSize wd hg
  · go_enter Try.func55, Try.ntmps55
    go_wp2_with (first
      | (go_at_call 77; with_reducible refine (I_sizeOk _ _ _).mono ?_; rintro e w' ⟨rfl, rfl⟩; rw [hS]))
    go_ret
    exact ⟨by simp [gVol, *], (by (try show Gr _ _); repeat (with_reducible first | exact Gr.refl _ | refine Gr.drewN ?_ _ | refine Gr.grew ?_ _ _ | refine Gr.alloc ?_ _ | refine Gr.drew ?_))⟩
  · cases hD : gIn dp 1 8
    · go_enter Try.func55, Try.ntmps55
      go_wp2_with (first
      | (go_at_call 77; with_reducible refine (I_sizeOk _ _ _).mono ?_; rintro e w' ⟨rfl, rfl⟩; rw [hS])
      | (go_at_call 63; with_reducible refine (I_in _ _ _ _).mono ?_; rintro e w' ⟨rfl, rfl⟩; rw [hD]))
      go_ret
      exact ⟨by simp [gVol, *], (by (try show Gr _ _); repeat (with_reducible first | exact Gr.refl _ | refine Gr.drewN ?_ _ | refine Gr.grew ?_ _ _ | refine Gr.alloc ?_ _ | refine Gr.drew ?_))⟩
    · obtain ⟨s1, s2, s3, s4, s5, s6⟩ := gSize_true hS
      obtain ⟨v1, v2⟩ := vol_small hS hD
      cases hE : ((k : Int) == wd * hg * dp)
      · have H : Hid (gVol wd hg dp k = false) := by simp only [gVol, hS, hD, hE, Hid]; rfl
        simp only [beq_eq_false_iff_ne, ne_eq] at hE
        go_enter Try.func55, Try.ntmps55
        go_wp2_with (first
      | (go_at_call 77; with_reducible refine (I_sizeOk _ _ _).mono ?_; rintro e w' ⟨rfl, rfl⟩; rw [hS])
      | (go_at_call 63; with_reducible refine (I_in _ _ _ _).mono ?_; rintro e w' ⟨rfl, rfl⟩; rw [hD]))
        go_ret
        exact ⟨by simp [H.out], (by (try show Gr _ _); repeat (with_reducible first | exact Gr.refl _ | refine Gr.drewN ?_ _ | refine Gr.grew ?_ _ _ | refine Gr.alloc ?_ _ | refine Gr.drew ?_))⟩
      · have H : Hid (gVol wd hg dp k = true) := by simp only [gVol, hS, hD, hE, Hid]; rfl
        simp only [beq_iff_eq] at hE
        have h2 : k ≤ 2048 := by omega
        go_enter Try.func55, Try.ntmps55
        go_wp2_with (first
      | (go_at_call 77; with_reducible refine (I_sizeOk _ _ _).mono ?_; rintro e w' ⟨rfl, rfl⟩; rw [hS])
      | (go_at_call 63; with_reducible refine (I_in _ _ _ _).mono ?_; rintro e w' ⟨rfl, rfl⟩; rw [hD]))
        go_ret
        exact ⟨by simp [H.out], (by (try show Gr _ _); repeat (with_reducible first | exact Gr.refl _ | refine Gr.drewN ?_ _ | refine Gr.grew ?_ _ _ | refine Gr.alloc ?_ _ | refine Gr.drew ?_))⟩
theorem vol_cell {W H D x y : Nat} (hx : x < W) (hy : y < H) : (x + W * y) * D + D ≤ W * H * D := by
  have h := cell_lt hx hy
  have : (x + W * y + 1) * D ≤ W * H * D := Nat.mul_le_mul_right D h
  rw [Nat.add_mul, Nat.one_mul] at this
  exact this
theorem vol_fs {w : World} {bx ox n i D : Nat} {xs : List Nat} (h : FSl w (some ⟨bx, ox, none⟩) n xs) (hi : i * D + D ≤ xs.length) : FSl w (some ⟨bx, ox + i * D, none⟩) (lst D fun j => xs.getD (i * D + j) 0).length (lst D fun j => xs.getD (i * D + j) 0) := by
  refine ⟨rfl, fun j hj => ?_⟩
  have hj' : j < D := by simpa using hj
  obtain ⟨r, h1, h2⟩ := h.get (i * D + j) (by omega)
  refine ⟨bx, ox + i * D, r, rfl, ?_, ?_⟩
  · rw [show ox + i * D + j = ox + (i * D + j) by omega]; exact h1
  · rw [lst_get]; exact h2
set_option maxRecDepth 20000 in
set_option maxHeartbeats 1000000 in
theorem I_Volume_cell (W H D x y b bx ox cap : Nat) (xs : List Nat) (w : World) (hm : MV w b W H D (some ⟨bx, ox, none⟩) xs.length cap xs) (hW : W ≤ 24) (hH : H ≤ 24) (hD0 : 1 ≤ D) (hD : D ≤ 8) (hx : x < W) (hy : y < H) (hn : xs.length = W * H * D) (hc : xs.length ≤ cap) :
    Calls Try.prog 94 #[.pointer (some ⟨b, 0, none⟩), .int .i64 x, .int .i64 y] w fun e w' => e = .returned (.slice (some ⟨bx, ox + (x + W * y) * D, none⟩) D D) ∧ ∃ n, w' = w.drewN n := by
  obtain ⟨e1, e2⟩ := wrap_cell (W := W) (x := x) (y := y) (by omega) hW (by omega)
  have hcl := vol_cell (D := D) hx hy
  have h24 : W * H * D ≤ 4608 := Nat.mul_le_mul (Nat.mul_le_mul hW hH) hD
  have c0 := hm.c0
  have c2 := hm.c2
  have c3 := hm.c3
  obtain ⟨i, hi⟩ : ∃ i, i = x + W * y := ⟨_, rfl⟩
  obtain ⟨L, hL⟩ : ∃ L, L = i * D := ⟨_, rfl⟩
  have e3 : IntKind.i64.wrap ((x : Int) + (W : Int) * y) = (i : Int) := by rw [e2, hi]
  have e4 : IntKind.i64.wrap ((i : Int) * (D : Int)) = (L : Int) := by rw [hL, ← Int.natCast_mul]; exact IntWalk.i64_in _ (by rw [hi]; omega)
  have hR : L + D ≤ xs.length := by rw [hL, hi]; omega
  have hR6 : L ≤ 4608 := by omega
  have HL : Hid (L = (x + W * y) * D) := by show L = _; rw [hL, hi]
  clear hm e2 hi hL hcl h24 hn
  go_enter Try.func94, Try.ntmps94
  go_wp2
  apply region_drew 13
  case hm => kernel_rfl
  case hB => kernel_rfl
  simp only [List.take_succ_cons, List.take_zero, List.drop_succ_cons, List.drop_zero]
  repeat (first
    | (apply wpSoft_skip rfl; simp only [Act.put, List.setIfInBounds_toArray, List.set_cons_succ, List.set_cons_zero])
    | (apply wpSoft_nilCheck rfl rfl; simp only [Act.put, List.setIfInBounds_toArray, List.set_cons_succ, List.set_cons_zero])
    | ((with_reducible apply wpSoft_fop); (case hw => rfl); (case hD => exact closed_drew); (case hop => rfl); (case hx => rfl); (case hy => rfl); (case hA => (first | assumption | exact FE.ofInt _ _ | exact FE.lit (by decide +kernel))); (case hB => (first | assumption | exact FE.ofInt _ _ | exact FE.lit (by decide +kernel))); (intro r hr; simp only [Act.put, List.setIfInBounds_toArray, List.set_cons_succ, List.set_cons_zero]))

    | ((with_reducible apply wpSoft_widen); (case hw => rfl); (case hD => exact closed_drew); (case hs => exact Try.underlying25); (case hd => exact Try.underlying61); (case hx => rfl); (case hA => (first | assumption | exact FE.ofInt _ _ | exact FE.lit (by decide +kernel))); (intro r hr; simp only [Act.put, List.setIfInBounds_toArray, List.set_cons_succ, List.set_cons_zero]))
    | ((with_reducible apply wpSoft_fneg); (case hw => rfl); (case hx => rfl); (case hA => (first | assumption | exact FE.ofInt _ _ | exact FE.lit (by decide +kernel))); (intro r hr; simp only [Act.put, List.setIfInBounds_toArray, List.set_cons_succ, List.set_cons_zero]))
    | ((with_reducible apply wpSoft_fcmp); (case hw => rfl); (case hop => rfl); (case hx => rfl); (case hy => rfl); (case hA => (first | assumption | exact FE.ofInt _ _ | exact FE.lit (by decide +kernel))); (case hB => (first | assumption | exact FE.ofInt _ _ | exact FE.lit (by decide +kernel))); (case hb => (first | assumption | rfl)); simp only [Act.put, List.setIfInBounds_toArray, List.set_cons_succ, List.set_cons_zero])
    | (apply wpSoft_q rfl rfl; intro K hK; go_big_quiet_op; go_big_quiet_on))
  with_reducible apply wpSoft_nil
  intro m
  go_wp2
  apply region_drew 18
  case hm => kernel_rfl
  case hB => kernel_rfl
  simp only [List.take_succ_cons, List.take_zero, List.drop_succ_cons, List.drop_zero]
  repeat (first
    | (apply wpSoft_skip rfl; simp only [Act.put, List.setIfInBounds_toArray, List.set_cons_succ, List.set_cons_zero])
    | (apply wpSoft_nilCheck rfl rfl; simp only [Act.put, List.setIfInBounds_toArray, List.set_cons_succ, List.set_cons_zero])
    | ((with_reducible apply wpSoft_fop); (case hw => rfl); (case hD => exact closed_drew); (case hop => rfl); (case hx => rfl); (case hy => rfl); (case hA => (first | assumption | exact FE.ofInt _ _ | exact FE.lit (by decide +kernel))); (case hB => (first | assumption | exact FE.ofInt _ _ | exact FE.lit (by decide +kernel))); (intro r hr; simp only [Act.put, List.setIfInBounds_toArray, List.set_cons_succ, List.set_cons_zero]))

    | ((with_reducible apply wpSoft_widen); (case hw => rfl); (case hD => exact closed_drew); (case hs => exact Try.underlying25); (case hd => exact Try.underlying61); (case hx => rfl); (case hA => (first | assumption | exact FE.ofInt _ _ | exact FE.lit (by decide +kernel))); (intro r hr; simp only [Act.put, List.setIfInBounds_toArray, List.set_cons_succ, List.set_cons_zero]))
    | ((with_reducible apply wpSoft_fneg); (case hw => rfl); (case hx => rfl); (case hA => (first | assumption | exact FE.ofInt _ _ | exact FE.lit (by decide +kernel))); (intro r hr; simp only [Act.put, List.setIfInBounds_toArray, List.set_cons_succ, List.set_cons_zero]))
    | ((with_reducible apply wpSoft_fcmp); (case hw => rfl); (case hop => rfl); (case hx => rfl); (case hy => rfl); (case hA => (first | assumption | exact FE.ofInt _ _ | exact FE.lit (by decide +kernel))); (case hB => (first | assumption | exact FE.ofInt _ _ | exact FE.lit (by decide +kernel))); (case hb => (first | assumption | rfl)); simp only [Act.put, List.setIfInBounds_toArray, List.set_cons_succ, List.set_cons_zero])
    | (apply wpSoft_q rfl rfl; intro K hK; go_big_quiet_op; go_big_quiet_on))
  with_reducible apply wpSoft_nil
  intro m
  go_wp2
  go_ret
  refine ⟨?_, ⟨_, World.drewN_drewN _ _ _⟩⟩
  have e5 : L + D - L = D := by omega
  rw [← HL.out]
  simp [e5]
end Go.Proofs.Ytomlfdkcgaogcaa
