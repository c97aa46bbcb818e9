/- Contracts: valid pictures, tiles. -/
import Derived.Test.YtaidkokgafojeaaProg
import Derived.Test.YtaidkokgafojeaaC7
namespace Go.Proofs.Ytaidkokgafojeaa
open Go.RowKit Go.Fx Go.Soft
def gSize (w h : Int) : Bool := gIn w 1 24 && gIn h 1 24 && decide (w * h ≤ 256)
def gPic (w h : Int) (n : Nat) : Bool := gSize w h && ((n : Int) == w * h)
theorem gSize_true {w h : Int} (H : gSize w h = true) : 1 ≤ w ∧ w ≤ 24 ∧ 1 ≤ h ∧ h ≤ 24 ∧ w * h ≤ 256 ∧ 1 ≤ w * h := by
  simp only [gSize, Bool.and_eq_true, decide_eq_true_eq] at H
  obtain ⟨⟨h1, h2⟩, h3⟩ := H
  have h1 := gIn_true h1
  have h2 := gIn_true h2
  have := Int.mul_pos (show 0 < w by omega) (show 0 < h by omega)
  exact ⟨h1.1, h1.2, h2.1, h2.2, h3, by omega⟩
theorem mul_small {w h : Int} (h1 : gIn w 1 24 = true) (h2 : gIn h 1 24 = true) : 1 ≤ w * h ∧ w * h ≤ 576 := by
  have h1 := gIn_true h1
  have h2 := gIn_true h2
  have a := Int.mul_pos (show 0 < w by omega) (show 0 < h by omega)
  have b : w * h ≤ 24 * 24 := Int.mul_le_mul h1.2 h2.2 (by omega) (by omega)
  omega
set_option maxHeartbeats 400000 in
theorem S_l02Size (wd hg : Int) (w : World) :
    Calls Try.prog 58 #[.int .i64 wd, .int .i64 hg] w fun e w' => e = .returned (.bool (gSize wd hg)) ∧ w' = w := by
  rcases (show (gIn wd 1 24 = false) ∨ (gIn wd 1 24 = true ∧ gIn hg 1 24 = false) ∨ (gIn wd 1 24 = true ∧ gIn hg 1 24 = true) by cases gIn wd 1 24 <;> cases gIn hg 1 24 <;> simp) with t1 | ⟨t1, t2⟩ | ⟨t1, t2⟩
  · go_enter Try.func58, Try.ntmps58
    go_wp2_with (first
      | (go_at_call 82; with_reducible refine (S_l00In _ _ _ _).mono ?_; rintro e w' ⟨rfl, rfl⟩))
    go_ret
    exact ⟨by simp [gSize, *], rfl⟩
  · go_enter Try.func58, Try.ntmps58
    go_wp2_with (first
      | (go_at_call 82; with_reducible refine (S_l00In _ _ _ _).mono ?_; rintro e w' ⟨rfl, rfl⟩))
    go_ret
    exact ⟨by simp [gSize, *], rfl⟩
  · have H := mul_small t1 t2
    go_enter Try.func58, Try.ntmps58
    go_wp2_with (first
      | (go_at_call 82; with_reducible refine (S_l00In _ _ _ _).mono ?_; rintro e w' ⟨rfl, rfl⟩))
    go_ret
    exact ⟨by simp [gSize, *], rfl⟩
set_option maxHeartbeats 400000 in
theorem I_sizeOk (wd hg : Int) (w : World) :
    Calls Try.prog 60 #[.int .i64 wd, .int .i64 hg] w fun e w' => e = .returned (.bool (gSize wd hg)) ∧ w' = w := by
  rcases (show (gIn wd 1 24 = false) ∨ (gIn wd 1 24 = true ∧ gIn hg 1 24 = false) ∨ (gIn wd 1 24 = true ∧ gIn hg 1 24 = true) by cases gIn wd 1 24 <;> cases gIn hg 1 24 <;> simp) with t1 | ⟨t1, t2⟩ | ⟨t1, t2⟩
  · go_enter Try.func60, Try.ntmps60
    go_wp2_with (first
      | (go_at_call 84; with_reducible refine (I_in _ _ _ _).mono ?_; rintro e w' ⟨rfl, rfl⟩))
    go_ret
    exact ⟨by simp [gSize, *], rfl⟩
  · go_enter Try.func60, Try.ntmps60
    go_wp2_with (first
      | (go_at_call 84; with_reducible refine (I_in _ _ _ _).mono ?_; rintro e w' ⟨rfl, rfl⟩))
    go_ret
    exact ⟨by simp [gSize, *], rfl⟩
  · have H := mul_small t1 t2
    go_enter Try.func60, Try.ntmps60
    go_wp2_with (first
      | (go_at_call 84; with_reducible refine (I_in _ _ _ _).mono ?_; rintro e w' ⟨rfl, rfl⟩))
    go_ret
    exact ⟨by simp [gSize, *], rfl⟩
set_option maxHeartbeats 400000 in
theorem S_l02Is (wd hg : Int) (a : Option Addr) (k cap bl of : Nat) (w : World) (hk : k ≤ maxLen)
    (c0 : w.cell? ⟨bl, of, none⟩ = some (.int .i64 wd)) (c1 : w.cell? ⟨bl, of + 1, none⟩ = some (.int .i64 hg)) (c2 : w.cell? ⟨bl, of + 2, none⟩ = some (.slice a k cap)) :
    Calls Try.prog 66 #[.pointer (some ⟨bl, of, none⟩)] w fun e w' => e = .returned (.bool (gPic wd hg k)) ∧ ∃ n, w' = w.drewN n := by
  unfold maxLen at hk
  cases hS : gSize wd hg
  · go_enter Try.func66, Try.ntmps66
    go_wp2
    apply region_drew 26
    case hm => kernel_rfl
    case hB => kernel_rfl
    simp only [List.take_succ_cons, List.take_zero, List.drop_succ_cons, List.drop_zero]
    repeat (first
      | ((with_reducible apply wpSoft_calleq (f := 58)); (case hw => rfl); (case hc => exact Try.call58); (case hv => ((conv => lhs; simp [Act.eval]); try rfl)); (case hS => (rintro _ ⟨m, rfl⟩; with_reducible refine (S_l02Size _ _ _).mono ?_; rintro e w' ⟨rfl, rfl⟩; exact ⟨rfl, ⟨_, rfl⟩⟩)); (simp only [Act.put, List.setIfInBounds_toArray, List.set_cons_succ, List.set_cons_zero]; try simp only [*]))
      | (apply wpSoft_skip rfl; simp only [Act.put, List.setIfInBounds_toArray, List.set_cons_succ, List.set_cons_zero])
      | (apply wpSoft_nilCheck rfl rfl; simp only [Act.put, List.setIfInBounds_toArray, List.set_cons_succ, List.set_cons_zero])
      | ((with_reducible apply wpSoft_fop); (case hw => rfl); (case hD => exact closed_drew); (case hop => rfl); (case hx => rfl); (case hy => rfl); (case hA => (first | assumption | exact FE.ofInt _ _ | exact FE.lit (by decide +kernel))); (case hB => (first | assumption | exact FE.ofInt _ _ | exact FE.lit (by decide +kernel))); (intro r hr; simp only [Act.put, List.setIfInBounds_toArray, List.set_cons_succ, List.set_cons_zero]))

      | ((with_reducible apply wpSoft_widen); (case hw => rfl); (case hD => exact closed_drew); (case hs => exact Try.underlying65); (case hd => exact Try.underlying147); (case hx => rfl); (case hA => (first | assumption | exact FE.ofInt _ _ | exact FE.lit (by decide +kernel))); (intro r hr; simp only [Act.put, List.setIfInBounds_toArray, List.set_cons_succ, List.set_cons_zero]))
      | ((with_reducible apply wpSoft_fneg); (case hw => rfl); (case hx => rfl); (case hA => (first | assumption | exact FE.ofInt _ _ | exact FE.lit (by decide +kernel))); (intro r hr; simp only [Act.put, List.setIfInBounds_toArray, List.set_cons_succ, List.set_cons_zero]))
      | ((with_reducible apply wpSoft_fcmp); (case hw => rfl); (case hop => rfl); (case hx => rfl); (case hy => rfl); (case hA => (first | assumption | exact FE.ofInt _ _ | exact FE.lit (by decide +kernel))); (case hB => (first | assumption | exact FE.ofInt _ _ | exact FE.lit (by decide +kernel))); (case hb => (first | assumption | rfl)); simp only [Act.put, List.setIfInBounds_toArray, List.set_cons_succ, List.set_cons_zero])
      | (apply wpSoft_q rfl rfl; intro K hK; go_big_quiet_op; go_big_quiet_on))
    with_reducible apply wpSoft_nil
    intro m
    go_wp2
    go_ret
    exact ⟨by simp [gPic, *], (by first | exact ⟨0, rfl⟩ | exact ⟨_, rfl⟩)⟩
  · obtain ⟨s1, s2, s3, s4, s5, s6⟩ := gSize_true hS
    have H : Hid (gPic wd hg k = ((k : Int) == wd * hg)) := by simp [gPic, hS, Hid]
    go_enter Try.func66, Try.ntmps66
    go_wp2
    apply region_drew 26
    case hm => kernel_rfl
    case hB => kernel_rfl
    simp only [List.take_succ_cons, List.take_zero, List.drop_succ_cons, List.drop_zero]
    repeat (first
      | ((with_reducible apply wpSoft_calleq (f := 58)); (case hw => rfl); (case hc => exact Try.call58); (case hv => ((conv => lhs; simp [Act.eval]); try rfl)); (case hS => (rintro _ ⟨m, rfl⟩; with_reducible refine (S_l02Size _ _ _).mono ?_; rintro e w' ⟨rfl, rfl⟩; exact ⟨rfl, ⟨_, rfl⟩⟩)); (simp only [Act.put, List.setIfInBounds_toArray, List.set_cons_succ, List.set_cons_zero]; try simp only [*]))
      | (apply wpSoft_skip rfl; simp only [Act.put, List.setIfInBounds_toArray, List.set_cons_succ, List.set_cons_zero])
      | (apply wpSoft_nilCheck rfl rfl; simp only [Act.put, List.setIfInBounds_toArray, List.set_cons_succ, List.set_cons_zero])
      | ((with_reducible apply wpSoft_fop); (case hw => rfl); (case hD => exact closed_drew); (case hop => rfl); (case hx => rfl); (case hy => rfl); (case hA => (first | assumption | exact FE.ofInt _ _ | exact FE.lit (by decide +kernel))); (case hB => (first | assumption | exact FE.ofInt _ _ | exact FE.lit (by decide +kernel))); (intro r hr; simp only [Act.put, List.setIfInBounds_toArray, List.set_cons_succ, List.set_cons_zero]))

      | ((with_reducible apply wpSoft_widen); (case hw => rfl); (case hD => exact closed_drew); (case hs => exact Try.underlying65); (case hd => exact Try.underlying147); (case hx => rfl); (case hA => (first | assumption | exact FE.ofInt _ _ | exact FE.lit (by decide +kernel))); (intro r hr; simp only [Act.put, List.setIfInBounds_toArray, List.set_cons_succ, List.set_cons_zero]))
      | ((with_reducible apply wpSoft_fneg); (case hw => rfl); (case hx => rfl); (case hA => (first | assumption | exact FE.ofInt _ _ | exact FE.lit (by decide +kernel))); (intro r hr; simp only [Act.put, List.setIfInBounds_toArray, List.set_cons_succ, List.set_cons_zero]))
      | ((with_reducible apply wpSoft_fcmp); (case hw => rfl); (case hop => rfl); (case hx => rfl); (case hy => rfl); (case hA => (first | assumption | exact FE.ofInt _ _ | exact FE.lit (by decide +kernel))); (case hB => (first | assumption | exact FE.ofInt _ _ | exact FE.lit (by decide +kernel))); (case hb => (first | assumption | rfl)); simp only [Act.put, List.setIfInBounds_toArray, List.set_cons_succ, List.set_cons_zero])
      | (apply wpSoft_q rfl rfl; intro K hK; go_big_quiet_op; go_big_quiet_on))
    with_reducible apply wpSoft_nil
    intro m
    go_wp2
    go_ret
    exact ⟨by simp [H.out], (by first | exact ⟨0, rfl⟩ | exact ⟨_, rfl⟩)⟩
set_option maxHeartbeats 400000 in
theorem I_ValidPicture (wd hg : Int) (a : Option Addr) (k cap : Nat) (w : World) (hk : k ≤ maxLen) :
    Calls Try.prog 69 #[.agg #[.int .i64 wd, .int .i64 hg, .slice a k cap]] w fun e w' => e = .returned (.bool (gPic wd hg k)) ∧ ∃ os m, w' = w.grew os m := by
  unfold maxLen at hk
  cases hS : gSize wd hg
  · go_enter Try.func69, Try.ntmps69
    go_wp2_with (first
      | (go_at_call 60; with_reducible refine (I_sizeOk _ _ _).mono ?_; rintro e w' ⟨rfl, rfl⟩))
    go_ret
    exact ⟨by simp [gPic, *], (by (try show Gr _ _); repeat (with_reducible first | exact Gr.refl _ | refine Gr.drewN ?_ _ | refine Gr.grew ?_ _ _ | refine Gr.alloc ?_ _ | refine Gr.drew ?_))⟩
  · obtain ⟨s1, s2, s3, s4, s5, s6⟩ := gSize_true hS
    have H : Hid (gPic wd hg k = ((k : Int) == wd * hg)) := by simp [gPic, hS, Hid]
    go_enter Try.func69, Try.ntmps69
    go_wp2_with (first
      | (go_at_call 60; with_reducible refine (I_sizeOk _ _ _).mono ?_; rintro e w' ⟨rfl, rfl⟩))
    go_ret
    exact ⟨by simp [H.out], (by (try show Gr _ _); repeat (with_reducible first | exact Gr.refl _ | refine Gr.drewN ?_ _ | refine Gr.grew ?_ _ _ | refine Gr.alloc ?_ _ | refine Gr.drew ?_))⟩
end Go.Proofs.Ytaidkokgafojeaa
