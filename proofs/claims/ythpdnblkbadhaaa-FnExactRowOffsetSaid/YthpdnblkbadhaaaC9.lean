/- Contracts: tiles. -/
import Derived.Test.YthpdnblkbadhaaaProg
import Derived.Test.YthpdnblkbadhaaaC8
import Derived.IntWalk
namespace Go.Proofs.Ythpdnblkbadhaaa
open Go.RowKit Go.Fx Go.Soft
def gTile (h f c : Int) : Bool := gIn f 0 (h - 1) && gIn c 1 (h - f)
theorem gPic_true {w h : Int} {n : Nat} (H : gPic w h n = true) : gSize w h = true ∧ (n : Int) = w * h := by
  simpa [gPic] using H
theorem gPic_high {w h : Int} {n : Nat} (H : gPic w h n = true) : 1 ≤ h ∧ h ≤ 24 := by
  obtain ⟨_, _, h1, h2, _, _⟩ := gSize_true (gPic_true H).1
  exact ⟨h1, h2⟩
set_option maxHeartbeats 400000 in
theorem S_l07Tile (h f c : Int) (bl of : Nat) (w : World) (h1 : 1 ≤ h) (h2 : h ≤ 24)
    (c0 : w.cell? ⟨bl, of, none⟩ = some (.int .i64 f)) (c1 : w.cell? ⟨bl, of + 1, none⟩ = some (.int .i64 c)) :
    Calls Try.prog 65 #[.int .i64 h, .pointer (some ⟨bl, of, none⟩)] w fun e w' => e = .returned (.bool (gTile h f c)) ∧ ∃ n, w' = w.drewN n := by
  have e1 : IntKind.i64.wrap (h - 1) = h - 1 := IntWalk.i64_in _ (by omega)
  cases hS : gIn f 0 (h - 1)
  · go_enter Try.func65, Try.ntmps65
    go_wp2
    apply region_drew 20
    case hm => kernel_rfl
    case hB => kernel_rfl
    simp only [List.take_succ_cons, List.take_zero, List.drop_succ_cons, List.drop_zero]
    repeat (first
      | ((with_reducible apply wpSoft_calleq (f := 94)); (case hw => rfl); (case hc => exact Try.call94); (case hv => ((conv => lhs; simp [Act.eval]); try rfl)); (case hS => (rintro _ ⟨m, rfl⟩; with_reducible refine (S_l00In _ _ _ _).mono ?_; rintro e w' ⟨rfl, rfl⟩; exact ⟨rfl, ⟨_, rfl⟩⟩)); (simp only [Act.put, List.setIfInBounds_toArray, List.set_cons_succ, List.set_cons_zero]; try simp only [*]))
      | (apply wpSoft_skip rfl; simp only [Act.put, List.setIfInBounds_toArray, List.set_cons_succ, List.set_cons_zero])
      | (apply wpSoft_nilCheck rfl rfl; simp only [Act.put, List.setIfInBounds_toArray, List.set_cons_succ, List.set_cons_zero])
      | ((with_reducible apply wpSoft_fop); (case hw => rfl); (case hD => exact closed_drew); (case hop => rfl); (case hx => rfl); (case hy => rfl); (case hA => (first | assumption | exact FE.ofInt _ _ | exact FE.lit (by decide +kernel))); (case hB => (first | assumption | exact FE.ofInt _ _ | exact FE.lit (by decide +kernel))); (intro r hr; simp only [Act.put, List.setIfInBounds_toArray, List.set_cons_succ, List.set_cons_zero]))

      | ((with_reducible apply wpSoft_widen); (case hw => rfl); (case hD => exact closed_drew); (case hs => exact Try.underlying37); (case hd => exact Try.underlying63); (case hx => rfl); (case hA => (first | assumption | exact FE.ofInt _ _ | exact FE.lit (by decide +kernel))); (intro r hr; simp only [Act.put, List.setIfInBounds_toArray, List.set_cons_succ, List.set_cons_zero]))
      | ((with_reducible apply wpSoft_fneg); (case hw => rfl); (case hx => rfl); (case hA => (first | assumption | exact FE.ofInt _ _ | exact FE.lit (by decide +kernel))); (intro r hr; simp only [Act.put, List.setIfInBounds_toArray, List.set_cons_succ, List.set_cons_zero]))
      | ((with_reducible apply wpSoft_fcmp); (case hw => rfl); (case hop => rfl); (case hx => rfl); (case hy => rfl); (case hA => (first | assumption | exact FE.ofInt _ _ | exact FE.lit (by decide +kernel))); (case hB => (first | assumption | exact FE.ofInt _ _ | exact FE.lit (by decide +kernel))); (case hb => (first | assumption | rfl)); simp only [Act.put, List.setIfInBounds_toArray, List.set_cons_succ, List.set_cons_zero])
      | (apply wpSoft_q rfl rfl; intro K hK; go_big_quiet_op; go_big_quiet_on))
    with_reducible apply wpSoft_nil
    intro m
    go_wp2
    go_ret
    exact ⟨by simp [gTile, *], (by first | exact ⟨0, rfl⟩ | exact ⟨_, rfl⟩)⟩
  · have s1 := gIn_true hS
    have e2 : IntKind.i64.wrap (h - f) = h - f := IntWalk.i64_in _ (by omega)
    have H : Hid (gTile h f c = gIn c 1 (h - f)) := by simp [gTile, hS, Hid]
    go_enter Try.func65, Try.ntmps65
    go_wp2
    apply region_drew 20
    case hm => kernel_rfl
    case hB => kernel_rfl
    simp only [List.take_succ_cons, List.take_zero, List.drop_succ_cons, List.drop_zero]
    repeat (first
      | ((with_reducible apply wpSoft_calleq (f := 94)); (case hw => rfl); (case hc => exact Try.call94); (case hv => ((conv => lhs; simp [Act.eval]); try rfl)); (case hS => (rintro _ ⟨m, rfl⟩; with_reducible refine (S_l00In _ _ _ _).mono ?_; rintro e w' ⟨rfl, rfl⟩; exact ⟨rfl, ⟨_, rfl⟩⟩)); (simp only [Act.put, List.setIfInBounds_toArray, List.set_cons_succ, List.set_cons_zero]; try simp only [*]))
      | (apply wpSoft_skip rfl; simp only [Act.put, List.setIfInBounds_toArray, List.set_cons_succ, List.set_cons_zero])
      | (apply wpSoft_nilCheck rfl rfl; simp only [Act.put, List.setIfInBounds_toArray, List.set_cons_succ, List.set_cons_zero])
      | ((with_reducible apply wpSoft_fop); (case hw => rfl); (case hD => exact closed_drew); (case hop => rfl); (case hx => rfl); (case hy => rfl); (case hA => (first | assumption | exact FE.ofInt _ _ | exact FE.lit (by decide +kernel))); (case hB => (first | assumption | exact FE.ofInt _ _ | exact FE.lit (by decide +kernel))); (intro r hr; simp only [Act.put, List.setIfInBounds_toArray, List.set_cons_succ, List.set_cons_zero]))

      | ((with_reducible apply wpSoft_widen); (case hw => rfl); (case hD => exact closed_drew); (case hs => exact Try.underlying37); (case hd => exact Try.underlying63); (case hx => rfl); (case hA => (first | assumption | exact FE.ofInt _ _ | exact FE.lit (by decide +kernel))); (intro r hr; simp only [Act.put, List.setIfInBounds_toArray, List.set_cons_succ, List.set_cons_zero]))
      | ((with_reducible apply wpSoft_fneg); (case hw => rfl); (case hx => rfl); (case hA => (first | assumption | exact FE.ofInt _ _ | exact FE.lit (by decide +kernel))); (intro r hr; simp only [Act.put, List.setIfInBounds_toArray, List.set_cons_succ, List.set_cons_zero]))
      | ((with_reducible apply wpSoft_fcmp); (case hw => rfl); (case hop => rfl); (case hx => rfl); (case hy => rfl); (case hA => (first | assumption | exact FE.ofInt _ _ | exact FE.lit (by decide +kernel))); (case hB => (first | assumption | exact FE.ofInt _ _ | exact FE.lit (by decide +kernel))); (case hb => (first | assumption | rfl)); simp only [Act.put, List.setIfInBounds_toArray, List.set_cons_succ, List.set_cons_zero])
      | (apply wpSoft_q rfl rfl; intro K hK; go_big_quiet_op; go_big_quiet_on))
    with_reducible apply wpSoft_nil
    intro m
    go_wp2
    go_ret
    exact ⟨by simp [H.out], (by first | exact ⟨0, rfl⟩ | exact ⟨_, rfl⟩)⟩
set_option maxHeartbeats 400000 in
theorem I_IsTile (wd hg f c : Int) (a : Option Addr) (k cap : Nat) (w : World) (hk : k ≤ maxLen) :
    Calls Try.prog 67 #[.agg #[.int .i64 wd, .int .i64 hg, .slice a k cap], .agg #[.int .i64 f, .int .i64 c]] w fun e w' => e = .returned (.bool (gPic wd hg k && gTile hg f c)) ∧ ∃ os m, w' = w.grew os m := by
  cases hS : gPic wd hg k
  · go_enter Try.func67, Try.ntmps67
    go_wp2_with (first
      | (go_at_call 126; with_reducible refine (I_ValidPicture _ _ _ _ _ _ hk).mono ?_; rintro e w' ⟨rfl, os, m, rfl⟩))
    go_ret
    exact ⟨by simp, (by (try show Gr _ _); repeat (with_reducible first | exact Gr.refl _ | refine Gr.drewN ?_ _ | refine Gr.grew ?_ _ _ | refine Gr.alloc ?_ _ | refine Gr.drew ?_))⟩
  · obtain ⟨h1, h2⟩ := gPic_high hS
    by_cases b1 : 0 ≤ f
    · by_cases b2 : 1 ≤ c
      · by_cases b3 : c ≤ hg
        · have H : Hid (gTile hg f c = decide (f ≤ hg - c)) := by
            simp only [gTile, gIn, Hid, b1, b2, decide_true, Bool.true_and]
            by_cases b4 : f ≤ hg - c
            · rw [decide_eq_true b4, decide_eq_true (show f ≤ hg - 1 by omega), decide_eq_true (show c ≤ hg - f by omega)]; rfl
            · rw [decide_eq_false b4, decide_eq_false (show ¬ c ≤ hg - f by omega)]; simp
          go_enter Try.func67, Try.ntmps67
          go_wp2_with (first
      | (go_at_call 126; with_reducible refine (I_ValidPicture _ _ _ _ _ _ hk).mono ?_; rintro e w' ⟨rfl, os, m, rfl⟩))
          go_ret
          exact ⟨by simp [H.out], (by (try show Gr _ _); repeat (with_reducible first | exact Gr.refl _ | refine Gr.drewN ?_ _ | refine Gr.grew ?_ _ _ | refine Gr.alloc ?_ _ | refine Gr.drew ?_))⟩
        · have H : Hid (gTile hg f c = false) := by
            simp only [gTile, gIn, Hid, b1, b2, decide_true, Bool.true_and]
            rw [decide_eq_false (show ¬ c ≤ hg - f by omega)]; simp
          go_enter Try.func67, Try.ntmps67
          go_wp2_with (first
      | (go_at_call 126; with_reducible refine (I_ValidPicture _ _ _ _ _ _ hk).mono ?_; rintro e w' ⟨rfl, os, m, rfl⟩))
          go_ret
          exact ⟨by simp [H.out], (by (try show Gr _ _); repeat (with_reducible first | exact Gr.refl _ | refine Gr.drewN ?_ _ | refine Gr.grew ?_ _ _ | refine Gr.alloc ?_ _ | refine Gr.drew ?_))⟩
      · have H : Hid (gTile hg f c = false) := by simp [gTile, gIn, Hid, b2]
        go_enter Try.func67, Try.ntmps67
        go_wp2_with (first
      | (go_at_call 126; with_reducible refine (I_ValidPicture _ _ _ _ _ _ hk).mono ?_; rintro e w' ⟨rfl, os, m, rfl⟩))
        go_ret
        exact ⟨by simp [H.out], (by (try show Gr _ _); repeat (with_reducible first | exact Gr.refl _ | refine Gr.drewN ?_ _ | refine Gr.grew ?_ _ _ | refine Gr.alloc ?_ _ | refine Gr.drew ?_))⟩
    · have H : Hid (gTile hg f c = false) := by simp [gTile, gIn, Hid, b1]
      go_enter Try.func67, Try.ntmps67
      go_wp2_with (first
      | (go_at_call 126; with_reducible refine (I_ValidPicture _ _ _ _ _ _ hk).mono ?_; rintro e w' ⟨rfl, os, m, rfl⟩))
      go_ret
      exact ⟨by simp [H.out], (by (try show Gr _ _); repeat (with_reducible first | exact Gr.refl _ | refine Gr.drewN ?_ _ | refine Gr.grew ?_ _ _ | refine Gr.alloc ?_ _ | refine Gr.drew ?_))⟩
set_option maxHeartbeats 400000 in
theorem L_toTile (f c : Int) (w : World) :
    Calls Try.prog 18 #[.agg #[.int .i64 f, .int .i64 c]] w fun e w' => e = .returned (.agg #[.int .i64 f, .int .i64 c]) ∧ ∃ os m, w' = w.grew os m := by
  go_enter Try.func18, Try.ntmps18
  go_wp2
  exact bodyPost_ret (v := .agg #[.int .i64 f, .int .i64 c]) (by simp [results, Try.results18, go_sem]) rfl ⟨rfl, (by (try show Gr _ _); repeat (with_reducible first | exact Gr.refl _ | refine Gr.drewN ?_ _ | refine Gr.grew ?_ _ _ | refine Gr.alloc ?_ _ | refine Gr.drew ?_))⟩
end Go.Proofs.Ythpdnblkbadhaaa
