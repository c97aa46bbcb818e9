/- For all albums FnExactValidAlbum returns true. No conditions. MAXREC -/
import Derived.Test.YtaidkokgafojeaaRow
import Derived.Test.YtaidkokgafojeaaRps
import Derived.Test.YtaidkokgafojeaaC64
import Derived.Test.YtaidkokgafojeaaLw
import Derived.Test.YtaidkokgafojeaaWk2
import Derived.Deep.RegionHeld3
import Derived.Deep.DeepCutAuto
namespace Go.Proofs.Ytaidkokgafojeaa
open Go.ChangeShapes Go.WideShapes Go.ChangeAt Go.RowKit Go.Joins Go.Deep Go.Fx Go.Soft

set_option maxRecDepth 20000 in
set_option maxHeartbeats 8000000 in
theorem law_ValidAlbum (mn : Nat) (ma : Option Addr) (mc : Nat) (mps : List Pic) (ok : Bool) (w : World)  (hsm : PSl w ma mps) (hlm : mps.length = mn) (hnm : (mn + pSum mps mn) ≤ 1048576)
    (HS : ∀ (a_m : Option Addr) (c_m : Nat) (w : World), PSl w a_m mps → Calls Try.prog 28 #[.agg #[.slice a_m mn c_m]] w (fun e w' => e = .returned (.bool ok) ∧ Gr w w'))
    (HI : ∀ (a_m : Option Addr) (c_m : Nat) (w : World), PSl w a_m mps → Calls Try.prog 30 #[.agg #[.slice a_m mn c_m]] w (fun e w' => e = .returned (.bool ok) ∧ Gr w w')) :
    Calls Try.prog 6 #[.agg #[.slice ma mn mc]] w fun e w' => e = .returned (.bool true) ∧ ∃ os m, w' = w.grew os m := by
  have Hs := Lib.hid HS
  have Hi := Lib.hid HI
  clear HS HI
  have G := Lib.hid (Gr.refl w)
  have A_m := Lib.hid hsm
  clear hsm
  go_enter Try.func6, Try.ntmps6
  go_wp2_with fail
  refine (L_szAlbum_ok _ _ _ mps (1048576) _ (A_m.out.keep (G.out.trans (by (try show Gr _ _); repeat (with_reducible first | exact Gr.refl _ | refine Gr.drewN ?_ _ | refine Gr.grew ?_ _ _ | refine Gr.alloc ?_ _ | refine Gr.drew ?_))).kp) hlm (by omega) (by omega)).mono ?_
  rintro e v0 ⟨rfl, g⟩
  have k : Gr w v0 := Gr.trans (by (try show Gr _ _); repeat (with_reducible first | exact Gr.refl _ | refine Gr.drewN ?_ _ | refine Gr.grew ?_ _ _ | refine Gr.alloc ?_ _ | refine Gr.drew ?_)) g
  have Z1 := Lib.hid k.size
  replace G := Lib.hid (G.out.trans k)
  have B_pm := Lib.hid (Blk.gr (show Blk _ (w.heap.size) [.slice ma mn mc] 45 from (by repeat (with_reducible first | assumption | exact Blk.atNew (by simp) | refine Blk.alloc ?_ _ | refine Blk.grew ?_ _ _ | refine Blk.drewN ?_ _ | refine Blk.drew ?_))) g)
  clear g k
  have p_pm_0 := B_pm.out.cellv 0
  go_wp2_with fail
  refine (L_toAlbum ma mn _ mps _ (A_m.out.keep (G.out.trans (by (try show Gr _ _); repeat (with_reducible first | exact Gr.refl _ | refine Gr.drewN ?_ _ | refine Gr.grew ?_ _ _ | refine Gr.alloc ?_ _ | refine Gr.drew ?_))).kp) hlm (by omega) (alb_len hlm (by omega))).mono ?_
  rintro e u1 ⟨⟨v, rfl, ho⟩, g⟩
  clear p_pm_0
  have k : Gr v0 u1 := Gr.trans (by (try show Gr _ _); repeat (with_reducible first | exact Gr.refl _ | refine Gr.drewN ?_ _ | refine Gr.grew ?_ _ _ | refine Gr.alloc ?_ _ | refine Gr.drew ?_)) g
  have Z2 := Lib.hid k.size
  replace B_pm := Lib.hid (B_pm.out.gr k)
  replace G := Lib.hid (G.out.trans k)
  have R_t_m_w0 := Lib.hid ho
  obtain ⟨a_t_m_w0, c_t_m_w0, rfl⟩ := ho.sl' hlm
  clear ho g k
  go_wp2_with fail
  refine (Hs.out _ _ _ (R_t_m_w0.out.psl.keep (Gr.kp (by (try show Gr _ _); repeat (with_reducible first | exact Gr.refl _ | refine Gr.drewN ?_ _ | refine Gr.grew ?_ _ _ | refine Gr.alloc ?_ _ | refine Gr.drew ?_))))).mono ?_
  rintro e u2 ⟨rfl, g⟩
  have k : Gr u1 u2 := Gr.trans (by (try show Gr _ _); repeat (with_reducible first | exact Gr.refl _ | refine Gr.drewN ?_ _ | refine Gr.grew ?_ _ _ | refine Gr.alloc ?_ _ | refine Gr.drew ?_)) g
  have Z3 := Lib.hid k.size
  replace B_pm := Lib.hid (B_pm.out.gr k)
  replace R_t_m_w0 := Lib.hid (R_t_m_w0.out.gr k)
  replace G := Lib.hid (G.out.trans k)
  clear g k
  clear R_t_m_w0
  have p_pm_0 := B_pm.out.cellv 0
  go_wp2_with fail
  refine (L_toAlbum ma mn _ mps _ (A_m.out.keep (G.out.trans (by (try show Gr _ _); repeat (with_reducible first | exact Gr.refl _ | refine Gr.drewN ?_ _ | refine Gr.grew ?_ _ _ | refine Gr.alloc ?_ _ | refine Gr.drew ?_))).kp) hlm (by omega) (alb_len hlm (by omega))).mono ?_
  rintro e u3 ⟨⟨v, rfl, ho⟩, g⟩
  clear p_pm_0
  have k : Gr u2 u3 := Gr.trans (by (try show Gr _ _); repeat (with_reducible first | exact Gr.refl _ | refine Gr.drewN ?_ _ | refine Gr.grew ?_ _ _ | refine Gr.alloc ?_ _ | refine Gr.drew ?_)) g
  have Z4 := Lib.hid k.size
  replace B_pm := Lib.hid (B_pm.out.gr k)
  replace G := Lib.hid (G.out.trans k)
  have R_xm := Lib.hid ho
  obtain ⟨a_xm, c_xm, rfl⟩ := ho.sl' hlm
  clear ho g k
  go_wp2_with fail
  refine (Hi.out _ _ _ (R_xm.out.psl.keep (Gr.kp (by (try show Gr _ _); repeat (with_reducible first | exact Gr.refl _ | refine Gr.drewN ?_ _ | refine Gr.grew ?_ _ _ | refine Gr.alloc ?_ _ | refine Gr.drew ?_))))).mono ?_
  rintro e u4 ⟨rfl, g⟩
  have k : Gr u3 u4 := Gr.trans (by (try show Gr _ _); repeat (with_reducible first | exact Gr.refl _ | refine Gr.drewN ?_ _ | refine Gr.grew ?_ _ _ | refine Gr.alloc ?_ _ | refine Gr.drew ?_)) g
  have Z5 := Lib.hid k.size
  replace B_pm := Lib.hid (B_pm.out.gr k)
  replace R_xm := Lib.hid (R_xm.out.gr k)
  replace G := Lib.hid (G.out.trans k)
  have B_xm := Lib.hid (Blk.gr (show Blk _ (u3.heap.size) [.slice a_xm mn c_xm] 50 from (by repeat (with_reducible first | assumption | exact Blk.atNew (by simp) | refine Blk.alloc ?_ _ | refine Blk.grew ?_ _ _ | refine Blk.drewN ?_ _ | refine Blk.drew ?_))) g)
  clear g k
  have p_xm_0 := B_xm.out.cellv 0
  have p_pm_0 := B_pm.out.cellv 0
  go_wp2_with fail
  apply region_facts 4 [2] (fun _ v w' => ∃ a c, v = .agg #[.slice a mn c] ∧ PSl w' a mps)
  case hm => kernel_rfl
  case hB => kernel_rfl
  case hR => rfl
  case hP => (intro k hk v w1 w2 hg hv; obtain ⟨a, c, hv, hs⟩ := hv; exact ⟨a, c, hv, hs.keep hg.kp⟩)
  simp only [List.take_succ_cons, List.take_zero, List.drop_succ_cons, List.drop_zero]
  repeat (first
    | ((with_reducible apply wpF_call (f := 29) (S := fun v => ∃ a c, v = .agg #[.slice a mn c])); (case hw => rfl); (case hc => exact Try.call29); (case hv => ((conv => lhs; simp [Act.eval]); try rfl)); (case hS => (intro os m _; refine (L_toAlbum _ mn _ mps _ (A_m.out.keep (G.out.trans ⟨os, m, rfl⟩).kp) hlm (by omega) (alb_len hlm (by omega))).mono ?_; rintro e w' ⟨⟨v, rfl, ho⟩, g⟩; obtain ⟨a', c', rfl, hs'⟩ := ho.sl2 hlm; exact ⟨_, rfl, g, fun _ => ⟨a', c', rfl, hs'⟩, a', c', rfl⟩)); (case hne => exact ⟨_, none, 0, rfl⟩); (rintro v ⟨aq_, cq_, rfl⟩; simp only [Act.put, List.setIfInBounds_toArray, List.set_cons_succ, List.set_cons_zero]))
    | ((with_reducible apply wpF_call (f := 31) (S := fun v => v = .bool true)); (case hw => rfl); (case hc => exact Try.call31); (case hv => ((conv => lhs; simp [Act.eval]); try rfl)); (case hS => (intro os m hse; obtain ⟨a', c', hv', hs'⟩ := hse ⟨2, .data⟩ (by simp) rfl (by decide) _ _ rfl rfl; simp at hv'; obtain ⟨rfl, rfl⟩ := hv'; refine (L_eqAlbum _ _ _ _ _ mps _ (R_xm.out.gr ⟨os, m, rfl⟩).psl hs' hlm (by omega)).mono ?_; rintro e w' ⟨rfl, g⟩; exact ⟨_, rfl, g, fun h => absurd h (by decide), rfl⟩)); (case hne => exact ⟨_, rfl⟩); (rintro v rfl; simp only [Act.put, List.setIfInBounds_toArray, List.set_cons_succ, List.set_cons_zero]))
    | (apply wpF_skip rfl (by decide); simp only [Act.put, List.setIfInBounds_toArray, List.set_cons_succ, List.set_cons_zero])
    | (apply wpF_nilCheck rfl (by decide) rfl; simp only [Act.put, List.setIfInBounds_toArray, List.set_cons_succ, List.set_cons_zero])
    | ((with_reducible apply wpF_fop); (case hw => rfl); (case hT => decide); (case hop => rfl); (case hx => rfl); (case hy => rfl); (case hA => (first | assumption | exact FE.ofInt _ _ | exact FE.lit (by decide +kernel))); (case hB => (first | assumption | exact FE.ofInt _ _ | exact FE.lit (by decide +kernel))); (intro r hr; simp only [Act.put, List.setIfInBounds_toArray, List.set_cons_succ, List.set_cons_zero]))
    | ((with_reducible apply wpF_fneg); (case hw => rfl); (case hT => decide); (case hx => rfl); (case hA => (first | assumption | exact FE.ofInt _ _ | exact FE.lit (by decide +kernel))); (intro r hr; simp only [Act.put, List.setIfInBounds_toArray, List.set_cons_succ, List.set_cons_zero]))
    | ((with_reducible apply wpF_fcmp); (case hw => rfl); (case hT => decide); (case hop => rfl); (case hx => rfl); (case hy => rfl); (case hA => (first | assumption | exact FE.ofInt _ _ | exact FE.lit (by decide +kernel))); (case hB => (first | assumption | exact FE.ofInt _ _ | exact FE.lit (by decide +kernel))); (case hb => (first | assumption | rfl)); simp only [Act.put, List.setIfInBounds_toArray, List.set_cons_succ, List.set_cons_zero])
    | (apply wpF_q rfl (by decide) rfl; intro K hK; go_big_quiet_op; go_big_quiet_on))
  with_reducible apply wpF_nil
  intro os m hf
  obtain ⟨u5, hu⟩ : ∃ u, u = World.grew u4 os m := ⟨_, rfl⟩
  rw [← hu]
  have g : Gr u4 u5 := ⟨os, m, hu⟩
  clear hf hu
  clear p_xm_0 p_pm_0
  have k : Gr u4 u5 := Gr.trans (by (try show Gr _ _); repeat (with_reducible first | exact Gr.refl _ | refine Gr.drewN ?_ _ | refine Gr.grew ?_ _ _ | refine Gr.alloc ?_ _ | refine Gr.drew ?_)) g
  have Z6 := Lib.hid k.size
  replace B_pm := Lib.hid (B_pm.out.gr k)
  replace B_xm := Lib.hid (B_xm.out.gr k)
  replace R_xm := Lib.hid (R_xm.out.gr k)
  replace G := Lib.hid (G.out.trans k)
  clear g k
  go_wp2
  go_ret
  exact ⟨rfl, G.out.trans (by (try show Gr _ _); repeat (with_reducible first | exact Gr.refl _ | refine Gr.drewN ?_ _ | refine Gr.grew ?_ _ _ | refine Gr.alloc ?_ _ | refine Gr.drew ?_))⟩

set_option maxRecDepth 20000 in
set_option maxHeartbeats 1000000 in
theorem L_FnExactValidAlbum (ma : Option Addr) (mn mc : Nat) (mps : List Pic) (w : World) (fm : PSl w ma mps) (em : mps.length = mn) (lm : mn ≤ maxLen) :
    Calls Try.prog 6 #[.agg #[.slice ma mn mc]] w fun e w' => e = .returned (.bool true) ∧ ∃ os m, w' = w.grew os m := by
  by_cases hnm : (mn + pSum mps mn) ≤ 1048576
  · skip
    exact law_ValidAlbum mn ma mc mps _ w  fm em hnm
        (fun a_m c_m w f_m => S_ValidAlbum a_m mn c_m mps w f_m em (by omega)) (fun a_m c_m w f_m => I_ValidAlbum a_m mn c_m mps w f_m em (by omega) (fun i hi => Nat.le_trans (alb_len em (Nat.le_refl _) i hi) (by unfold maxLen; omega)))
  · skip
    go_enter Try.func6, Try.ntmps6
    go_wp2_with fail
    refine (L_szAlbum_no _ _ _ mps (1048576) _ (fm.keep (Gr.kp (by (try show Gr _ _); repeat (with_reducible first | exact Gr.refl _ | refine Gr.drewN ?_ _ | refine Gr.grew ?_ _ _ | refine Gr.alloc ?_ _ | refine Gr.drew ?_)))) em (by omega) (by omega) (by omega) lm).mono ?_
    rintro e ul ⟨rfl, g⟩
    have G1 : Gr w ul := Gr.trans (by (try show Gr _ _); repeat (with_reducible first | exact Gr.refl _ | refine Gr.drewN ?_ _ | refine Gr.grew ?_ _ _ | refine Gr.alloc ?_ _ | refine Gr.drew ?_)) g
    clear g
    go_wp2
    go_ret
    exact ⟨rfl, G1⟩

set_option maxRecDepth 100000 in
theorem fnExactValidAlbum_lifted (os : Os) (started : os.Started) (H : Type) (enc : TypeId × Value → H) :
    ReturnsInHanded {} Try.checked os 6 .any (Rows.fnExactValidAlbumSpec.pre6 enc Try.prog Try.f6 Rows.fnExactValidAlbumRow.domain false) (Rows.fnExactValidAlbumSpec.post enc Try.prog Try.f6 false true false false) := by
  refine returnsInHanded_of_change (C := Try.checked) own started (by kernel_rfl) Try.func6
    (ChangeSpec.witness6 (enc := enc) (C := Try.checked) false ⟨#[], #[.agg #[.slice none 0 0]], []⟩ 12 (by kernel_rfl) (by kernel_rfl) (by kernel_rfl) (by kernel_rfl)) ?_
  intro W base args ds gs before hval0 hW hcnd _
  have hval : ∀ (j : Nat) t v, Try.f6.params[j]? = some t → args[j]? = some v → Value.okWide Try.prog W .any base t v := hval0
  have hW' := hW
  obtain ⟨p, q, hA0, hV, rfl, hfz, hnd⟩ := hW
  have hA : DataW.TrodAll enc Try.prog W 0 (fun _ => true) true Try.f6.params.toList args.toList ds p := hA0
  rw [Try.params6] at hA hval
  obtain ⟨v0, vs0, d0, ds0, p0, q0, ha0, rfl, rfl, h0, r0⟩ := trodAll_cons hA
  obtain ⟨rfl, rfl, rfl⟩ := trodAll_nil r0
  obtain rfl : args = #[v0] := by cases args; simp_all
  obtain ⟨rfl, rfl⟩ := trodVars_none hV
  obtain ⟨ma, mn, mc, mps, rfl, fm, em, lm⟩ := open_album Try.underlying45 (by kernel_rfl) (by kernel_rfl) Try.underlying43 Try.underlying31 (by kernel_rfl) (by kernel_rfl) Try.underlying2 (by kernel_rfl) Try.underlying22 Try.underlying65 (by kernel_rfl) (hval 0 45 v0 rfl rfl) h0
  refine (L_FnExactValidAlbum ma mn mc mps W fm em lm).mono fun e W' ⟨he, hg⟩ => ?_
  exact ⟨_, he, post_true laidOut (by kernel_rfl) (by kernel_rfl) Try.underlying4 rfl hW' rfl rfl rfl (Gr.below hg)⟩

theorem fnExactValidAlbum_holds : Rows.FnExactValidAlbumSaid :=
  OpenClaim.holds_of_wide 6 Try.f6 rfl rfl rfl rfl rfl rfl rfl ⟨rfl, rfl, rfl, rfl, rfl⟩ rfl rfl rfl rfl rfl (by kernel_rfl) Try.func6 (by kernel_rfl)
    (of_decide_eq_true (by kernel_rfl)) (by unfold Func.isWrapper; first | (rw [if_pos (by decide +kernel)]; kernel_rfl) | (rw [if_neg (by decide +kernel)]; exact ⟨rfl, rfl⟩))
    (fun os started H enc _ => fnExactValidAlbum_lifted os started H enc)
#print axioms fnExactValidAlbum_holds
end Go.Proofs.Ytaidkokgafojeaa
