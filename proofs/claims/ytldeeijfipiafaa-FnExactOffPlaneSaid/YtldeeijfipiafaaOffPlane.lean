/- For every list of points and plane FnExactOffPlane returns true. No conditions. MAXREC -/
import Derived.Test.YtldeeijfipiafaaRow
import Derived.Test.YtldeeijfipiafaaRvs
import Derived.Test.YtldeeijfipiafaaC44
import Derived.Test.YtldeeijfipiafaaLw
import Derived.Deep.RegionHeld3
import Derived.Deep.DeepCutAuto
namespace Go.Proofs.Ytldeeijfipiafaa
open Go.ChangeShapes Go.WideShapes Go.ChangeAt Go.RowKit Go.Joins Go.Deep Go.Fx Go.Soft

set_option maxRecDepth 20000 in
set_option maxHeartbeats 8000000 in
theorem law_OffPlane (pointsn : Nat) (pointsa : Option Addr) (pointsc : Nat) (pointsx : List Nat) (pl0 pl1 pl2 : Nat) (ok : Bool) (V : Nat) (w : World)  (hspoints : FSl w pointsa (pointsn * 3) pointsx) (hnpoints : pointsn ≤ 1048576)
    (HS : ∀ (a_points : Option Addr) (c_points : Nat) (w : World), FSl w a_points (pointsn * 3) pointsx → Calls Try.prog 57 #[.slice a_points pointsn c_points, .agg #[.float .f32 pl0, .float .f32 pl1, .float .f32 pl2]] w (fun e w' => (∃ r, e = .returned (.tuple #[.float .f32 r, .bool ok]) ∧ FE .f32 r V) ∧ Gr w w'))
    (HI : ∀ (a_points : Option Addr) (c_points : Nat) (w : World), FSl w a_points (pointsn * 3) pointsx → Calls Try.prog 58 #[.slice a_points pointsn c_points, .agg #[.float .f32 pl0, .float .f32 pl1, .float .f32 pl2]] w (fun e w' => (∃ r, e = .returned (.tuple #[.float .f32 r, .bool ok]) ∧ FE .f32 r V) ∧ Gr w w')) :
    Calls Try.prog 12 #[.slice pointsa pointsn pointsc, .agg #[.float .f32 pl0, .float .f32 pl1, .float .f32 pl2]] w fun e w' => e = .returned (.bool true) ∧ ∃ os m, w' = w.grew os m := by
  have Hs := Lib.hid HS
  have Hi := Lib.hid HI
  clear HS HI
  have G := Lib.hid (Gr.refl w)
  have A_points := Lib.hid hspoints
  clear hspoints
  go_enter Try.func12, Try.ntmps12
  go_wp2_with fail
  refine (L_szVectorS_ok _ _ _ (1048576) _ (by omega) (by omega)).mono ?_
  rintro e v0 ⟨rfl, g⟩
  have k : Gr w v0 := Gr.trans (by (try show Gr _ _); repeat (with_reducible first | exact Gr.refl _ | refine Gr.drewN ?_ _ | refine Gr.grew ?_ _ _ | refine Gr.alloc ?_ _ | refine Gr.drew ?_)) g
  have Z1 := Lib.hid k.size
  replace G := Lib.hid (G.out.trans k)
  have B_ppl := Lib.hid (Blk.gr (show Blk _ (w.heap.size) [.float .f32 pl0, .float .f32 pl1, .float .f32 pl2] 71 from (by repeat (with_reducible first | assumption | exact Blk.atNew (by simp) | refine Blk.alloc ?_ _ | refine Blk.grew ?_ _ _ | refine Blk.drewN ?_ _ | refine Blk.drew ?_))) g)
  clear g k
  have p_ppl_0 := B_ppl.out.cellv 0
  have p_ppl_1 := B_ppl.out.cellv 1
  have p_ppl_2 := B_ppl.out.cellv 2
  go_upto_region 5 with fail
  go_cut [6, 7] (fun sa sb wx => ∃ r : Nat, sa = .float .f32 r ∧ sb = .bool ok ∧ FE .f32 r V ∧ Gr v0 wx)
  case first =>
    clear Z1 B_ppl Hi
    go_region_held3 (fun w' => w'.cell? ⟨w.heap.size, 0, none⟩ = some (.float .f32 pl0) ∧ w'.cell? ⟨w.heap.size, 1, none⟩ = some (.float .f32 pl1) ∧ w'.cell? ⟨w.heap.size, 2, none⟩ = some (.float .f32 pl2))
      (first | (simp (maxDischargeDepth := 12) [go_sem]; done) | (simp (maxDischargeDepth := 12) [go_sem, *]; done)) (first
      | (go_at_call 52; refine (L_toVectorS pointsa _ pointsc pointsx _ ?_ ?_).mono ?_; exact A_points.out.keep (G.out.trans (by (try show Gr _ _); repeat (with_reducible first | exact Gr.refl _ | refine Gr.drewN ?_ _ | refine Gr.grew ?_ _ _ | refine Gr.alloc ?_ _ | refine Gr.drew ?_))).kp; omega; rintro e w1 ⟨⟨v, rfl, ho⟩, os0, m0, rfl⟩; (try simp only [grew_grew, drewN_grew, grew_drewN, drew_grew, Array.append_assoc] at ho); obtain ⟨a_points, c_points, rfl, h_points, -⟩ := ho.sl; clear ho)
      | (go_at_call 53; refine (L_toPlane pl0 pl1 pl2 _).mono ?_; rintro e w1 ⟨rfl, os1, m1, rfl⟩)
      | (go_at_call 57; refine (Hs.out a_points c_points _ (h_points.keep (by (repeat (with_reducible first | exact Kp.refl _ | exact kp_same | exact kp_app1 | exact kp_app2 | exact kp_app3 | refine Kp.grew ?_ _ _ | refine Kp.drewN ?_ _ | refine Kp.drew ?_ | refine Kp.alloc ?_ _))))).mono ?_; rintro e w1 ⟨⟨r9, rfl, hr9⟩, os9, m9, rfl⟩))
    all_goals (go_wp2_with fail; go_meet; exact ⟨_, rfl, rfl, hr9, (by (try show Gr _ _); repeat (with_reducible first | exact Gr.refl _ | refine Gr.drewN ?_ _ | refine Gr.grew ?_ _ _ | refine Gr.alloc ?_ _ | refine Gr.drew ?_))⟩)
  case rest =>
    obtain ⟨r_w0, rfl, rfl, hr_w0, k⟩ := hcut
    clear p_ppl_0 p_ppl_1 p_ppl_2
    have Ew0 : ∃ u, u = wc := ⟨wc, rfl⟩
    obtain ⟨d2, hu⟩ := Ew0
    rw [← hu] at k ⊢
    clear hu
    have Z2 := Lib.hid (show v0.heap.size ≤ d2.heap.size from k.size)
    replace B_ppl := Lib.hid (B_ppl.out.gr k)
    replace G := Lib.hid (G.out.trans k)
    clear k
    go_wp2_with fail
    refine (L_toVectorS  _ _ _ pointsx _ (A_points.out.keep (G.out.trans (by (try show Gr _ _); repeat (with_reducible first | exact Gr.refl _ | refine Gr.drewN ?_ _ | refine Gr.grew ?_ _ _ | refine Gr.alloc ?_ _ | refine Gr.drew ?_))).kp) (by omega)).mono ?_
    rintro e u2 ⟨⟨v, rfl, ho⟩, g⟩
    have k : Gr d2 u2 := Gr.trans (by (try show Gr _ _); repeat (with_reducible first | exact Gr.refl _ | refine Gr.drewN ?_ _ | refine Gr.grew ?_ _ _ | refine Gr.alloc ?_ _ | refine Gr.drew ?_)) g
    have Z3 := Lib.hid k.size
    replace B_ppl := Lib.hid (B_ppl.out.gr k)
    replace G := Lib.hid (G.out.trans k)
    have R_xpoints := Lib.hid ho.fin
    obtain ⟨a_xpoints, c_xpoints, rfl, -, -⟩ := ho.sl
    clear ho g k
    have p_ppl_0 := B_ppl.out.cellv 0
    have p_ppl_1 := B_ppl.out.cellv 1
    have p_ppl_2 := B_ppl.out.cellv 2
    go_wp2_with fail
    refine (L_toPlane _ _ _ _).mono ?_
    rintro e u3 ⟨rfl, g⟩
    clear p_ppl_0 p_ppl_1 p_ppl_2
    have k : Gr u2 u3 := Gr.trans (by (try show Gr _ _); repeat (with_reducible first | exact Gr.refl _ | refine Gr.drewN ?_ _ | refine Gr.grew ?_ _ _ | refine Gr.alloc ?_ _ | refine Gr.drew ?_)) g
    have Z4 := Lib.hid k.size
    replace B_ppl := Lib.hid (B_ppl.out.gr k)
    replace R_xpoints := Lib.hid (R_xpoints.out.gr k)
    replace G := Lib.hid (G.out.trans k)
    clear g k
    go_wp2_with fail
    refine (Hi.out _ _ _ (R_xpoints.out.fsl.keep (Gr.kp (by (try show Gr _ _); repeat (with_reducible first | exact Gr.refl _ | refine Gr.drewN ?_ _ | refine Gr.grew ?_ _ _ | refine Gr.alloc ?_ _ | refine Gr.drew ?_))))).mono ?_
    rintro e u4 ⟨⟨r_g0, rfl, hr_g0⟩, g⟩
    have k : Gr u3 u4 := Gr.trans (by (try show Gr _ _); repeat (with_reducible first | exact Gr.refl _ | refine Gr.drewN ?_ _ | refine Gr.grew ?_ _ _ | refine Gr.alloc ?_ _ | refine Gr.drew ?_)) g
    have Z5 := Lib.hid k.size
    replace B_ppl := Lib.hid (B_ppl.out.gr k)
    replace R_xpoints := Lib.hid (R_xpoints.out.gr k)
    replace G := Lib.hid (G.out.trans k)
    clear g k
    go_wp2_with (first
    | ((with_reducible apply wpList_widen); (case hw => rfl); (case hs => exact Try.underlying42); (case hd => exact Try.underlying84); (case hx => rfl); (case hA => assumption); intro r n hr))
    refine (L_sameFloat _ _ _ _ (by assumption) (by assumption)).mono ?_
    rintro e u5 ⟨rfl, n, hn⟩
    have g : Gr _ u5 := gr_of_drew hn
    clear hn
    have k : Gr u4 u5 := Gr.trans (by (try show Gr _ _); repeat (with_reducible first | exact Gr.refl _ | refine Gr.drewN ?_ _ | refine Gr.grew ?_ _ _ | refine Gr.alloc ?_ _ | refine Gr.drew ?_)) g
    have Z6 := Lib.hid k.size
    replace B_ppl := Lib.hid (B_ppl.out.gr k)
    replace R_xpoints := Lib.hid (R_xpoints.out.gr k)
    replace G := Lib.hid (G.out.trans k)
    clear g k
    go_wp2_with fail
    refine (L_toVectorS  _ _ _ pointsx _ (A_points.out.keep (G.out.trans (by (try show Gr _ _); repeat (with_reducible first | exact Gr.refl _ | refine Gr.drewN ?_ _ | refine Gr.grew ?_ _ _ | refine Gr.alloc ?_ _ | refine Gr.drew ?_))).kp) (by omega)).mono ?_
    rintro e u6 ⟨⟨v, rfl, ho⟩, g⟩
    have k : Gr u5 u6 := Gr.trans (by (try show Gr _ _); repeat (with_reducible first | exact Gr.refl _ | refine Gr.drewN ?_ _ | refine Gr.grew ?_ _ _ | refine Gr.alloc ?_ _ | refine Gr.drew ?_)) g
    have Z7 := Lib.hid k.size
    replace B_ppl := Lib.hid (B_ppl.out.gr k)
    replace R_xpoints := Lib.hid (R_xpoints.out.gr k)
    replace G := Lib.hid (G.out.trans k)
    have R_ypoints := Lib.hid ho.fin
    obtain ⟨a_ypoints, c_ypoints, rfl, -, -⟩ := ho.sl
    clear ho g k
    go_wp2_with fail
    refine (L_eqVectorS _ _ _ _ _ _ pointsx _ (R_xpoints.out.gr (by (try show Gr _ _); repeat (with_reducible first | exact Gr.refl _ | refine Gr.drewN ?_ _ | refine Gr.grew ?_ _ _ | refine Gr.alloc ?_ _ | refine Gr.drew ?_))).fsl (R_ypoints.out.gr (by (try show Gr _ _); repeat (with_reducible first | exact Gr.refl _ | refine Gr.drewN ?_ _ | refine Gr.grew ?_ _ _ | refine Gr.alloc ?_ _ | refine Gr.drew ?_))).fsl (by unfold maxLen; omega)).mono ?_
    rintro e u7 ⟨rfl, g⟩
    have k : Gr u6 u7 := Gr.trans (by (try show Gr _ _); repeat (with_reducible first | exact Gr.refl _ | refine Gr.drewN ?_ _ | refine Gr.grew ?_ _ _ | refine Gr.alloc ?_ _ | refine Gr.drew ?_)) g
    have Z8 := Lib.hid k.size
    replace B_ppl := Lib.hid (B_ppl.out.gr k)
    replace R_xpoints := Lib.hid (R_xpoints.out.gr k)
    replace R_ypoints := Lib.hid (R_ypoints.out.gr k)
    replace G := Lib.hid (G.out.trans k)
    clear g k R_ypoints
    go_wp2
    go_ret
    exact ⟨rfl, G.out.trans (by (try show Gr _ _); repeat (with_reducible first | exact Gr.refl _ | refine Gr.drewN ?_ _ | refine Gr.grew ?_ _ _ | refine Gr.alloc ?_ _ | refine Gr.drew ?_))⟩

set_option maxRecDepth 20000 in
set_option maxHeartbeats 1000000 in
theorem L_FnExactOffPlane (pointsa : Option Addr) (pointsn pointsc : Nat) (pointsx : List Nat) (pl0 Kpl0 pl1 Kpl1 pl2 Kpl2 : Nat) (w : World) (fpoints : FSl w pointsa (pointsn * 3) pointsx) (lpoints : pointsn ≤ maxLen) (hpl0 : FE .f32 pl0 Kpl0) (hpl1 : FE .f32 pl1 Kpl1) (hpl2 : FE .f32 pl2 Kpl2) :
    Calls Try.prog 12 #[.slice pointsa pointsn pointsc, .agg #[.float .f32 pl0, .float .f32 pl1, .float .f32 pl2]] w fun e w' => e = .returned (.bool true) ∧ ∃ os m, w' = w.grew os m := by
  by_cases hnpoints : pointsn ≤ 1048576
  · skip
    exact law_OffPlane pointsn pointsa pointsc pointsx pl0 pl1 pl2 _ _ w  fpoints hnpoints
        (fun a_points c_points w f_points => S_OffPlane pl0 pl1 pl2 _ _ _ pointsn a_points c_points pointsx w f_points (by omega) hpl0 hpl1 hpl2) (fun a_points c_points w f_points => I_OffPlane pl0 pl1 pl2 _ _ _ pointsn a_points c_points pointsx w f_points (by omega) hpl0 hpl1 hpl2)
  · clear fpoints
    go_enter Try.func12, Try.ntmps12
    go_wp2_with fail
    refine (L_szVectorS_no _ _ _ (1048576) _ (by omega) (by omega) (by omega) lpoints).mono ?_
    rintro e ul ⟨rfl, g⟩
    have G1 : Gr w ul := Gr.trans (by (try show Gr _ _); repeat (with_reducible first | exact Gr.refl _ | refine Gr.drewN ?_ _ | refine Gr.grew ?_ _ _ | refine Gr.alloc ?_ _ | refine Gr.drew ?_)) g
    clear g
    go_wp2
    go_ret
    exact ⟨rfl, G1⟩

set_option maxRecDepth 100000 in
theorem fnExactOffPlane_lifted (os : Os) (started : os.Started) (H : Type) (enc : TypeId × Value → H) :
    ReturnsInHanded {} Try.checked os 12 .any (Rows.fnExactOffPlaneSpec.pre6 enc Try.prog Try.f12 Rows.fnExactOffPlaneRow.domain false) (Rows.fnExactOffPlaneSpec.post enc Try.prog Try.f12 false true false false) := by
  refine returnsInHanded_of_change (C := Try.checked) own started (by kernel_rfl) Try.func12
    (ChangeSpec.witness6 (enc := enc) (C := Try.checked) false ⟨#[], #[.slice none 0 0, .agg #[.float .f32 0, .float .f32 0, .float .f32 0]], []⟩ 12 (by kernel_rfl) (by kernel_rfl) (by kernel_rfl) (by kernel_rfl)) ?_
  intro W base args ds gs before hval0 hW hcnd _
  have hval : ∀ (j : Nat) t v, Try.f12.params[j]? = some t → args[j]? = some v → Value.okWide Try.prog W .any base t v := hval0
  have hW' := hW
  obtain ⟨p, q, hA0, hV, rfl, hfz, hnd⟩ := hW
  have hA : DataW.TrodAll enc Try.prog W 0 (fun _ => true) true Try.f12.params.toList args.toList ds p := hA0
  rw [Try.params12] at hA hval
  obtain ⟨v0, vs0, d0, ds0, p0, q0, ha0, rfl, rfl, h0, r0⟩ := trodAll_cons hA
  obtain ⟨v1, vs1, d1, ds1, p1, q1, rfl, rfl, rfl, h1, r1⟩ := trodAll_cons r0
  obtain ⟨rfl, rfl, rfl⟩ := trodAll_nil r1
  obtain rfl : args = #[v0, v1] := by cases args; simp_all
  obtain ⟨rfl, rfl⟩ := trodVars_none hV
  obtain ⟨pointsa, pointsn, pointsc, pointsx, rfl, fpoints, lpoints⟩ := open_vecs Try.underlying69 Try.underlying147 (by kernel_rfl) (by kernel_rfl) Try.underlying42 (hval 0 69 v0 rfl rfl) h0
  obtain ⟨pl0, pl1, pl2, rfl, wpl0, wpl1, wpl2⟩ := open_f3 Try.underlying71 (by kernel_rfl) (by kernel_rfl) Try.underlying42 (hval 1 71 v1 rfl rfl) h1
  refine (L_FnExactOffPlane pointsa pointsn pointsc pointsx pl0 _ pl1 _ pl2 _ W fpoints lpoints wpl0 wpl1 wpl2).mono fun e W' ⟨he, hg⟩ => ?_
  exact ⟨_, he, post_true laidOut (by kernel_rfl) (by kernel_rfl) Try.underlying4 rfl hW' rfl rfl rfl (Gr.below hg)⟩

theorem fnExactOffPlane_holds : Rows.FnExactOffPlaneSaid :=
  OpenClaim.holds_of_wide 12 Try.f12 rfl rfl rfl rfl rfl rfl rfl ⟨rfl, rfl, rfl, rfl, rfl⟩ rfl rfl rfl rfl rfl (by kernel_rfl) Try.func12 (by kernel_rfl)
    (of_decide_eq_true (by kernel_rfl)) (by unfold Func.isWrapper; first | (rw [if_pos (by decide +kernel)]; kernel_rfl) | (rw [if_neg (by decide +kernel)]; exact ⟨rfl, rfl⟩))
    (fun os started H enc _ => fnExactOffPlane_lifted os started H enc)
#print axioms fnExactOffPlane_holds
end Go.Proofs.Ytldeeijfipiafaa
