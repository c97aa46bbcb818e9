/- For every map, picture and numbers FnExactGuidedMap returns true. No conditions. MAXREC -/
import Derived.Test.YtaidkokgafojeaaRow
import Derived.Test.YtaidkokgafojeaaC101
import Derived.Test.YtaidkokgafojeaaLw
import Derived.Deep.RegionHeld3
import Derived.Deep.DeepCutAuto
namespace Go.Proofs.Ytaidkokgafojeaa
open Go.ChangeShapes Go.WideShapes Go.ChangeAt Go.RowKit Go.Joins Go.Deep Go.Fx Go.Soft

set_option maxRecDepth 20000 in
set_option maxHeartbeats 8000000 in
theorem law_GuidedMap (mw mh : Int) (ma : Option Addr) (mc : Nat) (mx : List Nat) (pw ph : Int) (pa : Option Addr) (pc : Nat) (px : List Nat) (reach : Int) (near : Nat) (A B : Int) (ok : Bool) (L : List Nat) (w : World) (hL : L.length ≤ 1048576) (hsm : FSl w ma mx.length mx) (hsp : FSl w pa px.length px) (hnm : mx.length ≤ 1048576) (hnp : mx.length + px.length ≤ 1048576)
    (HS : ∀ (a_m : Option Addr) (c_m : Nat) (a_p : Option Addr) (c_p : Nat) (w : World), FSl w a_m mx.length mx → FSl w a_p px.length px → Calls Try.prog 42 #[.agg #[.int .i64 mw, .int .i64 mh, .slice a_m mx.length c_m], .agg #[.int .i64 pw, .int .i64 ph, .slice a_p px.length c_p], .int .i64 reach, .float .f32 near] w (PostP w A B ok L))
    (HI : ∀ (a_m : Option Addr) (c_m : Nat) (a_p : Option Addr) (c_p : Nat) (w : World), FSl w a_m mx.length mx → FSl w a_p px.length px → Calls Try.prog 43 #[.agg #[.int .i64 mw, .int .i64 mh, .slice a_m mx.length c_m], .agg #[.int .i64 pw, .int .i64 ph, .slice a_p px.length c_p], .int .i64 reach, .float .f32 near] w (PostP w A B ok L)) :
    Calls Try.prog 10 #[.agg #[.int .i64 mw, .int .i64 mh, .slice ma mx.length mc], .agg #[.int .i64 pw, .int .i64 ph, .slice pa px.length pc], .int .i64 reach, .float .f32 near] w fun e w' => e = .returned (.bool true) ∧ ∃ os m, w' = w.grew os m := by
  have Hs := Lib.hid HS
  have Hi := Lib.hid HI
  clear HS HI
  have G := Lib.hid (Gr.refl w)
  have A_m := Lib.hid hsm
  clear hsm
  have A_p := Lib.hid hsp
  clear hsp
  go_enter Try.func10, Try.ntmps10
  go_wp2_with fail
  refine (L_szMap_ok _ _ _ _ _ _ _ (1048576) _ rfl rfl (by omega) (by omega)).mono ?_
  rintro e v0 ⟨rfl, g⟩
  have k : Gr w v0 := Gr.trans (by (try show Gr _ _); repeat (with_reducible first | exact Gr.refl _ | refine Gr.drewN ?_ _ | refine Gr.grew ?_ _ _ | refine Gr.alloc ?_ _ | refine Gr.drew ?_)) g
  have Z1 := Lib.hid k.size
  replace G := Lib.hid (G.out.trans k)
  have B_pm := Lib.hid (Blk.gr (show Blk _ (w.heap.size) [.int .i64 mw, .int .i64 mh, .slice ma mx.length mc] 59 from (by repeat (with_reducible first | assumption | exact Blk.atNew (by simp) | refine Blk.alloc ?_ _ | refine Blk.grew ?_ _ _ | refine Blk.drewN ?_ _ | refine Blk.drew ?_))) g)
  have B_pp := Lib.hid (Blk.gr (show Blk _ (w.heap.size + 1) [.int .i64 pw, .int .i64 ph, .slice pa px.length pc] 31 from (by repeat (with_reducible first | assumption | exact Blk.atNew (by simp) | refine Blk.alloc ?_ _ | refine Blk.grew ?_ _ _ | refine Blk.drewN ?_ _ | refine Blk.drew ?_))) g)
  clear g k
  have p_pp_0 := B_pp.out.cellv 0
  have p_pp_1 := B_pp.out.cellv 1
  have p_pp_2 := B_pp.out.cellv 2
  go_wp2_with fail
  refine (L_szPicture_ok _ _ _ _ _ _ _ (1048576 - (mx.length : Int)) _ rfl rfl (by omega) (by omega)).mono ?_
  rintro e v1 ⟨rfl, g⟩
  clear p_pp_0 p_pp_1 p_pp_2
  have k : Gr v0 v1 := Gr.trans (by (try show Gr _ _); repeat (with_reducible first | exact Gr.refl _ | refine Gr.drewN ?_ _ | refine Gr.grew ?_ _ _ | refine Gr.alloc ?_ _ | refine Gr.drew ?_)) g
  have Z2 := Lib.hid k.size
  replace B_pm := Lib.hid (B_pm.out.gr k)
  replace B_pp := Lib.hid (B_pp.out.gr k)
  replace G := Lib.hid (G.out.trans k)
  clear g k
  have p_pm_0 := B_pm.out.cellv 0
  have p_pm_1 := B_pm.out.cellv 1
  have p_pm_2 := B_pm.out.cellv 2
  have p_pp_0 := B_pp.out.cellv 0
  have p_pp_1 := B_pp.out.cellv 1
  have p_pp_2 := B_pp.out.cellv 2
  go_upto_region 8 with fail
  go_cut [10, 11] (fun sa sb wx => ∃ (g : Nat) (v : Value), sa = .pointer (some ⟨g, 0, none⟩) ∧ sb = .bool ok ∧ v1.heap.size ≤ g ∧ Blk wx g [.int .i64 A, .int .i64 B, v] 24 ∧ RowIn v1 wx 65 v L ∧ Gr v1 wx)
  case first =>
    clear Z1 Z2 B_pm B_pp Hi
    go_region_held3 (fun w' => w'.cell? ⟨w.heap.size, 0, none⟩ = some (.int .i64 mw) ∧ w'.cell? ⟨w.heap.size, 1, none⟩ = some (.int .i64 mh) ∧ w'.cell? ⟨w.heap.size, 2, none⟩ = some (.slice ma mx.length mc) ∧ w'.cell? ⟨w.heap.size + 1, 0, none⟩ = some (.int .i64 pw) ∧ w'.cell? ⟨w.heap.size + 1, 1, none⟩ = some (.int .i64 ph) ∧ w'.cell? ⟨w.heap.size + 1, 2, none⟩ = some (.slice pa px.length pc))
      (first | (simp (maxDischargeDepth := 12) [go_sem]; done) | (simp (maxDischargeDepth := 12) [go_sem, *]; done)) (first
      | (go_at_call 40; with_reducible refine (L_toMap mw mh ma _ mc mx _ ?_ ?_).mono ?_; exact A_m.out.keep (G.out.trans (by (try show Gr _ _); repeat (with_reducible first | exact Gr.refl _ | refine Gr.drewN ?_ _ | refine Gr.grew ?_ _ _ | refine Gr.alloc ?_ _ | refine Gr.drew ?_))).kp; omega; rintro e w1 ⟨⟨v, rfl, ho⟩, os0, m0, rfl⟩; (try simp only [grew_grew, drewN_grew, grew_drewN, drew_grew, Array.append_assoc] at ho); obtain ⟨a_m, c_m, rfl, h_m, -⟩ := ho.sl; clear ho)
      | (go_at_call 20; with_reducible refine (L_toPicture pw ph pa _ pc px _ ?_ ?_).mono ?_; exact A_p.out.keep (G.out.trans (by (try show Gr _ _); repeat (with_reducible first | exact Gr.refl _ | refine Gr.drewN ?_ _ | refine Gr.grew ?_ _ _ | refine Gr.alloc ?_ _ | refine Gr.drew ?_))).kp; omega; rintro e w1 ⟨⟨v, rfl, ho⟩, os1, m1, rfl⟩; (try simp only [grew_grew, drewN_grew, grew_drewN, drew_grew, Array.append_assoc] at ho); obtain ⟨a_p, c_p, rfl, h_p, -⟩ := ho.sl; clear ho)
      | (go_at_call 42; refine (Hs.out a_m c_m a_p c_p _ (h_m.keep (by (repeat (with_reducible first | exact Kp.refl _ | exact kp_same | exact kp_app1 | exact kp_app2 | exact kp_app3 | refine Kp.grew ?_ _ _ | refine Kp.drewN ?_ _ | refine Kp.drew ?_ | refine Kp.alloc ?_ _)))) (h_p.keep (by (repeat (with_reducible first | exact Kp.refl _ | exact kp_same | exact kp_app1 | exact kp_app2 | exact kp_app3 | refine Kp.grew ?_ _ _ | refine Kp.drewN ?_ _ | refine Kp.drew ?_ | refine Kp.alloc ?_ _))))).mono ?_; rintro e w1 ⟨⟨v, rfl, ho⟩, os9, m9, rfl⟩; (try simp only [grew_grew, drewN_grew, grew_drewN, drew_grew, Array.append_assoc] at ho); have fin := ho.fin; obtain ⟨a9, c9, rfl, -, -⟩ := ho.sl; clear ho))
    all_goals (go_wp2_with fail; go_meet; refine ⟨_, .slice a9 L.length c9, rfl, rfl, ?_, (by repeat (with_reducible first | assumption | exact Blk.atNew (by simp) | refine Blk.alloc ?_ _ | refine Blk.grew ?_ _ _ | refine Blk.drewN ?_ _ | refine Blk.drew ?_)), ?_, (by (try show Gr _ _); repeat (with_reducible first | exact Gr.refl _ | refine Gr.drewN ?_ _ | refine Gr.grew ?_ _ _ | refine Gr.alloc ?_ _ | refine Gr.drew ?_))⟩; (first | omega | (simp <;> omega)); first | (refine RowIn.swap fin ?_ ?_ ?_ ?_ <;> (first | omega | (simp <;> omega))) | exact RowIn.of fin (by (try show Gr _ _); repeat (with_reducible first | exact Gr.refl _ | refine Gr.drewN ?_ _ | refine Gr.grew ?_ _ _ | refine Gr.alloc ?_ _ | refine Gr.drew ?_)) (by (first | omega | (simp <;> omega))) (by (first | omega | (simp <;> omega))))
  case rest =>
    obtain ⟨g_w0, v, rfl, rfl, zg, b, ⟨lo_w0, hi_w0, zlo, zhi, r⟩, k⟩ := hcut
    clear p_pm_0 p_pm_1 p_pm_2 p_pp_0 p_pp_1 p_pp_2
    have Ew0 : ∃ u, u = wc := ⟨wc, rfl⟩
    obtain ⟨d3, hu⟩ := Ew0
    rw [← hu] at zhi b r k ⊢
    clear hu
    have Z3 := Lib.hid (show v1.heap.size ≤ d3.heap.size ∧ v1.heap.size ≤ g_w0 ∧ v1.heap.size ≤ lo_w0 ∧ hi_w0 ≤ d3.heap.size from ⟨k.size, zg, zlo, zhi⟩)
    replace B_pm := Lib.hid (B_pm.out.gr k)
    replace B_pp := Lib.hid (B_pp.out.gr k)
    replace G := Lib.hid (G.out.trans k)
    obtain ⟨a_w0, c_w0, rfl, -, -⟩ := r.sl
    have R_w0 := Lib.hid r
    have B_w0 := Lib.hid b
    clear k r b zg zlo zhi
    have p_pm_0 := B_pm.out.cellv 0
    have p_pm_1 := B_pm.out.cellv 1
    have p_pm_2 := B_pm.out.cellv 2
    go_wp2_with fail
    refine (L_toMap mw mh _ _ _ mx _ (A_m.out.keep (G.out.trans (by (try show Gr _ _); repeat (with_reducible first | exact Gr.refl _ | refine Gr.drewN ?_ _ | refine Gr.grew ?_ _ _ | refine Gr.alloc ?_ _ | refine Gr.drew ?_))).kp) (by omega)).mono ?_
    rintro e u3 ⟨⟨v, rfl, ho⟩, g⟩
    clear p_pm_0 p_pm_1 p_pm_2
    have k : Gr d3 u3 := Gr.trans (by (try show Gr _ _); repeat (with_reducible first | exact Gr.refl _ | refine Gr.drewN ?_ _ | refine Gr.grew ?_ _ _ | refine Gr.alloc ?_ _ | refine Gr.drew ?_)) g
    have Z4 := Lib.hid k.size
    replace B_pm := Lib.hid (B_pm.out.gr k)
    replace B_pp := Lib.hid (B_pp.out.gr k)
    replace B_w0 := Lib.hid (B_w0.out.gr k)
    replace R_w0 := Lib.hid (R_w0.out.gr k)
    replace G := Lib.hid (G.out.trans k)
    have R_xm := Lib.hid ho.fin
    obtain ⟨a_xm, c_xm, rfl, -, -⟩ := ho.sl
    clear ho g k
    have p_pp_0 := B_pp.out.cellv 0
    have p_pp_1 := B_pp.out.cellv 1
    have p_pp_2 := B_pp.out.cellv 2
    go_wp2_with fail
    refine (L_toPicture pw ph _ _ _ px _ (A_p.out.keep (G.out.trans (by (try show Gr _ _); repeat (with_reducible first | exact Gr.refl _ | refine Gr.drewN ?_ _ | refine Gr.grew ?_ _ _ | refine Gr.alloc ?_ _ | refine Gr.drew ?_))).kp) (by omega)).mono ?_
    rintro e u4 ⟨⟨v, rfl, ho⟩, g⟩
    clear p_pp_0 p_pp_1 p_pp_2
    have k : Gr u3 u4 := Gr.trans (by (try show Gr _ _); repeat (with_reducible first | exact Gr.refl _ | refine Gr.drewN ?_ _ | refine Gr.grew ?_ _ _ | refine Gr.alloc ?_ _ | refine Gr.drew ?_)) g
    have Z5 := Lib.hid k.size
    replace B_pm := Lib.hid (B_pm.out.gr k)
    replace B_pp := Lib.hid (B_pp.out.gr k)
    replace B_w0 := Lib.hid (B_w0.out.gr k)
    replace R_w0 := Lib.hid (R_w0.out.gr k)
    replace R_xm := Lib.hid (R_xm.out.gr k)
    replace G := Lib.hid (G.out.trans k)
    have B_xm := Lib.hid (Blk.gr (show Blk _ (u3.heap.size) [.int .i64 mw, .int .i64 mh, .slice a_xm mx.length c_xm] 24 from (by repeat (with_reducible first | assumption | exact Blk.atNew (by simp) | refine Blk.alloc ?_ _ | refine Blk.grew ?_ _ _ | refine Blk.drewN ?_ _ | refine Blk.drew ?_))) g)
    have R_xp := Lib.hid ho.fin
    obtain ⟨a_xp, c_xp, rfl, -, -⟩ := ho.sl
    clear ho g k
    have p_xm_0 := B_xm.out.cellv 0
    have p_xm_1 := B_xm.out.cellv 1
    have p_xm_2 := B_xm.out.cellv 2
    go_wp2_with fail
    refine (Hi.out _ _ _ _ _ (R_xm.out.fsl.keep (Gr.kp (by (try show Gr _ _); repeat (with_reducible first | exact Gr.refl _ | refine Gr.drewN ?_ _ | refine Gr.grew ?_ _ _ | refine Gr.alloc ?_ _ | refine Gr.drew ?_)))) (R_xp.out.fsl.keep (Gr.kp (by (try show Gr _ _); repeat (with_reducible first | exact Gr.refl _ | refine Gr.drewN ?_ _ | refine Gr.grew ?_ _ _ | refine Gr.alloc ?_ _ | refine Gr.drew ?_))))).mono ?_
    rintro e u5 ⟨⟨v, rfl, ho⟩, g⟩
    clear p_xm_0 p_xm_1 p_xm_2
    have k : Gr u4 u5 := Gr.trans (by (try show Gr _ _); repeat (with_reducible first | exact Gr.refl _ | refine Gr.drewN ?_ _ | refine Gr.grew ?_ _ _ | refine Gr.alloc ?_ _ | refine Gr.drew ?_)) g
    have Z6 := Lib.hid k.size
    replace B_pm := Lib.hid (B_pm.out.gr k)
    replace B_pp := Lib.hid (B_pp.out.gr k)
    replace B_w0 := Lib.hid (B_w0.out.gr k)
    replace B_xm := Lib.hid (B_xm.out.gr k)
    replace R_w0 := Lib.hid (R_w0.out.gr k)
    replace R_xm := Lib.hid (R_xm.out.gr k)
    replace R_xp := Lib.hid (R_xp.out.gr k)
    replace G := Lib.hid (G.out.trans k)
    have B_xp := Lib.hid (Blk.gr (show Blk _ (u4.heap.size) [.int .i64 pw, .int .i64 ph, .slice a_xp px.length c_xp] 35 from (by repeat (with_reducible first | assumption | exact Blk.atNew (by simp) | refine Blk.alloc ?_ _ | refine Blk.grew ?_ _ _ | refine Blk.drewN ?_ _ | refine Blk.drew ?_))) g)
    have R_g0 := Lib.hid ho.fin
    obtain ⟨a_g0, c_g0, rfl, -, -⟩ := ho.sl
    clear ho g k
    have p_w0_0 := B_w0.out.cellv 0
    have p_w0_1 := B_w0.out.cellv 1
    have p_w0_2 := B_w0.out.cellv 2
    go_wp2_with fail
    refine (L_eqMap A B _ _ _ _ _ _ L _ (R_g0.out.gr (by (try show Gr _ _); repeat (with_reducible first | exact Gr.refl _ | refine Gr.drewN ?_ _ | refine Gr.grew ?_ _ _ | refine Gr.alloc ?_ _ | refine Gr.drew ?_))).fsl (R_w0.out.gr (by (try show Gr _ _); repeat (with_reducible first | exact Gr.refl _ | refine Gr.drewN ?_ _ | refine Gr.grew ?_ _ _ | refine Gr.alloc ?_ _ | refine Gr.drew ?_))).fsl (by unfold maxLen; omega)).mono ?_
    rintro e u6 ⟨rfl, g⟩
    clear p_w0_0 p_w0_1 p_w0_2
    have k : Gr u5 u6 := Gr.trans (by (try show Gr _ _); repeat (with_reducible first | exact Gr.refl _ | refine Gr.drewN ?_ _ | refine Gr.grew ?_ _ _ | refine Gr.alloc ?_ _ | refine Gr.drew ?_)) g
    have Z7 := Lib.hid k.size
    replace B_pm := Lib.hid (B_pm.out.gr k)
    replace B_pp := Lib.hid (B_pp.out.gr k)
    replace B_w0 := Lib.hid (B_w0.out.gr k)
    replace B_xm := Lib.hid (B_xm.out.gr k)
    replace B_xp := Lib.hid (B_xp.out.gr k)
    replace R_w0 := Lib.hid (R_w0.out.gr k)
    replace R_xm := Lib.hid (R_xm.out.gr k)
    replace R_xp := Lib.hid (R_xp.out.gr k)
    replace R_g0 := Lib.hid (R_g0.out.gr k)
    replace G := Lib.hid (G.out.trans k)
    have B_g0 := Lib.hid (Blk.gr (show Blk _ (u5.heap.size) [.int .i64 A, .int .i64 B, .slice a_g0 L.length c_g0] 24 from (by repeat (with_reducible first | assumption | exact Blk.atNew (by simp) | refine Blk.alloc ?_ _ | refine Blk.grew ?_ _ _ | refine Blk.drewN ?_ _ | refine Blk.drew ?_))) g)
    clear g k
    have p_xm_0 := B_xm.out.cellv 0
    have p_xm_1 := B_xm.out.cellv 1
    have p_xm_2 := B_xm.out.cellv 2
    have p_pm_0 := B_pm.out.cellv 0
    have p_pm_1 := B_pm.out.cellv 1
    have p_pm_2 := B_pm.out.cellv 2
    go_wp2_with fail
    apply region_facts 4 [2] (fun _ v w' => ∃ a c, v = .agg #[.int .i64 mw, .int .i64 mh, .slice a mx.length c] ∧ FSl w' a mx.length mx)
    case hm => kernel_rfl
    case hB => kernel_rfl
    case hR => rfl
    case hP => (intro k hk v w1 w2 hg hv; obtain ⟨a, c, hv, hs⟩ := hv; exact ⟨a, c, hv, hs.keep hg.kp⟩)
    simp only [List.take_succ_cons, List.take_zero, List.drop_succ_cons, List.drop_zero]
    repeat (first
      | ((with_reducible apply wpF_call (f := 40) (S := fun v => ∃ a c, v = .agg #[.int .i64 mw, .int .i64 mh, .slice a mx.length c])); (case hw => rfl); (case hc => exact Try.call40); (case hv => ((conv => lhs; simp [Act.eval]); try rfl)); (case hS => (intro os m _; refine (L_toMap mw mh _ _ _ mx _ (A_m.out.keep (G.out.trans ⟨os, m, rfl⟩).kp) (by omega)).mono ?_; rintro e w' ⟨⟨v, rfl, ho⟩, g⟩; obtain ⟨a', c', rfl, hs', -⟩ := ho.sl; exact ⟨_, rfl, g, fun _ => ⟨a', c', rfl, hs'⟩, a', c', rfl⟩)); (case hne => exact ⟨_, none, 0, rfl⟩); (rintro v ⟨aq_, cq_, rfl⟩; simp only [Act.put, List.setIfInBounds_toArray, List.set_cons_succ, List.set_cons_zero]))
      | ((with_reducible apply wpF_call (f := 15) (S := fun v => v = .bool true)); (case hw => rfl); (case hc => exact Try.call15); (case hv => ((conv => lhs; simp [Act.eval]); try rfl)); (case hS => (intro os m hse; obtain ⟨a', c', hv', hs'⟩ := hse ⟨2, .data⟩ (by simp) rfl (by decide) _ _ rfl rfl; simp at hv'; obtain ⟨rfl, rfl⟩ := hv'; refine (L_eqMap mw mh _ _ _ _ _ _ mx _ (R_xm.out.gr ⟨os, m, rfl⟩).fsl hs' (by unfold maxLen; omega)).mono ?_; rintro e w' ⟨rfl, g⟩; exact ⟨_, rfl, g, fun h => absurd h (by decide), rfl⟩)); (case hne => exact ⟨_, rfl⟩); (rintro v rfl; simp only [Act.put, List.setIfInBounds_toArray, List.set_cons_succ, List.set_cons_zero]))
      | (apply wpF_skip rfl (by decide); simp only [Act.put, List.setIfInBounds_toArray, List.set_cons_succ, List.set_cons_zero])
      | (apply wpF_nilCheck rfl (by decide) rfl; simp only [Act.put, List.setIfInBounds_toArray, List.set_cons_succ, List.set_cons_zero])
      | ((with_reducible apply wpF_fop); (case hw => rfl); (case hT => decide); (case hop => rfl); (case hx => rfl); (case hy => rfl); (case hA => (first | assumption | exact FE.ofInt _ _ | exact FE.lit (by decide +kernel))); (case hB => (first | assumption | exact FE.ofInt _ _ | exact FE.lit (by decide +kernel))); (intro r hr; simp only [Act.put, List.setIfInBounds_toArray, List.set_cons_succ, List.set_cons_zero]))
      | ((with_reducible apply wpF_fneg); (case hw => rfl); (case hT => decide); (case hx => rfl); (case hA => (first | assumption | exact FE.ofInt _ _ | exact FE.lit (by decide +kernel))); (intro r hr; simp only [Act.put, List.setIfInBounds_toArray, List.set_cons_succ, List.set_cons_zero]))
      | ((with_reducible apply wpF_fcmp); (case hw => rfl); (case hT => decide); (case hop => rfl); (case hx => rfl); (case hy => rfl); (case hA => (first | assumption | exact FE.ofInt _ _ | exact FE.lit (by decide +kernel))); (case hB => (first | assumption | exact FE.ofInt _ _ | exact FE.lit (by decide +kernel))); (case hb => (first | assumption | rfl)); simp only [Act.put, List.setIfInBounds_toArray, List.set_cons_succ, List.set_cons_zero])
      | (apply wpF_q rfl (by decide) rfl; intro K hK; go_big_quiet_op; go_big_quiet_on))
    with_reducible apply wpF_nil
    intro os m hf
    obtain ⟨u7, hu⟩ : ∃ u, u = World.grew u6 os m := ⟨_, rfl⟩
    rw [← hu]
    have g : Gr u6 u7 := ⟨os, m, hu⟩
    clear hf hu
    clear p_xm_0 p_xm_1 p_xm_2 p_pm_0 p_pm_1 p_pm_2
    have k : Gr u6 u7 := Gr.trans (by (try show Gr _ _); repeat (with_reducible first | exact Gr.refl _ | refine Gr.drewN ?_ _ | refine Gr.grew ?_ _ _ | refine Gr.alloc ?_ _ | refine Gr.drew ?_)) g
    have Z8 := Lib.hid k.size
    replace B_pm := Lib.hid (B_pm.out.gr k)
    replace B_pp := Lib.hid (B_pp.out.gr k)
    replace B_w0 := Lib.hid (B_w0.out.gr k)
    replace B_xm := Lib.hid (B_xm.out.gr k)
    replace B_xp := Lib.hid (B_xp.out.gr k)
    replace B_g0 := Lib.hid (B_g0.out.gr k)
    replace R_w0 := Lib.hid (R_w0.out.gr k)
    replace R_xm := Lib.hid (R_xm.out.gr k)
    replace R_xp := Lib.hid (R_xp.out.gr k)
    replace R_g0 := Lib.hid (R_g0.out.gr k)
    replace G := Lib.hid (G.out.trans k)
    clear g k
    have p_xp_0 := B_xp.out.cellv 0
    have p_xp_1 := B_xp.out.cellv 1
    have p_xp_2 := B_xp.out.cellv 2
    have p_pp_0 := B_pp.out.cellv 0
    have p_pp_1 := B_pp.out.cellv 1
    have p_pp_2 := B_pp.out.cellv 2
    go_wp2_with fail
    apply region_facts 4 [2] (fun _ v w' => ∃ a c, v = .agg #[.int .i64 pw, .int .i64 ph, .slice a px.length c] ∧ FSl w' a px.length px)
    case hm => kernel_rfl
    case hB => kernel_rfl
    case hR => rfl
    case hP => (intro k hk v w1 w2 hg hv; obtain ⟨a, c, hv, hs⟩ := hv; exact ⟨a, c, hv, hs.keep hg.kp⟩)
    simp only [List.take_succ_cons, List.take_zero, List.drop_succ_cons, List.drop_zero]
    repeat (first
      | ((with_reducible apply wpF_call (f := 20) (S := fun v => ∃ a c, v = .agg #[.int .i64 pw, .int .i64 ph, .slice a px.length c])); (case hw => rfl); (case hc => exact Try.call20); (case hv => ((conv => lhs; simp [Act.eval]); try rfl)); (case hS => (intro os m _; refine (L_toPicture pw ph _ _ _ px _ (A_p.out.keep (G.out.trans ⟨os, m, rfl⟩).kp) (by omega)).mono ?_; rintro e w' ⟨⟨v, rfl, ho⟩, g⟩; obtain ⟨a', c', rfl, hs', -⟩ := ho.sl; exact ⟨_, rfl, g, fun _ => ⟨a', c', rfl, hs'⟩, a', c', rfl⟩)); (case hne => exact ⟨_, none, 0, rfl⟩); (rintro v ⟨aq_, cq_, rfl⟩; simp only [Act.put, List.setIfInBounds_toArray, List.set_cons_succ, List.set_cons_zero]))
      | ((with_reducible apply wpF_call (f := 22) (S := fun v => v = .bool true)); (case hw => rfl); (case hc => exact Try.call22); (case hv => ((conv => lhs; simp [Act.eval]); try rfl)); (case hS => (intro os m hse; obtain ⟨a', c', hv', hs'⟩ := hse ⟨2, .data⟩ (by simp) rfl (by decide) _ _ rfl rfl; simp at hv'; obtain ⟨rfl, rfl⟩ := hv'; refine (L_eqPicture pw ph _ _ _ _ _ _ px _ (R_xp.out.gr ⟨os, m, rfl⟩).fsl hs' (by unfold maxLen; omega)).mono ?_; rintro e w' ⟨rfl, g⟩; exact ⟨_, rfl, g, fun h => absurd h (by decide), rfl⟩)); (case hne => exact ⟨_, rfl⟩); (rintro v rfl; simp only [Act.put, List.setIfInBounds_toArray, List.set_cons_succ, List.set_cons_zero]))
      | (apply wpF_skip rfl (by decide); simp only [Act.put, List.setIfInBounds_toArray, List.set_cons_succ, List.set_cons_zero])
      | (apply wpF_nilCheck rfl (by decide) rfl; simp only [Act.put, List.setIfInBounds_toArray, List.set_cons_succ, List.set_cons_zero])
      | ((with_reducible apply wpF_fop); (case hw => rfl); (case hT => decide); (case hop => rfl); (case hx => rfl); (case hy => rfl); (case hA => (first | assumption | exact FE.ofInt _ _ | exact FE.lit (by decide +kernel))); (case hB => (first | assumption | exact FE.ofInt _ _ | exact FE.lit (by decide +kernel))); (intro r hr; simp only [Act.put, List.setIfInBounds_toArray, List.set_cons_succ, List.set_cons_zero]))
      | ((with_reducible apply wpF_fneg); (case hw => rfl); (case hT => decide); (case hx => rfl); (case hA => (first | assumption | exact FE.ofInt _ _ | exact FE.lit (by decide +kernel))); (intro r hr; simp only [Act.put, List.setIfInBounds_toArray, List.set_cons_succ, List.set_cons_zero]))
      | ((with_reducible apply wpF_fcmp); (case hw => rfl); (case hT => decide); (case hop => rfl); (case hx => rfl); (case hy => rfl); (case hA => (first | assumption | exact FE.ofInt _ _ | exact FE.lit (by decide +kernel))); (case hB => (first | assumption | exact FE.ofInt _ _ | exact FE.lit (by decide +kernel))); (case hb => (first | assumption | rfl)); simp only [Act.put, List.setIfInBounds_toArray, List.set_cons_succ, List.set_cons_zero])
      | (apply wpF_q rfl (by decide) rfl; intro K hK; go_big_quiet_op; go_big_quiet_on))
    with_reducible apply wpF_nil
    intro os m hf
    obtain ⟨u8, hu⟩ : ∃ u, u = World.grew u7 os m := ⟨_, rfl⟩
    rw [← hu]
    have g : Gr u7 u8 := ⟨os, m, hu⟩
    clear hf hu
    clear p_xp_0 p_xp_1 p_xp_2 p_pp_0 p_pp_1 p_pp_2
    have k : Gr u7 u8 := Gr.trans (by (try show Gr _ _); repeat (with_reducible first | exact Gr.refl _ | refine Gr.drewN ?_ _ | refine Gr.grew ?_ _ _ | refine Gr.alloc ?_ _ | refine Gr.drew ?_)) g
    have Z9 := Lib.hid k.size
    replace B_pm := Lib.hid (B_pm.out.gr k)
    replace B_pp := Lib.hid (B_pp.out.gr k)
    replace B_w0 := Lib.hid (B_w0.out.gr k)
    replace B_xm := Lib.hid (B_xm.out.gr k)
    replace B_xp := Lib.hid (B_xp.out.gr k)
    replace B_g0 := Lib.hid (B_g0.out.gr k)
    replace R_w0 := Lib.hid (R_w0.out.gr k)
    replace R_xm := Lib.hid (R_xm.out.gr k)
    replace R_xp := Lib.hid (R_xp.out.gr k)
    replace R_g0 := Lib.hid (R_g0.out.gr k)
    replace G := Lib.hid (G.out.trans k)
    clear g k
    have p_xm_0 := B_xm.out.cellv 0
    have p_xm_1 := B_xm.out.cellv 1
    have p_xm_2 := B_xm.out.cellv 2
    obtain ⟨vs, own, hv⟩ := R_xm.out.row
    go_wp2_with fail
    refine (L_markMap mw mh _ _ _ _ vs (1) _ own hv (by omega) (by omega) (by omega)).mono ?_
    rintro e u9 ⟨rfl, g, own1⟩
    clear p_xm_0 p_xm_1 p_xm_2
    have Z10 := Lib.hid g.by_.size
    replace B_pm := Lib.hid (B_pm.out.wrote own g (by decide))
    replace B_pp := Lib.hid (B_pp.out.wrote own g (by decide))
    replace B_w0 := Lib.hid (B_w0.out.wrote own g (by decide))
    replace B_xm := Lib.hid (B_xm.out.wrote own g (by decide))
    replace B_xp := Lib.hid (B_xp.out.wrote own g (by decide))
    replace B_g0 := Lib.hid (B_g0.out.wrote own g (by decide))
    replace R_w0 := Lib.hid (R_w0.out.wrote own g (by have := Z1.out; have := Z2.out; have := Z3.out; have := Z4.out; have := Z5.out; have := Z6.out; have := Z7.out; have := Z8.out; have := Z9.out; (try simp only [World.size_alloc, heap_size_grew] at *); omega))
    replace R_xp := Lib.hid (R_xp.out.wrote own g (by have := Z1.out; have := Z2.out; have := Z3.out; have := Z4.out; have := Z5.out; have := Z6.out; have := Z7.out; have := Z8.out; have := Z9.out; (try simp only [World.size_alloc, heap_size_grew] at *); omega))
    replace R_g0 := Lib.hid (R_g0.out.wrote own g (by have := Z1.out; have := Z2.out; have := Z3.out; have := Z4.out; have := Z5.out; have := Z6.out; have := Z7.out; have := Z8.out; have := Z9.out; (try simp only [World.size_alloc, heap_size_grew] at *); omega))
    replace G := Lib.hid (G.out.wrote own g (by have := Z1.out; have := Z2.out; have := Z3.out; have := Z4.out; have := Z5.out; have := Z6.out; have := Z7.out; have := Z8.out; have := Z9.out; (try simp only [World.size_alloc, heap_size_grew] at *); omega))
    have M_xm := Lib.hid own1
    clear own g hv own1
    have p_xp_0 := B_xp.out.cellv 0
    have p_xp_1 := B_xp.out.cellv 1
    have p_xp_2 := B_xp.out.cellv 2
    obtain ⟨vs, own, hv⟩ := R_xp.out.row
    go_wp2_with fail
    refine (L_markPicture pw ph _ _ _ _ vs (1 + (mx.length : Int)) _ own hv (by omega) (by omega) (by omega)).mono ?_
    rintro e u10 ⟨rfl, g, own1⟩
    clear p_xp_0 p_xp_1 p_xp_2
    have Z11 := Lib.hid g.by_.size
    replace B_pm := Lib.hid (B_pm.out.wrote own g (by decide))
    replace B_pp := Lib.hid (B_pp.out.wrote own g (by decide))
    replace B_w0 := Lib.hid (B_w0.out.wrote own g (by decide))
    replace B_xm := Lib.hid (B_xm.out.wrote own g (by decide))
    replace B_xp := Lib.hid (B_xp.out.wrote own g (by decide))
    replace B_g0 := Lib.hid (B_g0.out.wrote own g (by decide))
    replace R_w0 := Lib.hid (R_w0.out.wrote own g (by have := Z1.out; have := Z2.out; have := Z3.out; have := Z4.out; have := Z5.out; have := Z6.out; have := Z7.out; have := Z8.out; have := Z9.out; have := Z10.out; (try simp only [World.size_alloc, heap_size_grew] at *); omega))
    replace R_g0 := Lib.hid (R_g0.out.wrote own g (by have := Z1.out; have := Z2.out; have := Z3.out; have := Z4.out; have := Z5.out; have := Z6.out; have := Z7.out; have := Z8.out; have := Z9.out; have := Z10.out; (try simp only [World.size_alloc, heap_size_grew] at *); omega))
    replace M_xm := Lib.hid (M_xm.out.wrote own g (by have := Z1.out; have := Z2.out; have := Z3.out; have := Z4.out; have := Z5.out; have := Z6.out; have := Z7.out; have := Z8.out; have := Z9.out; have := Z10.out; (try simp only [World.size_alloc, heap_size_grew] at *); omega))
    replace G := Lib.hid (G.out.wrote own g (by have := Z1.out; have := Z2.out; have := Z3.out; have := Z4.out; have := Z5.out; have := Z6.out; have := Z7.out; have := Z8.out; have := Z9.out; have := Z10.out; (try simp only [World.size_alloc, heap_size_grew] at *); omega))
    have M_xp := Lib.hid own1
    clear own g hv own1
    have p_g0_0 := B_g0.out.cellv 0
    have p_g0_1 := B_g0.out.cellv 1
    have p_g0_2 := B_g0.out.cellv 2
    have p_w0_0 := B_w0.out.cellv 0
    have p_w0_1 := B_w0.out.cellv 1
    have p_w0_2 := B_w0.out.cellv 2
    go_wp2_with fail
    refine (L_eqMap A B _ _ _ _ _ _ L _ (R_g0.out.gr (by (try show Gr _ _); repeat (with_reducible first | exact Gr.refl _ | refine Gr.drewN ?_ _ | refine Gr.grew ?_ _ _ | refine Gr.alloc ?_ _ | refine Gr.drew ?_))).fsl (R_w0.out.gr (by (try show Gr _ _); repeat (with_reducible first | exact Gr.refl _ | refine Gr.drewN ?_ _ | refine Gr.grew ?_ _ _ | refine Gr.alloc ?_ _ | refine Gr.drew ?_))).fsl (by unfold maxLen; omega)).mono ?_
    rintro e u11 ⟨rfl, g⟩
    clear p_g0_0 p_g0_1 p_g0_2 p_w0_0 p_w0_1 p_w0_2
    have k : Gr u10 u11 := Gr.trans (by (try show Gr _ _); repeat (with_reducible first | exact Gr.refl _ | refine Gr.drewN ?_ _ | refine Gr.grew ?_ _ _ | refine Gr.alloc ?_ _ | refine Gr.drew ?_)) g
    have Z12 := Lib.hid k.size
    replace B_pm := Lib.hid (B_pm.out.gr k)
    replace B_pp := Lib.hid (B_pp.out.gr k)
    replace B_w0 := Lib.hid (B_w0.out.gr k)
    replace B_xm := Lib.hid (B_xm.out.gr k)
    replace B_xp := Lib.hid (B_xp.out.gr k)
    replace B_g0 := Lib.hid (B_g0.out.gr k)
    replace R_w0 := Lib.hid (R_w0.out.gr k)
    replace R_g0 := Lib.hid (R_g0.out.gr k)
    replace M_xm := Lib.hid (M_xm.out.gr k)
    replace M_xp := Lib.hid (M_xp.out.gr k)
    replace G := Lib.hid (G.out.trans k)
    clear g k
    have p_g0_0 := B_g0.out.cellv 0
    have p_g0_1 := B_g0.out.cellv 1
    have p_g0_2 := B_g0.out.cellv 2
    obtain ⟨vs, own, hv⟩ := R_g0.out.row
    go_wp2_with fail
    refine (L_markMap A B _ _ _ _ vs (1) _ own hv (by omega) (by omega) (by omega)).mono ?_
    rintro e u12 ⟨rfl, g, own1⟩
    clear p_g0_0 p_g0_1 p_g0_2
    have Z13 := Lib.hid g.by_.size
    replace B_pm := Lib.hid (B_pm.out.wrote own g (by decide))
    replace B_pp := Lib.hid (B_pp.out.wrote own g (by decide))
    replace B_w0 := Lib.hid (B_w0.out.wrote own g (by decide))
    replace B_xm := Lib.hid (B_xm.out.wrote own g (by decide))
    replace B_xp := Lib.hid (B_xp.out.wrote own g (by decide))
    replace B_g0 := Lib.hid (B_g0.out.wrote own g (by decide))
    replace R_w0 := Lib.hid (R_w0.out.wrote own g (by have := Z1.out; have := Z2.out; have := Z3.out; have := Z4.out; have := Z5.out; have := Z6.out; have := Z7.out; have := Z8.out; have := Z9.out; have := Z10.out; have := Z11.out; have := Z12.out; (try simp only [World.size_alloc, heap_size_grew] at *); omega))
    replace M_xm := Lib.hid (M_xm.out.wrote own g (by have := Z1.out; have := Z2.out; have := Z3.out; have := Z4.out; have := Z5.out; have := Z6.out; have := Z7.out; have := Z8.out; have := Z9.out; have := Z10.out; have := Z11.out; have := Z12.out; (try simp only [World.size_alloc, heap_size_grew] at *); omega))
    replace M_xp := Lib.hid (M_xp.out.wrote own g (by have := Z1.out; have := Z2.out; have := Z3.out; have := Z4.out; have := Z5.out; have := Z6.out; have := Z7.out; have := Z8.out; have := Z9.out; have := Z10.out; have := Z11.out; have := Z12.out; (try simp only [World.size_alloc, heap_size_grew] at *); omega))
    replace G := Lib.hid (G.out.wrote own g (by have := Z1.out; have := Z2.out; have := Z3.out; have := Z4.out; have := Z5.out; have := Z6.out; have := Z7.out; have := Z8.out; have := Z9.out; have := Z10.out; have := Z11.out; have := Z12.out; (try simp only [World.size_alloc, heap_size_grew] at *); omega))
    have M_g0 := Lib.hid own1
    clear own g hv own1
    have p_g0_0 := B_g0.out.cellv 0
    have p_g0_1 := B_g0.out.cellv 1
    have p_g0_2 := B_g0.out.cellv 2
    go_wp2_with fail
    refine (L_heldMap A B _ _ _ _ 1 _ (M_g0.out.gr (by (try show Gr _ _); repeat (with_reducible first | exact Gr.refl _ | refine Gr.drewN ?_ _ | refine Gr.grew ?_ _ _ | refine Gr.alloc ?_ _ | refine Gr.drew ?_))) (by omega) (by omega) (by omega)).mono ?_
    rintro e u13 ⟨rfl, g⟩
    clear p_g0_0 p_g0_1 p_g0_2
    have k : Gr u12 u13 := Gr.trans (by (try show Gr _ _); repeat (with_reducible first | exact Gr.refl _ | refine Gr.drewN ?_ _ | refine Gr.grew ?_ _ _ | refine Gr.alloc ?_ _ | refine Gr.drew ?_)) g
    have Z14 := Lib.hid k.size
    replace B_pm := Lib.hid (B_pm.out.gr k)
    replace B_pp := Lib.hid (B_pp.out.gr k)
    replace B_w0 := Lib.hid (B_w0.out.gr k)
    replace B_xm := Lib.hid (B_xm.out.gr k)
    replace B_xp := Lib.hid (B_xp.out.gr k)
    replace B_g0 := Lib.hid (B_g0.out.gr k)
    replace R_w0 := Lib.hid (R_w0.out.gr k)
    replace M_xm := Lib.hid (M_xm.out.gr k)
    replace M_xp := Lib.hid (M_xp.out.gr k)
    replace M_g0 := Lib.hid (M_g0.out.gr k)
    replace G := Lib.hid (G.out.trans k)
    clear g k
    have p_pm_0 := B_pm.out.cellv 0
    have p_pm_1 := B_pm.out.cellv 1
    have p_pm_2 := B_pm.out.cellv 2
    have p_pp_0 := B_pp.out.cellv 0
    have p_pp_1 := B_pp.out.cellv 1
    have p_pp_2 := B_pp.out.cellv 2
    go_upto_region 31 with fail
    go_cut [19, 20] (fun sa sb wx => ∃ (g : Nat) (v : Value), sa = .pointer (some ⟨g, 0, none⟩) ∧ sb = .bool ok ∧ u13.heap.size ≤ g ∧ Blk wx g [.int .i64 A, .int .i64 B, v] 24 ∧ RowIn u13 wx 65 v L ∧ Gr u13 wx)
    case first =>
      clear Z1 Z2 Z3 Z4 Z5 Z6 Z7 Z8 Z9 Z10 Z11 Z12 Z13 Z14 B_pm B_pp B_w0 B_xm B_xp B_g0 R_w0 M_xm M_xp M_g0 Hs
      go_region_held3 (fun w' => w'.cell? ⟨w.heap.size, 0, none⟩ = some (.int .i64 mw) ∧ w'.cell? ⟨w.heap.size, 1, none⟩ = some (.int .i64 mh) ∧ w'.cell? ⟨w.heap.size, 2, none⟩ = some (.slice ma mx.length mc) ∧ w'.cell? ⟨w.heap.size + 1, 0, none⟩ = some (.int .i64 pw) ∧ w'.cell? ⟨w.heap.size + 1, 1, none⟩ = some (.int .i64 ph) ∧ w'.cell? ⟨w.heap.size + 1, 2, none⟩ = some (.slice pa px.length pc))
      (first | (simp (maxDischargeDepth := 12) [go_sem]; done) | (simp (maxDischargeDepth := 12) [go_sem, *]; done)) (first
      | (go_at_call 40; with_reducible refine (L_toMap mw mh ma _ mc mx _ ?_ ?_).mono ?_; exact A_m.out.keep (G.out.trans (by (try show Gr _ _); repeat (with_reducible first | exact Gr.refl _ | refine Gr.drewN ?_ _ | refine Gr.grew ?_ _ _ | refine Gr.alloc ?_ _ | refine Gr.drew ?_))).kp; omega; rintro e w1 ⟨⟨v, rfl, ho⟩, os0, m0, rfl⟩; (try simp only [grew_grew, drewN_grew, grew_drewN, drew_grew, Array.append_assoc] at ho); obtain ⟨a_m, c_m, rfl, h_m, -⟩ := ho.sl; clear ho)
      | (go_at_call 20; with_reducible refine (L_toPicture pw ph pa _ pc px _ ?_ ?_).mono ?_; exact A_p.out.keep (G.out.trans (by (try show Gr _ _); repeat (with_reducible first | exact Gr.refl _ | refine Gr.drewN ?_ _ | refine Gr.grew ?_ _ _ | refine Gr.alloc ?_ _ | refine Gr.drew ?_))).kp; omega; rintro e w1 ⟨⟨v, rfl, ho⟩, os1, m1, rfl⟩; (try simp only [grew_grew, drewN_grew, grew_drewN, drew_grew, Array.append_assoc] at ho); obtain ⟨a_p, c_p, rfl, h_p, -⟩ := ho.sl; clear ho)
      | (go_at_call 43; refine (Hi.out a_m c_m a_p c_p _ (h_m.keep (by (repeat (with_reducible first | exact Kp.refl _ | exact kp_same | exact kp_app1 | exact kp_app2 | exact kp_app3 | refine Kp.grew ?_ _ _ | refine Kp.drewN ?_ _ | refine Kp.drew ?_ | refine Kp.alloc ?_ _)))) (h_p.keep (by (repeat (with_reducible first | exact Kp.refl _ | exact kp_same | exact kp_app1 | exact kp_app2 | exact kp_app3 | refine Kp.grew ?_ _ _ | refine Kp.drewN ?_ _ | refine Kp.drew ?_ | refine Kp.alloc ?_ _))))).mono ?_; rintro e w1 ⟨⟨v, rfl, ho⟩, os9, m9, rfl⟩; (try simp only [grew_grew, drewN_grew, grew_drewN, drew_grew, Array.append_assoc] at ho); have fin := ho.fin; obtain ⟨a9, c9, rfl, -, -⟩ := ho.sl; clear ho))
      all_goals (go_wp2_with fail; go_meet; refine ⟨_, .slice a9 L.length c9, rfl, rfl, ?_, (by repeat (with_reducible first | assumption | exact Blk.atNew (by simp) | refine Blk.alloc ?_ _ | refine Blk.grew ?_ _ _ | refine Blk.drewN ?_ _ | refine Blk.drew ?_)), ?_, (by (try show Gr _ _); repeat (with_reducible first | exact Gr.refl _ | refine Gr.drewN ?_ _ | refine Gr.grew ?_ _ _ | refine Gr.alloc ?_ _ | refine Gr.drew ?_))⟩; (first | omega | (simp <;> omega)); first | (refine RowIn.swap fin ?_ ?_ ?_ ?_ <;> (first | omega | (simp <;> omega))) | exact RowIn.of fin (by (try show Gr _ _); repeat (with_reducible first | exact Gr.refl _ | refine Gr.drewN ?_ _ | refine Gr.grew ?_ _ _ | refine Gr.alloc ?_ _ | refine Gr.drew ?_)) (by (first | omega | (simp <;> omega))) (by (first | omega | (simp <;> omega))))
    case rest =>
      obtain ⟨g_h0, v, rfl, rfl, zg, b, ⟨lo_h0, hi_h0, zlo, zhi, r⟩, k⟩ := hcut
      clear p_pm_0 p_pm_1 p_pm_2 p_pp_0 p_pp_1 p_pp_2
      have Eh0 : ∃ u, u = wc := ⟨wc, rfl⟩
      obtain ⟨d15, hu⟩ := Eh0
      rw [← hu] at zhi b r k ⊢
      clear hu
      have Z15 := Lib.hid (show u13.heap.size ≤ d15.heap.size ∧ u13.heap.size ≤ g_h0 ∧ u13.heap.size ≤ lo_h0 ∧ hi_h0 ≤ d15.heap.size from ⟨k.size, zg, zlo, zhi⟩)
      replace B_pm := Lib.hid (B_pm.out.gr k)
      replace B_pp := Lib.hid (B_pp.out.gr k)
      replace B_w0 := Lib.hid (B_w0.out.gr k)
      replace B_xm := Lib.hid (B_xm.out.gr k)
      replace B_xp := Lib.hid (B_xp.out.gr k)
      replace B_g0 := Lib.hid (B_g0.out.gr k)
      replace R_w0 := Lib.hid (R_w0.out.gr k)
      replace M_xm := Lib.hid (M_xm.out.gr k)
      replace M_xp := Lib.hid (M_xp.out.gr k)
      replace M_g0 := Lib.hid (M_g0.out.gr k)
      replace G := Lib.hid (G.out.trans k)
      obtain ⟨a_h0, c_h0, rfl, -, -⟩ := r.sl
      have R_h0 := Lib.hid r
      have B_h0 := Lib.hid b
      clear k r b zg zlo zhi
      have p_h0_0 := B_h0.out.cellv 0
      have p_h0_1 := B_h0.out.cellv 1
      have p_h0_2 := B_h0.out.cellv 2
      have p_w0_0 := B_w0.out.cellv 0
      have p_w0_1 := B_w0.out.cellv 1
      have p_w0_2 := B_w0.out.cellv 2
      go_wp2_with fail
      refine (L_eqMap A B _ _ _ _ _ _ L _ (R_h0.out.gr (by (try show Gr _ _); repeat (with_reducible first | exact Gr.refl _ | refine Gr.drewN ?_ _ | refine Gr.grew ?_ _ _ | refine Gr.alloc ?_ _ | refine Gr.drew ?_))).fsl (R_w0.out.gr (by (try show Gr _ _); repeat (with_reducible first | exact Gr.refl _ | refine Gr.drewN ?_ _ | refine Gr.grew ?_ _ _ | refine Gr.alloc ?_ _ | refine Gr.drew ?_))).fsl (by unfold maxLen; omega)).mono ?_
      rintro e u15 ⟨rfl, g⟩
      clear p_h0_0 p_h0_1 p_h0_2 p_w0_0 p_w0_1 p_w0_2
      have k : Gr d15 u15 := Gr.trans (by (try show Gr _ _); repeat (with_reducible first | exact Gr.refl _ | refine Gr.drewN ?_ _ | refine Gr.grew ?_ _ _ | refine Gr.alloc ?_ _ | refine Gr.drew ?_)) g
      have Z16 := Lib.hid k.size
      replace B_pm := Lib.hid (B_pm.out.gr k)
      replace B_pp := Lib.hid (B_pp.out.gr k)
      replace B_w0 := Lib.hid (B_w0.out.gr k)
      replace B_xm := Lib.hid (B_xm.out.gr k)
      replace B_xp := Lib.hid (B_xp.out.gr k)
      replace B_g0 := Lib.hid (B_g0.out.gr k)
      replace B_h0 := Lib.hid (B_h0.out.gr k)
      replace R_w0 := Lib.hid (R_w0.out.gr k)
      replace R_h0 := Lib.hid (R_h0.out.gr k)
      replace M_xm := Lib.hid (M_xm.out.gr k)
      replace M_xp := Lib.hid (M_xp.out.gr k)
      replace M_g0 := Lib.hid (M_g0.out.gr k)
      replace G := Lib.hid (G.out.trans k)
      clear g k
      have p_g0_0 := B_g0.out.cellv 0
      have p_g0_1 := B_g0.out.cellv 1
      have p_g0_2 := B_g0.out.cellv 2
      go_wp2_with fail
      refine (L_heldMap A B _ _ _ _ 1 _ (M_g0.out.gr (by (try show Gr _ _); repeat (with_reducible first | exact Gr.refl _ | refine Gr.drewN ?_ _ | refine Gr.grew ?_ _ _ | refine Gr.alloc ?_ _ | refine Gr.drew ?_))) (by omega) (by omega) (by omega)).mono ?_
      rintro e u16 ⟨rfl, g⟩
      clear p_g0_0 p_g0_1 p_g0_2
      have k : Gr u15 u16 := Gr.trans (by (try show Gr _ _); repeat (with_reducible first | exact Gr.refl _ | refine Gr.drewN ?_ _ | refine Gr.grew ?_ _ _ | refine Gr.alloc ?_ _ | refine Gr.drew ?_)) g
      have Z17 := Lib.hid k.size
      replace B_pm := Lib.hid (B_pm.out.gr k)
      replace B_pp := Lib.hid (B_pp.out.gr k)
      replace B_w0 := Lib.hid (B_w0.out.gr k)
      replace B_xm := Lib.hid (B_xm.out.gr k)
      replace B_xp := Lib.hid (B_xp.out.gr k)
      replace B_g0 := Lib.hid (B_g0.out.gr k)
      replace B_h0 := Lib.hid (B_h0.out.gr k)
      replace R_w0 := Lib.hid (R_w0.out.gr k)
      replace R_h0 := Lib.hid (R_h0.out.gr k)
      replace M_xm := Lib.hid (M_xm.out.gr k)
      replace M_xp := Lib.hid (M_xp.out.gr k)
      replace M_g0 := Lib.hid (M_g0.out.gr k)
      replace G := Lib.hid (G.out.trans k)
      clear g k
      go_wp2
      go_ret
      exact ⟨rfl, G.out.trans (by (try show Gr _ _); repeat (with_reducible first | exact Gr.refl _ | refine Gr.drewN ?_ _ | refine Gr.grew ?_ _ _ | refine Gr.alloc ?_ _ | refine Gr.drew ?_))⟩

set_option maxRecDepth 20000 in
set_option maxHeartbeats 1000000 in
theorem L_FnExactGuidedMap (mw mh : Int) (ma : Option Addr) (mn mc : Nat) (mx : List Nat) (pw ph : Int) (pa : Option Addr) (pn pc : Nat) (px : List Nat) (reach : Int) (near Knear : Nat) (w : World) (fm : FSl w ma mn mx) (lm : mn ≤ maxLen) (fp : FSl w pa pn px) (lp : pn ≤ maxLen) (hnear : FE .f32 near Knear) :
    Calls Try.prog 10 #[.agg #[.int .i64 mw, .int .i64 mh, .slice ma mn mc], .agg #[.int .i64 pw, .int .i64 ph, .slice pa pn pc], .int .i64 reach, .float .f32 near] w fun e w' => e = .returned (.bool true) ∧ ∃ os m, w' = w.grew os m := by
  obtain rfl := fm.len
  obtain rfl := fp.len
  by_cases hnm : mx.length ≤ 1048576
  · skip
    by_cases hnp : mx.length + px.length ≤ 1048576
    · skip
      exact law_GuidedMap mw mh ma mc mx pw ph pa pc px reach near _ _ _ _ w ((Nat.le_trans (gVals_length _ _ _) (by omega))) fm fp hnm hnp
          (fun a_m c_m a_p c_p w f_m f_p => S_GuidedMap mw mh pw ph reach a_m a_p c_m c_p near Knear mx px w f_m f_p (by omega) (by omega) hnear) (fun a_m c_m a_p c_p w f_m f_p => I_GuidedMap mw mh pw ph reach a_m a_p c_m c_p near Knear mx px w f_m f_p (by omega) (by omega) hnear)
    · clear fm fp
      go_enter Try.func10, Try.ntmps10
      go_wp2_with fail
      refine (L_szMap_ok _ _ _ _ _ _ _ (1048576) _ rfl rfl (by omega) (by omega)).mono ?_
      rintro e u0 ⟨rfl, g⟩
      have Bp := Lib.hid (Blk.gr (show Blk _ (w.heap.size + 1) [.int .i64 pw, .int .i64 ph, .slice pa px.length pc] 31 from (by repeat (with_reducible first | assumption | exact Blk.atNew (by simp) | refine Blk.alloc ?_ _ | refine Blk.grew ?_ _ _ | refine Blk.drewN ?_ _ | refine Blk.drew ?_))) g)
      have k : Gr w u0 := Gr.trans (by (try show Gr _ _); repeat (with_reducible first | exact Gr.refl _ | refine Gr.drewN ?_ _ | refine Gr.grew ?_ _ _ | refine Gr.alloc ?_ _ | refine Gr.drew ?_)) g
      have G := Lib.hid k
      clear g k
      have pp0 := Bp.out.cellv 0
      have pp1 := Bp.out.cellv 1
      have pp2 := Bp.out.cellv 2
      go_wp2_with fail
      refine (L_szPicture_no _ _ _ _ _ _ _ (1048576 - (mx.length : Int)) _ rfl rfl (by omega) (by omega) (by omega) lp).mono ?_
      rintro e ul ⟨rfl, g⟩
      have G1 := G.out.trans g
      clear g
      go_wp2
      go_ret
      exact ⟨rfl, G1⟩
  · clear fm fp
    go_enter Try.func10, Try.ntmps10
    go_wp2_with fail
    refine (L_szMap_no _ _ _ _ _ _ _ (1048576) _ rfl rfl (by omega) (by omega) (by omega) lm).mono ?_
    rintro e ul ⟨rfl, g⟩
    have G1 : Gr w ul := Gr.trans (by (try show Gr _ _); repeat (with_reducible first | exact Gr.refl _ | refine Gr.drewN ?_ _ | refine Gr.grew ?_ _ _ | refine Gr.alloc ?_ _ | refine Gr.drew ?_)) g
    clear g
    go_wp2
    go_ret
    exact ⟨rfl, G1⟩

set_option maxRecDepth 100000 in
theorem fnExactGuidedMap_lifted (os : Os) (started : os.Started) (H : Type) (enc : TypeId × Value → H) :
    ReturnsInHanded {} Try.checked os 10 .any (Rows.fnExactGuidedMapSpec.pre6 enc Try.prog Try.f10 Rows.fnExactGuidedMapRow.domain false) (Rows.fnExactGuidedMapSpec.post enc Try.prog Try.f10 false true false false) := by
  refine returnsInHanded_of_change (C := Try.checked) own started (by kernel_rfl) Try.func10
    (ChangeSpec.witness6 (enc := enc) (C := Try.checked) false ⟨#[], #[.agg #[.int .i64 0, .int .i64 0, .slice none 0 0], .agg #[.int .i64 0, .int .i64 0, .slice none 0 0], .int .i64 0, .float .f32 0], []⟩ 12 (by kernel_rfl) (by kernel_rfl) (by kernel_rfl) (by kernel_rfl)) ?_
  intro W base args ds gs before hval0 hW hcnd _
  have hval : ∀ (j : Nat) t v, Try.f10.params[j]? = some t → args[j]? = some v → Value.okWide Try.prog W .any base t v := hval0
  have hW' := hW
  obtain ⟨p, q, hA0, hV, rfl, hfz, hnd⟩ := hW
  have hA : DataW.TrodAll enc Try.prog W 0 (fun _ => true) true Try.f10.params.toList args.toList ds p := hA0
  rw [Try.params10] at hA hval
  obtain ⟨v0, vs0, d0, ds0, p0, q0, ha0, rfl, rfl, h0, r0⟩ := trodAll_cons hA
  obtain ⟨v1, vs1, d1, ds1, p1, q1, rfl, rfl, rfl, h1, r1⟩ := trodAll_cons r0
  obtain ⟨v2, vs2, d2, ds2, p2, q2, rfl, rfl, rfl, h2, r2⟩ := trodAll_cons r1
  obtain ⟨v3, vs3, d3, ds3, p3, q3, rfl, rfl, rfl, h3, r3⟩ := trodAll_cons r2
  obtain ⟨rfl, rfl, rfl⟩ := trodAll_nil r3
  obtain rfl : args = #[v0, v1, v2, v3] := by cases args; simp_all
  obtain ⟨rfl, rfl⟩ := trodVars_none hV
  obtain ⟨mw, mh, ma, mn, mc, mx, rfl, -, -, fm, lm⟩ := open_pic Try.underlying59 (by kernel_rfl) (by kernel_rfl) Try.underlying2 Try.underlying22 Try.underlying65 (by kernel_rfl) (hval 0 59 v0 rfl rfl) h0
  obtain ⟨pw, ph, pa, pn, pc, px, rfl, -, -, fp, lp⟩ := open_pic Try.underlying31 (by kernel_rfl) (by kernel_rfl) Try.underlying2 Try.underlying22 Try.underlying65 (by kernel_rfl) (hval 1 31 v1 rfl rfl) h1
  obtain ⟨reach, rfl, -, -, -⟩ := open_int Try.underlying2 (hval 2 2 v2 rfl rfl) h2
  obtain ⟨near, rfl, -, -, wnear⟩ := open_float Try.underlying65 (hval 3 65 v3 rfl rfl) h3
  refine (L_FnExactGuidedMap mw mh ma mn mc mx pw ph pa pn pc px reach near _ W fm lm fp lp (FE.wf wnear)).mono fun e W' ⟨he, hg⟩ => ?_
  exact ⟨_, he, post_true laidOut (by kernel_rfl) (by kernel_rfl) Try.underlying4 rfl hW' rfl rfl rfl (Gr.below hg)⟩

theorem fnExactGuidedMap_holds : Rows.FnExactGuidedMapSaid :=
  OpenClaim.holds_of_wide 10 Try.f10 rfl rfl rfl rfl rfl rfl rfl ⟨rfl, rfl, rfl, rfl, rfl⟩ rfl rfl rfl rfl rfl (by kernel_rfl) Try.func10 (by kernel_rfl)
    (of_decide_eq_true (by kernel_rfl)) (by unfold Func.isWrapper; first | (rw [if_pos (by decide +kernel)]; kernel_rfl) | (rw [if_neg (by decide +kernel)]; exact ⟨rfl, rfl⟩))
    (fun os started H enc _ => fnExactGuidedMap_lifted os started H enc)
#print axioms fnExactGuidedMap_holds
end Go.Proofs.Ytaidkokgafojeaa
