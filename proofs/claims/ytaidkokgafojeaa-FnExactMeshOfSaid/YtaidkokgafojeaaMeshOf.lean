/- For every camera, map and number FnExactMeshOf returns true. No conditions. MAXREC -/
import Derived.Test.YtaidkokgafojeaaRow
import Derived.Test.YtaidkokgafojeaaC124
import Derived.Test.YtaidkokgafojeaaC125
import Derived.Test.YtaidkokgafojeaaLw
import Derived.Deep.RegionHeld3
import Derived.Deep.DeepCutAuto
namespace Go.Proofs.Ytaidkokgafojeaa
open Go.ChangeShapes Go.WideShapes Go.ChangeAt Go.RowKit Go.Joins Go.Deep Go.Fx Go.Soft
theorem gMesh_fits (F B X Y M : Nat) (W H : Int) (xs : List Nat) : (if gPtsOk F B X Y W H xs.length = true then (gPtsI F B xs xs.length).length else 0) ≤ 1048576 ∧ (if gPtsOk F B X Y W H xs.length = true then gMesh (gPtsI F B xs xs.length) (gPtsV F B X Y W.toNat xs xs.length) W.toNat H.toNat M xs.length else []).length ≤ 1048576 := by
  cases hO : gPtsOk F B X Y W H xs.length
  · simp
  · simp only [gPtsOk, Bool.and_eq_true] at hO
    obtain ⟨W', H', rfl, rfl, h1, h2, h3, h4, h5, h6⟩ := gPic_nat hO.2
    have h7 : xs.length ≤ 576 := by rw [h5]; exact Nat.mul_le_mul h1 h2
    have h8 := gPtsI_length F B xs xs.length
    simp only [if_true]
    have h9 := gMesh_len (gPtsI F B xs xs.length) (gPtsV F B X Y (W' : Int).toNat xs xs.length) (W' : Int).toNat (H' : Int).toNat M xs.length
    omega

set_option maxRecDepth 20000 in
set_option maxHeartbeats 8000000 in
theorem law_MeshOf (cm0 cm1 cm2 cm3 : Nat) (mw mh : Int) (ma : Option Addr) (mc : Nat) (mx : List Nat) (q : Nat) (ok : Bool) (nt : Nat) (L : List Nat) (I : List (List Int)) (w : World) (hL : nt ≤ 1048576 ∧ I.length ≤ 1048576) (hsm : FSl w ma mx.length mx) (hnm : mx.length ≤ 1048576)
    (HS : ∀ (a_m : Option Addr) (c_m : Nat) (w : World), FSl w a_m mx.length mx → Calls Try.prog 53 #[.agg #[.float .f32 cm0, .float .f32 cm1, .float .f32 cm2, .float .f32 cm3], .agg #[.int .i64 mw, .int .i64 mh, .slice a_m mx.length c_m], .float .f32 q] w (PostVT w ok nt L I))
    (HI : ∀ (a_m : Option Addr) (c_m : Nat) (w : World), FSl w a_m mx.length mx → Calls Try.prog 54 #[.agg #[.float .f32 cm0, .float .f32 cm1, .float .f32 cm2, .float .f32 cm3], .agg #[.int .i64 mw, .int .i64 mh, .slice a_m mx.length c_m], .float .f32 q] w (PostVT w ok nt L I)) :
    Calls Try.prog 12 #[.agg #[.float .f32 cm0, .float .f32 cm1, .float .f32 cm2, .float .f32 cm3], .agg #[.int .i64 mw, .int .i64 mh, .slice ma mx.length mc], .float .f32 q] w fun e w' => e = .returned (.bool true) ∧ ∃ os m, w' = w.grew os m := by
  have Hs := Lib.hid HS
  have Hi := Lib.hid HI
  clear HS HI
  have G := Lib.hid (Gr.refl w)
  have A_m := Lib.hid hsm
  clear hsm
  go_enter Try.func12, Try.ntmps12
  go_wp2_with fail
  refine (L_szMap_ok _ _ _ _ _ _ _ (1048576) _ rfl rfl (by omega) (by omega)).mono ?_
  rintro e v0 ⟨rfl, g⟩
  have k : Gr w v0 := Gr.trans (by (try show Gr _ _); repeat (with_reducible first | exact Gr.refl _ | refine Gr.drewN ?_ _ | refine Gr.grew ?_ _ _ | refine Gr.alloc ?_ _ | refine Gr.drew ?_)) g
  have Z1 := Lib.hid k.size
  replace G := Lib.hid (G.out.trans k)
  have B_pcm := Lib.hid (Blk.gr (show Blk _ (w.heap.size) [.float .f32 cm0, .float .f32 cm1, .float .f32 cm2, .float .f32 cm3] 69 from (by repeat (with_reducible first | assumption | exact Blk.atNew (by simp) | refine Blk.alloc ?_ _ | refine Blk.grew ?_ _ _ | refine Blk.drewN ?_ _ | refine Blk.drew ?_))) g)
  have B_pm := Lib.hid (Blk.gr (show Blk _ (w.heap.size + 1) [.int .i64 mw, .int .i64 mh, .slice ma mx.length mc] 59 from (by repeat (with_reducible first | assumption | exact Blk.atNew (by simp) | refine Blk.alloc ?_ _ | refine Blk.grew ?_ _ _ | refine Blk.drewN ?_ _ | refine Blk.drew ?_))) g)
  clear g k
  have p_pcm_0 := B_pcm.out.cellv 0
  have p_pcm_1 := B_pcm.out.cellv 1
  have p_pcm_2 := B_pcm.out.cellv 2
  have p_pcm_3 := B_pcm.out.cellv 3
  have p_pm_0 := B_pm.out.cellv 0
  have p_pm_1 := B_pm.out.cellv 1
  have p_pm_2 := B_pm.out.cellv 2
  go_upto_region 5 with fail
  go_cut [8, 9, 10] (fun sa sb sc wx => sc = .bool ok ∧ RowInVT v0 wx 137 71 2 sa sb nt L I ∧ Gr v0 wx)
  case first =>
    clear Z1 B_pcm B_pm Hi
    go_region_held3 (fun w' => w'.cell? ⟨w.heap.size, 0, none⟩ = some (.float .f32 cm0) ∧ w'.cell? ⟨w.heap.size, 1, none⟩ = some (.float .f32 cm1) ∧ w'.cell? ⟨w.heap.size, 2, none⟩ = some (.float .f32 cm2) ∧ w'.cell? ⟨w.heap.size, 3, none⟩ = some (.float .f32 cm3) ∧ w'.cell? ⟨w.heap.size + 1, 0, none⟩ = some (.int .i64 mw) ∧ w'.cell? ⟨w.heap.size + 1, 1, none⟩ = some (.int .i64 mh) ∧ w'.cell? ⟨w.heap.size + 1, 2, none⟩ = some (.slice ma mx.length mc))
      (first | (simp (maxDischargeDepth := 12) [go_sem]; done) | (simp (maxDischargeDepth := 12) [go_sem, *]; done)) (first
      | (go_at_call 45; refine (L_toCamera cm0 cm1 cm2 cm3 _).mono ?_; rintro e w1 ⟨rfl, os0, m0, rfl⟩)
      | (go_at_call 40; with_reducible refine (L_toMap mw mh ma _ mc mx _ ?_ ?_).mono ?_; exact A_m.out.keep (G.out.trans (by (try show Gr _ _); repeat (with_reducible first | exact Gr.refl _ | refine Gr.drewN ?_ _ | refine Gr.grew ?_ _ _ | refine Gr.alloc ?_ _ | refine Gr.drew ?_))).kp; omega; rintro e w1 ⟨⟨v, rfl, ho⟩, os1, m1, rfl⟩; (try simp only [grew_grew, drewN_grew, grew_drewN, drew_grew, Array.append_assoc] at ho); obtain ⟨a_m, c_m, rfl, h_m, -⟩ := ho.sl; clear ho)
      | (go_at_call 53; refine (Hs.out a_m c_m _ (h_m.keep (by (repeat (with_reducible first | exact Kp.refl _ | exact kp_same | exact kp_app1 | exact kp_app2 | exact kp_app3 | refine Kp.grew ?_ _ _ | refine Kp.drewN ?_ _ | refine Kp.drew ?_ | refine Kp.alloc ?_ _))))).mono ?_; rintro e w1 ⟨⟨v9, u9, rfl, ho, hu⟩, os9, m9, rfl⟩; (try simp only [grew_grew, drewN_grew, grew_drewN, drew_grew, Array.append_assoc] at ho hu); have fin := ho.fin; have fin2 := hu.fin; obtain ⟨a9, c9, rfl, -, -⟩ := ho.sl; obtain ⟨a8, c8, rfl, -, -⟩ := hu.sl; clear ho hu))
    all_goals (go_wp2_with fail; go_meet; refine ⟨rfl, ?_, (by (try show Gr _ _); repeat (with_reducible first | exact Gr.refl _ | refine Gr.drewN ?_ _ | refine Gr.grew ?_ _ _ | refine Gr.alloc ?_ _ | refine Gr.drew ?_))⟩; first | (refine RowInVT.swap fin fin2 ?_ ?_ ?_ ?_ <;> (first | omega | (simp <;> omega))) | exact RowInVT.of fin fin2 (by (try show Gr _ _); repeat (with_reducible first | exact Gr.refl _ | refine Gr.drewN ?_ _ | refine Gr.grew ?_ _ _ | refine Gr.alloc ?_ _ | refine Gr.drew ?_)) (by (first | omega | (simp <;> omega))) (by (first | omega | (simp <;> omega))))
  case rest =>
    obtain ⟨rfl, ⟨lo_w0, hi_w0, zlo, zhi, r, r2⟩, k⟩ := hcut
    clear p_pcm_0 p_pcm_1 p_pcm_2 p_pcm_3 p_pm_0 p_pm_1 p_pm_2
    have Ew0 : ∃ u, u = wc := ⟨wc, rfl⟩
    obtain ⟨d2, hu⟩ := Ew0
    rw [← hu] at zhi r r2 k ⊢
    clear hu
    have Z2 := Lib.hid (show v0.heap.size ≤ d2.heap.size ∧ v0.heap.size ≤ lo_w0 ∧ hi_w0 ≤ d2.heap.size from ⟨k.size, zlo, zhi⟩)
    replace B_pcm := Lib.hid (B_pcm.out.gr k)
    replace B_pm := Lib.hid (B_pm.out.gr k)
    replace G := Lib.hid (G.out.trans k)
    obtain ⟨a_w0, c_w0, rfl, -, -⟩ := r.sl
    have R_w0 := Lib.hid r
    obtain ⟨a_w0b, c_w0b, rfl, -, -⟩ := r2.sl
    have R_w0b := Lib.hid r2
    clear k r r2 zlo zhi
    have p_pm_0 := B_pm.out.cellv 0
    have p_pm_1 := B_pm.out.cellv 1
    have p_pm_2 := B_pm.out.cellv 2
    go_wp2_with fail
    refine (L_toMap mw mh _ _ _ mx _ (A_m.out.keep (G.out.trans (by (try show Gr _ _); repeat (with_reducible first | exact Gr.refl _ | refine Gr.drewN ?_ _ | refine Gr.grew ?_ _ _ | refine Gr.alloc ?_ _ | refine Gr.drew ?_))).kp) (by omega)).mono ?_
    rintro e u2 ⟨⟨v, rfl, ho⟩, g⟩
    clear p_pm_0 p_pm_1 p_pm_2
    have k : Gr d2 u2 := Gr.trans (by (try show Gr _ _); repeat (with_reducible first | exact Gr.refl _ | refine Gr.drewN ?_ _ | refine Gr.grew ?_ _ _ | refine Gr.alloc ?_ _ | refine Gr.drew ?_)) g
    have Z3 := Lib.hid k.size
    replace B_pcm := Lib.hid (B_pcm.out.gr k)
    replace B_pm := Lib.hid (B_pm.out.gr k)
    replace R_w0 := Lib.hid (R_w0.out.gr k)
    replace R_w0b := Lib.hid (R_w0b.out.gr k)
    replace G := Lib.hid (G.out.trans k)
    have R_xm := Lib.hid ho.fin
    obtain ⟨a_xm, c_xm, rfl, -, -⟩ := ho.sl
    clear ho g k
    have p_pcm_0 := B_pcm.out.cellv 0
    have p_pcm_1 := B_pcm.out.cellv 1
    have p_pcm_2 := B_pcm.out.cellv 2
    have p_pcm_3 := B_pcm.out.cellv 3
    go_upto_region 7 with fail
    go_cut [12, 13, 14] (fun sa sb sc wx => sc = .bool ok ∧ RowInVT u2 wx 137 71 2 sa sb nt L I ∧ Blk wx (u2.heap.size) [.int .i64 mw, .int .i64 mh, .slice a_xm mx.length c_xm] 24 ∧ Gr u2 wx)
    case first =>
      clear Z1 Z2 Z3 B_pcm B_pm R_w0 R_w0b Hs
      go_region_held3 (fun w' => w'.cell? ⟨u2.heap.size, 0, none⟩ = some (.int .i64 mw) ∧ w'.cell? ⟨u2.heap.size, 1, none⟩ = some (.int .i64 mh) ∧ w'.cell? ⟨u2.heap.size, 2, none⟩ = some (.slice a_xm mx.length c_xm) ∧ w'.cell? ⟨w.heap.size, 0, none⟩ = some (.float .f32 cm0) ∧ w'.cell? ⟨w.heap.size, 1, none⟩ = some (.float .f32 cm1) ∧ w'.cell? ⟨w.heap.size, 2, none⟩ = some (.float .f32 cm2) ∧ w'.cell? ⟨w.heap.size, 3, none⟩ = some (.float .f32 cm3))
      (first | (simp (maxDischargeDepth := 12) [go_sem]; done) | (simp (maxDischargeDepth := 12) [go_sem, *]; done)) (first
      | (go_at_call 45; refine (L_toCamera cm0 cm1 cm2 cm3 _).mono ?_; rintro e w1 ⟨rfl, os0, m0, rfl⟩)
      | (go_at_call 54; refine (Hi.out a_xm c_xm _ (R_xm.out.fsl.keep (by (repeat (with_reducible first | exact Kp.refl _ | exact kp_same | exact kp_app1 | exact kp_app2 | exact kp_app3 | refine Kp.grew ?_ _ _ | refine Kp.drewN ?_ _ | refine Kp.drew ?_ | refine Kp.alloc ?_ _))))).mono ?_; rintro e w1 ⟨⟨v9, u9, rfl, ho, hu⟩, os9, m9, rfl⟩; (try simp only [grew_grew, drewN_grew, grew_drewN, drew_grew, Array.append_assoc] at ho hu); have fin := ho.fin; have fin2 := hu.fin; obtain ⟨a9, c9, rfl, -, -⟩ := ho.sl; obtain ⟨a8, c8, rfl, -, -⟩ := hu.sl; clear ho hu))
      all_goals (go_wp2_with fail; go_meet; refine ⟨rfl, ?_, (by repeat (with_reducible first | assumption | exact Blk.atNew (by simp) | refine Blk.alloc ?_ _ | refine Blk.grew ?_ _ _ | refine Blk.drewN ?_ _ | refine Blk.drew ?_)), (by (try show Gr _ _); repeat (with_reducible first | exact Gr.refl _ | refine Gr.drewN ?_ _ | refine Gr.grew ?_ _ _ | refine Gr.alloc ?_ _ | refine Gr.drew ?_))⟩; first | (refine RowInVT.swap fin fin2 ?_ ?_ ?_ ?_ <;> (first | omega | (simp <;> omega))) | exact RowInVT.of fin fin2 (by (try show Gr _ _); repeat (with_reducible first | exact Gr.refl _ | refine Gr.drewN ?_ _ | refine Gr.grew ?_ _ _ | refine Gr.alloc ?_ _ | refine Gr.drew ?_)) (by (first | omega | (simp <;> omega))) (by (first | omega | (simp <;> omega))))
    case rest =>
      obtain ⟨rfl, ⟨lo_g0, hi_g0, zlo, zhi, r, r2⟩, bp_xm, k⟩ := hcut
      clear p_pcm_0 p_pcm_1 p_pcm_2 p_pcm_3
      have Eg0 : ∃ u, u = wc := ⟨wc, rfl⟩
      obtain ⟨d4, hu⟩ := Eg0
      rw [← hu] at zhi r r2 bp_xm k ⊢
      clear hu
      have Z4 := Lib.hid (show u2.heap.size ≤ d4.heap.size ∧ u2.heap.size ≤ lo_g0 ∧ hi_g0 ≤ d4.heap.size from ⟨k.size, zlo, zhi⟩)
      replace B_pcm := Lib.hid (B_pcm.out.gr k)
      replace B_pm := Lib.hid (B_pm.out.gr k)
      replace R_w0 := Lib.hid (R_w0.out.gr k)
      replace R_w0b := Lib.hid (R_w0b.out.gr k)
      replace R_xm := Lib.hid (R_xm.out.gr k)
      replace G := Lib.hid (G.out.trans k)
      obtain ⟨a_g0, c_g0, rfl, -, -⟩ := r.sl
      have R_g0 := Lib.hid r
      obtain ⟨a_g0b, c_g0b, rfl, -, -⟩ := r2.sl
      have R_g0b := Lib.hid r2
      clear k r r2 zlo zhi
      have B_xm := Lib.hid bp_xm
      clear bp_xm
      go_wp2_with fail
      refine (L_eqVectorS _ _ _ _ _ _ L _ (R_g0.out.gr (by (try show Gr _ _); repeat (with_reducible first | exact Gr.refl _ | refine Gr.drewN ?_ _ | refine Gr.grew ?_ _ _ | refine Gr.alloc ?_ _ | refine Gr.drew ?_))).fsl (R_w0.out.gr (by (try show Gr _ _); repeat (with_reducible first | exact Gr.refl _ | refine Gr.drewN ?_ _ | refine Gr.grew ?_ _ _ | refine Gr.alloc ?_ _ | refine Gr.drew ?_))).fsl (by unfold maxLen; omega)).mono ?_
      rintro e u4 ⟨rfl, g⟩
      have k : Gr d4 u4 := Gr.trans (by (try show Gr _ _); repeat (with_reducible first | exact Gr.refl _ | refine Gr.drewN ?_ _ | refine Gr.grew ?_ _ _ | refine Gr.alloc ?_ _ | refine Gr.drew ?_)) g
      have Z5 := Lib.hid k.size
      replace B_pcm := Lib.hid (B_pcm.out.gr k)
      replace B_pm := Lib.hid (B_pm.out.gr k)
      replace B_xm := Lib.hid (B_xm.out.gr k)
      replace R_w0 := Lib.hid (R_w0.out.gr k)
      replace R_w0b := Lib.hid (R_w0b.out.gr k)
      replace R_xm := Lib.hid (R_xm.out.gr k)
      replace R_g0 := Lib.hid (R_g0.out.gr k)
      replace R_g0b := Lib.hid (R_g0b.out.gr k)
      replace G := Lib.hid (G.out.trans k)
      clear g k
      go_wp2_with fail
      refine (L_eqInt64SS _ _ _ _ _ _ _ _ _ _ I _ (R_g0b.out.gr (by (try show Gr _ _); repeat (with_reducible first | exact Gr.refl _ | refine Gr.drewN ?_ _ | refine Gr.grew ?_ _ _ | refine Gr.alloc ?_ _ | refine Gr.drew ?_))) (R_w0b.out.gr (by (try show Gr _ _); repeat (with_reducible first | exact Gr.refl _ | refine Gr.drewN ?_ _ | refine Gr.grew ?_ _ _ | refine Gr.alloc ?_ _ | refine Gr.drew ?_))) (by omega)).mono ?_
      rintro e u5 ⟨rfl, g⟩
      have k : Gr u4 u5 := Gr.trans (by (try show Gr _ _); repeat (with_reducible first | exact Gr.refl _ | refine Gr.drewN ?_ _ | refine Gr.grew ?_ _ _ | refine Gr.alloc ?_ _ | refine Gr.drew ?_)) g
      have Z6 := Lib.hid k.size
      replace B_pcm := Lib.hid (B_pcm.out.gr k)
      replace B_pm := Lib.hid (B_pm.out.gr k)
      replace B_xm := Lib.hid (B_xm.out.gr k)
      replace R_w0 := Lib.hid (R_w0.out.gr k)
      replace R_w0b := Lib.hid (R_w0b.out.gr k)
      replace R_xm := Lib.hid (R_xm.out.gr k)
      replace R_g0 := Lib.hid (R_g0.out.gr k)
      replace R_g0b := Lib.hid (R_g0b.out.gr k)
      replace G := Lib.hid (G.out.trans k)
      clear g k
      have p_xm_0 := B_xm.out.cellv 0
      have p_xm_1 := B_xm.out.cellv 1
      have p_xm_2 := B_xm.out.cellv 2
      have p_pm_0 := B_pm.out.cellv 0
      have p_pm_1 := B_pm.out.cellv 1
      have p_pm_2 := B_pm.out.cellv 2
      go_wp2_with fail
      apply region_facts 4 [2] (fun _ v w' => ∃ a c, v = .agg #[.int .i64 mw, .int .i64 mh, .slice a mx.length c] ∧ FSl w' a mx.length mx)
      case hm => kernel_rfl
      case hB => kernel_rfl
      case hR => rfl
      case hP => (intro k hk v w1 w2 hg hv; obtain ⟨a, c, hv, hs⟩ := hv; exact ⟨a, c, hv, hs.keep hg.kp⟩)
      simp only [List.take_succ_cons, List.take_zero, List.drop_succ_cons, List.drop_zero]
      repeat (first
        | ((with_reducible apply wpF_call (f := 40) (S := fun v => ∃ a c, v = .agg #[.int .i64 mw, .int .i64 mh, .slice a mx.length c])); (case hw => rfl); (case hc => exact Try.call40); (case hv => ((conv => lhs; simp [Act.eval]); try rfl)); (case hS => (intro os m _; refine (L_toMap mw mh _ _ _ mx _ (A_m.out.keep (G.out.trans ⟨os, m, rfl⟩).kp) (by omega)).mono ?_; rintro e w' ⟨⟨v, rfl, ho⟩, g⟩; obtain ⟨a', c', rfl, hs', -⟩ := ho.sl; exact ⟨_, rfl, g, fun _ => ⟨a', c', rfl, hs'⟩, a', c', rfl⟩)); (case hne => exact ⟨_, none, 0, rfl⟩); (rintro v ⟨aq_, cq_, rfl⟩; simp only [Act.put, List.setIfInBounds_toArray, List.set_cons_succ, List.set_cons_zero]))
        | ((with_reducible apply wpF_call (f := 15) (S := fun v => v = .bool true)); (case hw => rfl); (case hc => exact Try.call15); (case hv => ((conv => lhs; simp [Act.eval]); try rfl)); (case hS => (intro os m hse; obtain ⟨a', c', hv', hs'⟩ := hse ⟨2, .data⟩ (by simp) rfl (by decide) _ _ rfl rfl; simp at hv'; obtain ⟨rfl, rfl⟩ := hv'; refine (L_eqMap mw mh _ _ _ _ _ _ mx _ (R_xm.out.gr ⟨os, m, rfl⟩).fsl hs' (by unfold maxLen; omega)).mono ?_; rintro e w' ⟨rfl, g⟩; exact ⟨_, rfl, g, fun h => absurd h (by decide), rfl⟩)); (case hne => exact ⟨_, rfl⟩); (rintro v rfl; simp only [Act.put, List.setIfInBounds_toArray, List.set_cons_succ, List.set_cons_zero]))
        | (apply wpF_skip rfl (by decide); simp only [Act.put, List.setIfInBounds_toArray, List.set_cons_succ, List.set_cons_zero])
        | (apply wpF_nilCheck rfl (by decide) rfl; simp only [Act.put, List.setIfInBounds_toArray, List.set_cons_succ, List.set_cons_zero])
        | ((with_reducible apply wpF_fop); (case hw => rfl); (case hT => decide); (case hop => rfl); (case hx => rfl); (case hy => rfl); (case hA => (first | assumption | exact FE.ofInt _ _ | exact FE.lit (by decide +kernel))); (case hB => (first | assumption | exact FE.ofInt _ _ | exact FE.lit (by decide +kernel))); (intro r hr; simp only [Act.put, List.setIfInBounds_toArray, List.set_cons_succ, List.set_cons_zero]))
        | ((with_reducible apply wpF_fneg); (case hw => rfl); (case hT => decide); (case hx => rfl); (case hA => (first | assumption | exact FE.ofInt _ _ | exact FE.lit (by decide +kernel))); (intro r hr; simp only [Act.put, List.setIfInBounds_toArray, List.set_cons_succ, List.set_cons_zero]))
        | ((with_reducible apply wpF_fcmp); (case hw => rfl); (case hT => decide); (case hop => rfl); (case hx => rfl); (case hy => rfl); (case hA => (first | assumption | exact FE.ofInt _ _ | exact FE.lit (by decide +kernel))); (case hB => (first | assumption | exact FE.ofInt _ _ | exact FE.lit (by decide +kernel))); (case hb => (first | assumption | rfl)); simp only [Act.put, List.setIfInBounds_toArray, List.set_cons_succ, List.set_cons_zero])
        | (apply wpF_q rfl (by decide) rfl; intro K hK; go_big_quiet_op; go_big_quiet_on))
      with_reducible apply wpF_nil
      intro os m hf
      obtain ⟨u6, hu⟩ : ∃ u, u = World.grew u5 os m := ⟨_, rfl⟩
      rw [← hu]
      have g : Gr u5 u6 := ⟨os, m, hu⟩
      clear hf hu
      clear p_xm_0 p_xm_1 p_xm_2 p_pm_0 p_pm_1 p_pm_2
      have k : Gr u5 u6 := Gr.trans (by (try show Gr _ _); repeat (with_reducible first | exact Gr.refl _ | refine Gr.drewN ?_ _ | refine Gr.grew ?_ _ _ | refine Gr.alloc ?_ _ | refine Gr.drew ?_)) g
      have Z7 := Lib.hid k.size
      replace B_pcm := Lib.hid (B_pcm.out.gr k)
      replace B_pm := Lib.hid (B_pm.out.gr k)
      replace B_xm := Lib.hid (B_xm.out.gr k)
      replace R_w0 := Lib.hid (R_w0.out.gr k)
      replace R_w0b := Lib.hid (R_w0b.out.gr k)
      replace R_xm := Lib.hid (R_xm.out.gr k)
      replace R_g0 := Lib.hid (R_g0.out.gr k)
      replace R_g0b := Lib.hid (R_g0b.out.gr k)
      replace G := Lib.hid (G.out.trans k)
      clear g k
      have p_xm_0 := B_xm.out.cellv 0
      have p_xm_1 := B_xm.out.cellv 1
      have p_xm_2 := B_xm.out.cellv 2
      obtain ⟨vs, own, hv⟩ := R_xm.out.row
      go_wp2_with fail
      refine (L_markMap mw mh _ _ _ _ vs (1) _ own hv (by omega) (by omega) (by omega)).mono ?_
      rintro e u7 ⟨rfl, g, own1⟩
      clear p_xm_0 p_xm_1 p_xm_2
      have Z8 := Lib.hid g.by_.size
      replace B_pcm := Lib.hid (B_pcm.out.wrote own g (by decide))
      replace B_pm := Lib.hid (B_pm.out.wrote own g (by decide))
      replace B_xm := Lib.hid (B_xm.out.wrote own g (by decide))
      replace R_w0 := Lib.hid (R_w0.out.wrote own g (by have := Z1.out; have := Z2.out; have := Z3.out; have := Z4.out; have := Z5.out; have := Z6.out; have := Z7.out; (try simp only [World.size_alloc, heap_size_grew] at *); omega))
      replace R_w0b := Lib.hid (R_w0b.out.wrote own g (by have := Z1.out; have := Z2.out; have := Z3.out; have := Z4.out; have := Z5.out; have := Z6.out; have := Z7.out; (try simp only [World.size_alloc, heap_size_grew] at *); omega))
      replace R_g0 := Lib.hid (R_g0.out.wrote own g (by have := Z1.out; have := Z2.out; have := Z3.out; have := Z4.out; have := Z5.out; have := Z6.out; have := Z7.out; (try simp only [World.size_alloc, heap_size_grew] at *); omega))
      replace R_g0b := Lib.hid (R_g0b.out.wrote own g (by have := Z1.out; have := Z2.out; have := Z3.out; have := Z4.out; have := Z5.out; have := Z6.out; have := Z7.out; (try simp only [World.size_alloc, heap_size_grew] at *); omega))
      replace G := Lib.hid (G.out.wrote own g (by have := Z1.out; have := Z2.out; have := Z3.out; have := Z4.out; have := Z5.out; have := Z6.out; have := Z7.out; (try simp only [World.size_alloc, heap_size_grew] at *); omega))
      have M_xm := Lib.hid own1
      clear own g hv own1
      go_wp2_with fail
      refine (L_eqVectorS _ _ _ _ _ _ L _ (R_g0.out.gr (by (try show Gr _ _); repeat (with_reducible first | exact Gr.refl _ | refine Gr.drewN ?_ _ | refine Gr.grew ?_ _ _ | refine Gr.alloc ?_ _ | refine Gr.drew ?_))).fsl (R_w0.out.gr (by (try show Gr _ _); repeat (with_reducible first | exact Gr.refl _ | refine Gr.drewN ?_ _ | refine Gr.grew ?_ _ _ | refine Gr.alloc ?_ _ | refine Gr.drew ?_))).fsl (by unfold maxLen; omega)).mono ?_
      rintro e u8 ⟨rfl, g⟩
      have k : Gr u7 u8 := Gr.trans (by (try show Gr _ _); repeat (with_reducible first | exact Gr.refl _ | refine Gr.drewN ?_ _ | refine Gr.grew ?_ _ _ | refine Gr.alloc ?_ _ | refine Gr.drew ?_)) g
      have Z9 := Lib.hid k.size
      replace B_pcm := Lib.hid (B_pcm.out.gr k)
      replace B_pm := Lib.hid (B_pm.out.gr k)
      replace B_xm := Lib.hid (B_xm.out.gr k)
      replace R_w0 := Lib.hid (R_w0.out.gr k)
      replace R_w0b := Lib.hid (R_w0b.out.gr k)
      replace R_g0 := Lib.hid (R_g0.out.gr k)
      replace R_g0b := Lib.hid (R_g0b.out.gr k)
      replace M_xm := Lib.hid (M_xm.out.gr k)
      replace G := Lib.hid (G.out.trans k)
      clear g k
      go_wp2_with fail
      refine (L_eqInt64SS _ _ _ _ _ _ _ _ _ _ I _ (R_g0b.out.gr (by (try show Gr _ _); repeat (with_reducible first | exact Gr.refl _ | refine Gr.drewN ?_ _ | refine Gr.grew ?_ _ _ | refine Gr.alloc ?_ _ | refine Gr.drew ?_))) (R_w0b.out.gr (by (try show Gr _ _); repeat (with_reducible first | exact Gr.refl _ | refine Gr.drewN ?_ _ | refine Gr.grew ?_ _ _ | refine Gr.alloc ?_ _ | refine Gr.drew ?_))) (by omega)).mono ?_
      rintro e u9 ⟨rfl, g⟩
      have k : Gr u8 u9 := Gr.trans (by (try show Gr _ _); repeat (with_reducible first | exact Gr.refl _ | refine Gr.drewN ?_ _ | refine Gr.grew ?_ _ _ | refine Gr.alloc ?_ _ | refine Gr.drew ?_)) g
      have Z10 := Lib.hid k.size
      replace B_pcm := Lib.hid (B_pcm.out.gr k)
      replace B_pm := Lib.hid (B_pm.out.gr k)
      replace B_xm := Lib.hid (B_xm.out.gr k)
      replace R_w0 := Lib.hid (R_w0.out.gr k)
      replace R_w0b := Lib.hid (R_w0b.out.gr k)
      replace R_g0 := Lib.hid (R_g0.out.gr k)
      replace R_g0b := Lib.hid (R_g0b.out.gr k)
      replace M_xm := Lib.hid (M_xm.out.gr k)
      replace G := Lib.hid (G.out.trans k)
      clear g k
      obtain ⟨vs, own, hv⟩ := R_g0.out.row
      go_wp2_with fail
      refine (L_markVectorS _ _ _ _ vs (1) _ own hv (by omega) (by omega) (by omega)).mono ?_
      rintro e u10 ⟨rfl, g, own1⟩
      have Z11 := Lib.hid g.by_.size
      replace B_pcm := Lib.hid (B_pcm.out.wrote own g (by decide))
      replace B_pm := Lib.hid (B_pm.out.wrote own g (by decide))
      replace B_xm := Lib.hid (B_xm.out.wrote own g (by decide))
      replace R_w0 := Lib.hid (R_w0.out.wrote own g (by have := Z1.out; have := Z2.out; have := Z3.out; have := Z4.out; have := Z5.out; have := Z6.out; have := Z7.out; have := Z8.out; have := Z9.out; have := Z10.out; (try simp only [World.size_alloc, heap_size_grew] at *); omega))
      replace R_w0b := Lib.hid (R_w0b.out.wrote own g (by have := Z1.out; have := Z2.out; have := Z3.out; have := Z4.out; have := Z5.out; have := Z6.out; have := Z7.out; have := Z8.out; have := Z9.out; have := Z10.out; (try simp only [World.size_alloc, heap_size_grew] at *); omega))
      replace R_g0b := Lib.hid (R_g0b.out.wroteT own g (by decide))
      replace M_xm := Lib.hid (M_xm.out.wrote own g (by have := Z1.out; have := Z2.out; have := Z3.out; have := Z4.out; have := Z5.out; have := Z6.out; have := Z7.out; have := Z8.out; have := Z9.out; have := Z10.out; (try simp only [World.size_alloc, heap_size_grew] at *); omega))
      replace G := Lib.hid (G.out.wrote own g (by have := Z1.out; have := Z2.out; have := Z3.out; have := Z4.out; have := Z5.out; have := Z6.out; have := Z7.out; have := Z8.out; have := Z9.out; have := Z10.out; (try simp only [World.size_alloc, heap_size_grew] at *); omega))
      have M_g0 := Lib.hid own1
      clear own g hv own1
      go_wp2_with fail
      refine (L_markInt64SS _ _ _ _ I (1 + ((nt * 3 : Nat) : Int)) _ (R_g0b.out.gr (by (try show Gr _ _); repeat (with_reducible first | exact Gr.refl _ | refine Gr.drewN ?_ _ | refine Gr.grew ?_ _ _ | refine Gr.alloc ?_ _ | refine Gr.drew ?_))) rfl (by omega) (by omega) (by omega)).mono ?_
      rintro e u11 ⟨rfl, hw, hp⟩
      have Z12 := Lib.hid hw.size
      replace B_pcm := Lib.hid (hw.blk (B_pcm.out.gr (by (try show Gr _ _); repeat (with_reducible first | exact Gr.refl _ | refine Gr.drewN ?_ _ | refine Gr.grew ?_ _ _ | refine Gr.alloc ?_ _ | refine Gr.drew ?_))) (by decide))
      replace B_pm := Lib.hid (hw.blk (B_pm.out.gr (by (try show Gr _ _); repeat (with_reducible first | exact Gr.refl _ | refine Gr.drewN ?_ _ | refine Gr.grew ?_ _ _ | refine Gr.alloc ?_ _ | refine Gr.drew ?_))) (by decide))
      replace B_xm := Lib.hid (hw.blk (B_xm.out.gr (by (try show Gr _ _); repeat (with_reducible first | exact Gr.refl _ | refine Gr.drewN ?_ _ | refine Gr.grew ?_ _ _ | refine Gr.alloc ?_ _ | refine Gr.drew ?_))) (by decide))
      replace R_w0 := Lib.hid (hw.vin (R_w0.out.gr (by (try show Gr _ _); repeat (with_reducible first | exact Gr.refl _ | refine Gr.drewN ?_ _ | refine Gr.grew ?_ _ _ | refine Gr.alloc ?_ _ | refine Gr.drew ?_))) (by decide))
      replace R_w0b := Lib.hid (hw.tri (R_w0b.out.gr (by (try show Gr _ _); repeat (with_reducible first | exact Gr.refl _ | refine Gr.drewN ?_ _ | refine Gr.grew ?_ _ _ | refine Gr.alloc ?_ _ | refine Gr.drew ?_))) (by decide) (by have := Z1.out; have := Z2.out; have := Z3.out; have := Z4.out; have := Z5.out; have := Z6.out; have := Z7.out; have := Z8.out; have := Z9.out; have := Z10.out; have := Z11.out; (try simp only [World.size_alloc, heap_size_grew] at *); omega))
      replace M_xm := Lib.hid (hw.own (M_xm.out.gr (by (try show Gr _ _); repeat (with_reducible first | exact Gr.refl _ | refine Gr.drewN ?_ _ | refine Gr.grew ?_ _ _ | refine Gr.alloc ?_ _ | refine Gr.drew ?_))) (by decide))
      replace M_g0 := Lib.hid (hw.own (M_g0.out.gr (by (try show Gr _ _); repeat (with_reducible first | exact Gr.refl _ | refine Gr.drewN ?_ _ | refine Gr.grew ?_ _ _ | refine Gr.alloc ?_ _ | refine Gr.drew ?_))) (by decide))
      replace G := Lib.hid (hw.gr (G.out.trans (by (try show Gr _ _); repeat (with_reducible first | exact Gr.refl _ | refine Gr.drewN ?_ _ | refine Gr.grew ?_ _ _ | refine Gr.alloc ?_ _ | refine Gr.drew ?_))) (by have := Z1.out; have := Z2.out; have := Z3.out; have := Z4.out; have := Z5.out; have := Z6.out; have := Z7.out; have := Z8.out; have := Z9.out; have := Z10.out; have := Z11.out; (try simp only [World.size_alloc, heap_size_grew] at *); omega))
      have M_g0b := Lib.hid hp
      clear hw hp
      go_wp2_with fail
      refine (L_heldVectorS _ _ _ _ (1) _ (M_g0.out.gr (by (try show Gr _ _); repeat (with_reducible first | exact Gr.refl _ | refine Gr.drewN ?_ _ | refine Gr.grew ?_ _ _ | refine Gr.alloc ?_ _ | refine Gr.drew ?_))) (by omega) (by omega) (by omega)).mono ?_
      rintro e u12 ⟨rfl, g⟩
      have k : Gr u11 u12 := Gr.trans (by (try show Gr _ _); repeat (with_reducible first | exact Gr.refl _ | refine Gr.drewN ?_ _ | refine Gr.grew ?_ _ _ | refine Gr.alloc ?_ _ | refine Gr.drew ?_)) g
      have Z13 := Lib.hid k.size
      replace B_pcm := Lib.hid (B_pcm.out.gr k)
      replace B_pm := Lib.hid (B_pm.out.gr k)
      replace B_xm := Lib.hid (B_xm.out.gr k)
      replace R_w0 := Lib.hid (R_w0.out.gr k)
      replace R_w0b := Lib.hid (R_w0b.out.gr k)
      replace M_xm := Lib.hid (M_xm.out.gr k)
      replace M_g0 := Lib.hid (M_g0.out.gr k)
      replace M_g0b := Lib.hid (M_g0b.out.gr k)
      replace G := Lib.hid (G.out.trans k)
      clear g k
      go_wp2_with fail
      refine (L_heldInt64SS _ _ _ _ _ I.length (1 + ((nt * 3 : Nat) : Int)) _ (M_g0b.out.gr (by (try show Gr _ _); repeat (with_reducible first | exact Gr.refl _ | refine Gr.drewN ?_ _ | refine Gr.grew ?_ _ _ | refine Gr.alloc ?_ _ | refine Gr.drew ?_))) (by omega) (by omega) (by omega)).mono ?_
      rintro e u13 ⟨rfl, g⟩
      have k : Gr u12 u13 := Gr.trans (by (try show Gr _ _); repeat (with_reducible first | exact Gr.refl _ | refine Gr.drewN ?_ _ | refine Gr.grew ?_ _ _ | refine Gr.alloc ?_ _ | refine Gr.drew ?_)) g
      have Z14 := Lib.hid k.size
      replace B_pcm := Lib.hid (B_pcm.out.gr k)
      replace B_pm := Lib.hid (B_pm.out.gr k)
      replace B_xm := Lib.hid (B_xm.out.gr k)
      replace R_w0 := Lib.hid (R_w0.out.gr k)
      replace R_w0b := Lib.hid (R_w0b.out.gr k)
      replace M_xm := Lib.hid (M_xm.out.gr k)
      replace M_g0 := Lib.hid (M_g0.out.gr k)
      replace M_g0b := Lib.hid (M_g0b.out.gr k)
      replace G := Lib.hid (G.out.trans k)
      clear g k
      have p_pcm_0 := B_pcm.out.cellv 0
      have p_pcm_1 := B_pcm.out.cellv 1
      have p_pcm_2 := B_pcm.out.cellv 2
      have p_pcm_3 := B_pcm.out.cellv 3
      have p_pm_0 := B_pm.out.cellv 0
      have p_pm_1 := B_pm.out.cellv 1
      have p_pm_2 := B_pm.out.cellv 2
      go_upto_region 28 with fail
      go_cut [18, 19, 20] (fun sa sb sc wx => sc = .bool ok ∧ RowInVT u13 wx 137 71 2 sa sb nt L I ∧ Gr u13 wx)
      case first =>
        clear Z1 Z2 Z3 Z4 Z5 Z6 Z7 Z8 Z9 Z10 Z11 Z12 Z13 Z14 B_pcm B_pm B_xm R_w0 R_w0b M_xm M_g0 M_g0b Hs
        go_region_held3 (fun w' => w'.cell? ⟨w.heap.size, 0, none⟩ = some (.float .f32 cm0) ∧ w'.cell? ⟨w.heap.size, 1, none⟩ = some (.float .f32 cm1) ∧ w'.cell? ⟨w.heap.size, 2, none⟩ = some (.float .f32 cm2) ∧ w'.cell? ⟨w.heap.size, 3, none⟩ = some (.float .f32 cm3) ∧ w'.cell? ⟨w.heap.size + 1, 0, none⟩ = some (.int .i64 mw) ∧ w'.cell? ⟨w.heap.size + 1, 1, none⟩ = some (.int .i64 mh) ∧ w'.cell? ⟨w.heap.size + 1, 2, none⟩ = some (.slice ma mx.length mc))
      (first | (simp (maxDischargeDepth := 12) [go_sem]; done) | (simp (maxDischargeDepth := 12) [go_sem, *]; done)) (first
      | (go_at_call 45; refine (L_toCamera cm0 cm1 cm2 cm3 _).mono ?_; rintro e w1 ⟨rfl, os0, m0, rfl⟩)
      | (go_at_call 40; with_reducible refine (L_toMap mw mh ma _ mc mx _ ?_ ?_).mono ?_; exact A_m.out.keep (G.out.trans (by (try show Gr _ _); repeat (with_reducible first | exact Gr.refl _ | refine Gr.drewN ?_ _ | refine Gr.grew ?_ _ _ | refine Gr.alloc ?_ _ | refine Gr.drew ?_))).kp; omega; rintro e w1 ⟨⟨v, rfl, ho⟩, os1, m1, rfl⟩; (try simp only [grew_grew, drewN_grew, grew_drewN, drew_grew, Array.append_assoc] at ho); obtain ⟨a_m, c_m, rfl, h_m, -⟩ := ho.sl; clear ho)
      | (go_at_call 54; refine (Hi.out a_m c_m _ (h_m.keep (by (repeat (with_reducible first | exact Kp.refl _ | exact kp_same | exact kp_app1 | exact kp_app2 | exact kp_app3 | refine Kp.grew ?_ _ _ | refine Kp.drewN ?_ _ | refine Kp.drew ?_ | refine Kp.alloc ?_ _))))).mono ?_; rintro e w1 ⟨⟨v9, u9, rfl, ho, hu⟩, os9, m9, rfl⟩; (try simp only [grew_grew, drewN_grew, grew_drewN, drew_grew, Array.append_assoc] at ho hu); have fin := ho.fin; have fin2 := hu.fin; obtain ⟨a9, c9, rfl, -, -⟩ := ho.sl; obtain ⟨a8, c8, rfl, -, -⟩ := hu.sl; clear ho hu))
        all_goals (go_wp2_with fail; go_meet; refine ⟨rfl, ?_, (by (try show Gr _ _); repeat (with_reducible first | exact Gr.refl _ | refine Gr.drewN ?_ _ | refine Gr.grew ?_ _ _ | refine Gr.alloc ?_ _ | refine Gr.drew ?_))⟩; first | (refine RowInVT.swap fin fin2 ?_ ?_ ?_ ?_ <;> (first | omega | (simp <;> omega))) | exact RowInVT.of fin fin2 (by (try show Gr _ _); repeat (with_reducible first | exact Gr.refl _ | refine Gr.drewN ?_ _ | refine Gr.grew ?_ _ _ | refine Gr.alloc ?_ _ | refine Gr.drew ?_)) (by (first | omega | (simp <;> omega))) (by (first | omega | (simp <;> omega))))
      case rest =>
        obtain ⟨rfl, ⟨lo_h0, hi_h0, zlo, zhi, r, r2⟩, k⟩ := hcut
        clear p_pcm_0 p_pcm_1 p_pcm_2 p_pcm_3 p_pm_0 p_pm_1 p_pm_2
        have Eh0 : ∃ u, u = wc := ⟨wc, rfl⟩
        obtain ⟨d15, hu⟩ := Eh0
        rw [← hu] at zhi r r2 k ⊢
        clear hu
        have Z15 := Lib.hid (show u13.heap.size ≤ d15.heap.size ∧ u13.heap.size ≤ lo_h0 ∧ hi_h0 ≤ d15.heap.size from ⟨k.size, zlo, zhi⟩)
        replace B_pcm := Lib.hid (B_pcm.out.gr k)
        replace B_pm := Lib.hid (B_pm.out.gr k)
        replace B_xm := Lib.hid (B_xm.out.gr k)
        replace R_w0 := Lib.hid (R_w0.out.gr k)
        replace R_w0b := Lib.hid (R_w0b.out.gr k)
        replace M_xm := Lib.hid (M_xm.out.gr k)
        replace M_g0 := Lib.hid (M_g0.out.gr k)
        replace M_g0b := Lib.hid (M_g0b.out.gr k)
        replace G := Lib.hid (G.out.trans k)
        obtain ⟨a_h0, c_h0, rfl, -, -⟩ := r.sl
        have R_h0 := Lib.hid r
        obtain ⟨a_h0b, c_h0b, rfl, -, -⟩ := r2.sl
        have R_h0b := Lib.hid r2
        clear k r r2 zlo zhi
        go_wp2_with fail
        refine (L_eqVectorS _ _ _ _ _ _ L _ (R_h0.out.gr (by (try show Gr _ _); repeat (with_reducible first | exact Gr.refl _ | refine Gr.drewN ?_ _ | refine Gr.grew ?_ _ _ | refine Gr.alloc ?_ _ | refine Gr.drew ?_))).fsl (R_w0.out.gr (by (try show Gr _ _); repeat (with_reducible first | exact Gr.refl _ | refine Gr.drewN ?_ _ | refine Gr.grew ?_ _ _ | refine Gr.alloc ?_ _ | refine Gr.drew ?_))).fsl (by unfold maxLen; omega)).mono ?_
        rintro e u15 ⟨rfl, g⟩
        have k : Gr d15 u15 := Gr.trans (by (try show Gr _ _); repeat (with_reducible first | exact Gr.refl _ | refine Gr.drewN ?_ _ | refine Gr.grew ?_ _ _ | refine Gr.alloc ?_ _ | refine Gr.drew ?_)) g
        have Z16 := Lib.hid k.size
        replace B_pcm := Lib.hid (B_pcm.out.gr k)
        replace B_pm := Lib.hid (B_pm.out.gr k)
        replace B_xm := Lib.hid (B_xm.out.gr k)
        replace R_w0 := Lib.hid (R_w0.out.gr k)
        replace R_w0b := Lib.hid (R_w0b.out.gr k)
        replace R_h0 := Lib.hid (R_h0.out.gr k)
        replace R_h0b := Lib.hid (R_h0b.out.gr k)
        replace M_xm := Lib.hid (M_xm.out.gr k)
        replace M_g0 := Lib.hid (M_g0.out.gr k)
        replace M_g0b := Lib.hid (M_g0b.out.gr k)
        replace G := Lib.hid (G.out.trans k)
        clear g k
        go_wp2_with fail
        refine (L_eqInt64SS _ _ _ _ _ _ _ _ _ _ I _ (R_h0b.out.gr (by (try show Gr _ _); repeat (with_reducible first | exact Gr.refl _ | refine Gr.drewN ?_ _ | refine Gr.grew ?_ _ _ | refine Gr.alloc ?_ _ | refine Gr.drew ?_))) (R_w0b.out.gr (by (try show Gr _ _); repeat (with_reducible first | exact Gr.refl _ | refine Gr.drewN ?_ _ | refine Gr.grew ?_ _ _ | refine Gr.alloc ?_ _ | refine Gr.drew ?_))) (by omega)).mono ?_
        rintro e u16 ⟨rfl, g⟩
        have k : Gr u15 u16 := Gr.trans (by (try show Gr _ _); repeat (with_reducible first | exact Gr.refl _ | refine Gr.drewN ?_ _ | refine Gr.grew ?_ _ _ | refine Gr.alloc ?_ _ | refine Gr.drew ?_)) g
        have Z17 := Lib.hid k.size
        replace B_pcm := Lib.hid (B_pcm.out.gr k)
        replace B_pm := Lib.hid (B_pm.out.gr k)
        replace B_xm := Lib.hid (B_xm.out.gr k)
        replace R_w0 := Lib.hid (R_w0.out.gr k)
        replace R_w0b := Lib.hid (R_w0b.out.gr k)
        replace R_h0 := Lib.hid (R_h0.out.gr k)
        replace R_h0b := Lib.hid (R_h0b.out.gr k)
        replace M_xm := Lib.hid (M_xm.out.gr k)
        replace M_g0 := Lib.hid (M_g0.out.gr k)
        replace M_g0b := Lib.hid (M_g0b.out.gr k)
        replace G := Lib.hid (G.out.trans k)
        clear g k
        go_wp2_with fail
        refine (L_heldVectorS _ _ _ _ (1) _ (M_g0.out.gr (by (try show Gr _ _); repeat (with_reducible first | exact Gr.refl _ | refine Gr.drewN ?_ _ | refine Gr.grew ?_ _ _ | refine Gr.alloc ?_ _ | refine Gr.drew ?_))) (by omega) (by omega) (by omega)).mono ?_
        rintro e u17 ⟨rfl, g⟩
        have k : Gr u16 u17 := Gr.trans (by (try show Gr _ _); repeat (with_reducible first | exact Gr.refl _ | refine Gr.drewN ?_ _ | refine Gr.grew ?_ _ _ | refine Gr.alloc ?_ _ | refine Gr.drew ?_)) g
        have Z18 := Lib.hid k.size
        replace B_pcm := Lib.hid (B_pcm.out.gr k)
        replace B_pm := Lib.hid (B_pm.out.gr k)
        replace B_xm := Lib.hid (B_xm.out.gr k)
        replace R_w0 := Lib.hid (R_w0.out.gr k)
        replace R_w0b := Lib.hid (R_w0b.out.gr k)
        replace R_h0 := Lib.hid (R_h0.out.gr k)
        replace R_h0b := Lib.hid (R_h0b.out.gr k)
        replace M_xm := Lib.hid (M_xm.out.gr k)
        replace M_g0 := Lib.hid (M_g0.out.gr k)
        replace M_g0b := Lib.hid (M_g0b.out.gr k)
        replace G := Lib.hid (G.out.trans k)
        clear g k
        go_wp2_with fail
        refine (L_heldInt64SS _ _ _ _ _ I.length (1 + ((nt * 3 : Nat) : Int)) _ (M_g0b.out.gr (by (try show Gr _ _); repeat (with_reducible first | exact Gr.refl _ | refine Gr.drewN ?_ _ | refine Gr.grew ?_ _ _ | refine Gr.alloc ?_ _ | refine Gr.drew ?_))) (by omega) (by omega) (by omega)).mono ?_
        rintro e u18 ⟨rfl, g⟩
        have k : Gr u17 u18 := Gr.trans (by (try show Gr _ _); repeat (with_reducible first | exact Gr.refl _ | refine Gr.drewN ?_ _ | refine Gr.grew ?_ _ _ | refine Gr.alloc ?_ _ | refine Gr.drew ?_)) g
        have Z19 := Lib.hid k.size
        replace B_pcm := Lib.hid (B_pcm.out.gr k)
        replace B_pm := Lib.hid (B_pm.out.gr k)
        replace B_xm := Lib.hid (B_xm.out.gr k)
        replace R_w0 := Lib.hid (R_w0.out.gr k)
        replace R_w0b := Lib.hid (R_w0b.out.gr k)
        replace R_h0 := Lib.hid (R_h0.out.gr k)
        replace R_h0b := Lib.hid (R_h0b.out.gr k)
        replace M_xm := Lib.hid (M_xm.out.gr k)
        replace M_g0 := Lib.hid (M_g0.out.gr k)
        replace M_g0b := Lib.hid (M_g0b.out.gr k)
        replace G := Lib.hid (G.out.trans k)
        clear g k
        go_wp2
        go_ret
        exact ⟨rfl, G.out.trans (by (try show Gr _ _); repeat (with_reducible first | exact Gr.refl _ | refine Gr.drewN ?_ _ | refine Gr.grew ?_ _ _ | refine Gr.alloc ?_ _ | refine Gr.drew ?_))⟩

set_option maxRecDepth 20000 in
set_option maxHeartbeats 1000000 in
theorem L_FnExactMeshOf (cm0 Kcm0 cm1 Kcm1 cm2 Kcm2 cm3 Kcm3 : Nat) (mw mh : Int) (ma : Option Addr) (mn mc : Nat) (mx : List Nat) (q Kq : Nat) (w : World) (hcm0 : FE .f32 cm0 Kcm0) (hcm1 : FE .f32 cm1 Kcm1) (hcm2 : FE .f32 cm2 Kcm2) (hcm3 : FE .f32 cm3 Kcm3) (fm : FSl w ma mn mx) (lm : mn ≤ maxLen) (hq : FE .f32 q Kq) :
    Calls Try.prog 12 #[.agg #[.float .f32 cm0, .float .f32 cm1, .float .f32 cm2, .float .f32 cm3], .agg #[.int .i64 mw, .int .i64 mh, .slice ma mn mc], .float .f32 q] w fun e w' => e = .returned (.bool true) ∧ ∃ os m, w' = w.grew os m := by
  obtain rfl := fm.len
  by_cases hnm : mx.length ≤ 1048576
  · skip
    exact law_MeshOf cm0 cm1 cm2 cm3 mw mh ma mc mx q _ _ _ _ w (gMesh_fits _ _ _ _ _ _ _ _) fm hnm
        (fun a_m c_m w f_m => S_MeshOf cm0 cm1 cm2 cm3 _ _ _ _ q _ mw mh a_m c_m mx w hcm0 hcm1 hcm2 hcm3 hq f_m (by omega)) (fun a_m c_m w f_m => I_MeshOf cm0 cm1 cm2 cm3 _ _ _ _ q _ mw mh a_m c_m mx w hcm0 hcm1 hcm2 hcm3 hq f_m (by omega))
  · clear fm
    go_enter Try.func12, Try.ntmps12
    go_wp2_with fail
    refine (L_szMap_no _ _ _ _ _ _ _ (1048576) _ rfl rfl (by omega) (by omega) (by omega) lm).mono ?_
    rintro e ul ⟨rfl, g⟩
    have G1 : Gr w ul := Gr.trans (by (try show Gr _ _); repeat (with_reducible first | exact Gr.refl _ | refine Gr.drewN ?_ _ | refine Gr.grew ?_ _ _ | refine Gr.alloc ?_ _ | refine Gr.drew ?_)) g
    clear g
    go_wp2
    go_ret
    exact ⟨rfl, G1⟩

set_option maxRecDepth 100000 in
theorem fnExactMeshOf_lifted (os : Os) (started : os.Started) (H : Type) (enc : TypeId × Value → H) :
    ReturnsInHanded {} Try.checked os 12 .any (Rows.fnExactMeshOfSpec.pre6 enc Try.prog Try.f12 Rows.fnExactMeshOfRow.domain false) (Rows.fnExactMeshOfSpec.post enc Try.prog Try.f12 false true false false) := by
  refine returnsInHanded_of_change (C := Try.checked) own started (by kernel_rfl) Try.func12
    (ChangeSpec.witness6 (enc := enc) (C := Try.checked) false ⟨#[], #[.agg #[.float .f32 0, .float .f32 0, .float .f32 0, .float .f32 0], .agg #[.int .i64 0, .int .i64 0, .slice none 0 0], .float .f32 0], []⟩ 12 (by kernel_rfl) (by kernel_rfl) (by kernel_rfl) (by kernel_rfl)) ?_
  intro W base args ds gs before hval0 hW hcnd _
  have hval : ∀ (j : Nat) t v, Try.f12.params[j]? = some t → args[j]? = some v → Value.okWide Try.prog W .any base t v := hval0
  have hW' := hW
  obtain ⟨p, q, hA0, hV, rfl, hfz, hnd⟩ := hW
  have hA : DataW.TrodAll enc Try.prog W 0 (fun _ => true) true Try.f12.params.toList args.toList ds p := hA0
  rw [Try.params12] at hA hval
  obtain ⟨v0, vs0, d0, ds0, p0, q0, ha0, rfl, rfl, h0, r0⟩ := trodAll_cons hA
  obtain ⟨v1, vs1, d1, ds1, p1, q1, rfl, rfl, rfl, h1, r1⟩ := trodAll_cons r0
  obtain ⟨v2, vs2, d2, ds2, p2, q2, rfl, rfl, rfl, h2, r2⟩ := trodAll_cons r1
  obtain ⟨rfl, rfl, rfl⟩ := trodAll_nil r2
  obtain rfl : args = #[v0, v1, v2] := by cases args; simp_all
  obtain ⟨rfl, rfl⟩ := trodVars_none hV
  obtain ⟨cm0, cm1, cm2, cm3, rfl, wcm0, wcm1, wcm2, wcm3⟩ := open_f4 Try.underlying69 (by kernel_rfl) (by kernel_rfl) Try.underlying65 (hval 0 69 v0 rfl rfl) h0
  obtain ⟨mw, mh, ma, mn, mc, mx, rfl, -, -, fm, lm⟩ := open_pic Try.underlying59 (by kernel_rfl) (by kernel_rfl) Try.underlying2 Try.underlying22 Try.underlying65 (by kernel_rfl) (hval 1 59 v1 rfl rfl) h1
  obtain ⟨q, rfl, -, -, wq⟩ := open_float Try.underlying65 (hval 2 65 v2 rfl rfl) h2
  refine (L_FnExactMeshOf cm0 _ cm1 _ cm2 _ cm3 _ mw mh ma mn mc mx q _ W wcm0 wcm1 wcm2 wcm3 fm lm (FE.wf wq)).mono fun e W' ⟨he, hg⟩ => ?_
  exact ⟨_, he, post_true laidOut (by kernel_rfl) (by kernel_rfl) Try.underlying4 rfl hW' rfl rfl rfl (Gr.below hg)⟩

theorem fnExactMeshOf_holds : Rows.FnExactMeshOfSaid :=
  OpenClaim.holds_of_wide 12 Try.f12 rfl rfl rfl rfl rfl rfl rfl ⟨rfl, rfl, rfl, rfl, rfl⟩ rfl rfl rfl rfl rfl (by kernel_rfl) Try.func12 (by kernel_rfl)
    (of_decide_eq_true (by kernel_rfl)) (by unfold Func.isWrapper; first | (rw [if_pos (by decide +kernel)]; kernel_rfl) | (rw [if_neg (by decide +kernel)]; exact ⟨rfl, rfl⟩))
    (fun os started H enc _ => fnExactMeshOf_lifted os started H enc)
#print axioms fnExactMeshOf_holds
end Go.Proofs.Ytaidkokgafojeaa
