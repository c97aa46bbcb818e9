/- For every list of points, plane and number FnExactNearPlane returns true. No conditions. MAXREC -/
import Derived.Test.YtldeeijfipiafaaRow
import Derived.Test.YtldeeijfipiafaaRvs
import Derived.Test.YtldeeijfipiafaaC45
import Derived.Test.YtldeeijfipiafaaLw
import Derived.Deep.RegionHeld3
import Derived.Deep.DeepCutAuto
namespace Go.Proofs.Ytldeeijfipiafaa
open Go.ChangeShapes Go.WideShapes Go.ChangeAt Go.RowKit Go.Joins Go.Deep Go.Fx Go.Soft

theorem gPk_bound (p : Nat → Bool) (n : Nat) : (if n ≤ 256 then gPk p n else []).length ≤ 1048576 := by
  split
  · exact Nat.le_trans (gPk_length _ _) (by omega)
  · simp

set_option maxRecDepth 20000 in
set_option maxHeartbeats 8000000 in
theorem law_NearPlane (pointsn : Nat) (pointsa : Option Addr) (pointsc : Nat) (pointsx : List Nat) (pl0 pl1 pl2 : Nat) (near : Nat) (ok : Bool) (L : List Int) (w : World) (hL : L.length ≤ 1048576) (hspoints : FSl w pointsa (pointsn * 3) pointsx) (hnpoints : pointsn ≤ 1048576)
    (HS : ∀ (a_points : Option Addr) (c_points : Nat) (w : World), FSl w a_points (pointsn * 3) pointsx → Calls Try.prog 51 #[.slice a_points pointsn c_points, .agg #[.float .f32 pl0, .float .f32 pl1, .float .f32 pl2], .float .f32 near] w (PostI w ok L))
    (HI : ∀ (a_points : Option Addr) (c_points : Nat) (w : World), FSl w a_points (pointsn * 3) pointsx → Calls Try.prog 54 #[.slice a_points pointsn c_points, .agg #[.float .f32 pl0, .float .f32 pl1, .float .f32 pl2], .float .f32 near] w (PostI w ok L)) :
    Calls Try.prog 11 #[.slice pointsa pointsn pointsc, .agg #[.float .f32 pl0, .float .f32 pl1, .float .f32 pl2], .float .f32 near] w fun e w' => e = .returned (.bool true) ∧ ∃ os m, w' = w.grew os m := by
  have Hs := Lib.hid HS
  have Hi := Lib.hid HI
  clear HS HI
  have G := Lib.hid (Gr.refl w)
  have A_points := Lib.hid hspoints
  clear hspoints
  go_enter Try.func11, Try.ntmps11
  go_wp2_with fail
  refine (L_szVectorS_ok _ _ _ (1048576) _ (by omega) (by omega)).mono ?_
  rintro e v0 ⟨rfl, g⟩
  have k : Gr w v0 := Gr.trans (by (try show Gr _ _); repeat (with_reducible first | exact Gr.refl _ | refine Gr.drewN ?_ _ | refine Gr.grew ?_ _ _ | refine Gr.alloc ?_ _ | refine Gr.drew ?_)) g
  have Z1 := Lib.hid k.size
  replace G := Lib.hid (G.out.trans k)
  have B_ppl := Lib.hid (Blk.gr (show Blk _ (w.heap.size) [.float .f32 pl0, .float .f32 pl1, .float .f32 pl2] 71 from (by repeat (with_reducible first | assumption | exact Blk.atNew (by simp) | refine Blk.alloc ?_ _ | refine Blk.grew ?_ _ _ | refine Blk.drewN ?_ _ | refine Blk.drew ?_))) g)
  clear g k
  have p_ppl_0 := B_ppl.out.cellv 0
  have p_ppl_1 := B_ppl.out.cellv 1
  have p_ppl_2 := B_ppl.out.cellv 2
  go_upto_region 5 with fail
  go_cut [8, 9] (fun sa sb wx => ∃ v : Value, sa = v ∧ sb = .bool ok ∧ RowInI v0 wx 2 v L ∧ Gr v0 wx)
  case first =>
    clear Z1 B_ppl Hi
    go_region_held3 (fun w' => w'.cell? ⟨w.heap.size, 0, none⟩ = some (.float .f32 pl0) ∧ w'.cell? ⟨w.heap.size, 1, none⟩ = some (.float .f32 pl1) ∧ w'.cell? ⟨w.heap.size, 2, none⟩ = some (.float .f32 pl2))
      (first | (simp (maxDischargeDepth := 12) [go_sem]; done) | (simp (maxDischargeDepth := 12) [go_sem, *]; done)) (first
      | (go_at_call 52; refine (L_toVectorS pointsa _ pointsc pointsx _ ?_ ?_).mono ?_; exact A_points.out.keep (G.out.trans (by (try show Gr _ _); repeat (with_reducible first | exact Gr.refl _ | refine Gr.drewN ?_ _ | refine Gr.grew ?_ _ _ | refine Gr.alloc ?_ _ | refine Gr.drew ?_))).kp; omega; rintro e w1 ⟨⟨v, rfl, ho⟩, os0, m0, rfl⟩; (try simp only [grew_grew, drewN_grew, grew_drewN, drew_grew, Array.append_assoc] at ho); obtain ⟨a_points, c_points, rfl, h_points, -⟩ := ho.sl; clear ho)
      | (go_at_call 53; refine (L_toPlane pl0 pl1 pl2 _).mono ?_; rintro e w1 ⟨rfl, os1, m1, rfl⟩)
      | (go_at_call 51; refine (Hs.out a_points c_points _ (h_points.keep (by (repeat (with_reducible first | exact Kp.refl _ | exact kp_same | exact kp_app1 | exact kp_app2 | exact kp_app3 | refine Kp.grew ?_ _ _ | refine Kp.drewN ?_ _ | refine Kp.drew ?_ | refine Kp.alloc ?_ _))))).mono ?_; rintro e w1 ⟨⟨v, rfl, ho⟩, os9, m9, rfl⟩; (try simp only [grew_grew, drewN_grew, grew_drewN, drew_grew, Array.append_assoc] at ho); have fin := ho.fin; obtain ⟨a9, c9, rfl, -, -⟩ := ho.sl; clear ho))
    all_goals (go_wp2_with fail; go_meet; refine ⟨_, rfl, rfl, ?_, (by (try show Gr _ _); repeat (with_reducible first | exact Gr.refl _ | refine Gr.drewN ?_ _ | refine Gr.grew ?_ _ _ | refine Gr.alloc ?_ _ | refine Gr.drew ?_))⟩; first | (refine RowInI.swap fin ?_ ?_ ?_ ?_ <;> (first | omega | (simp <;> omega))) | exact RowInI.of fin (by (try show Gr _ _); repeat (with_reducible first | exact Gr.refl _ | refine Gr.drewN ?_ _ | refine Gr.grew ?_ _ _ | refine Gr.alloc ?_ _ | refine Gr.drew ?_)) (by (first | omega | (simp <;> omega))) (by (first | omega | (simp <;> omega))))
  case rest =>
    obtain ⟨v, rfl, rfl, ⟨lo_w0, hi_w0, zlo, zhi, r⟩, k⟩ := hcut
    clear p_ppl_0 p_ppl_1 p_ppl_2
    have Ew0 : ∃ u, u = wc := ⟨wc, rfl⟩
    obtain ⟨d2, hu⟩ := Ew0
    rw [← hu] at zhi r k ⊢
    clear hu
    have Z2 := Lib.hid (show v0.heap.size ≤ d2.heap.size ∧ v0.heap.size ≤ lo_w0 ∧ hi_w0 ≤ d2.heap.size from ⟨k.size, zlo, zhi⟩)
    replace B_ppl := Lib.hid (B_ppl.out.gr k)
    replace G := Lib.hid (G.out.trans k)
    obtain ⟨a_w0, c_w0, rfl, -, -⟩ := r.sl
    have R_w0 := Lib.hid r
    clear k r zlo zhi
    go_wp2_with fail
    refine (L_toVectorS  _ _ _ pointsx _ (A_points.out.keep (G.out.trans (by (try show Gr _ _); repeat (with_reducible first | exact Gr.refl _ | refine Gr.drewN ?_ _ | refine Gr.grew ?_ _ _ | refine Gr.alloc ?_ _ | refine Gr.drew ?_))).kp) (by omega)).mono ?_
    rintro e u2 ⟨⟨v, rfl, ho⟩, g⟩
    have k : Gr d2 u2 := Gr.trans (by (try show Gr _ _); repeat (with_reducible first | exact Gr.refl _ | refine Gr.drewN ?_ _ | refine Gr.grew ?_ _ _ | refine Gr.alloc ?_ _ | refine Gr.drew ?_)) g
    have Z3 := Lib.hid k.size
    replace B_ppl := Lib.hid (B_ppl.out.gr k)
    replace R_w0 := Lib.hid (R_w0.out.gr k)
    replace G := Lib.hid (G.out.trans k)
    have R_xpoints := Lib.hid ho.fin
    obtain ⟨a_xpoints, c_xpoints, rfl, -, -⟩ := ho.sl
    clear ho g k
    have p_ppl_0 := B_ppl.out.cellv 0
    have p_ppl_1 := B_ppl.out.cellv 1
    have p_ppl_2 := B_ppl.out.cellv 2
    go_wp2_with fail
    refine (L_toPlane _ _ _ _).mono ?_
    rintro e u3 ⟨rfl, g⟩
    clear p_ppl_0 p_ppl_1 p_ppl_2
    have k : Gr u2 u3 := Gr.trans (by (try show Gr _ _); repeat (with_reducible first | exact Gr.refl _ | refine Gr.drewN ?_ _ | refine Gr.grew ?_ _ _ | refine Gr.alloc ?_ _ | refine Gr.drew ?_)) g
    have Z4 := Lib.hid k.size
    replace B_ppl := Lib.hid (B_ppl.out.gr k)
    replace R_w0 := Lib.hid (R_w0.out.gr k)
    replace R_xpoints := Lib.hid (R_xpoints.out.gr k)
    replace G := Lib.hid (G.out.trans k)
    clear g k
    go_wp2_with fail
    refine (Hi.out _ _ _ (R_xpoints.out.fsl.keep (Gr.kp (by (try show Gr _ _); repeat (with_reducible first | exact Gr.refl _ | refine Gr.drewN ?_ _ | refine Gr.grew ?_ _ _ | refine Gr.alloc ?_ _ | refine Gr.drew ?_))))).mono ?_
    rintro e u4 ⟨⟨v, rfl, ho⟩, g⟩
    have k : Gr u3 u4 := Gr.trans (by (try show Gr _ _); repeat (with_reducible first | exact Gr.refl _ | refine Gr.drewN ?_ _ | refine Gr.grew ?_ _ _ | refine Gr.alloc ?_ _ | refine Gr.drew ?_)) g
    have Z5 := Lib.hid k.size
    replace B_ppl := Lib.hid (B_ppl.out.gr k)
    replace R_w0 := Lib.hid (R_w0.out.gr k)
    replace R_xpoints := Lib.hid (R_xpoints.out.gr k)
    replace G := Lib.hid (G.out.trans k)
    have R_g0 := Lib.hid ho.fin
    obtain ⟨a_g0, c_g0, rfl, -, -⟩ := ho.sl
    clear ho g k
    go_wp2_with fail
    refine (L_eqInt64S _ _ _ _ _ _ L _ (R_g0.out.gr (by (try show Gr _ _); repeat (with_reducible first | exact Gr.refl _ | refine Gr.drewN ?_ _ | refine Gr.grew ?_ _ _ | refine Gr.alloc ?_ _ | refine Gr.drew ?_))).fsl (R_w0.out.gr (by (try show Gr _ _); repeat (with_reducible first | exact Gr.refl _ | refine Gr.drewN ?_ _ | refine Gr.grew ?_ _ _ | refine Gr.alloc ?_ _ | refine Gr.drew ?_))).fsl (by unfold maxLen; omega)).mono ?_
    rintro e u5 ⟨rfl, g⟩
    have k : Gr u4 u5 := Gr.trans (by (try show Gr _ _); repeat (with_reducible first | exact Gr.refl _ | refine Gr.drewN ?_ _ | refine Gr.grew ?_ _ _ | refine Gr.alloc ?_ _ | refine Gr.drew ?_)) g
    have Z6 := Lib.hid k.size
    replace B_ppl := Lib.hid (B_ppl.out.gr k)
    replace R_w0 := Lib.hid (R_w0.out.gr k)
    replace R_xpoints := Lib.hid (R_xpoints.out.gr k)
    replace R_g0 := Lib.hid (R_g0.out.gr k)
    replace G := Lib.hid (G.out.trans k)
    clear g k
    go_wp2_with fail
    refine (L_toVectorS  _ _ _ pointsx _ (A_points.out.keep (G.out.trans (by (try show Gr _ _); repeat (with_reducible first | exact Gr.refl _ | refine Gr.drewN ?_ _ | refine Gr.grew ?_ _ _ | refine Gr.alloc ?_ _ | refine Gr.drew ?_))).kp) (by omega)).mono ?_
    rintro e u6 ⟨⟨v, rfl, ho⟩, g⟩
    have k : Gr u5 u6 := Gr.trans (by (try show Gr _ _); repeat (with_reducible first | exact Gr.refl _ | refine Gr.drewN ?_ _ | refine Gr.grew ?_ _ _ | refine Gr.alloc ?_ _ | refine Gr.drew ?_)) g
    have Z7 := Lib.hid k.size
    replace B_ppl := Lib.hid (B_ppl.out.gr k)
    replace R_w0 := Lib.hid (R_w0.out.gr k)
    replace R_xpoints := Lib.hid (R_xpoints.out.gr k)
    replace R_g0 := Lib.hid (R_g0.out.gr k)
    replace G := Lib.hid (G.out.trans k)
    have R_ypoints := Lib.hid ho.fin
    obtain ⟨a_ypoints, c_ypoints, rfl, -, -⟩ := ho.sl
    clear ho g k
    go_wp2_with fail
    refine (L_eqVectorS _ _ _ _ _ _ pointsx _ (R_xpoints.out.gr (by (try show Gr _ _); repeat (with_reducible first | exact Gr.refl _ | refine Gr.drewN ?_ _ | refine Gr.grew ?_ _ _ | refine Gr.alloc ?_ _ | refine Gr.drew ?_))).fsl (R_ypoints.out.gr (by (try show Gr _ _); repeat (with_reducible first | exact Gr.refl _ | refine Gr.drewN ?_ _ | refine Gr.grew ?_ _ _ | refine Gr.alloc ?_ _ | refine Gr.drew ?_))).fsl (by unfold maxLen; omega)).mono ?_
    rintro e u7 ⟨rfl, g⟩
    have k : Gr u6 u7 := Gr.trans (by (try show Gr _ _); repeat (with_reducible first | exact Gr.refl _ | refine Gr.drewN ?_ _ | refine Gr.grew ?_ _ _ | refine Gr.alloc ?_ _ | refine Gr.drew ?_)) g
    have Z8 := Lib.hid k.size
    replace B_ppl := Lib.hid (B_ppl.out.gr k)
    replace R_w0 := Lib.hid (R_w0.out.gr k)
    replace R_xpoints := Lib.hid (R_xpoints.out.gr k)
    replace R_g0 := Lib.hid (R_g0.out.gr k)
    replace R_ypoints := Lib.hid (R_ypoints.out.gr k)
    replace G := Lib.hid (G.out.trans k)
    clear g k R_ypoints
    obtain ⟨vs, own, hv⟩ := R_xpoints.out.row
    go_wp2_with fail
    refine (L_markVectorS _ _ _ _ vs (1) _ own hv (by omega) (by omega) (by omega)).mono ?_
    rintro e u8 ⟨rfl, g, own1⟩
    have Z9 := Lib.hid g.by_.size
    replace B_ppl := Lib.hid (B_ppl.out.wrote own g (by decide))
    replace R_w0 := Lib.hid (R_w0.out.wrote own g (by have := Z1.out; have := Z2.out; have := Z3.out; have := Z4.out; have := Z5.out; have := Z6.out; have := Z7.out; have := Z8.out; (try simp only [World.size_alloc, heap_size_grew] at *); omega))
    replace R_g0 := Lib.hid (R_g0.out.wrote own g (by have := Z1.out; have := Z2.out; have := Z3.out; have := Z4.out; have := Z5.out; have := Z6.out; have := Z7.out; have := Z8.out; (try simp only [World.size_alloc, heap_size_grew] at *); omega))
    replace G := Lib.hid (G.out.wrote own g (by have := Z1.out; have := Z2.out; have := Z3.out; have := Z4.out; have := Z5.out; have := Z6.out; have := Z7.out; have := Z8.out; (try simp only [World.size_alloc, heap_size_grew] at *); omega))
    have M_xpoints := Lib.hid own1
    clear own g hv own1
    go_wp2_with fail
    refine (L_eqInt64S _ _ _ _ _ _ L _ (R_g0.out.gr (by (try show Gr _ _); repeat (with_reducible first | exact Gr.refl _ | refine Gr.drewN ?_ _ | refine Gr.grew ?_ _ _ | refine Gr.alloc ?_ _ | refine Gr.drew ?_))).fsl (R_w0.out.gr (by (try show Gr _ _); repeat (with_reducible first | exact Gr.refl _ | refine Gr.drewN ?_ _ | refine Gr.grew ?_ _ _ | refine Gr.alloc ?_ _ | refine Gr.drew ?_))).fsl (by unfold maxLen; omega)).mono ?_
    rintro e u9 ⟨rfl, g⟩
    have k : Gr u8 u9 := Gr.trans (by (try show Gr _ _); repeat (with_reducible first | exact Gr.refl _ | refine Gr.drewN ?_ _ | refine Gr.grew ?_ _ _ | refine Gr.alloc ?_ _ | refine Gr.drew ?_)) g
    have Z10 := Lib.hid k.size
    replace B_ppl := Lib.hid (B_ppl.out.gr k)
    replace R_w0 := Lib.hid (R_w0.out.gr k)
    replace R_g0 := Lib.hid (R_g0.out.gr k)
    replace M_xpoints := Lib.hid (M_xpoints.out.gr k)
    replace G := Lib.hid (G.out.trans k)
    clear g k
    obtain ⟨vs, own, hv⟩ := R_g0.out.row
    go_wp2_with fail
    refine (L_markInt64S _ _ _ _ vs (1) _ own hv (by omega) (by omega) (by omega)).mono ?_
    rintro e u10 ⟨rfl, g, own1⟩
    have Z11 := Lib.hid g.by_.size
    replace B_ppl := Lib.hid (B_ppl.out.wrote own g (by decide))
    replace R_w0 := Lib.hid (R_w0.out.wrote own g (by have := Z1.out; have := Z2.out; have := Z3.out; have := Z4.out; have := Z5.out; have := Z6.out; have := Z7.out; have := Z8.out; have := Z9.out; have := Z10.out; (try simp only [World.size_alloc, heap_size_grew] at *); omega))
    replace M_xpoints := Lib.hid (M_xpoints.out.wrote own g (by have := Z1.out; have := Z2.out; have := Z3.out; have := Z4.out; have := Z5.out; have := Z6.out; have := Z7.out; have := Z8.out; have := Z9.out; have := Z10.out; (try simp only [World.size_alloc, heap_size_grew] at *); omega))
    replace G := Lib.hid (G.out.wrote own g (by have := Z1.out; have := Z2.out; have := Z3.out; have := Z4.out; have := Z5.out; have := Z6.out; have := Z7.out; have := Z8.out; have := Z9.out; have := Z10.out; (try simp only [World.size_alloc, heap_size_grew] at *); omega))
    have M_g0 := Lib.hid own1
    clear own g hv own1
    go_wp2_with fail
    refine (L_heldInt64S _ _ _ _ 1 _ (M_g0.out.gr (by (try show Gr _ _); repeat (with_reducible first | exact Gr.refl _ | refine Gr.drewN ?_ _ | refine Gr.grew ?_ _ _ | refine Gr.alloc ?_ _ | refine Gr.drew ?_))) (by omega) (by omega) (by omega)).mono ?_
    rintro e u11 ⟨rfl, g⟩
    have k : Gr u10 u11 := Gr.trans (by (try show Gr _ _); repeat (with_reducible first | exact Gr.refl _ | refine Gr.drewN ?_ _ | refine Gr.grew ?_ _ _ | refine Gr.alloc ?_ _ | refine Gr.drew ?_)) g
    have Z12 := Lib.hid k.size
    replace B_ppl := Lib.hid (B_ppl.out.gr k)
    replace R_w0 := Lib.hid (R_w0.out.gr k)
    replace M_xpoints := Lib.hid (M_xpoints.out.gr k)
    replace M_g0 := Lib.hid (M_g0.out.gr k)
    replace G := Lib.hid (G.out.trans k)
    clear g k
    have p_ppl_0 := B_ppl.out.cellv 0
    have p_ppl_1 := B_ppl.out.cellv 1
    have p_ppl_2 := B_ppl.out.cellv 2
    go_upto_region 24 with fail
    go_cut [16, 17] (fun sa sb wx => ∃ v : Value, sa = v ∧ sb = .bool ok ∧ RowInI u11 wx 2 v L ∧ Gr u11 wx)
    case first =>
      clear Z1 Z2 Z3 Z4 Z5 Z6 Z7 Z8 Z9 Z10 Z11 Z12 B_ppl R_w0 M_xpoints M_g0 Hs
      go_region_held3 (fun w' => w'.cell? ⟨w.heap.size, 0, none⟩ = some (.float .f32 pl0) ∧ w'.cell? ⟨w.heap.size, 1, none⟩ = some (.float .f32 pl1) ∧ w'.cell? ⟨w.heap.size, 2, none⟩ = some (.float .f32 pl2))
      (first | (simp (maxDischargeDepth := 12) [go_sem]; done) | (simp (maxDischargeDepth := 12) [go_sem, *]; done)) (first
      | (go_at_call 52; refine (L_toVectorS pointsa _ pointsc pointsx _ ?_ ?_).mono ?_; exact A_points.out.keep (G.out.trans (by (try show Gr _ _); repeat (with_reducible first | exact Gr.refl _ | refine Gr.drewN ?_ _ | refine Gr.grew ?_ _ _ | refine Gr.alloc ?_ _ | refine Gr.drew ?_))).kp; omega; rintro e w1 ⟨⟨v, rfl, ho⟩, os0, m0, rfl⟩; (try simp only [grew_grew, drewN_grew, grew_drewN, drew_grew, Array.append_assoc] at ho); obtain ⟨a_points, c_points, rfl, h_points, -⟩ := ho.sl; clear ho)
      | (go_at_call 53; refine (L_toPlane pl0 pl1 pl2 _).mono ?_; rintro e w1 ⟨rfl, os1, m1, rfl⟩)
      | (go_at_call 54; refine (Hi.out a_points c_points _ (h_points.keep (by (repeat (with_reducible first | exact Kp.refl _ | exact kp_same | exact kp_app1 | exact kp_app2 | exact kp_app3 | refine Kp.grew ?_ _ _ | refine Kp.drewN ?_ _ | refine Kp.drew ?_ | refine Kp.alloc ?_ _))))).mono ?_; rintro e w1 ⟨⟨v, rfl, ho⟩, os9, m9, rfl⟩; (try simp only [grew_grew, drewN_grew, grew_drewN, drew_grew, Array.append_assoc] at ho); have fin := ho.fin; obtain ⟨a9, c9, rfl, -, -⟩ := ho.sl; clear ho))
      all_goals (go_wp2_with fail; go_meet; refine ⟨_, rfl, rfl, ?_, (by (try show Gr _ _); repeat (with_reducible first | exact Gr.refl _ | refine Gr.drewN ?_ _ | refine Gr.grew ?_ _ _ | refine Gr.alloc ?_ _ | refine Gr.drew ?_))⟩; first | (refine RowInI.swap fin ?_ ?_ ?_ ?_ <;> (first | omega | (simp <;> omega))) | exact RowInI.of fin (by (try show Gr _ _); repeat (with_reducible first | exact Gr.refl _ | refine Gr.drewN ?_ _ | refine Gr.grew ?_ _ _ | refine Gr.alloc ?_ _ | refine Gr.drew ?_)) (by (first | omega | (simp <;> omega))) (by (first | omega | (simp <;> omega))))
    case rest =>
      obtain ⟨v, rfl, rfl, ⟨lo_h0, hi_h0, zlo, zhi, r⟩, k⟩ := hcut
      clear p_ppl_0 p_ppl_1 p_ppl_2
      have Eh0 : ∃ u, u = wc := ⟨wc, rfl⟩
      obtain ⟨d13, hu⟩ := Eh0
      rw [← hu] at zhi r k ⊢
      clear hu
      have Z13 := Lib.hid (show u11.heap.size ≤ d13.heap.size ∧ u11.heap.size ≤ lo_h0 ∧ hi_h0 ≤ d13.heap.size from ⟨k.size, zlo, zhi⟩)
      replace B_ppl := Lib.hid (B_ppl.out.gr k)
      replace R_w0 := Lib.hid (R_w0.out.gr k)
      replace M_xpoints := Lib.hid (M_xpoints.out.gr k)
      replace M_g0 := Lib.hid (M_g0.out.gr k)
      replace G := Lib.hid (G.out.trans k)
      obtain ⟨a_h0, c_h0, rfl, -, -⟩ := r.sl
      have R_h0 := Lib.hid r
      clear k r zlo zhi
      go_wp2_with fail
      refine (L_eqInt64S _ _ _ _ _ _ L _ (R_h0.out.gr (by (try show Gr _ _); repeat (with_reducible first | exact Gr.refl _ | refine Gr.drewN ?_ _ | refine Gr.grew ?_ _ _ | refine Gr.alloc ?_ _ | refine Gr.drew ?_))).fsl (R_w0.out.gr (by (try show Gr _ _); repeat (with_reducible first | exact Gr.refl _ | refine Gr.drewN ?_ _ | refine Gr.grew ?_ _ _ | refine Gr.alloc ?_ _ | refine Gr.drew ?_))).fsl (by unfold maxLen; omega)).mono ?_
      rintro e u13 ⟨rfl, g⟩
      have k : Gr d13 u13 := Gr.trans (by (try show Gr _ _); repeat (with_reducible first | exact Gr.refl _ | refine Gr.drewN ?_ _ | refine Gr.grew ?_ _ _ | refine Gr.alloc ?_ _ | refine Gr.drew ?_)) g
      have Z14 := Lib.hid k.size
      replace B_ppl := Lib.hid (B_ppl.out.gr k)
      replace R_w0 := Lib.hid (R_w0.out.gr k)
      replace R_h0 := Lib.hid (R_h0.out.gr k)
      replace M_xpoints := Lib.hid (M_xpoints.out.gr k)
      replace M_g0 := Lib.hid (M_g0.out.gr k)
      replace G := Lib.hid (G.out.trans k)
      clear g k
      go_wp2_with fail
      refine (L_heldInt64S _ _ _ _ 1 _ (M_g0.out.gr (by (try show Gr _ _); repeat (with_reducible first | exact Gr.refl _ | refine Gr.drewN ?_ _ | refine Gr.grew ?_ _ _ | refine Gr.alloc ?_ _ | refine Gr.drew ?_))) (by omega) (by omega) (by omega)).mono ?_
      rintro e u14 ⟨rfl, g⟩
      have k : Gr u13 u14 := Gr.trans (by (try show Gr _ _); repeat (with_reducible first | exact Gr.refl _ | refine Gr.drewN ?_ _ | refine Gr.grew ?_ _ _ | refine Gr.alloc ?_ _ | refine Gr.drew ?_)) g
      have Z15 := Lib.hid k.size
      replace B_ppl := Lib.hid (B_ppl.out.gr k)
      replace R_w0 := Lib.hid (R_w0.out.gr k)
      replace R_h0 := Lib.hid (R_h0.out.gr k)
      replace M_xpoints := Lib.hid (M_xpoints.out.gr k)
      replace M_g0 := Lib.hid (M_g0.out.gr k)
      replace G := Lib.hid (G.out.trans k)
      clear g k
      go_wp2
      go_ret
      exact ⟨rfl, G.out.trans (by (try show Gr _ _); repeat (with_reducible first | exact Gr.refl _ | refine Gr.drewN ?_ _ | refine Gr.grew ?_ _ _ | refine Gr.alloc ?_ _ | refine Gr.drew ?_))⟩

set_option maxRecDepth 20000 in
set_option maxHeartbeats 1000000 in
theorem L_FnExactNearPlane (pointsa : Option Addr) (pointsn pointsc : Nat) (pointsx : List Nat) (pl0 Kpl0 pl1 Kpl1 pl2 Kpl2 : Nat) (near Knear : Nat) (w : World) (fpoints : FSl w pointsa (pointsn * 3) pointsx) (lpoints : pointsn ≤ maxLen) (hpl0 : FE .f32 pl0 Kpl0) (hpl1 : FE .f32 pl1 Kpl1) (hpl2 : FE .f32 pl2 Kpl2) (hnear : FE .f32 near Knear) :
    Calls Try.prog 11 #[.slice pointsa pointsn pointsc, .agg #[.float .f32 pl0, .float .f32 pl1, .float .f32 pl2], .float .f32 near] w fun e w' => e = .returned (.bool true) ∧ ∃ os m, w' = w.grew os m := by
  by_cases hnpoints : pointsn ≤ 1048576
  · skip
    exact law_NearPlane pointsn pointsa pointsc pointsx pl0 pl1 pl2 near _ _ w (gPk_bound _ _) fpoints hnpoints
        (fun a_points c_points w f_points => S_NearPlane pl0 pl1 pl2 near _ _ _ _ pointsn a_points c_points pointsx w f_points (by omega) hpl0 hpl1 hpl2 hnear) (fun a_points c_points w f_points => I_NearPlane pl0 pl1 pl2 near _ _ _ _ pointsn a_points c_points pointsx w f_points (by omega) hpl0 hpl1 hpl2 hnear)
  · clear fpoints
    go_enter Try.func11, Try.ntmps11
    go_wp2_with fail
    refine (L_szVectorS_no _ _ _ (1048576) _ (by omega) (by omega) (by omega) lpoints).mono ?_
    rintro e ul ⟨rfl, g⟩
    have G1 : Gr w ul := Gr.trans (by (try show Gr _ _); repeat (with_reducible first | exact Gr.refl _ | refine Gr.drewN ?_ _ | refine Gr.grew ?_ _ _ | refine Gr.alloc ?_ _ | refine Gr.drew ?_)) g
    clear g
    go_wp2
    go_ret
    exact ⟨rfl, G1⟩

set_option maxRecDepth 100000 in
theorem fnExactNearPlane_lifted (os : Os) (started : os.Started) (H : Type) (enc : TypeId × Value → H) :
    ReturnsInHanded {} Try.checked os 11 .any (Rows.fnExactNearPlaneSpec.pre6 enc Try.prog Try.f11 Rows.fnExactNearPlaneRow.domain false) (Rows.fnExactNearPlaneSpec.post enc Try.prog Try.f11 false true false false) := by
  refine returnsInHanded_of_change (C := Try.checked) own started (by kernel_rfl) Try.func11
    (ChangeSpec.witness6 (enc := enc) (C := Try.checked) false ⟨#[], #[.slice none 0 0, .agg #[.float .f32 0, .float .f32 0, .float .f32 0], .float .f32 0], []⟩ 12 (by kernel_rfl) (by kernel_rfl) (by kernel_rfl) (by kernel_rfl)) ?_
  intro W base args ds gs before hval0 hW hcnd _
  have hval : ∀ (j : Nat) t v, Try.f11.params[j]? = some t → args[j]? = some v → Value.okWide Try.prog W .any base t v := hval0
  have hW' := hW
  obtain ⟨p, q, hA0, hV, rfl, hfz, hnd⟩ := hW
  have hA : DataW.TrodAll enc Try.prog W 0 (fun _ => true) true Try.f11.params.toList args.toList ds p := hA0
  rw [Try.params11] at hA hval
  obtain ⟨v0, vs0, d0, ds0, p0, q0, ha0, rfl, rfl, h0, r0⟩ := trodAll_cons hA
  obtain ⟨v1, vs1, d1, ds1, p1, q1, rfl, rfl, rfl, h1, r1⟩ := trodAll_cons r0
  obtain ⟨v2, vs2, d2, ds2, p2, q2, rfl, rfl, rfl, h2, r2⟩ := trodAll_cons r1
  obtain ⟨rfl, rfl, rfl⟩ := trodAll_nil r2
  obtain rfl : args = #[v0, v1, v2] := by cases args; simp_all
  obtain ⟨rfl, rfl⟩ := trodVars_none hV
  obtain ⟨pointsa, pointsn, pointsc, pointsx, rfl, fpoints, lpoints⟩ := open_vecs Try.underlying69 Try.underlying147 (by kernel_rfl) (by kernel_rfl) Try.underlying42 (hval 0 69 v0 rfl rfl) h0
  obtain ⟨pl0, pl1, pl2, rfl, wpl0, wpl1, wpl2⟩ := open_f3 Try.underlying71 (by kernel_rfl) (by kernel_rfl) Try.underlying42 (hval 1 71 v1 rfl rfl) h1
  obtain ⟨near, rfl, -, -, wnear⟩ := open_float Try.underlying42 (hval 2 42 v2 rfl rfl) h2
  refine (L_FnExactNearPlane pointsa pointsn pointsc pointsx pl0 _ pl1 _ pl2 _ near _ W fpoints lpoints wpl0 wpl1 wpl2 (FE.wf wnear)).mono fun e W' ⟨he, hg⟩ => ?_
  exact ⟨_, he, post_true laidOut (by kernel_rfl) (by kernel_rfl) Try.underlying4 rfl hW' rfl rfl rfl (Gr.below hg)⟩

theorem fnExactNearPlane_holds : Rows.FnExactNearPlaneSaid :=
  OpenClaim.holds_of_wide 11 Try.f11 rfl rfl rfl rfl rfl rfl rfl ⟨rfl, rfl, rfl, rfl, rfl⟩ rfl rfl rfl rfl rfl (by kernel_rfl) Try.func11 (by kernel_rfl)
    (of_decide_eq_true (by kernel_rfl)) (by unfold Func.isWrapper; first | (rw [if_pos (by decide +kernel)]; kernel_rfl) | (rw [if_neg (by decide +kernel)]; exact ⟨rfl, rfl⟩))
    (fun os started H enc _ => fnExactNearPlane_lifted os started H enc)
#print axioms fnExactNearPlane_holds
end Go.Proofs.Ytldeeijfipiafaa
