/- For every map and reach FnExactMedianMap returns true. No conditions. MAXREC -/
import Derived.Test.YtomlfdkcgaogcaaRow
import Derived.Test.YtomlfdkcgaogcaaC119
import Derived.Test.YtomlfdkcgaogcaaLw
import Derived.Deep.RegionHeld3
import Derived.Deep.DeepCutAuto
namespace Go.Proofs.Ytomlfdkcgaogcaa
open Go.ChangeShapes Go.WideShapes Go.ChangeAt Go.RowKit Go.Joins Go.Deep Go.Fx Go.Soft

set_option maxRecDepth 20000 in
set_option maxHeartbeats 8000000 in
theorem law_MedianMap (mw mh : Int) (ma : Option Addr) (mc : Nat) (mx : List Nat) (reach : Int) (A B : Int) (ok : Bool) (L : List Nat) (w : World) (hL : L.length ≤ 1048576) (hsm : FSl w ma mx.length mx) (hnm : mx.length ≤ 1048576)
    (HS : ∀ (a_m : Option Addr) (c_m : Nat) (w : World), FSl w a_m mx.length mx → Calls Try.prog 36 #[.agg #[.int .i64 mw, .int .i64 mh, .slice a_m mx.length c_m], .int .i64 reach] w (PostP w A B ok L))
    (HI : ∀ (a_m : Option Addr) (c_m : Nat) (w : World), FSl w a_m mx.length mx → Calls Try.prog 37 #[.agg #[.int .i64 mw, .int .i64 mh, .slice a_m mx.length c_m], .int .i64 reach] w (PostP w A B ok L)) :
    Calls Try.prog 8 #[.agg #[.int .i64 mw, .int .i64 mh, .slice ma mx.length mc], .int .i64 reach] w fun e w' => e = .returned (.bool true) ∧ ∃ os m, w' = w.grew os m := by
  have Hs := Lib.hid HS
  have Hi := Lib.hid HI
  clear HS HI
  have G := Lib.hid (Gr.refl w)
  have A_m := Lib.hid hsm
  clear hsm
  go_enter Try.func8, Try.ntmps8
  go_wp2_with fail
  refine (L_szMap_ok _ _ _ _ _ _ _ (1048576) _ rfl rfl (by omega) (by omega)).mono ?_
  rintro e v0 ⟨rfl, g⟩
  have k : Gr w v0 := Gr.trans (by (try show Gr _ _); repeat (with_reducible first | exact Gr.refl _ | refine Gr.drewN ?_ _ | refine Gr.grew ?_ _ _ | refine Gr.alloc ?_ _ | refine Gr.drew ?_)) g
  have Z1 := Lib.hid k.size
  replace G := Lib.hid (G.out.trans k)
  have B_pm := Lib.hid (Blk.gr (show Blk _ (w.heap.size) [.int .i64 mw, .int .i64 mh, .slice ma mx.length mc] 24 from (by repeat (with_reducible first | assumption | exact Blk.atNew (by simp) | refine Blk.alloc ?_ _ | refine Blk.grew ?_ _ _ | refine Blk.drewN ?_ _ | refine Blk.drew ?_))) g)
  clear g k
  have p_pm_0 := B_pm.out.cellv 0
  have p_pm_1 := B_pm.out.cellv 1
  have p_pm_2 := B_pm.out.cellv 2
  go_wp2_with fail
  refine (L_toMap mw mh _ _ _ mx _ (A_m.out.keep (G.out.trans (by (try show Gr _ _); repeat (with_reducible first | exact Gr.refl _ | refine Gr.drewN ?_ _ | refine Gr.grew ?_ _ _ | refine Gr.alloc ?_ _ | refine Gr.drew ?_))).kp) (by omega)).mono ?_
  rintro e u1 ⟨⟨v, rfl, ho⟩, g⟩
  clear p_pm_0 p_pm_1 p_pm_2
  have k : Gr v0 u1 := Gr.trans (by (try show Gr _ _); repeat (with_reducible first | exact Gr.refl _ | refine Gr.drewN ?_ _ | refine Gr.grew ?_ _ _ | refine Gr.alloc ?_ _ | refine Gr.drew ?_)) g
  have Z2 := Lib.hid k.size
  replace B_pm := Lib.hid (B_pm.out.gr k)
  replace G := Lib.hid (G.out.trans k)
  have R_t_m_w0 := Lib.hid ho.fin
  obtain ⟨a_t_m_w0, c_t_m_w0, rfl, -, -⟩ := ho.sl
  clear ho g k
  go_wp2_with fail
  refine (Hs.out _ _ _ (R_t_m_w0.out.fsl.keep (Gr.kp (by (try show Gr _ _); repeat (with_reducible first | exact Gr.refl _ | refine Gr.drewN ?_ _ | refine Gr.grew ?_ _ _ | refine Gr.alloc ?_ _ | refine Gr.drew ?_))))).mono ?_
  rintro e u2 ⟨⟨v, rfl, ho⟩, g⟩
  have k : Gr u1 u2 := Gr.trans (by (try show Gr _ _); repeat (with_reducible first | exact Gr.refl _ | refine Gr.drewN ?_ _ | refine Gr.grew ?_ _ _ | refine Gr.alloc ?_ _ | refine Gr.drew ?_)) g
  have Z3 := Lib.hid k.size
  replace B_pm := Lib.hid (B_pm.out.gr k)
  replace R_t_m_w0 := Lib.hid (R_t_m_w0.out.gr k)
  replace G := Lib.hid (G.out.trans k)
  have R_w0 := Lib.hid ho.fin
  obtain ⟨a_w0, c_w0, rfl, -, -⟩ := ho.sl
  clear ho g k
  clear R_t_m_w0
  have p_pm_0 := B_pm.out.cellv 0
  have p_pm_1 := B_pm.out.cellv 1
  have p_pm_2 := B_pm.out.cellv 2
  go_wp2_with fail
  refine (L_toMap mw mh _ _ _ mx _ (A_m.out.keep (G.out.trans (by (try show Gr _ _); repeat (with_reducible first | exact Gr.refl _ | refine Gr.drewN ?_ _ | refine Gr.grew ?_ _ _ | refine Gr.alloc ?_ _ | refine Gr.drew ?_))).kp) (by omega)).mono ?_
  rintro e u3 ⟨⟨v, rfl, ho⟩, g⟩
  clear p_pm_0 p_pm_1 p_pm_2
  have k : Gr u2 u3 := Gr.trans (by (try show Gr _ _); repeat (with_reducible first | exact Gr.refl _ | refine Gr.drewN ?_ _ | refine Gr.grew ?_ _ _ | refine Gr.alloc ?_ _ | refine Gr.drew ?_)) g
  have Z4 := Lib.hid k.size
  replace B_pm := Lib.hid (B_pm.out.gr k)
  replace R_w0 := Lib.hid (R_w0.out.gr k)
  replace G := Lib.hid (G.out.trans k)
  have B_w0 := Lib.hid (Blk.gr (show Blk _ (u2.heap.size) [.int .i64 A, .int .i64 B, .slice a_w0 L.length c_w0] 30 from (by repeat (with_reducible first | assumption | exact Blk.atNew (by simp) | refine Blk.alloc ?_ _ | refine Blk.grew ?_ _ _ | refine Blk.drewN ?_ _ | refine Blk.drew ?_))) g)
  have R_xm := Lib.hid ho.fin
  obtain ⟨a_xm, c_xm, rfl, -, -⟩ := ho.sl
  clear ho g k
  go_wp2_with fail
  refine (Hi.out _ _ _ (R_xm.out.fsl.keep (Gr.kp (by (try show Gr _ _); repeat (with_reducible first | exact Gr.refl _ | refine Gr.drewN ?_ _ | refine Gr.grew ?_ _ _ | refine Gr.alloc ?_ _ | refine Gr.drew ?_))))).mono ?_
  rintro e u4 ⟨⟨v, rfl, ho⟩, g⟩
  have k : Gr u3 u4 := Gr.trans (by (try show Gr _ _); repeat (with_reducible first | exact Gr.refl _ | refine Gr.drewN ?_ _ | refine Gr.grew ?_ _ _ | refine Gr.alloc ?_ _ | refine Gr.drew ?_)) g
  have Z5 := Lib.hid k.size
  replace B_pm := Lib.hid (B_pm.out.gr k)
  replace B_w0 := Lib.hid (B_w0.out.gr k)
  replace R_w0 := Lib.hid (R_w0.out.gr k)
  replace R_xm := Lib.hid (R_xm.out.gr k)
  replace G := Lib.hid (G.out.trans k)
  have B_xm := Lib.hid (Blk.gr (show Blk _ (u3.heap.size) [.int .i64 mw, .int .i64 mh, .slice a_xm mx.length c_xm] 30 from (by repeat (with_reducible first | assumption | exact Blk.atNew (by simp) | refine Blk.alloc ?_ _ | refine Blk.grew ?_ _ _ | refine Blk.drewN ?_ _ | refine Blk.drew ?_))) g)
  have R_g0 := Lib.hid ho.fin
  obtain ⟨a_g0, c_g0, rfl, -, -⟩ := ho.sl
  clear ho g k
  have p_w0_0 := B_w0.out.cellv 0
  have p_w0_1 := B_w0.out.cellv 1
  have p_w0_2 := B_w0.out.cellv 2
  go_wp2_with fail
  refine (L_eqMap A B _ _ _ _ _ _ L _ (R_g0.out.gr (by (try show Gr _ _); repeat (with_reducible first | exact Gr.refl _ | refine Gr.drewN ?_ _ | refine Gr.grew ?_ _ _ | refine Gr.alloc ?_ _ | refine Gr.drew ?_))).fsl (R_w0.out.gr (by (try show Gr _ _); repeat (with_reducible first | exact Gr.refl _ | refine Gr.drewN ?_ _ | refine Gr.grew ?_ _ _ | refine Gr.alloc ?_ _ | refine Gr.drew ?_))).fsl (by unfold maxLen; omega)).mono ?_
  rintro e u5 ⟨rfl, g⟩
  clear p_w0_0 p_w0_1 p_w0_2
  have k : Gr u4 u5 := Gr.trans (by (try show Gr _ _); repeat (with_reducible first | exact Gr.refl _ | refine Gr.drewN ?_ _ | refine Gr.grew ?_ _ _ | refine Gr.alloc ?_ _ | refine Gr.drew ?_)) g
  have Z6 := Lib.hid k.size
  replace B_pm := Lib.hid (B_pm.out.gr k)
  replace B_w0 := Lib.hid (B_w0.out.gr k)
  replace B_xm := Lib.hid (B_xm.out.gr k)
  replace R_w0 := Lib.hid (R_w0.out.gr k)
  replace R_xm := Lib.hid (R_xm.out.gr k)
  replace R_g0 := Lib.hid (R_g0.out.gr k)
  replace G := Lib.hid (G.out.trans k)
  have B_g0 := Lib.hid (Blk.gr (show Blk _ (u4.heap.size) [.int .i64 A, .int .i64 B, .slice a_g0 L.length c_g0] 30 from (by repeat (with_reducible first | assumption | exact Blk.atNew (by simp) | refine Blk.alloc ?_ _ | refine Blk.grew ?_ _ _ | refine Blk.drewN ?_ _ | refine Blk.drew ?_))) g)
  clear g k
  have p_xm_0 := B_xm.out.cellv 0
  have p_xm_1 := B_xm.out.cellv 1
  have p_xm_2 := B_xm.out.cellv 2
  have p_pm_0 := B_pm.out.cellv 0
  have p_pm_1 := B_pm.out.cellv 1
  have p_pm_2 := B_pm.out.cellv 2
  go_wp2_with fail
  apply region_facts 4 [2] (fun _ v w' => ∃ a c, v = .agg #[.int .i64 mw, .int .i64 mh, .slice a mx.length c] ∧ FSl w' a mx.length mx)
  case hm => kernel_rfl
  case hB => kernel_rfl
  case hR => rfl
  case hP => (intro k hk v w1 w2 hg hv; obtain ⟨a, c, hv, hs⟩ := hv; exact ⟨a, c, hv, hs.keep hg.kp⟩)
  simp only [List.take_succ_cons, List.take_zero, List.drop_succ_cons, List.drop_zero]
  repeat (first
    | ((with_reducible apply wpF_call (f := 11) (S := fun v => ∃ a c, v = .agg #[.int .i64 mw, .int .i64 mh, .slice a mx.length c])); (case hw => rfl); (case hc => exact Try.call11); (case hv => ((conv => lhs; simp [Act.eval]); try rfl)); (case hS => (intro os m _; refine (L_toMap mw mh _ _ _ mx _ (A_m.out.keep (G.out.trans ⟨os, m, rfl⟩).kp) (by omega)).mono ?_; rintro e w' ⟨⟨v, rfl, ho⟩, g⟩; obtain ⟨a', c', rfl, hs', -⟩ := ho.sl; exact ⟨_, rfl, g, fun _ => ⟨a', c', rfl, hs'⟩, a', c', rfl⟩)); (case hne => exact ⟨_, none, 0, rfl⟩); (rintro v ⟨aq_, cq_, rfl⟩; simp only [Act.put, List.setIfInBounds_toArray, List.set_cons_succ, List.set_cons_zero]))
    | ((with_reducible apply wpF_call (f := 14) (S := fun v => v = .bool true)); (case hw => rfl); (case hc => exact Try.call14); (case hv => ((conv => lhs; simp [Act.eval]); try rfl)); (case hS => (intro os m hse; obtain ⟨a', c', hv', hs'⟩ := hse ⟨2, .data⟩ (by simp) rfl (by decide) _ _ rfl rfl; simp at hv'; obtain ⟨rfl, rfl⟩ := hv'; refine (L_eqMap mw mh _ _ _ _ _ _ mx _ (R_xm.out.gr ⟨os, m, rfl⟩).fsl hs' (by unfold maxLen; omega)).mono ?_; rintro e w' ⟨rfl, g⟩; exact ⟨_, rfl, g, fun h => absurd h (by decide), rfl⟩)); (case hne => exact ⟨_, rfl⟩); (rintro v rfl; simp only [Act.put, List.setIfInBounds_toArray, List.set_cons_succ, List.set_cons_zero]))
    | (apply wpF_skip rfl (by decide); simp only [Act.put, List.setIfInBounds_toArray, List.set_cons_succ, List.set_cons_zero])
    | (apply wpF_nilCheck rfl (by decide) rfl; simp only [Act.put, List.setIfInBounds_toArray, List.set_cons_succ, List.set_cons_zero])
    | ((with_reducible apply wpF_fop); (case hw => rfl); (case hT => decide); (case hop => rfl); (case hx => rfl); (case hy => rfl); (case hA => (first | assumption | exact FE.ofInt _ _ | exact FE.lit (by decide +kernel))); (case hB => (first | assumption | exact FE.ofInt _ _ | exact FE.lit (by decide +kernel))); (intro r hr; simp only [Act.put, List.setIfInBounds_toArray, List.set_cons_succ, List.set_cons_zero]))
    | ((with_reducible apply wpF_fneg); (case hw => rfl); (case hT => decide); (case hx => rfl); (case hA => (first | assumption | exact FE.ofInt _ _ | exact FE.lit (by decide +kernel))); (intro r hr; simp only [Act.put, List.setIfInBounds_toArray, List.set_cons_succ, List.set_cons_zero]))
    | ((with_reducible apply wpF_fcmp); (case hw => rfl); (case hT => decide); (case hop => rfl); (case hx => rfl); (case hy => rfl); (case hA => (first | assumption | exact FE.ofInt _ _ | exact FE.lit (by decide +kernel))); (case hB => (first | assumption | exact FE.ofInt _ _ | exact FE.lit (by decide +kernel))); (case hb => (first | assumption | rfl)); simp only [Act.put, List.setIfInBounds_toArray, List.set_cons_succ, List.set_cons_zero])
    | (apply wpF_q rfl (by decide) rfl; intro K hK; go_big_quiet_op; go_big_quiet_on))
  with_reducible apply wpF_nil
  intro os m hf
  obtain ⟨u6, hu⟩ : ∃ u, u = World.grew u5 os m := ⟨_, rfl⟩
  rw [← hu]
  have g : Gr u5 u6 := ⟨os, m, hu⟩
  clear hf hu
  clear p_xm_0 p_xm_1 p_xm_2 p_pm_0 p_pm_1 p_pm_2
  have k : Gr u5 u6 := Gr.trans (by (try show Gr _ _); repeat (with_reducible first | exact Gr.refl _ | refine Gr.drewN ?_ _ | refine Gr.grew ?_ _ _ | refine Gr.alloc ?_ _ | refine Gr.drew ?_)) g
  have Z7 := Lib.hid k.size
  replace B_pm := Lib.hid (B_pm.out.gr k)
  replace B_w0 := Lib.hid (B_w0.out.gr k)
  replace B_xm := Lib.hid (B_xm.out.gr k)
  replace B_g0 := Lib.hid (B_g0.out.gr k)
  replace R_w0 := Lib.hid (R_w0.out.gr k)
  replace R_xm := Lib.hid (R_xm.out.gr k)
  replace R_g0 := Lib.hid (R_g0.out.gr k)
  replace G := Lib.hid (G.out.trans k)
  clear g k
  have p_xm_0 := B_xm.out.cellv 0
  have p_xm_1 := B_xm.out.cellv 1
  have p_xm_2 := B_xm.out.cellv 2
  obtain ⟨vs, own, hv⟩ := R_xm.out.row
  go_wp2_with fail
  refine (L_markMap mw mh _ _ _ _ vs (1) _ own hv (by omega) (by omega) (by omega)).mono ?_
  rintro e u7 ⟨rfl, g, own1⟩
  clear p_xm_0 p_xm_1 p_xm_2
  have Z8 := Lib.hid g.by_.size
  replace B_pm := Lib.hid (B_pm.out.wrote own g (by decide))
  replace B_w0 := Lib.hid (B_w0.out.wrote own g (by decide))
  replace B_xm := Lib.hid (B_xm.out.wrote own g (by decide))
  replace B_g0 := Lib.hid (B_g0.out.wrote own g (by decide))
  replace R_w0 := Lib.hid (R_w0.out.wrote own g (by have := Z1.out; have := Z2.out; have := Z3.out; have := Z4.out; have := Z5.out; have := Z6.out; have := Z7.out; (try simp only [World.size_alloc, heap_size_grew] at *); omega))
  replace R_g0 := Lib.hid (R_g0.out.wrote own g (by have := Z1.out; have := Z2.out; have := Z3.out; have := Z4.out; have := Z5.out; have := Z6.out; have := Z7.out; (try simp only [World.size_alloc, heap_size_grew] at *); omega))
  replace G := Lib.hid (G.out.wrote own g (by have := Z1.out; have := Z2.out; have := Z3.out; have := Z4.out; have := Z5.out; have := Z6.out; have := Z7.out; (try simp only [World.size_alloc, heap_size_grew] at *); omega))
  have M_xm := Lib.hid own1
  clear own g hv own1
  have p_g0_0 := B_g0.out.cellv 0
  have p_g0_1 := B_g0.out.cellv 1
  have p_g0_2 := B_g0.out.cellv 2
  have p_w0_0 := B_w0.out.cellv 0
  have p_w0_1 := B_w0.out.cellv 1
  have p_w0_2 := B_w0.out.cellv 2
  go_wp2_with fail
  refine (L_eqMap A B _ _ _ _ _ _ L _ (R_g0.out.gr (by (try show Gr _ _); repeat (with_reducible first | exact Gr.refl _ | refine Gr.drewN ?_ _ | refine Gr.grew ?_ _ _ | refine Gr.alloc ?_ _ | refine Gr.drew ?_))).fsl (R_w0.out.gr (by (try show Gr _ _); repeat (with_reducible first | exact Gr.refl _ | refine Gr.drewN ?_ _ | refine Gr.grew ?_ _ _ | refine Gr.alloc ?_ _ | refine Gr.drew ?_))).fsl (by unfold maxLen; omega)).mono ?_
  rintro e u8 ⟨rfl, g⟩
  clear p_g0_0 p_g0_1 p_g0_2 p_w0_0 p_w0_1 p_w0_2
  have k : Gr u7 u8 := Gr.trans (by (try show Gr _ _); repeat (with_reducible first | exact Gr.refl _ | refine Gr.drewN ?_ _ | refine Gr.grew ?_ _ _ | refine Gr.alloc ?_ _ | refine Gr.drew ?_)) g
  have Z9 := Lib.hid k.size
  replace B_pm := Lib.hid (B_pm.out.gr k)
  replace B_w0 := Lib.hid (B_w0.out.gr k)
  replace B_xm := Lib.hid (B_xm.out.gr k)
  replace B_g0 := Lib.hid (B_g0.out.gr k)
  replace R_w0 := Lib.hid (R_w0.out.gr k)
  replace R_g0 := Lib.hid (R_g0.out.gr k)
  replace M_xm := Lib.hid (M_xm.out.gr k)
  replace G := Lib.hid (G.out.trans k)
  clear g k
  have p_g0_0 := B_g0.out.cellv 0
  have p_g0_1 := B_g0.out.cellv 1
  have p_g0_2 := B_g0.out.cellv 2
  obtain ⟨vs, own, hv⟩ := R_g0.out.row
  go_wp2_with fail
  refine (L_markMap A B _ _ _ _ vs (1) _ own hv (by omega) (by omega) (by omega)).mono ?_
  rintro e u9 ⟨rfl, g, own1⟩
  clear p_g0_0 p_g0_1 p_g0_2
  have Z10 := Lib.hid g.by_.size
  replace B_pm := Lib.hid (B_pm.out.wrote own g (by decide))
  replace B_w0 := Lib.hid (B_w0.out.wrote own g (by decide))
  replace B_xm := Lib.hid (B_xm.out.wrote own g (by decide))
  replace B_g0 := Lib.hid (B_g0.out.wrote own g (by decide))
  replace R_w0 := Lib.hid (R_w0.out.wrote own g (by have := Z1.out; have := Z2.out; have := Z3.out; have := Z4.out; have := Z5.out; have := Z6.out; have := Z7.out; have := Z8.out; have := Z9.out; (try simp only [World.size_alloc, heap_size_grew] at *); omega))
  replace M_xm := Lib.hid (M_xm.out.wrote own g (by have := Z1.out; have := Z2.out; have := Z3.out; have := Z4.out; have := Z5.out; have := Z6.out; have := Z7.out; have := Z8.out; have := Z9.out; (try simp only [World.size_alloc, heap_size_grew] at *); omega))
  replace G := Lib.hid (G.out.wrote own g (by have := Z1.out; have := Z2.out; have := Z3.out; have := Z4.out; have := Z5.out; have := Z6.out; have := Z7.out; have := Z8.out; have := Z9.out; (try simp only [World.size_alloc, heap_size_grew] at *); omega))
  have M_g0 := Lib.hid own1
  clear own g hv own1
  have p_g0_0 := B_g0.out.cellv 0
  have p_g0_1 := B_g0.out.cellv 1
  have p_g0_2 := B_g0.out.cellv 2
  go_wp2_with fail
  refine (L_heldMap A B _ _ _ _ 1 _ (M_g0.out.gr (by (try show Gr _ _); repeat (with_reducible first | exact Gr.refl _ | refine Gr.drewN ?_ _ | refine Gr.grew ?_ _ _ | refine Gr.alloc ?_ _ | refine Gr.drew ?_))) (by omega) (by omega) (by omega)).mono ?_
  rintro e u10 ⟨rfl, g⟩
  clear p_g0_0 p_g0_1 p_g0_2
  have k : Gr u9 u10 := Gr.trans (by (try show Gr _ _); repeat (with_reducible first | exact Gr.refl _ | refine Gr.drewN ?_ _ | refine Gr.grew ?_ _ _ | refine Gr.alloc ?_ _ | refine Gr.drew ?_)) g
  have Z11 := Lib.hid k.size
  replace B_pm := Lib.hid (B_pm.out.gr k)
  replace B_w0 := Lib.hid (B_w0.out.gr k)
  replace B_xm := Lib.hid (B_xm.out.gr k)
  replace B_g0 := Lib.hid (B_g0.out.gr k)
  replace R_w0 := Lib.hid (R_w0.out.gr k)
  replace M_xm := Lib.hid (M_xm.out.gr k)
  replace M_g0 := Lib.hid (M_g0.out.gr k)
  replace G := Lib.hid (G.out.trans k)
  clear g k
  have p_pm_0 := B_pm.out.cellv 0
  have p_pm_1 := B_pm.out.cellv 1
  have p_pm_2 := B_pm.out.cellv 2
  go_wp2_with fail
  refine (L_toMap mw mh _ _ _ mx _ (A_m.out.keep (G.out.trans (by (try show Gr _ _); repeat (with_reducible first | exact Gr.refl _ | refine Gr.drewN ?_ _ | refine Gr.grew ?_ _ _ | refine Gr.alloc ?_ _ | refine Gr.drew ?_))).kp) (by omega)).mono ?_
  rintro e u11 ⟨⟨v, rfl, ho⟩, g⟩
  clear p_pm_0 p_pm_1 p_pm_2
  have k : Gr u10 u11 := Gr.trans (by (try show Gr _ _); repeat (with_reducible first | exact Gr.refl _ | refine Gr.drewN ?_ _ | refine Gr.grew ?_ _ _ | refine Gr.alloc ?_ _ | refine Gr.drew ?_)) g
  have Z12 := Lib.hid k.size
  replace B_pm := Lib.hid (B_pm.out.gr k)
  replace B_w0 := Lib.hid (B_w0.out.gr k)
  replace B_xm := Lib.hid (B_xm.out.gr k)
  replace B_g0 := Lib.hid (B_g0.out.gr k)
  replace R_w0 := Lib.hid (R_w0.out.gr k)
  replace M_xm := Lib.hid (M_xm.out.gr k)
  replace M_g0 := Lib.hid (M_g0.out.gr k)
  replace G := Lib.hid (G.out.trans k)
  have R_t_m_h0 := Lib.hid ho.fin
  obtain ⟨a_t_m_h0, c_t_m_h0, rfl, -, -⟩ := ho.sl
  clear ho g k
  go_wp2_with fail
  refine (Hi.out _ _ _ (R_t_m_h0.out.fsl.keep (Gr.kp (by (try show Gr _ _); repeat (with_reducible first | exact Gr.refl _ | refine Gr.drewN ?_ _ | refine Gr.grew ?_ _ _ | refine Gr.alloc ?_ _ | refine Gr.drew ?_))))).mono ?_
  rintro e u12 ⟨⟨v, rfl, ho⟩, g⟩
  have k : Gr u11 u12 := Gr.trans (by (try show Gr _ _); repeat (with_reducible first | exact Gr.refl _ | refine Gr.drewN ?_ _ | refine Gr.grew ?_ _ _ | refine Gr.alloc ?_ _ | refine Gr.drew ?_)) g
  have Z13 := Lib.hid k.size
  replace B_pm := Lib.hid (B_pm.out.gr k)
  replace B_w0 := Lib.hid (B_w0.out.gr k)
  replace B_xm := Lib.hid (B_xm.out.gr k)
  replace B_g0 := Lib.hid (B_g0.out.gr k)
  replace R_w0 := Lib.hid (R_w0.out.gr k)
  replace R_t_m_h0 := Lib.hid (R_t_m_h0.out.gr k)
  replace M_xm := Lib.hid (M_xm.out.gr k)
  replace M_g0 := Lib.hid (M_g0.out.gr k)
  replace G := Lib.hid (G.out.trans k)
  have R_h0 := Lib.hid ho.fin
  obtain ⟨a_h0, c_h0, rfl, -, -⟩ := ho.sl
  clear ho g k
  clear R_t_m_h0
  have p_w0_0 := B_w0.out.cellv 0
  have p_w0_1 := B_w0.out.cellv 1
  have p_w0_2 := B_w0.out.cellv 2
  go_wp2_with fail
  refine (L_eqMap A B _ _ _ _ _ _ L _ (R_h0.out.gr (by (try show Gr _ _); repeat (with_reducible first | exact Gr.refl _ | refine Gr.drewN ?_ _ | refine Gr.grew ?_ _ _ | refine Gr.alloc ?_ _ | refine Gr.drew ?_))).fsl (R_w0.out.gr (by (try show Gr _ _); repeat (with_reducible first | exact Gr.refl _ | refine Gr.drewN ?_ _ | refine Gr.grew ?_ _ _ | refine Gr.alloc ?_ _ | refine Gr.drew ?_))).fsl (by unfold maxLen; omega)).mono ?_
  rintro e u13 ⟨rfl, g⟩
  clear p_w0_0 p_w0_1 p_w0_2
  have k : Gr u12 u13 := Gr.trans (by (try show Gr _ _); repeat (with_reducible first | exact Gr.refl _ | refine Gr.drewN ?_ _ | refine Gr.grew ?_ _ _ | refine Gr.alloc ?_ _ | refine Gr.drew ?_)) g
  have Z14 := Lib.hid k.size
  replace B_pm := Lib.hid (B_pm.out.gr k)
  replace B_w0 := Lib.hid (B_w0.out.gr k)
  replace B_xm := Lib.hid (B_xm.out.gr k)
  replace B_g0 := Lib.hid (B_g0.out.gr k)
  replace R_w0 := Lib.hid (R_w0.out.gr k)
  replace R_h0 := Lib.hid (R_h0.out.gr k)
  replace M_xm := Lib.hid (M_xm.out.gr k)
  replace M_g0 := Lib.hid (M_g0.out.gr k)
  replace G := Lib.hid (G.out.trans k)
  have B_h0 := Lib.hid (Blk.gr (show Blk _ (u12.heap.size) [.int .i64 A, .int .i64 B, .slice a_h0 L.length c_h0] 30 from (by repeat (with_reducible first | assumption | exact Blk.atNew (by simp) | refine Blk.alloc ?_ _ | refine Blk.grew ?_ _ _ | refine Blk.drewN ?_ _ | refine Blk.drew ?_))) g)
  clear g k
  have p_g0_0 := B_g0.out.cellv 0
  have p_g0_1 := B_g0.out.cellv 1
  have p_g0_2 := B_g0.out.cellv 2
  go_wp2_with fail
  refine (L_heldMap A B _ _ _ _ 1 _ (M_g0.out.gr (by (try show Gr _ _); repeat (with_reducible first | exact Gr.refl _ | refine Gr.drewN ?_ _ | refine Gr.grew ?_ _ _ | refine Gr.alloc ?_ _ | refine Gr.drew ?_))) (by omega) (by omega) (by omega)).mono ?_
  rintro e u14 ⟨rfl, g⟩
  clear p_g0_0 p_g0_1 p_g0_2
  have k : Gr u13 u14 := Gr.trans (by (try show Gr _ _); repeat (with_reducible first | exact Gr.refl _ | refine Gr.drewN ?_ _ | refine Gr.grew ?_ _ _ | refine Gr.alloc ?_ _ | refine Gr.drew ?_)) g
  have Z15 := Lib.hid k.size
  replace B_pm := Lib.hid (B_pm.out.gr k)
  replace B_w0 := Lib.hid (B_w0.out.gr k)
  replace B_xm := Lib.hid (B_xm.out.gr k)
  replace B_g0 := Lib.hid (B_g0.out.gr k)
  replace B_h0 := Lib.hid (B_h0.out.gr k)
  replace R_w0 := Lib.hid (R_w0.out.gr k)
  replace R_h0 := Lib.hid (R_h0.out.gr k)
  replace M_xm := Lib.hid (M_xm.out.gr k)
  replace M_g0 := Lib.hid (M_g0.out.gr k)
  replace G := Lib.hid (G.out.trans k)
  clear g k
  go_wp2
  go_ret
  exact ⟨rfl, G.out.trans (by (try show Gr _ _); repeat (with_reducible first | exact Gr.refl _ | refine Gr.drewN ?_ _ | refine Gr.grew ?_ _ _ | refine Gr.alloc ?_ _ | refine Gr.drew ?_))⟩

set_option maxRecDepth 20000 in
set_option maxHeartbeats 1000000 in
theorem L_FnExactMedianMap (mw mh : Int) (ma : Option Addr) (mn mc : Nat) (mx : List Nat) (reach : Int) (w : World) (fm : FSl w ma mn mx) (lm : mn ≤ maxLen) :
    Calls Try.prog 8 #[.agg #[.int .i64 mw, .int .i64 mh, .slice ma mn mc], .int .i64 reach] w fun e w' => e = .returned (.bool true) ∧ ∃ os m, w' = w.grew os m := by
  obtain rfl := fm.len
  by_cases hnm : mx.length ≤ 1048576
  · skip
    exact law_MedianMap mw mh ma mc mx reach _ _ _ _ w ((Nat.le_trans (gVals_length _ _ _) (by omega))) fm hnm
        (fun a_m c_m w f_m => S_MedianMap mw mh reach a_m c_m mx w f_m (by omega)) (fun a_m c_m w f_m => I_MedianMap mw mh reach a_m c_m mx w f_m (by omega))
  · clear fm
    go_enter Try.func8, Try.ntmps8
    go_wp2_with fail
    refine (L_szMap_no _ _ _ _ _ _ _ (1048576) _ rfl rfl (by omega) (by omega) (by omega) lm).mono ?_
    rintro e ul ⟨rfl, g⟩
    have G1 : Gr w ul := Gr.trans (by (try show Gr _ _); repeat (with_reducible first | exact Gr.refl _ | refine Gr.drewN ?_ _ | refine Gr.grew ?_ _ _ | refine Gr.alloc ?_ _ | refine Gr.drew ?_)) g
    clear g
    go_wp2
    go_ret
    exact ⟨rfl, G1⟩

set_option maxRecDepth 100000 in
theorem fnExactMedianMap_lifted (os : Os) (started : os.Started) (H : Type) (enc : TypeId × Value → H) :
    ReturnsInHanded {} Try.checked os 8 .any (Rows.fnExactMedianMapSpec.pre6 enc Try.prog Try.f8 Rows.fnExactMedianMapRow.domain false) (Rows.fnExactMedianMapSpec.post enc Try.prog Try.f8 false true false false) := by
  refine returnsInHanded_of_change (C := Try.checked) own started (by kernel_rfl) Try.func8
    (ChangeSpec.witness6 (enc := enc) (C := Try.checked) false ⟨#[], #[.agg #[.int .i64 0, .int .i64 0, .slice none 0 0], .int .i64 0], []⟩ 12 (by kernel_rfl) (by kernel_rfl) (by kernel_rfl) (by kernel_rfl)) ?_
  intro W base args ds gs before hval0 hW hcnd _
  have hval : ∀ (j : Nat) t v, Try.f8.params[j]? = some t → args[j]? = some v → Value.okWide Try.prog W .any base t v := hval0
  have hW' := hW
  obtain ⟨p, q, hA0, hV, rfl, hfz, hnd⟩ := hW
  have hA : DataW.TrodAll enc Try.prog W 0 (fun _ => true) true Try.f8.params.toList args.toList ds p := hA0
  rw [Try.params8] at hA hval
  obtain ⟨v0, vs0, d0, ds0, p0, q0, ha0, rfl, rfl, h0, r0⟩ := trodAll_cons hA
  obtain ⟨v1, vs1, d1, ds1, p1, q1, rfl, rfl, rfl, h1, r1⟩ := trodAll_cons r0
  obtain ⟨rfl, rfl, rfl⟩ := trodAll_nil r1
  obtain rfl : args = #[v0, v1] := by cases args; simp_all
  obtain ⟨rfl, rfl⟩ := trodVars_none hV
  obtain ⟨mw, mh, ma, mn, mc, mx, rfl, -, -, fm, lm⟩ := open_pic Try.underlying24 (by kernel_rfl) (by kernel_rfl) Try.underlying2 Try.underlying22 Try.underlying25 (by kernel_rfl) (hval 0 24 v0 rfl rfl) h0
  obtain ⟨reach, rfl, -, -, -⟩ := open_int Try.underlying2 (hval 1 2 v1 rfl rfl) h1
  refine (L_FnExactMedianMap mw mh ma mn mc mx reach W fm lm).mono fun e W' ⟨he, hg⟩ => ?_
  exact ⟨_, he, post_true laidOut (by kernel_rfl) (by kernel_rfl) Try.underlying4 rfl hW' rfl rfl rfl (Gr.below hg)⟩

theorem fnExactMedianMap_holds : Rows.FnExactMedianMapSaid :=
  OpenClaim.holds_of_wide 8 Try.f8 rfl rfl rfl rfl rfl rfl rfl ⟨rfl, rfl, rfl, rfl, rfl⟩ rfl rfl rfl rfl rfl (by kernel_rfl) Try.func8 (by kernel_rfl)
    (of_decide_eq_true (by kernel_rfl)) (by unfold Func.isWrapper; first | (rw [if_pos (by decide +kernel)]; kernel_rfl) | (rw [if_neg (by decide +kernel)]; exact ⟨rfl, rfl⟩))
    (fun os started H enc _ => fnExactMedianMap_lifted os started H enc)
#print axioms fnExactMedianMap_holds
end Go.Proofs.Ytomlfdkcgaogcaa
