/- For every volume and number FnExactChecksOf returns true. No conditions. MAXREC -/
import Derived.Test.YtomlfdkcgaogcaaRow
import Derived.Test.YtomlfdkcgaogcaaC88
import Derived.Test.YtomlfdkcgaogcaaLw
import Derived.Test.YtomlfdkcgaogcaaLc
import Derived.Test.YtomlfdkcgaogcaaLv
import Derived.Test.YtomlfdkcgaogcaaRv
import Derived.Deep.RegionHeld3
import Derived.Deep.DeepCutAuto
namespace Go.Proofs.Ytomlfdkcgaogcaa
open Go.ChangeShapes Go.WideShapes Go.ChangeAt Go.RowKit Go.Joins Go.Deep Go.Fx Go.Soft
theorem gVals_vol (W H D : Int) (n : Nat) (G : Nat → Nat) : (gVals (gVol W H D n) (W * H).toNat G).length ≤ 1048576 := by
  cases hV : gVol W H D n
  · simp [gVals]
  · obtain ⟨_, _, _, _, h5, _⟩ := gSize_true (gVol_true hV).1
    exact Nat.le_trans (gVals_length _ _ _) (by omega)

set_option maxRecDepth 20000 in
set_option maxHeartbeats 8000000 in
theorem law_ChecksOf (vw vh vd : Int) (va : Option Addr) (vc : Nat) (vx : List Nat) (most : Nat) (A B : Int) (ok : Bool) (L : List Nat) (w : World) (hL : L.length ≤ 1048576) (hsv : FSl w va vx.length vx) (hnv : vx.length ≤ 1048576)
    (HS : ∀ (a_v : Option Addr) (c_v : Nat) (w : World), FSl w a_v vx.length vx → vx.length ≤ c_v → Calls Try.prog 22 #[.agg #[.int .i64 vw, .int .i64 vh, .int .i64 vd, .slice a_v vx.length c_v], .float .f32 most] w (PostP w A B ok L))
    (HI : ∀ (a_v : Option Addr) (c_v : Nat) (w : World), FSl w a_v vx.length vx → vx.length ≤ c_v → Calls Try.prog 24 #[.agg #[.int .i64 vw, .int .i64 vh, .int .i64 vd, .slice a_v vx.length c_v], .float .f32 most] w (PostP w A B ok L)) :
    Calls Try.prog 5 #[.agg #[.int .i64 vw, .int .i64 vh, .int .i64 vd, .slice va vx.length vc], .float .f32 most] w fun e w' => e = .returned (.bool true) ∧ ∃ os m, w' = w.grew os m := by
  have Hs := Lib.hid HS
  have Hi := Lib.hid HI
  clear HS HI
  have G := Lib.hid (Gr.refl w)
  have A_v := Lib.hid hsv
  clear hsv
  go_enter Try.func5, Try.ntmps5
  go_wp2_with fail
  refine (L_szVolume_ok _ _ _ _ _ _ _ _ _ (1048576) _ rfl rfl rfl (by omega) (by omega)).mono ?_
  rintro e v0 ⟨rfl, g⟩
  have k : Gr w v0 := Gr.trans (by (try show Gr _ _); repeat (with_reducible first | exact Gr.refl _ | refine Gr.drewN ?_ _ | refine Gr.grew ?_ _ _ | refine Gr.alloc ?_ _ | refine Gr.drew ?_)) g
  have Z1 := Lib.hid k.size
  replace G := Lib.hid (G.out.trans k)
  have B_pv := Lib.hid (Blk.gr (show Blk _ (w.heap.size) [.int .i64 vw, .int .i64 vh, .int .i64 vd, .slice va vx.length vc] 41 from (by repeat (with_reducible first | assumption | exact Blk.atNew (by simp) | refine Blk.alloc ?_ _ | refine Blk.grew ?_ _ _ | refine Blk.drewN ?_ _ | refine Blk.drew ?_))) g)
  clear g k
  have p_pv_0 := B_pv.out.cellv 0
  have p_pv_1 := B_pv.out.cellv 1
  have p_pv_2 := B_pv.out.cellv 2
  have p_pv_3 := B_pv.out.cellv 3
  go_wp2_with fail
  refine (L_toVolume vw vh vd _ _ _ vx _ (A_v.out.keep (G.out.trans (by (try show Gr _ _); repeat (with_reducible first | exact Gr.refl _ | refine Gr.drewN ?_ _ | refine Gr.grew ?_ _ _ | refine Gr.alloc ?_ _ | refine Gr.drew ?_))).kp) (by omega)).mono ?_
  rintro e u1 ⟨⟨v, rfl, ho⟩, g⟩
  clear p_pv_0 p_pv_1 p_pv_2 p_pv_3
  have k : Gr v0 u1 := Gr.trans (by (try show Gr _ _); repeat (with_reducible first | exact Gr.refl _ | refine Gr.drewN ?_ _ | refine Gr.grew ?_ _ _ | refine Gr.alloc ?_ _ | refine Gr.drew ?_)) g
  have Z2 := Lib.hid k.size
  replace B_pv := Lib.hid (B_pv.out.gr k)
  replace G := Lib.hid (G.out.trans k)
  have R_t_v_w0 := Lib.hid ho.fin
  obtain ⟨a_t_v_w0, c_t_v_w0, rfl, -, cap_t_v_w0⟩ := ho.slc
  have CP_t_v_w0 := Lib.hid cap_t_v_w0
  clear ho g k cap_t_v_w0
  go_wp2_with fail
  refine (Hs.out _ _ _ (R_t_v_w0.out.fsl.keep (Gr.kp (by (try show Gr _ _); repeat (with_reducible first | exact Gr.refl _ | refine Gr.drewN ?_ _ | refine Gr.grew ?_ _ _ | refine Gr.alloc ?_ _ | refine Gr.drew ?_)))) CP_t_v_w0.out).mono ?_
  rintro e u2 ⟨⟨v, rfl, ho⟩, g⟩
  have k : Gr u1 u2 := Gr.trans (by (try show Gr _ _); repeat (with_reducible first | exact Gr.refl _ | refine Gr.drewN ?_ _ | refine Gr.grew ?_ _ _ | refine Gr.alloc ?_ _ | refine Gr.drew ?_)) g
  have Z3 := Lib.hid k.size
  replace B_pv := Lib.hid (B_pv.out.gr k)
  replace R_t_v_w0 := Lib.hid (R_t_v_w0.out.gr k)
  replace G := Lib.hid (G.out.trans k)
  have R_w0 := Lib.hid ho.fin
  obtain ⟨a_w0, c_w0, rfl, -, -⟩ := ho.sl
  clear ho g k
  clear R_t_v_w0
  have p_pv_0 := B_pv.out.cellv 0
  have p_pv_1 := B_pv.out.cellv 1
  have p_pv_2 := B_pv.out.cellv 2
  have p_pv_3 := B_pv.out.cellv 3
  go_wp2_with fail
  refine (L_toVolume vw vh vd _ _ _ vx _ (A_v.out.keep (G.out.trans (by (try show Gr _ _); repeat (with_reducible first | exact Gr.refl _ | refine Gr.drewN ?_ _ | refine Gr.grew ?_ _ _ | refine Gr.alloc ?_ _ | refine Gr.drew ?_))).kp) (by omega)).mono ?_
  rintro e u3 ⟨⟨v, rfl, ho⟩, g⟩
  clear p_pv_0 p_pv_1 p_pv_2 p_pv_3
  have k : Gr u2 u3 := Gr.trans (by (try show Gr _ _); repeat (with_reducible first | exact Gr.refl _ | refine Gr.drewN ?_ _ | refine Gr.grew ?_ _ _ | refine Gr.alloc ?_ _ | refine Gr.drew ?_)) g
  have Z4 := Lib.hid k.size
  replace B_pv := Lib.hid (B_pv.out.gr k)
  replace R_w0 := Lib.hid (R_w0.out.gr k)
  replace G := Lib.hid (G.out.trans k)
  have B_w0 := Lib.hid (Blk.gr (show Blk _ (u2.heap.size) [.int .i64 A, .int .i64 B, .slice a_w0 L.length c_w0] 30 from (by repeat (with_reducible first | assumption | exact Blk.atNew (by simp) | refine Blk.alloc ?_ _ | refine Blk.grew ?_ _ _ | refine Blk.drewN ?_ _ | refine Blk.drew ?_))) g)
  have R_xv := Lib.hid ho.fin
  obtain ⟨a_xv, c_xv, rfl, -, cap_xv⟩ := ho.slc
  have CP_xv := Lib.hid cap_xv
  clear ho g k cap_xv
  go_wp2_with fail
  refine (Hi.out _ _ _ (R_xv.out.fsl.keep (Gr.kp (by (try show Gr _ _); repeat (with_reducible first | exact Gr.refl _ | refine Gr.drewN ?_ _ | refine Gr.grew ?_ _ _ | refine Gr.alloc ?_ _ | refine Gr.drew ?_)))) CP_xv.out).mono ?_
  rintro e u4 ⟨⟨v, rfl, ho⟩, g⟩
  have k : Gr u3 u4 := Gr.trans (by (try show Gr _ _); repeat (with_reducible first | exact Gr.refl _ | refine Gr.drewN ?_ _ | refine Gr.grew ?_ _ _ | refine Gr.alloc ?_ _ | refine Gr.drew ?_)) g
  have Z5 := Lib.hid k.size
  replace B_pv := Lib.hid (B_pv.out.gr k)
  replace B_w0 := Lib.hid (B_w0.out.gr k)
  replace R_w0 := Lib.hid (R_w0.out.gr k)
  replace R_xv := Lib.hid (R_xv.out.gr k)
  replace G := Lib.hid (G.out.trans k)
  have B_xv := Lib.hid (Blk.gr (show Blk _ (u3.heap.size) [.int .i64 vw, .int .i64 vh, .int .i64 vd, .slice a_xv vx.length c_xv] 44 from (by repeat (with_reducible first | assumption | exact Blk.atNew (by simp) | refine Blk.alloc ?_ _ | refine Blk.grew ?_ _ _ | refine Blk.drewN ?_ _ | refine Blk.drew ?_))) g)
  have R_g0 := Lib.hid ho.fin
  obtain ⟨a_g0, c_g0, rfl, -, -⟩ := ho.sl
  clear ho g k
  have p_w0_0 := B_w0.out.cellv 0
  have p_w0_1 := B_w0.out.cellv 1
  have p_w0_2 := B_w0.out.cellv 2
  go_wp2_with fail
  refine (L_eqMap A B _ _ _ _ _ _ L _ (R_g0.out.gr (by (try show Gr _ _); repeat (with_reducible first | exact Gr.refl _ | refine Gr.drewN ?_ _ | refine Gr.grew ?_ _ _ | refine Gr.alloc ?_ _ | refine Gr.drew ?_))).fsl (R_w0.out.gr (by (try show Gr _ _); repeat (with_reducible first | exact Gr.refl _ | refine Gr.drewN ?_ _ | refine Gr.grew ?_ _ _ | refine Gr.alloc ?_ _ | refine Gr.drew ?_))).fsl (by unfold maxLen; omega)).mono ?_
  rintro e u5 ⟨rfl, g⟩
  clear p_w0_0 p_w0_1 p_w0_2
  have k : Gr u4 u5 := Gr.trans (by (try show Gr _ _); repeat (with_reducible first | exact Gr.refl _ | refine Gr.drewN ?_ _ | refine Gr.grew ?_ _ _ | refine Gr.alloc ?_ _ | refine Gr.drew ?_)) g
  have Z6 := Lib.hid k.size
  replace B_pv := Lib.hid (B_pv.out.gr k)
  replace B_w0 := Lib.hid (B_w0.out.gr k)
  replace B_xv := Lib.hid (B_xv.out.gr k)
  replace R_w0 := Lib.hid (R_w0.out.gr k)
  replace R_xv := Lib.hid (R_xv.out.gr k)
  replace R_g0 := Lib.hid (R_g0.out.gr k)
  replace G := Lib.hid (G.out.trans k)
  have B_g0 := Lib.hid (Blk.gr (show Blk _ (u4.heap.size) [.int .i64 A, .int .i64 B, .slice a_g0 L.length c_g0] 30 from (by repeat (with_reducible first | assumption | exact Blk.atNew (by simp) | refine Blk.alloc ?_ _ | refine Blk.grew ?_ _ _ | refine Blk.drewN ?_ _ | refine Blk.drew ?_))) g)
  clear g k
  have p_xv_0 := B_xv.out.cellv 0
  have p_xv_1 := B_xv.out.cellv 1
  have p_xv_2 := B_xv.out.cellv 2
  have p_xv_3 := B_xv.out.cellv 3
  have p_pv_0 := B_pv.out.cellv 0
  have p_pv_1 := B_pv.out.cellv 1
  have p_pv_2 := B_pv.out.cellv 2
  have p_pv_3 := B_pv.out.cellv 3
  go_wp2_with fail
  apply region_facts 4 [2] (fun _ v w' => ∃ a c, v = .agg #[.int .i64 vw, .int .i64 vh, .int .i64 vd, .slice a vx.length c] ∧ FSl w' a vx.length vx)
  case hm => kernel_rfl
  case hB => kernel_rfl
  case hR => rfl
  case hP => (intro k hk v w1 w2 hg hv; obtain ⟨a, c, hv, hs⟩ := hv; exact ⟨a, c, hv, hs.keep hg.kp⟩)
  simp only [List.take_succ_cons, List.take_zero, List.drop_succ_cons, List.drop_zero]
  repeat (first
    | ((with_reducible apply wpF_call (f := 23) (S := fun v => ∃ a c, v = .agg #[.int .i64 vw, .int .i64 vh, .int .i64 vd, .slice a vx.length c])); (case hw => rfl); (case hc => exact Try.call23); (case hv => ((conv => lhs; simp [Act.eval]); try rfl)); (case hS => (intro os m _; refine (L_toVolume vw vh vd _ _ _ vx _ (A_v.out.keep (G.out.trans ⟨os, m, rfl⟩).kp) (by omega)).mono ?_; rintro e w' ⟨⟨v, rfl, ho⟩, g⟩; obtain ⟨a', c', rfl, hs', -⟩ := ho.sl; exact ⟨_, rfl, g, fun _ => ⟨a', c', rfl, hs'⟩, a', c', rfl⟩)); (case hne => exact ⟨_, none, 0, rfl⟩); (rintro v ⟨aq_, cq_, rfl⟩; simp only [Act.put, List.setIfInBounds_toArray, List.set_cons_succ, List.set_cons_zero]))
    | ((with_reducible apply wpF_call (f := 25) (S := fun v => v = .bool true)); (case hw => rfl); (case hc => exact Try.call25); (case hv => ((conv => lhs; simp [Act.eval]); try rfl)); (case hS => (intro os m hse; obtain ⟨a', c', hv', hs'⟩ := hse ⟨2, .data⟩ (by simp) rfl (by decide) _ _ rfl rfl; simp at hv'; obtain ⟨rfl, rfl⟩ := hv'; refine (L_eqVolume vw vh vd _ _ _ _ _ _ vx _ (R_xv.out.gr ⟨os, m, rfl⟩).fsl hs' (by unfold maxLen; omega)).mono ?_; rintro e w' ⟨rfl, g⟩; exact ⟨_, rfl, g, fun h => absurd h (by decide), rfl⟩)); (case hne => exact ⟨_, rfl⟩); (rintro v rfl; simp only [Act.put, List.setIfInBounds_toArray, List.set_cons_succ, List.set_cons_zero]))
    | (apply wpF_skip rfl (by decide); simp only [Act.put, List.setIfInBounds_toArray, List.set_cons_succ, List.set_cons_zero])
    | (apply wpF_nilCheck rfl (by decide) rfl; simp only [Act.put, List.setIfInBounds_toArray, List.set_cons_succ, List.set_cons_zero])
    | ((with_reducible apply wpF_fop); (case hw => rfl); (case hT => decide); (case hop => rfl); (case hx => rfl); (case hy => rfl); (case hA => (first | assumption | exact FE.ofInt _ _ | exact FE.lit (by decide +kernel))); (case hB => (first | assumption | exact FE.ofInt _ _ | exact FE.lit (by decide +kernel))); (intro r hr; simp only [Act.put, List.setIfInBounds_toArray, List.set_cons_succ, List.set_cons_zero]))
    | ((with_reducible apply wpF_fneg); (case hw => rfl); (case hT => decide); (case hx => rfl); (case hA => (first | assumption | exact FE.ofInt _ _ | exact FE.lit (by decide +kernel))); (intro r hr; simp only [Act.put, List.setIfInBounds_toArray, List.set_cons_succ, List.set_cons_zero]))
    | ((with_reducible apply wpF_fcmp); (case hw => rfl); (case hT => decide); (case hop => rfl); (case hx => rfl); (case hy => rfl); (case hA => (first | assumption | exact FE.ofInt _ _ | exact FE.lit (by decide +kernel))); (case hB => (first | assumption | exact FE.ofInt _ _ | exact FE.lit (by decide +kernel))); (case hb => (first | assumption | rfl)); simp only [Act.put, List.setIfInBounds_toArray, List.set_cons_succ, List.set_cons_zero])
    | (apply wpF_q rfl (by decide) rfl; intro K hK; go_big_quiet_op; go_big_quiet_on))
  with_reducible apply wpF_nil
  intro os m hf
  obtain ⟨u6, hu⟩ : ∃ u, u = World.grew u5 os m := ⟨_, rfl⟩
  rw [← hu]
  have g : Gr u5 u6 := ⟨os, m, hu⟩
  clear hf hu
  clear p_xv_0 p_xv_1 p_xv_2 p_xv_3 p_pv_0 p_pv_1 p_pv_2 p_pv_3
  have k : Gr u5 u6 := Gr.trans (by (try show Gr _ _); repeat (with_reducible first | exact Gr.refl _ | refine Gr.drewN ?_ _ | refine Gr.grew ?_ _ _ | refine Gr.alloc ?_ _ | refine Gr.drew ?_)) g
  have Z7 := Lib.hid k.size
  replace B_pv := Lib.hid (B_pv.out.gr k)
  replace B_w0 := Lib.hid (B_w0.out.gr k)
  replace B_xv := Lib.hid (B_xv.out.gr k)
  replace B_g0 := Lib.hid (B_g0.out.gr k)
  replace R_w0 := Lib.hid (R_w0.out.gr k)
  replace R_xv := Lib.hid (R_xv.out.gr k)
  replace R_g0 := Lib.hid (R_g0.out.gr k)
  replace G := Lib.hid (G.out.trans k)
  clear g k
  have p_xv_0 := B_xv.out.cellv 0
  have p_xv_1 := B_xv.out.cellv 1
  have p_xv_2 := B_xv.out.cellv 2
  have p_xv_3 := B_xv.out.cellv 3
  obtain ⟨vs, own, hv⟩ := R_xv.out.row
  go_wp2_with fail
  refine (L_markVolume vw vh vd _ _ _ _ vs (1) _ own hv (by omega) (by omega) (by omega)).mono ?_
  rintro e u7 ⟨rfl, g, own1⟩
  clear p_xv_0 p_xv_1 p_xv_2 p_xv_3
  have Z8 := Lib.hid g.by_.size
  replace B_pv := Lib.hid (B_pv.out.wrote own g (by decide))
  replace B_w0 := Lib.hid (B_w0.out.wrote own g (by decide))
  replace B_xv := Lib.hid (B_xv.out.wrote own g (by decide))
  replace B_g0 := Lib.hid (B_g0.out.wrote own g (by decide))
  replace R_w0 := Lib.hid (R_w0.out.wrote own g (by have := Z1.out; have := Z2.out; have := Z3.out; have := Z4.out; have := Z5.out; have := Z6.out; have := Z7.out; (try simp only [World.size_alloc, heap_size_grew] at *); omega))
  replace R_g0 := Lib.hid (R_g0.out.wrote own g (by have := Z1.out; have := Z2.out; have := Z3.out; have := Z4.out; have := Z5.out; have := Z6.out; have := Z7.out; (try simp only [World.size_alloc, heap_size_grew] at *); omega))
  replace G := Lib.hid (G.out.wrote own g (by have := Z1.out; have := Z2.out; have := Z3.out; have := Z4.out; have := Z5.out; have := Z6.out; have := Z7.out; (try simp only [World.size_alloc, heap_size_grew] at *); omega))
  have M_xv := Lib.hid own1
  clear own g hv own1
  have p_g0_0 := B_g0.out.cellv 0
  have p_g0_1 := B_g0.out.cellv 1
  have p_g0_2 := B_g0.out.cellv 2
  have p_w0_0 := B_w0.out.cellv 0
  have p_w0_1 := B_w0.out.cellv 1
  have p_w0_2 := B_w0.out.cellv 2
  go_wp2_with fail
  refine (L_eqMap A B _ _ _ _ _ _ L _ (R_g0.out.gr (by (try show Gr _ _); repeat (with_reducible first | exact Gr.refl _ | refine Gr.drewN ?_ _ | refine Gr.grew ?_ _ _ | refine Gr.alloc ?_ _ | refine Gr.drew ?_))).fsl (R_w0.out.gr (by (try show Gr _ _); repeat (with_reducible first | exact Gr.refl _ | refine Gr.drewN ?_ _ | refine Gr.grew ?_ _ _ | refine Gr.alloc ?_ _ | refine Gr.drew ?_))).fsl (by unfold maxLen; omega)).mono ?_
  rintro e u8 ⟨rfl, g⟩
  clear p_g0_0 p_g0_1 p_g0_2 p_w0_0 p_w0_1 p_w0_2
  have k : Gr u7 u8 := Gr.trans (by (try show Gr _ _); repeat (with_reducible first | exact Gr.refl _ | refine Gr.drewN ?_ _ | refine Gr.grew ?_ _ _ | refine Gr.alloc ?_ _ | refine Gr.drew ?_)) g
  have Z9 := Lib.hid k.size
  replace B_pv := Lib.hid (B_pv.out.gr k)
  replace B_w0 := Lib.hid (B_w0.out.gr k)
  replace B_xv := Lib.hid (B_xv.out.gr k)
  replace B_g0 := Lib.hid (B_g0.out.gr k)
  replace R_w0 := Lib.hid (R_w0.out.gr k)
  replace R_g0 := Lib.hid (R_g0.out.gr k)
  replace M_xv := Lib.hid (M_xv.out.gr k)
  replace G := Lib.hid (G.out.trans k)
  clear g k
  have p_g0_0 := B_g0.out.cellv 0
  have p_g0_1 := B_g0.out.cellv 1
  have p_g0_2 := B_g0.out.cellv 2
  obtain ⟨vs, own, hv⟩ := R_g0.out.row
  go_wp2_with fail
  refine (L_markMap A B _ _ _ _ vs (1) _ own hv (by omega) (by omega) (by omega)).mono ?_
  rintro e u9 ⟨rfl, g, own1⟩
  clear p_g0_0 p_g0_1 p_g0_2
  have Z10 := Lib.hid g.by_.size
  replace B_pv := Lib.hid (B_pv.out.wrote own g (by decide))
  replace B_w0 := Lib.hid (B_w0.out.wrote own g (by decide))
  replace B_xv := Lib.hid (B_xv.out.wrote own g (by decide))
  replace B_g0 := Lib.hid (B_g0.out.wrote own g (by decide))
  replace R_w0 := Lib.hid (R_w0.out.wrote own g (by have := Z1.out; have := Z2.out; have := Z3.out; have := Z4.out; have := Z5.out; have := Z6.out; have := Z7.out; have := Z8.out; have := Z9.out; (try simp only [World.size_alloc, heap_size_grew] at *); omega))
  replace M_xv := Lib.hid (M_xv.out.wrote own g (by have := Z1.out; have := Z2.out; have := Z3.out; have := Z4.out; have := Z5.out; have := Z6.out; have := Z7.out; have := Z8.out; have := Z9.out; (try simp only [World.size_alloc, heap_size_grew] at *); omega))
  replace G := Lib.hid (G.out.wrote own g (by have := Z1.out; have := Z2.out; have := Z3.out; have := Z4.out; have := Z5.out; have := Z6.out; have := Z7.out; have := Z8.out; have := Z9.out; (try simp only [World.size_alloc, heap_size_grew] at *); omega))
  have M_g0 := Lib.hid own1
  clear own g hv own1
  have p_g0_0 := B_g0.out.cellv 0
  have p_g0_1 := B_g0.out.cellv 1
  have p_g0_2 := B_g0.out.cellv 2
  go_wp2_with fail
  refine (L_heldMap A B _ _ _ _ 1 _ (M_g0.out.gr (by (try show Gr _ _); repeat (with_reducible first | exact Gr.refl _ | refine Gr.drewN ?_ _ | refine Gr.grew ?_ _ _ | refine Gr.alloc ?_ _ | refine Gr.drew ?_))) (by omega) (by omega) (by omega)).mono ?_
  rintro e u10 ⟨rfl, g⟩
  clear p_g0_0 p_g0_1 p_g0_2
  have k : Gr u9 u10 := Gr.trans (by (try show Gr _ _); repeat (with_reducible first | exact Gr.refl _ | refine Gr.drewN ?_ _ | refine Gr.grew ?_ _ _ | refine Gr.alloc ?_ _ | refine Gr.drew ?_)) g
  have Z11 := Lib.hid k.size
  replace B_pv := Lib.hid (B_pv.out.gr k)
  replace B_w0 := Lib.hid (B_w0.out.gr k)
  replace B_xv := Lib.hid (B_xv.out.gr k)
  replace B_g0 := Lib.hid (B_g0.out.gr k)
  replace R_w0 := Lib.hid (R_w0.out.gr k)
  replace M_xv := Lib.hid (M_xv.out.gr k)
  replace M_g0 := Lib.hid (M_g0.out.gr k)
  replace G := Lib.hid (G.out.trans k)
  clear g k
  have p_pv_0 := B_pv.out.cellv 0
  have p_pv_1 := B_pv.out.cellv 1
  have p_pv_2 := B_pv.out.cellv 2
  have p_pv_3 := B_pv.out.cellv 3
  go_wp2_with fail
  refine (L_toVolume vw vh vd _ _ _ vx _ (A_v.out.keep (G.out.trans (by (try show Gr _ _); repeat (with_reducible first | exact Gr.refl _ | refine Gr.drewN ?_ _ | refine Gr.grew ?_ _ _ | refine Gr.alloc ?_ _ | refine Gr.drew ?_))).kp) (by omega)).mono ?_
  rintro e u11 ⟨⟨v, rfl, ho⟩, g⟩
  clear p_pv_0 p_pv_1 p_pv_2 p_pv_3
  have k : Gr u10 u11 := Gr.trans (by (try show Gr _ _); repeat (with_reducible first | exact Gr.refl _ | refine Gr.drewN ?_ _ | refine Gr.grew ?_ _ _ | refine Gr.alloc ?_ _ | refine Gr.drew ?_)) g
  have Z12 := Lib.hid k.size
  replace B_pv := Lib.hid (B_pv.out.gr k)
  replace B_w0 := Lib.hid (B_w0.out.gr k)
  replace B_xv := Lib.hid (B_xv.out.gr k)
  replace B_g0 := Lib.hid (B_g0.out.gr k)
  replace R_w0 := Lib.hid (R_w0.out.gr k)
  replace M_xv := Lib.hid (M_xv.out.gr k)
  replace M_g0 := Lib.hid (M_g0.out.gr k)
  replace G := Lib.hid (G.out.trans k)
  have R_t_v_h0 := Lib.hid ho.fin
  obtain ⟨a_t_v_h0, c_t_v_h0, rfl, -, cap_t_v_h0⟩ := ho.slc
  have CP_t_v_h0 := Lib.hid cap_t_v_h0
  clear ho g k cap_t_v_h0
  go_wp2_with fail
  refine (Hi.out _ _ _ (R_t_v_h0.out.fsl.keep (Gr.kp (by (try show Gr _ _); repeat (with_reducible first | exact Gr.refl _ | refine Gr.drewN ?_ _ | refine Gr.grew ?_ _ _ | refine Gr.alloc ?_ _ | refine Gr.drew ?_)))) CP_t_v_h0.out).mono ?_
  rintro e u12 ⟨⟨v, rfl, ho⟩, g⟩
  have k : Gr u11 u12 := Gr.trans (by (try show Gr _ _); repeat (with_reducible first | exact Gr.refl _ | refine Gr.drewN ?_ _ | refine Gr.grew ?_ _ _ | refine Gr.alloc ?_ _ | refine Gr.drew ?_)) g
  have Z13 := Lib.hid k.size
  replace B_pv := Lib.hid (B_pv.out.gr k)
  replace B_w0 := Lib.hid (B_w0.out.gr k)
  replace B_xv := Lib.hid (B_xv.out.gr k)
  replace B_g0 := Lib.hid (B_g0.out.gr k)
  replace R_w0 := Lib.hid (R_w0.out.gr k)
  replace R_t_v_h0 := Lib.hid (R_t_v_h0.out.gr k)
  replace M_xv := Lib.hid (M_xv.out.gr k)
  replace M_g0 := Lib.hid (M_g0.out.gr k)
  replace G := Lib.hid (G.out.trans k)
  have R_h0 := Lib.hid ho.fin
  obtain ⟨a_h0, c_h0, rfl, -, -⟩ := ho.sl
  clear ho g k
  clear R_t_v_h0
  have p_w0_0 := B_w0.out.cellv 0
  have p_w0_1 := B_w0.out.cellv 1
  have p_w0_2 := B_w0.out.cellv 2
  go_wp2_with fail
  refine (L_eqMap A B _ _ _ _ _ _ L _ (R_h0.out.gr (by (try show Gr _ _); repeat (with_reducible first | exact Gr.refl _ | refine Gr.drewN ?_ _ | refine Gr.grew ?_ _ _ | refine Gr.alloc ?_ _ | refine Gr.drew ?_))).fsl (R_w0.out.gr (by (try show Gr _ _); repeat (with_reducible first | exact Gr.refl _ | refine Gr.drewN ?_ _ | refine Gr.grew ?_ _ _ | refine Gr.alloc ?_ _ | refine Gr.drew ?_))).fsl (by unfold maxLen; omega)).mono ?_
  rintro e u13 ⟨rfl, g⟩
  clear p_w0_0 p_w0_1 p_w0_2
  have k : Gr u12 u13 := Gr.trans (by (try show Gr _ _); repeat (with_reducible first | exact Gr.refl _ | refine Gr.drewN ?_ _ | refine Gr.grew ?_ _ _ | refine Gr.alloc ?_ _ | refine Gr.drew ?_)) g
  have Z14 := Lib.hid k.size
  replace B_pv := Lib.hid (B_pv.out.gr k)
  replace B_w0 := Lib.hid (B_w0.out.gr k)
  replace B_xv := Lib.hid (B_xv.out.gr k)
  replace B_g0 := Lib.hid (B_g0.out.gr k)
  replace R_w0 := Lib.hid (R_w0.out.gr k)
  replace R_h0 := Lib.hid (R_h0.out.gr k)
  replace M_xv := Lib.hid (M_xv.out.gr k)
  replace M_g0 := Lib.hid (M_g0.out.gr k)
  replace G := Lib.hid (G.out.trans k)
  have B_h0 := Lib.hid (Blk.gr (show Blk _ (u12.heap.size) [.int .i64 A, .int .i64 B, .slice a_h0 L.length c_h0] 30 from (by repeat (with_reducible first | assumption | exact Blk.atNew (by simp) | refine Blk.alloc ?_ _ | refine Blk.grew ?_ _ _ | refine Blk.drewN ?_ _ | refine Blk.drew ?_))) g)
  clear g k
  have p_g0_0 := B_g0.out.cellv 0
  have p_g0_1 := B_g0.out.cellv 1
  have p_g0_2 := B_g0.out.cellv 2
  go_wp2_with fail
  refine (L_heldMap A B _ _ _ _ 1 _ (M_g0.out.gr (by (try show Gr _ _); repeat (with_reducible first | exact Gr.refl _ | refine Gr.drewN ?_ _ | refine Gr.grew ?_ _ _ | refine Gr.alloc ?_ _ | refine Gr.drew ?_))) (by omega) (by omega) (by omega)).mono ?_
  rintro e u14 ⟨rfl, g⟩
  clear p_g0_0 p_g0_1 p_g0_2
  have k : Gr u13 u14 := Gr.trans (by (try show Gr _ _); repeat (with_reducible first | exact Gr.refl _ | refine Gr.drewN ?_ _ | refine Gr.grew ?_ _ _ | refine Gr.alloc ?_ _ | refine Gr.drew ?_)) g
  have Z15 := Lib.hid k.size
  replace B_pv := Lib.hid (B_pv.out.gr k)
  replace B_w0 := Lib.hid (B_w0.out.gr k)
  replace B_xv := Lib.hid (B_xv.out.gr k)
  replace B_g0 := Lib.hid (B_g0.out.gr k)
  replace B_h0 := Lib.hid (B_h0.out.gr k)
  replace R_w0 := Lib.hid (R_w0.out.gr k)
  replace R_h0 := Lib.hid (R_h0.out.gr k)
  replace M_xv := Lib.hid (M_xv.out.gr k)
  replace M_g0 := Lib.hid (M_g0.out.gr k)
  replace G := Lib.hid (G.out.trans k)
  clear g k
  go_wp2
  go_ret
  exact ⟨rfl, G.out.trans (by (try show Gr _ _); repeat (with_reducible first | exact Gr.refl _ | refine Gr.drewN ?_ _ | refine Gr.grew ?_ _ _ | refine Gr.alloc ?_ _ | refine Gr.drew ?_))⟩

set_option maxRecDepth 20000 in
set_option maxHeartbeats 1000000 in
theorem L_FnExactChecksOf (vw vh vd : Int) (va : Option Addr) (vn vc : Nat) (vx : List Nat) (most Kmost : Nat) (w : World) (fv : FSl w va vn vx) (lv : vn ≤ maxLen) (hmost : FE .f32 most Kmost) :
    Calls Try.prog 5 #[.agg #[.int .i64 vw, .int .i64 vh, .int .i64 vd, .slice va vn vc], .float .f32 most] w fun e w' => e = .returned (.bool true) ∧ ∃ os m, w' = w.grew os m := by
  obtain rfl := fv.len
  by_cases hnv : vx.length ≤ 1048576
  · skip
    exact law_ChecksOf vw vh vd va vc vx most _ _ _ _ w (gVals_vol _ _ _ _ _) fv hnv
        (fun a_v c_v w f_v k_v => S_ChecksOf vw vh vd a_v c_v most Kmost vx w f_v (by omega) hmost) (fun a_v c_v w f_v k_v => I_ChecksOf vw vh vd a_v c_v most Kmost vx w f_v k_v (by omega) hmost)
  · clear fv
    go_enter Try.func5, Try.ntmps5
    go_wp2_with fail
    refine (L_szVolume_no _ _ _ _ _ _ _ _ _ (1048576) _ rfl rfl rfl (by omega) (by omega) (by omega) lv).mono ?_
    rintro e ul ⟨rfl, g⟩
    have G1 : Gr w ul := Gr.trans (by (try show Gr _ _); repeat (with_reducible first | exact Gr.refl _ | refine Gr.drewN ?_ _ | refine Gr.grew ?_ _ _ | refine Gr.alloc ?_ _ | refine Gr.drew ?_)) g
    clear g
    go_wp2
    go_ret
    exact ⟨rfl, G1⟩

set_option maxRecDepth 100000 in
theorem fnExactChecksOf_lifted (os : Os) (started : os.Started) (H : Type) (enc : TypeId × Value → H) :
    ReturnsInHanded {} Try.checked os 5 .any (Rows.fnExactChecksOfSpec.pre6 enc Try.prog Try.f5 Rows.fnExactChecksOfRow.domain false) (Rows.fnExactChecksOfSpec.post enc Try.prog Try.f5 false true false false) := by
  refine returnsInHanded_of_change (C := Try.checked) own started (by kernel_rfl) Try.func5
    (ChangeSpec.witness6 (enc := enc) (C := Try.checked) false ⟨#[], #[.agg #[.int .i64 0, .int .i64 0, .int .i64 0, .slice none 0 0], .float .f32 0], []⟩ 12 (by kernel_rfl) (by kernel_rfl) (by kernel_rfl) (by kernel_rfl)) ?_
  intro W base args ds gs before hval0 hW hcnd _
  have hval : ∀ (j : Nat) t v, Try.f5.params[j]? = some t → args[j]? = some v → Value.okWide Try.prog W .any base t v := hval0
  have hW' := hW
  obtain ⟨p, q, hA0, hV, rfl, hfz, hnd⟩ := hW
  have hA : DataW.TrodAll enc Try.prog W 0 (fun _ => true) true Try.f5.params.toList args.toList ds p := hA0
  rw [Try.params5] at hA hval
  obtain ⟨v0, vs0, d0, ds0, p0, q0, ha0, rfl, rfl, h0, r0⟩ := trodAll_cons hA
  obtain ⟨v1, vs1, d1, ds1, p1, q1, rfl, rfl, rfl, h1, r1⟩ := trodAll_cons r0
  obtain ⟨rfl, rfl, rfl⟩ := trodAll_nil r1
  obtain rfl : args = #[v0, v1] := by cases args; simp_all
  obtain ⟨rfl, rfl⟩ := trodVars_none hV
  obtain ⟨vw, vh, vd, va, vn, vc, vx, rfl, fv, lv⟩ := open_vol Try.underlying41 (by kernel_rfl) (by kernel_rfl) Try.underlying2 Try.underlying22 Try.underlying25 (by kernel_rfl) (hval 0 41 v0 rfl rfl) h0
  obtain ⟨most, rfl, -, -, wmost⟩ := open_float Try.underlying25 (hval 1 25 v1 rfl rfl) h1
  refine (L_FnExactChecksOf vw vh vd va vn vc vx most _ W fv lv (FE.wf wmost)).mono fun e W' ⟨he, hg⟩ => ?_
  exact ⟨_, he, post_true laidOut (by kernel_rfl) (by kernel_rfl) Try.underlying4 rfl hW' rfl rfl rfl (Gr.below hg)⟩

theorem fnExactChecksOf_holds : Rows.FnExactChecksOfSaid :=
  OpenClaim.holds_of_wide 5 Try.f5 rfl rfl rfl rfl rfl rfl rfl ⟨rfl, rfl, rfl, rfl, rfl⟩ rfl rfl rfl rfl rfl (by kernel_rfl) Try.func5 (by kernel_rfl)
    (of_decide_eq_true (by kernel_rfl)) (by unfold Func.isWrapper; first | (rw [if_pos (by decide +kernel)]; kernel_rfl) | (rw [if_neg (by decide +kernel)]; exact ⟨rfl, rfl⟩))
    (fun os started H enc _ => fnExactChecksOf_lifted os started H enc)
#print axioms fnExactChecksOf_holds
end Go.Proofs.Ytomlfdkcgaogcaa
