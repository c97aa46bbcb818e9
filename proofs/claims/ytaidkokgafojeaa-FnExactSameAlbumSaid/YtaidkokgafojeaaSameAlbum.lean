/- For all pairs of albums FnExactSameAlbum returns true. No conditions. MAXREC -/
import Derived.Test.YtaidkokgafojeaaRow
import Derived.Test.YtaidkokgafojeaaRps
import Derived.Test.YtaidkokgafojeaaC66
import Derived.Test.YtaidkokgafojeaaC67
import Derived.Test.YtaidkokgafojeaaLw
import Derived.Test.YtaidkokgafojeaaWk2
import Derived.Deep.RegionHeld3
import Derived.Deep.DeepCutAuto
namespace Go.Proofs.Ytaidkokgafojeaa
open Go.ChangeShapes Go.WideShapes Go.ChangeAt Go.RowKit Go.Joins Go.Deep Go.Fx Go.Soft

set_option maxRecDepth 20000 in
set_option maxHeartbeats 8000000 in
theorem law_SameAlbum (mn : Nat) (ma : Option Addr) (mc : Nat) (mps : List Pic) (qn : Nat) (qa : Option Addr) (qc : Nat) (qps : List Pic) (ok : Bool) (w : World)  (hsm : PSl w ma mps) (hlm : mps.length = mn) (hsq : PSl w qa qps) (hlq : qps.length = qn) (hnm : (mn + pSum mps mn) ≤ 1048576) (hnq : (mn + pSum mps mn) + (qn + pSum qps qn) ≤ 1048576)
    (HS : ∀ (a_m : Option Addr) (c_m : Nat) (a_q : Option Addr) (c_q : Nat) (w : World), PSl w a_m mps → PSl w a_q qps → Calls Try.prog 32 #[.agg #[.slice a_m mn c_m], .agg #[.slice a_q qn c_q]] w (fun e w' => e = .returned (.bool ok) ∧ Gr w w'))
    (HI : ∀ (a_m : Option Addr) (c_m : Nat) (a_q : Option Addr) (c_q : Nat) (w : World), PSl w a_m mps → PSl w a_q qps → Calls Try.prog 33 #[.agg #[.slice a_m mn c_m], .agg #[.slice a_q qn c_q]] w (fun e w' => e = .returned (.bool ok) ∧ Gr w w')) :
    Calls Try.prog 7 #[.agg #[.slice ma mn mc], .agg #[.slice qa qn qc]] w fun e w' => e = .returned (.bool true) ∧ ∃ os m, w' = w.grew os m := by
  have Hs := Lib.hid HS
  have Hi := Lib.hid HI
  clear HS HI
  have G := Lib.hid (Gr.refl w)
  have A_m := Lib.hid hsm
  clear hsm
  have A_q := Lib.hid hsq
  clear hsq
  go_enter Try.func7, Try.ntmps7
  go_wp2_with fail
  refine (L_szAlbum_ok _ _ _ mps (1048576) _ (A_m.out.keep (G.out.trans (by (try show Gr _ _); repeat (with_reducible first | exact Gr.refl _ | refine Gr.drewN ?_ _ | refine Gr.grew ?_ _ _ | refine Gr.alloc ?_ _ | refine Gr.drew ?_))).kp) hlm (by omega) (by omega)).mono ?_
  rintro e v0 ⟨rfl, g⟩
  have k : Gr w v0 := Gr.trans (by (try show Gr _ _); repeat (with_reducible first | exact Gr.refl _ | refine Gr.drewN ?_ _ | refine Gr.grew ?_ _ _ | refine Gr.alloc ?_ _ | refine Gr.drew ?_)) g
  have Z1 := Lib.hid k.size
  replace G := Lib.hid (G.out.trans k)
  have B_pm := Lib.hid (Blk.gr (show Blk _ (w.heap.size) [.slice ma mn mc] 45 from (by repeat (with_reducible first | assumption | exact Blk.atNew (by simp) | refine Blk.alloc ?_ _ | refine Blk.grew ?_ _ _ | refine Blk.drewN ?_ _ | refine Blk.drew ?_))) g)
  have B_pq := Lib.hid (Blk.gr (show Blk _ (w.heap.size + 1) [.slice qa qn qc] 45 from (by repeat (with_reducible first | assumption | exact Blk.atNew (by simp) | refine Blk.alloc ?_ _ | refine Blk.grew ?_ _ _ | refine Blk.drewN ?_ _ | refine Blk.drew ?_))) g)
  clear g k
  have p_pq_0 := B_pq.out.cellv 0
  go_wp2_with fail
  refine (L_szAlbum_ok _ _ _ qps (1048576 - ((mn + pSum mps mn) : Int)) _ (A_q.out.keep (G.out.trans (by (try show Gr _ _); repeat (with_reducible first | exact Gr.refl _ | refine Gr.drewN ?_ _ | refine Gr.grew ?_ _ _ | refine Gr.alloc ?_ _ | refine Gr.drew ?_))).kp) hlq (by omega) (by omega)).mono ?_
  rintro e v1 ⟨rfl, g⟩
  clear p_pq_0
  have k : Gr v0 v1 := Gr.trans (by (try show Gr _ _); repeat (with_reducible first | exact Gr.refl _ | refine Gr.drewN ?_ _ | refine Gr.grew ?_ _ _ | refine Gr.alloc ?_ _ | refine Gr.drew ?_)) g
  have Z2 := Lib.hid k.size
  replace B_pm := Lib.hid (B_pm.out.gr k)
  replace B_pq := Lib.hid (B_pq.out.gr k)
  replace G := Lib.hid (G.out.trans k)
  clear g k
  have p_pm_0 := B_pm.out.cellv 0
  have p_pq_0 := B_pq.out.cellv 0
  go_upto_region 8 with fail
  go_cut [6] (fun sa wx => sa = .bool ok ∧ Gr v1 wx)
  case first =>
    clear Z1 Z2 B_pm B_pq Hi
    go_region_held3 (fun w' => w'.cell? ⟨w.heap.size, 0, none⟩ = some (.slice ma mn mc) ∧ w'.cell? ⟨w.heap.size + 1, 0, none⟩ = some (.slice qa qn qc))
      (first | (simp (maxDischargeDepth := 12) [go_sem]; done) | (simp (maxDischargeDepth := 12) [go_sem, *]; done)) (first
      | (go_at_call 29; with_reducible refine (L_toAlbumX ma mn mc mps _ ?_ hlm ?_ ?_).mono ?_; exact A_m.out.keep (G.out.trans (by (try show Gr _ _); repeat (with_reducible first | exact Gr.refl _ | refine Gr.drewN ?_ _ | refine Gr.grew ?_ _ _ | refine Gr.alloc ?_ _ | refine Gr.drew ?_))).kp; omega; exact alb_len hlm (by omega); rintro e w1 ⟨⟨v, rfl, ho⟩, os0, m0, rfl⟩; (try simp only [grew_grew, drewN_grew, grew_drewN, drew_grew, Array.append_assoc] at ho); obtain ⟨a_m, c_m, rfl, h_m⟩ := ho.sl2 hlm; clear ho)
      | (go_at_call 29; with_reducible refine (L_toAlbumX qa qn qc qps _ ?_ hlq ?_ ?_).mono ?_; exact A_q.out.keep (G.out.trans (by (try show Gr _ _); repeat (with_reducible first | exact Gr.refl _ | refine Gr.drewN ?_ _ | refine Gr.grew ?_ _ _ | refine Gr.alloc ?_ _ | refine Gr.drew ?_))).kp; omega; exact alb_len hlq (by omega); rintro e w1 ⟨⟨v, rfl, ho⟩, os1, m1, rfl⟩; (try simp only [grew_grew, drewN_grew, grew_drewN, drew_grew, Array.append_assoc] at ho); obtain ⟨a_q, c_q, rfl, h_q⟩ := ho.sl2 hlq; clear ho)
      | (go_at_call 32; refine (Hs.out a_m c_m a_q c_q _ (h_m.keep (by (repeat (with_reducible first | exact Kp.refl _ | exact kp_same | exact kp_app1 | exact kp_app2 | exact kp_app3 | refine Kp.grew ?_ _ _ | refine Kp.drewN ?_ _ | refine Kp.drew ?_ | refine Kp.alloc ?_ _)))) (h_q.keep (by (repeat (with_reducible first | exact Kp.refl _ | exact kp_same | exact kp_app1 | exact kp_app2 | exact kp_app3 | refine Kp.grew ?_ _ _ | refine Kp.drewN ?_ _ | refine Kp.drew ?_ | refine Kp.alloc ?_ _))))).mono ?_; rintro e w1 ⟨rfl, os9, m9, rfl⟩))
    all_goals (go_wp2_with fail; go_meet; exact ⟨rfl, (by (try show Gr _ _); repeat (with_reducible first | exact Gr.refl _ | refine Gr.drewN ?_ _ | refine Gr.grew ?_ _ _ | refine Gr.alloc ?_ _ | refine Gr.drew ?_))⟩)
  case rest =>
    obtain ⟨rfl, k⟩ := hcut
    clear p_pm_0 p_pq_0
    have Ew0 : ∃ u, u = wc := ⟨wc, rfl⟩
    obtain ⟨d3, hu⟩ := Ew0
    rw [← hu] at k ⊢
    clear hu
    have Z3 := Lib.hid (show v1.heap.size ≤ d3.heap.size from k.size)
    replace B_pm := Lib.hid (B_pm.out.gr k)
    replace B_pq := Lib.hid (B_pq.out.gr k)
    replace G := Lib.hid (G.out.trans k)
    clear k
    have p_pm_0 := B_pm.out.cellv 0
    go_wp2_with fail
    refine (L_toAlbum ma mn _ mps _ (A_m.out.keep (G.out.trans (by (try show Gr _ _); repeat (with_reducible first | exact Gr.refl _ | refine Gr.drewN ?_ _ | refine Gr.grew ?_ _ _ | refine Gr.alloc ?_ _ | refine Gr.drew ?_))).kp) hlm (by omega) (alb_len hlm (by omega))).mono ?_
    rintro e u3 ⟨⟨v, rfl, ho⟩, g⟩
    clear p_pm_0
    have k : Gr d3 u3 := Gr.trans (by (try show Gr _ _); repeat (with_reducible first | exact Gr.refl _ | refine Gr.drewN ?_ _ | refine Gr.grew ?_ _ _ | refine Gr.alloc ?_ _ | refine Gr.drew ?_)) g
    have Z4 := Lib.hid k.size
    replace B_pm := Lib.hid (B_pm.out.gr k)
    replace B_pq := Lib.hid (B_pq.out.gr k)
    replace G := Lib.hid (G.out.trans k)
    have R_xm := Lib.hid ho
    obtain ⟨a_xm, c_xm, rfl⟩ := ho.sl' hlm
    clear ho g k
    have p_pq_0 := B_pq.out.cellv 0
    go_wp2_with fail
    refine (L_toAlbum qa qn _ qps _ (A_q.out.keep (G.out.trans (by (try show Gr _ _); repeat (with_reducible first | exact Gr.refl _ | refine Gr.drewN ?_ _ | refine Gr.grew ?_ _ _ | refine Gr.alloc ?_ _ | refine Gr.drew ?_))).kp) hlq (by omega) (alb_len hlq (by omega))).mono ?_
    rintro e u4 ⟨⟨v, rfl, ho⟩, g⟩
    clear p_pq_0
    have k : Gr u3 u4 := Gr.trans (by (try show Gr _ _); repeat (with_reducible first | exact Gr.refl _ | refine Gr.drewN ?_ _ | refine Gr.grew ?_ _ _ | refine Gr.alloc ?_ _ | refine Gr.drew ?_)) g
    have Z5 := Lib.hid k.size
    replace B_pm := Lib.hid (B_pm.out.gr k)
    replace B_pq := Lib.hid (B_pq.out.gr k)
    replace R_xm := Lib.hid (R_xm.out.gr k)
    replace G := Lib.hid (G.out.trans k)
    have B_xm := Lib.hid (Blk.gr (show Blk _ (u3.heap.size) [.slice a_xm mn c_xm] 50 from (by repeat (with_reducible first | assumption | exact Blk.atNew (by simp) | refine Blk.alloc ?_ _ | refine Blk.grew ?_ _ _ | refine Blk.drewN ?_ _ | refine Blk.drew ?_))) g)
    have R_xq := Lib.hid ho
    obtain ⟨a_xq, c_xq, rfl⟩ := ho.sl' hlq
    clear ho g k
    have p_xm_0 := B_xm.out.cellv 0
    go_wp2_with fail
    refine (Hi.out _ _ _ _ _ (R_xm.out.psl.keep (Gr.kp (by (try show Gr _ _); repeat (with_reducible first | exact Gr.refl _ | refine Gr.drewN ?_ _ | refine Gr.grew ?_ _ _ | refine Gr.alloc ?_ _ | refine Gr.drew ?_)))) (R_xq.out.psl.keep (Gr.kp (by (try show Gr _ _); repeat (with_reducible first | exact Gr.refl _ | refine Gr.drewN ?_ _ | refine Gr.grew ?_ _ _ | refine Gr.alloc ?_ _ | refine Gr.drew ?_))))).mono ?_
    rintro e u5 ⟨rfl, g⟩
    clear p_xm_0
    have k : Gr u4 u5 := Gr.trans (by (try show Gr _ _); repeat (with_reducible first | exact Gr.refl _ | refine Gr.drewN ?_ _ | refine Gr.grew ?_ _ _ | refine Gr.alloc ?_ _ | refine Gr.drew ?_)) g
    have Z6 := Lib.hid k.size
    replace B_pm := Lib.hid (B_pm.out.gr k)
    replace B_pq := Lib.hid (B_pq.out.gr k)
    replace B_xm := Lib.hid (B_xm.out.gr k)
    replace R_xm := Lib.hid (R_xm.out.gr k)
    replace R_xq := Lib.hid (R_xq.out.gr k)
    replace G := Lib.hid (G.out.trans k)
    have B_xq := Lib.hid (Blk.gr (show Blk _ (u4.heap.size) [.slice a_xq qn c_xq] 50 from (by repeat (with_reducible first | assumption | exact Blk.atNew (by simp) | refine Blk.alloc ?_ _ | refine Blk.grew ?_ _ _ | refine Blk.drewN ?_ _ | refine Blk.drew ?_))) g)
    clear g k
    have p_xm_0 := B_xm.out.cellv 0
    have p_pm_0 := B_pm.out.cellv 0
    go_wp2_with fail
    apply region_facts 4 [2] (fun _ v w' => ∃ a c, v = .agg #[.slice a mn c] ∧ PSl w' a mps)
    case hm => kernel_rfl
    case hB => kernel_rfl
    case hR => rfl
    case hP => (intro k hk v w1 w2 hg hv; obtain ⟨a, c, hv, hs⟩ := hv; exact ⟨a, c, hv, hs.keep hg.kp⟩)
    simp only [List.take_succ_cons, List.take_zero, List.drop_succ_cons, List.drop_zero]
    repeat (first
      | ((with_reducible apply wpF_call (f := 29) (S := fun v => ∃ a c, v = .agg #[.slice a mn c])); (case hw => rfl); (case hc => exact Try.call29); (case hv => ((conv => lhs; simp [Act.eval]); try rfl)); (case hS => (intro os m _; refine (L_toAlbum _ mn _ mps _ (A_m.out.keep (G.out.trans ⟨os, m, rfl⟩).kp) hlm (by omega) (alb_len hlm (by omega))).mono ?_; rintro e w' ⟨⟨v, rfl, ho⟩, g⟩; obtain ⟨a', c', rfl, hs'⟩ := ho.sl2 hlm; exact ⟨_, rfl, g, fun _ => ⟨a', c', rfl, hs'⟩, a', c', rfl⟩)); (case hne => exact ⟨_, none, 0, rfl⟩); (rintro v ⟨aq_, cq_, rfl⟩; simp only [Act.put, List.setIfInBounds_toArray, List.set_cons_succ, List.set_cons_zero]))
      | ((with_reducible apply wpF_call (f := 31) (S := fun v => v = .bool true)); (case hw => rfl); (case hc => exact Try.call31); (case hv => ((conv => lhs; simp [Act.eval]); try rfl)); (case hS => (intro os m hse; obtain ⟨a', c', hv', hs'⟩ := hse ⟨2, .data⟩ (by simp) rfl (by decide) _ _ rfl rfl; simp at hv'; obtain ⟨rfl, rfl⟩ := hv'; refine (L_eqAlbum _ _ _ _ _ mps _ (R_xm.out.gr ⟨os, m, rfl⟩).psl hs' hlm (by omega)).mono ?_; rintro e w' ⟨rfl, g⟩; exact ⟨_, rfl, g, fun h => absurd h (by decide), rfl⟩)); (case hne => exact ⟨_, rfl⟩); (rintro v rfl; simp only [Act.put, List.setIfInBounds_toArray, List.set_cons_succ, List.set_cons_zero]))
      | (apply wpF_skip rfl (by decide); simp only [Act.put, List.setIfInBounds_toArray, List.set_cons_succ, List.set_cons_zero])
      | (apply wpF_nilCheck rfl (by decide) rfl; simp only [Act.put, List.setIfInBounds_toArray, List.set_cons_succ, List.set_cons_zero])
      | ((with_reducible apply wpF_fop); (case hw => rfl); (case hT => decide); (case hop => rfl); (case hx => rfl); (case hy => rfl); (case hA => (first | assumption | exact FE.ofInt _ _ | exact FE.lit (by decide +kernel))); (case hB => (first | assumption | exact FE.ofInt _ _ | exact FE.lit (by decide +kernel))); (intro r hr; simp only [Act.put, List.setIfInBounds_toArray, List.set_cons_succ, List.set_cons_zero]))
      | ((with_reducible apply wpF_fneg); (case hw => rfl); (case hT => decide); (case hx => rfl); (case hA => (first | assumption | exact FE.ofInt _ _ | exact FE.lit (by decide +kernel))); (intro r hr; simp only [Act.put, List.setIfInBounds_toArray, List.set_cons_succ, List.set_cons_zero]))
      | ((with_reducible apply wpF_fcmp); (case hw => rfl); (case hT => decide); (case hop => rfl); (case hx => rfl); (case hy => rfl); (case hA => (first | assumption | exact FE.ofInt _ _ | exact FE.lit (by decide +kernel))); (case hB => (first | assumption | exact FE.ofInt _ _ | exact FE.lit (by decide +kernel))); (case hb => (first | assumption | rfl)); simp only [Act.put, List.setIfInBounds_toArray, List.set_cons_succ, List.set_cons_zero])
      | (apply wpF_q rfl (by decide) rfl; intro K hK; go_big_quiet_op; go_big_quiet_on))
    with_reducible apply wpF_nil
    intro os m hf
    obtain ⟨u6, hu⟩ : ∃ u, u = World.grew u5 os m := ⟨_, rfl⟩
    rw [← hu]
    have g : Gr u5 u6 := ⟨os, m, hu⟩
    clear hf hu
    clear p_xm_0 p_pm_0
    have k : Gr u5 u6 := Gr.trans (by (try show Gr _ _); repeat (with_reducible first | exact Gr.refl _ | refine Gr.drewN ?_ _ | refine Gr.grew ?_ _ _ | refine Gr.alloc ?_ _ | refine Gr.drew ?_)) g
    have Z7 := Lib.hid k.size
    replace B_pm := Lib.hid (B_pm.out.gr k)
    replace B_pq := Lib.hid (B_pq.out.gr k)
    replace B_xm := Lib.hid (B_xm.out.gr k)
    replace B_xq := Lib.hid (B_xq.out.gr k)
    replace R_xm := Lib.hid (R_xm.out.gr k)
    replace R_xq := Lib.hid (R_xq.out.gr k)
    replace G := Lib.hid (G.out.trans k)
    clear g k
    have p_xq_0 := B_xq.out.cellv 0
    have p_pq_0 := B_pq.out.cellv 0
    go_wp2_with fail
    apply region_facts 4 [2] (fun _ v w' => ∃ a c, v = .agg #[.slice a qn c] ∧ PSl w' a qps)
    case hm => kernel_rfl
    case hB => kernel_rfl
    case hR => rfl
    case hP => (intro k hk v w1 w2 hg hv; obtain ⟨a, c, hv, hs⟩ := hv; exact ⟨a, c, hv, hs.keep hg.kp⟩)
    simp only [List.take_succ_cons, List.take_zero, List.drop_succ_cons, List.drop_zero]
    repeat (first
      | ((with_reducible apply wpF_call (f := 29) (S := fun v => ∃ a c, v = .agg #[.slice a qn c])); (case hw => rfl); (case hc => exact Try.call29); (case hv => ((conv => lhs; simp [Act.eval]); try rfl)); (case hS => (intro os m _; refine (L_toAlbum _ qn _ qps _ (A_q.out.keep (G.out.trans ⟨os, m, rfl⟩).kp) hlq (by omega) (alb_len hlq (by omega))).mono ?_; rintro e w' ⟨⟨v, rfl, ho⟩, g⟩; obtain ⟨a', c', rfl, hs'⟩ := ho.sl2 hlq; exact ⟨_, rfl, g, fun _ => ⟨a', c', rfl, hs'⟩, a', c', rfl⟩)); (case hne => exact ⟨_, none, 0, rfl⟩); (rintro v ⟨aq_, cq_, rfl⟩; simp only [Act.put, List.setIfInBounds_toArray, List.set_cons_succ, List.set_cons_zero]))
      | ((with_reducible apply wpF_call (f := 31) (S := fun v => v = .bool true)); (case hw => rfl); (case hc => exact Try.call31); (case hv => ((conv => lhs; simp [Act.eval]); try rfl)); (case hS => (intro os m hse; obtain ⟨a', c', hv', hs'⟩ := hse ⟨2, .data⟩ (by simp) rfl (by decide) _ _ rfl rfl; simp at hv'; obtain ⟨rfl, rfl⟩ := hv'; refine (L_eqAlbum _ _ _ _ _ qps _ (R_xq.out.gr ⟨os, m, rfl⟩).psl hs' hlq (by omega)).mono ?_; rintro e w' ⟨rfl, g⟩; exact ⟨_, rfl, g, fun h => absurd h (by decide), rfl⟩)); (case hne => exact ⟨_, rfl⟩); (rintro v rfl; simp only [Act.put, List.setIfInBounds_toArray, List.set_cons_succ, List.set_cons_zero]))
      | (apply wpF_skip rfl (by decide); simp only [Act.put, List.setIfInBounds_toArray, List.set_cons_succ, List.set_cons_zero])
      | (apply wpF_nilCheck rfl (by decide) rfl; simp only [Act.put, List.setIfInBounds_toArray, List.set_cons_succ, List.set_cons_zero])
      | ((with_reducible apply wpF_fop); (case hw => rfl); (case hT => decide); (case hop => rfl); (case hx => rfl); (case hy => rfl); (case hA => (first | assumption | exact FE.ofInt _ _ | exact FE.lit (by decide +kernel))); (case hB => (first | assumption | exact FE.ofInt _ _ | exact FE.lit (by decide +kernel))); (intro r hr; simp only [Act.put, List.setIfInBounds_toArray, List.set_cons_succ, List.set_cons_zero]))
      | ((with_reducible apply wpF_fneg); (case hw => rfl); (case hT => decide); (case hx => rfl); (case hA => (first | assumption | exact FE.ofInt _ _ | exact FE.lit (by decide +kernel))); (intro r hr; simp only [Act.put, List.setIfInBounds_toArray, List.set_cons_succ, List.set_cons_zero]))
      | ((with_reducible apply wpF_fcmp); (case hw => rfl); (case hT => decide); (case hop => rfl); (case hx => rfl); (case hy => rfl); (case hA => (first | assumption | exact FE.ofInt _ _ | exact FE.lit (by decide +kernel))); (case hB => (first | assumption | exact FE.ofInt _ _ | exact FE.lit (by decide +kernel))); (case hb => (first | assumption | rfl)); simp only [Act.put, List.setIfInBounds_toArray, List.set_cons_succ, List.set_cons_zero])
      | (apply wpF_q rfl (by decide) rfl; intro K hK; go_big_quiet_op; go_big_quiet_on))
    with_reducible apply wpF_nil
    intro os m hf
    obtain ⟨u7, hu⟩ : ∃ u, u = World.grew u6 os m := ⟨_, rfl⟩
    rw [← hu]
    have g : Gr u6 u7 := ⟨os, m, hu⟩
    clear hf hu
    clear p_xq_0 p_pq_0
    have k : Gr u6 u7 := Gr.trans (by (try show Gr _ _); repeat (with_reducible first | exact Gr.refl _ | refine Gr.drewN ?_ _ | refine Gr.grew ?_ _ _ | refine Gr.alloc ?_ _ | refine Gr.drew ?_)) g
    have Z8 := Lib.hid k.size
    replace B_pm := Lib.hid (B_pm.out.gr k)
    replace B_pq := Lib.hid (B_pq.out.gr k)
    replace B_xm := Lib.hid (B_xm.out.gr k)
    replace B_xq := Lib.hid (B_xq.out.gr k)
    replace R_xm := Lib.hid (R_xm.out.gr k)
    replace R_xq := Lib.hid (R_xq.out.gr k)
    replace G := Lib.hid (G.out.trans k)
    clear g k
    go_wp2
    go_ret
    exact ⟨rfl, G.out.trans (by (try show Gr _ _); repeat (with_reducible first | exact Gr.refl _ | refine Gr.drewN ?_ _ | refine Gr.grew ?_ _ _ | refine Gr.alloc ?_ _ | refine Gr.drew ?_))⟩

set_option maxRecDepth 20000 in
set_option maxHeartbeats 1000000 in
theorem L_FnExactSameAlbum (ma : Option Addr) (mn mc : Nat) (mps : List Pic) (qa : Option Addr) (qn qc : Nat) (qps : List Pic) (w : World) (fm : PSl w ma mps) (em : mps.length = mn) (lm : mn ≤ maxLen) (fq : PSl w qa qps) (eq : qps.length = qn) (lq : qn ≤ maxLen) :
    Calls Try.prog 7 #[.agg #[.slice ma mn mc], .agg #[.slice qa qn qc]] w fun e w' => e = .returned (.bool true) ∧ ∃ os m, w' = w.grew os m := by
  by_cases hnm : (mn + pSum mps mn) ≤ 1048576
  · skip
    by_cases hnq : (mn + pSum mps mn) + (qn + pSum qps qn) ≤ 1048576
    · skip
      exact law_SameAlbum mn ma mc mps qn qa qc qps _ w  fm em fq eq hnm hnq
          (fun a_m c_m a_q c_q w f_m f_q => S_SameAlbum a_m a_q mn qn c_m c_q mps qps w f_m f_q em eq (by omega) (by omega) (alb_len em (by omega)) (alb_len eq (by omega))) (fun a_m c_m a_q c_q w f_m f_q => I_SameAlbum a_m a_q mn qn c_m c_q mps qps w f_m f_q em eq (by omega) (by omega) (alb_len em (by omega)) (alb_len eq (by omega)))
    · skip
      go_enter Try.func7, Try.ntmps7
      go_wp2_with fail
      refine (L_szAlbum_ok _ _ _ mps (1048576) _ (fm.keep (Gr.kp (by (try show Gr _ _); repeat (with_reducible first | exact Gr.refl _ | refine Gr.drewN ?_ _ | refine Gr.grew ?_ _ _ | refine Gr.alloc ?_ _ | refine Gr.drew ?_)))) em (by omega) (by omega)).mono ?_
      rintro e u0 ⟨rfl, g⟩
      have Bq := Lib.hid (Blk.gr (show Blk _ (w.heap.size + 1) [.slice qa qn qc] 45 from (by repeat (with_reducible first | assumption | exact Blk.atNew (by simp) | refine Blk.alloc ?_ _ | refine Blk.grew ?_ _ _ | refine Blk.drewN ?_ _ | refine Blk.drew ?_))) g)
      have k : Gr w u0 := Gr.trans (by (try show Gr _ _); repeat (with_reducible first | exact Gr.refl _ | refine Gr.drewN ?_ _ | refine Gr.grew ?_ _ _ | refine Gr.alloc ?_ _ | refine Gr.drew ?_)) g
      have G := Lib.hid k
      clear g k
      have pq0 := Bq.out.cellv 0
      go_wp2_with fail
      refine (L_szAlbum_no _ _ _ qps (1048576 - ((mn + pSum mps mn) : Int)) _ (fq.keep (Gr.kp (G.out.trans (by (try show Gr _ _); repeat (with_reducible first | exact Gr.refl _ | refine Gr.drewN ?_ _ | refine Gr.grew ?_ _ _ | refine Gr.alloc ?_ _ | refine Gr.drew ?_))))) eq (by omega) (by omega) (by omega) lq).mono ?_
      rintro e ul ⟨rfl, g⟩
      have G1 := G.out.trans g
      clear g
      go_wp2
      go_ret
      exact ⟨rfl, G1⟩
  · skip
    go_enter Try.func7, Try.ntmps7
    go_wp2_with fail
    refine (L_szAlbum_no _ _ _ mps (1048576) _ (fm.keep (Gr.kp (by (try show Gr _ _); repeat (with_reducible first | exact Gr.refl _ | refine Gr.drewN ?_ _ | refine Gr.grew ?_ _ _ | refine Gr.alloc ?_ _ | refine Gr.drew ?_)))) em (by omega) (by omega) (by omega) lm).mono ?_
    rintro e ul ⟨rfl, g⟩
    have G1 : Gr w ul := Gr.trans (by (try show Gr _ _); repeat (with_reducible first | exact Gr.refl _ | refine Gr.drewN ?_ _ | refine Gr.grew ?_ _ _ | refine Gr.alloc ?_ _ | refine Gr.drew ?_)) g
    clear g
    go_wp2
    go_ret
    exact ⟨rfl, G1⟩

set_option maxRecDepth 100000 in
theorem fnExactSameAlbum_lifted (os : Os) (started : os.Started) (H : Type) (enc : TypeId × Value → H) :
    ReturnsInHanded {} Try.checked os 7 .any (Rows.fnExactSameAlbumSpec.pre6 enc Try.prog Try.f7 Rows.fnExactSameAlbumRow.domain false) (Rows.fnExactSameAlbumSpec.post enc Try.prog Try.f7 false true false false) := by
  refine returnsInHanded_of_change (C := Try.checked) own started (by kernel_rfl) Try.func7
    (ChangeSpec.witness6 (enc := enc) (C := Try.checked) false ⟨#[], #[.agg #[.slice none 0 0], .agg #[.slice none 0 0]], []⟩ 12 (by kernel_rfl) (by kernel_rfl) (by kernel_rfl) (by kernel_rfl)) ?_
  intro W base args ds gs before hval0 hW hcnd _
  have hval : ∀ (j : Nat) t v, Try.f7.params[j]? = some t → args[j]? = some v → Value.okWide Try.prog W .any base t v := hval0
  have hW' := hW
  obtain ⟨p, q, hA0, hV, rfl, hfz, hnd⟩ := hW
  have hA : DataW.TrodAll enc Try.prog W 0 (fun _ => true) true Try.f7.params.toList args.toList ds p := hA0
  rw [Try.params7] at hA hval
  obtain ⟨v0, vs0, d0, ds0, p0, q0, ha0, rfl, rfl, h0, r0⟩ := trodAll_cons hA
  obtain ⟨v1, vs1, d1, ds1, p1, q1, rfl, rfl, rfl, h1, r1⟩ := trodAll_cons r0
  obtain ⟨rfl, rfl, rfl⟩ := trodAll_nil r1
  obtain rfl : args = #[v0, v1] := by cases args; simp_all
  obtain ⟨rfl, rfl⟩ := trodVars_none hV
  obtain ⟨ma, mn, mc, mps, rfl, fm, em, lm⟩ := open_album Try.underlying45 (by kernel_rfl) (by kernel_rfl) Try.underlying43 Try.underlying31 (by kernel_rfl) (by kernel_rfl) Try.underlying2 (by kernel_rfl) Try.underlying22 Try.underlying65 (by kernel_rfl) (hval 0 45 v0 rfl rfl) h0
  obtain ⟨qa, qn, qc, qps, rfl, fq, eq, lq⟩ := open_album Try.underlying45 (by kernel_rfl) (by kernel_rfl) Try.underlying43 Try.underlying31 (by kernel_rfl) (by kernel_rfl) Try.underlying2 (by kernel_rfl) Try.underlying22 Try.underlying65 (by kernel_rfl) (hval 1 45 v1 rfl rfl) h1
  refine (L_FnExactSameAlbum ma mn mc mps qa qn qc qps W fm em lm fq eq lq).mono fun e W' ⟨he, hg⟩ => ?_
  exact ⟨_, he, post_true laidOut (by kernel_rfl) (by kernel_rfl) Try.underlying4 rfl hW' rfl rfl rfl (Gr.below hg)⟩

theorem fnExactSameAlbum_holds : Rows.FnExactSameAlbumSaid :=
  OpenClaim.holds_of_wide 7 Try.f7 rfl rfl rfl rfl rfl rfl rfl ⟨rfl, rfl, rfl, rfl, rfl⟩ rfl rfl rfl rfl rfl (by kernel_rfl) Try.func7 (by kernel_rfl)
    (of_decide_eq_true (by kernel_rfl)) (by unfold Func.isWrapper; first | (rw [if_pos (by decide +kernel)]; kernel_rfl) | (rw [if_neg (by decide +kernel)]; exact ⟨rfl, rfl⟩))
    (fun os started H enc _ => fnExactSameAlbum_lifted os started H enc)
#print axioms fnExactSameAlbum_holds
end Go.Proofs.Ytaidkokgafojeaa
