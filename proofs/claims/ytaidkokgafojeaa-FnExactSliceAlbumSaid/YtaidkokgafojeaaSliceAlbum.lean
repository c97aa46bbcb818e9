/- For all albums and two numbers FnExactSliceAlbum returns true. No conditions. MAXREC -/
import Derived.Test.YtaidkokgafojeaaRow
import Derived.Test.YtaidkokgafojeaaRps
import Derived.Test.YtaidkokgafojeaaC67
import Derived.Test.YtaidkokgafojeaaC70
import Derived.Test.YtaidkokgafojeaaC71
import Derived.Test.YtaidkokgafojeaaLw
import Derived.Test.YtaidkokgafojeaaWk2
import Derived.Deep.RegionHeld3
import Derived.Deep.DeepCutAuto
namespace Go.Proofs.Ytaidkokgafojeaa
open Go.ChangeShapes Go.WideShapes Go.ChangeAt Go.RowKit Go.Joins Go.Deep Go.Fx Go.Soft
theorem slice_len {ps : List Pic} {n : Nat} (hl : ps.length = n) (h : n + pSum ps n ≤ 1048576) (f c : Int) : (if gSliceOk ps f c then gSome ps f.toNat c.toNat else []).length + pSum (if gSliceOk ps f c then gSome ps f.toNat c.toNat else []) (if gSliceOk ps f c then gSome ps f.toNat c.toNat else []).length ≤ 1048576 := by
  cases hk : gSliceOk ps f c
  · simp [pSum]
  · unfold gSliceOk at hk
    simp only [Bool.and_eq_true] at hk
    obtain ⟨h0, h1, h2⟩ := hk
    obtain ⟨f0, f1⟩ := gIn_true h1
    obtain ⟨c0, c1⟩ := gIn_true h2
    simp only [if_true, gSome_length]
    have key : ∀ k, k ≤ c.toNat → pSum (gSome ps f.toNat c.toNat) k + pSum ps f.toNat = pSum ps (f.toNat + k) := by
      intro k
      induction k with
      | zero => intro _; simp [pSum]
      | succ k ih =>
        intro hk
        rw [← Nat.add_assoc, pSum, pSum, gSome_at ps f.toNat (by omega), ← ih (by omega)]
        omega
    have k1 := key c.toNat (Nat.le_refl _)
    have k2 := pSum_mono ps (f.toNat + c.toNat) (n - (f.toNat + c.toNat))
    rw [show f.toNat + c.toNat + (n - (f.toNat + c.toNat)) = n by omega] at k2
    omega

set_option maxRecDepth 20000 in
set_option maxHeartbeats 8000000 in
theorem law_SliceAlbum (mn : Nat) (ma : Option Addr) (mc : Nat) (mps : List Pic) (f : Int) (q : Int) (ok : Bool) (L : List Pic) (w : World) (hL : L.length + pSum L L.length ≤ 1048576) (hsm : PSl w ma mps) (hlm : mps.length = mn) (hnm : (mn + pSum mps mn) ≤ 1048576)
    (HS : ∀ (a_m : Option Addr) (c_m : Nat) (w : World), PSl w a_m mps → mn ≤ c_m → Calls Try.prog 34 #[.agg #[.slice a_m mn c_m], .int .i64 f, .int .i64 q] w (PostA w ok L))
    (HI : ∀ (a_m : Option Addr) (c_m : Nat) (w : World), PSl w a_m mps → mn ≤ c_m → Calls Try.prog 35 #[.agg #[.slice a_m mn c_m], .int .i64 f, .int .i64 q] w (PostA w ok L)) :
    Calls Try.prog 8 #[.agg #[.slice ma mn mc], .int .i64 f, .int .i64 q] w fun e w' => e = .returned (.bool true) ∧ ∃ os m, w' = w.grew os m := by
  have Hs := Lib.hid HS
  have Hi := Lib.hid HI
  clear HS HI
  have G := Lib.hid (Gr.refl w)
  have A_m := Lib.hid hsm
  clear hsm
  go_enter Try.func8, Try.ntmps8
  go_wp2_with fail
  refine (L_szAlbum_ok _ _ _ mps (1048576) _ (A_m.out.keep (G.out.trans (by (try show Gr _ _); repeat (with_reducible first | exact Gr.refl _ | refine Gr.drewN ?_ _ | refine Gr.grew ?_ _ _ | refine Gr.alloc ?_ _ | refine Gr.drew ?_))).kp) hlm (by omega) (by omega)).mono ?_
  rintro e v0 ⟨rfl, g⟩
  have k : Gr w v0 := Gr.trans (by (try show Gr _ _); repeat (with_reducible first | exact Gr.refl _ | refine Gr.drewN ?_ _ | refine Gr.grew ?_ _ _ | refine Gr.alloc ?_ _ | refine Gr.drew ?_)) g
  have Z1 := Lib.hid k.size
  replace G := Lib.hid (G.out.trans k)
  have B_pm := Lib.hid (Blk.gr (show Blk _ (w.heap.size) [.slice ma mn mc] 45 from (by repeat (with_reducible first | assumption | exact Blk.atNew (by simp) | refine Blk.alloc ?_ _ | refine Blk.grew ?_ _ _ | refine Blk.drewN ?_ _ | refine Blk.drew ?_))) g)
  clear g k
  have p_pm_0 := B_pm.out.cellv 0
  go_wp2_with fail
  refine (L_toAlbum ma mn _ mps _ (A_m.out.keep (G.out.trans (by (try show Gr _ _); repeat (with_reducible first | exact Gr.refl _ | refine Gr.drewN ?_ _ | refine Gr.grew ?_ _ _ | refine Gr.alloc ?_ _ | refine Gr.drew ?_))).kp) hlm (by omega) (alb_len hlm (by omega))).mono ?_
  rintro e u1 ⟨⟨v, rfl, ho⟩, g⟩
  clear p_pm_0
  have k : Gr v0 u1 := Gr.trans (by (try show Gr _ _); repeat (with_reducible first | exact Gr.refl _ | refine Gr.drewN ?_ _ | refine Gr.grew ?_ _ _ | refine Gr.alloc ?_ _ | refine Gr.drew ?_)) g
  have Z2 := Lib.hid k.size
  replace B_pm := Lib.hid (B_pm.out.gr k)
  replace G := Lib.hid (G.out.trans k)
  have R_t_m_w0 := Lib.hid ho
  obtain ⟨a_t_m_w0, c_t_m_w0, rfl⟩ := ho.sl' hlm
  have CP_t_m_w0 := Lib.hid ho.cap
  clear ho g k
  go_wp2_with fail
  refine (Hs.out _ _ _ (R_t_m_w0.out.psl.keep (Gr.kp (by (try show Gr _ _); repeat (with_reducible first | exact Gr.refl _ | refine Gr.drewN ?_ _ | refine Gr.grew ?_ _ _ | refine Gr.alloc ?_ _ | refine Gr.drew ?_)))) CP_t_m_w0.out).mono ?_
  rintro e u2 ⟨⟨v, rfl, ho⟩, g⟩
  have k : Gr u1 u2 := Gr.trans (by (try show Gr _ _); repeat (with_reducible first | exact Gr.refl _ | refine Gr.drewN ?_ _ | refine Gr.grew ?_ _ _ | refine Gr.alloc ?_ _ | refine Gr.drew ?_)) g
  have Z3 := Lib.hid k.size
  replace B_pm := Lib.hid (B_pm.out.gr k)
  replace R_t_m_w0 := Lib.hid (R_t_m_w0.out.gr k)
  replace G := Lib.hid (G.out.trans k)
  have R_w0 := Lib.hid ho
  obtain ⟨a_w0, c_w0, rfl, -⟩ := ho.sl
  clear ho g k
  clear R_t_m_w0
  have p_pm_0 := B_pm.out.cellv 0
  go_wp2_with fail
  refine (L_toAlbum ma mn _ mps _ (A_m.out.keep (G.out.trans (by (try show Gr _ _); repeat (with_reducible first | exact Gr.refl _ | refine Gr.drewN ?_ _ | refine Gr.grew ?_ _ _ | refine Gr.alloc ?_ _ | refine Gr.drew ?_))).kp) hlm (by omega) (alb_len hlm (by omega))).mono ?_
  rintro e u3 ⟨⟨v, rfl, ho⟩, g⟩
  clear p_pm_0
  have k : Gr u2 u3 := Gr.trans (by (try show Gr _ _); repeat (with_reducible first | exact Gr.refl _ | refine Gr.drewN ?_ _ | refine Gr.grew ?_ _ _ | refine Gr.alloc ?_ _ | refine Gr.drew ?_)) g
  have Z4 := Lib.hid k.size
  replace B_pm := Lib.hid (B_pm.out.gr k)
  replace R_w0 := Lib.hid (R_w0.out.gr k)
  replace G := Lib.hid (G.out.trans k)
  have B_w0 := Lib.hid (Blk.gr (show Blk _ (u2.heap.size) [.slice a_w0 L.length c_w0] 50 from (by repeat (with_reducible first | assumption | exact Blk.atNew (by simp) | refine Blk.alloc ?_ _ | refine Blk.grew ?_ _ _ | refine Blk.drewN ?_ _ | refine Blk.drew ?_))) g)
  have R_xm := Lib.hid ho
  obtain ⟨a_xm, c_xm, rfl⟩ := ho.sl' hlm
  have CP_xm := Lib.hid ho.cap
  clear ho g k
  go_wp2_with fail
  refine (Hi.out _ _ _ (R_xm.out.psl.keep (Gr.kp (by (try show Gr _ _); repeat (with_reducible first | exact Gr.refl _ | refine Gr.drewN ?_ _ | refine Gr.grew ?_ _ _ | refine Gr.alloc ?_ _ | refine Gr.drew ?_)))) CP_xm.out).mono ?_
  rintro e u4 ⟨⟨v, rfl, ho⟩, g⟩
  have k : Gr u3 u4 := Gr.trans (by (try show Gr _ _); repeat (with_reducible first | exact Gr.refl _ | refine Gr.drewN ?_ _ | refine Gr.grew ?_ _ _ | refine Gr.alloc ?_ _ | refine Gr.drew ?_)) g
  have Z5 := Lib.hid k.size
  replace B_pm := Lib.hid (B_pm.out.gr k)
  replace B_w0 := Lib.hid (B_w0.out.gr k)
  replace R_w0 := Lib.hid (R_w0.out.gr k)
  replace R_xm := Lib.hid (R_xm.out.gr k)
  replace G := Lib.hid (G.out.trans k)
  have B_xm := Lib.hid (Blk.gr (show Blk _ (u3.heap.size) [.slice a_xm mn c_xm] 50 from (by repeat (with_reducible first | assumption | exact Blk.atNew (by simp) | refine Blk.alloc ?_ _ | refine Blk.grew ?_ _ _ | refine Blk.drewN ?_ _ | refine Blk.drew ?_))) g)
  have R_g0 := Lib.hid ho
  obtain ⟨a_g0, c_g0, rfl, -⟩ := ho.sl
  clear ho g k
  have p_w0_0 := B_w0.out.cellv 0
  go_wp2_with fail
  refine (L_eqAlbum _ _ _ _ _ L _ (R_g0.out.gr (by (try show Gr _ _); repeat (with_reducible first | exact Gr.refl _ | refine Gr.drewN ?_ _ | refine Gr.grew ?_ _ _ | refine Gr.alloc ?_ _ | refine Gr.drew ?_))).psl (R_w0.out.gr (by (try show Gr _ _); repeat (with_reducible first | exact Gr.refl _ | refine Gr.drewN ?_ _ | refine Gr.grew ?_ _ _ | refine Gr.alloc ?_ _ | refine Gr.drew ?_))).psl rfl (by omega)).mono ?_
  rintro e u5 ⟨rfl, g⟩
  clear p_w0_0
  have k : Gr u4 u5 := Gr.trans (by (try show Gr _ _); repeat (with_reducible first | exact Gr.refl _ | refine Gr.drewN ?_ _ | refine Gr.grew ?_ _ _ | refine Gr.alloc ?_ _ | refine Gr.drew ?_)) g
  have Z6 := Lib.hid k.size
  replace B_pm := Lib.hid (B_pm.out.gr k)
  replace B_w0 := Lib.hid (B_w0.out.gr k)
  replace B_xm := Lib.hid (B_xm.out.gr k)
  replace R_w0 := Lib.hid (R_w0.out.gr k)
  replace R_xm := Lib.hid (R_xm.out.gr k)
  replace R_g0 := Lib.hid (R_g0.out.gr k)
  replace G := Lib.hid (G.out.trans k)
  have B_g0 := Lib.hid (Blk.gr (show Blk _ (u4.heap.size) [.slice a_g0 L.length c_g0] 50 from (by repeat (with_reducible first | assumption | exact Blk.atNew (by simp) | refine Blk.alloc ?_ _ | refine Blk.grew ?_ _ _ | refine Blk.drewN ?_ _ | refine Blk.drew ?_))) g)
  clear g k
  have p_xm_0 := B_xm.out.cellv 0
  have p_pm_0 := B_pm.out.cellv 0
  go_wp2_with fail
  apply region_facts 4 [2] (fun _ v w' => ∃ a c, v = .agg #[.slice a mn c] ∧ PSl w' a mps)
  case hm => kernel_rfl
  case hB => kernel_rfl
  case hR => rfl
  case hP => (intro k hk v w1 w2 hg hv; obtain ⟨a, c, hv, hs⟩ := hv; exact ⟨a, c, hv, hs.keep hg.kp⟩)
  simp only [List.take_succ_cons, List.take_zero, List.drop_succ_cons, List.drop_zero]
  repeat (first
    | ((with_reducible apply wpF_call (f := 29) (S := fun v => ∃ a c, v = .agg #[.slice a mn c])); (case hw => rfl); (case hc => exact Try.call29); (case hv => ((conv => lhs; simp [Act.eval]); try rfl)); (case hS => (intro os m _; refine (L_toAlbum _ mn _ mps _ (A_m.out.keep (G.out.trans ⟨os, m, rfl⟩).kp) hlm (by omega) (alb_len hlm (by omega))).mono ?_; rintro e w' ⟨⟨v, rfl, ho⟩, g⟩; obtain ⟨a', c', rfl, hs'⟩ := ho.sl2 hlm; exact ⟨_, rfl, g, fun _ => ⟨a', c', rfl, hs'⟩, a', c', rfl⟩)); (case hne => exact ⟨_, none, 0, rfl⟩); (rintro v ⟨aq_, cq_, rfl⟩; simp only [Act.put, List.setIfInBounds_toArray, List.set_cons_succ, List.set_cons_zero]))
    | ((with_reducible apply wpF_call (f := 31) (S := fun v => v = .bool true)); (case hw => rfl); (case hc => exact Try.call31); (case hv => ((conv => lhs; simp [Act.eval]); try rfl)); (case hS => (intro os m hse; obtain ⟨a', c', hv', hs'⟩ := hse ⟨2, .data⟩ (by simp) rfl (by decide) _ _ rfl rfl; simp at hv'; obtain ⟨rfl, rfl⟩ := hv'; refine (L_eqAlbum _ _ _ _ _ mps _ (R_xm.out.gr ⟨os, m, rfl⟩).psl hs' hlm (by omega)).mono ?_; rintro e w' ⟨rfl, g⟩; exact ⟨_, rfl, g, fun h => absurd h (by decide), rfl⟩)); (case hne => exact ⟨_, rfl⟩); (rintro v rfl; simp only [Act.put, List.setIfInBounds_toArray, List.set_cons_succ, List.set_cons_zero]))
    | (apply wpF_skip rfl (by decide); simp only [Act.put, List.setIfInBounds_toArray, List.set_cons_succ, List.set_cons_zero])
    | (apply wpF_nilCheck rfl (by decide) rfl; simp only [Act.put, List.setIfInBounds_toArray, List.set_cons_succ, List.set_cons_zero])
    | ((with_reducible apply wpF_fop); (case hw => rfl); (case hT => decide); (case hop => rfl); (case hx => rfl); (case hy => rfl); (case hA => (first | assumption | exact FE.ofInt _ _ | exact FE.lit (by decide +kernel))); (case hB => (first | assumption | exact FE.ofInt _ _ | exact FE.lit (by decide +kernel))); (intro r hr; simp only [Act.put, List.setIfInBounds_toArray, List.set_cons_succ, List.set_cons_zero]))
    | ((with_reducible apply wpF_fneg); (case hw => rfl); (case hT => decide); (case hx => rfl); (case hA => (first | assumption | exact FE.ofInt _ _ | exact FE.lit (by decide +kernel))); (intro r hr; simp only [Act.put, List.setIfInBounds_toArray, List.set_cons_succ, List.set_cons_zero]))
    | ((with_reducible apply wpF_fcmp); (case hw => rfl); (case hT => decide); (case hop => rfl); (case hx => rfl); (case hy => rfl); (case hA => (first | assumption | exact FE.ofInt _ _ | exact FE.lit (by decide +kernel))); (case hB => (first | assumption | exact FE.ofInt _ _ | exact FE.lit (by decide +kernel))); (case hb => (first | assumption | rfl)); simp only [Act.put, List.setIfInBounds_toArray, List.set_cons_succ, List.set_cons_zero])
    | (apply wpF_q rfl (by decide) rfl; intro K hK; go_big_quiet_op; go_big_quiet_on))
  with_reducible apply wpF_nil
  intro os m hf
  obtain ⟨u6, hu⟩ : ∃ u, u = World.grew u5 os m := ⟨_, rfl⟩
  rw [← hu]
  have g : Gr u5 u6 := ⟨os, m, hu⟩
  clear hf hu
  clear p_xm_0 p_pm_0
  have k : Gr u5 u6 := Gr.trans (by (try show Gr _ _); repeat (with_reducible first | exact Gr.refl _ | refine Gr.drewN ?_ _ | refine Gr.grew ?_ _ _ | refine Gr.alloc ?_ _ | refine Gr.drew ?_)) g
  have Z7 := Lib.hid k.size
  replace B_pm := Lib.hid (B_pm.out.gr k)
  replace B_w0 := Lib.hid (B_w0.out.gr k)
  replace B_xm := Lib.hid (B_xm.out.gr k)
  replace B_g0 := Lib.hid (B_g0.out.gr k)
  replace R_w0 := Lib.hid (R_w0.out.gr k)
  replace R_xm := Lib.hid (R_xm.out.gr k)
  replace R_g0 := Lib.hid (R_g0.out.gr k)
  replace G := Lib.hid (G.out.trans k)
  clear g k
  have p_xm_0 := B_xm.out.cellv 0
  go_wp2_with fail
  refine (L_markAlbum _ _ _ mn mps 1 _ (R_xm.out.gr (by (try show Gr _ _); repeat (with_reducible first | exact Gr.refl _ | refine Gr.drewN ?_ _ | refine Gr.grew ?_ _ _ | refine Gr.alloc ?_ _ | refine Gr.drew ?_))) hlm (by omega) (by omega) (by omega)).mono ?_
  rintro e u7 ⟨rfl, hw, hp⟩
  clear p_xm_0
  have Z8 := Lib.hid hw.size
  replace B_pm := Lib.hid (hw.blk (B_pm.out.gr (by (try show Gr _ _); repeat (with_reducible first | exact Gr.refl _ | refine Gr.drewN ?_ _ | refine Gr.grew ?_ _ _ | refine Gr.alloc ?_ _ | refine Gr.drew ?_))) (by have := Z1.out; have := Z2.out; have := Z3.out; have := Z4.out; have := Z5.out; have := Z6.out; have := Z7.out; (try simp only [World.size_alloc, heap_size_grew] at *); omega))
  replace B_w0 := Lib.hid (hw.blk (B_w0.out.gr (by (try show Gr _ _); repeat (with_reducible first | exact Gr.refl _ | refine Gr.drewN ?_ _ | refine Gr.grew ?_ _ _ | refine Gr.alloc ?_ _ | refine Gr.drew ?_))) (by have := Z1.out; have := Z2.out; have := Z3.out; have := Z4.out; have := Z5.out; have := Z6.out; have := Z7.out; (try simp only [World.size_alloc, heap_size_grew] at *); omega))
  replace B_xm := Lib.hid (hw.blk (B_xm.out.gr (by (try show Gr _ _); repeat (with_reducible first | exact Gr.refl _ | refine Gr.drewN ?_ _ | refine Gr.grew ?_ _ _ | refine Gr.alloc ?_ _ | refine Gr.drew ?_))) (by have := Z1.out; have := Z2.out; have := Z3.out; have := Z4.out; have := Z5.out; have := Z6.out; have := Z7.out; (try simp only [World.size_alloc, heap_size_grew] at *); omega))
  replace B_g0 := Lib.hid (hw.blk (B_g0.out.gr (by (try show Gr _ _); repeat (with_reducible first | exact Gr.refl _ | refine Gr.drewN ?_ _ | refine Gr.grew ?_ _ _ | refine Gr.alloc ?_ _ | refine Gr.drew ?_))) (by have := Z1.out; have := Z2.out; have := Z3.out; have := Z4.out; have := Z5.out; have := Z6.out; have := Z7.out; (try simp only [World.size_alloc, heap_size_grew] at *); omega))
  replace R_w0 := Lib.hid (hw.pin (R_w0.out.gr (by (try show Gr _ _); repeat (with_reducible first | exact Gr.refl _ | refine Gr.drewN ?_ _ | refine Gr.grew ?_ _ _ | refine Gr.alloc ?_ _ | refine Gr.drew ?_))) (by have := Z1.out; have := Z2.out; have := Z3.out; have := Z4.out; have := Z5.out; have := Z6.out; have := Z7.out; (try simp only [World.size_alloc, heap_size_grew] at *); omega))
  replace R_g0 := Lib.hid (hw.pin (R_g0.out.gr (by (try show Gr _ _); repeat (with_reducible first | exact Gr.refl _ | refine Gr.drewN ?_ _ | refine Gr.grew ?_ _ _ | refine Gr.alloc ?_ _ | refine Gr.drew ?_))) (by have := Z1.out; have := Z2.out; have := Z3.out; have := Z4.out; have := Z5.out; have := Z6.out; have := Z7.out; (try simp only [World.size_alloc, heap_size_grew] at *); omega))
  replace G := Lib.hid (hw.gr (G.out.trans (by (try show Gr _ _); repeat (with_reducible first | exact Gr.refl _ | refine Gr.drewN ?_ _ | refine Gr.grew ?_ _ _ | refine Gr.alloc ?_ _ | refine Gr.drew ?_))) (by have := Z1.out; have := Z2.out; have := Z3.out; have := Z4.out; have := Z5.out; have := Z6.out; have := Z7.out; (try simp only [World.size_alloc, heap_size_grew] at *); omega))
  have M_xm := Lib.hid hp
  clear hw hp
  have p_g0_0 := B_g0.out.cellv 0
  have p_w0_0 := B_w0.out.cellv 0
  go_wp2_with fail
  refine (L_eqAlbum _ _ _ _ _ L _ (R_g0.out.gr (by (try show Gr _ _); repeat (with_reducible first | exact Gr.refl _ | refine Gr.drewN ?_ _ | refine Gr.grew ?_ _ _ | refine Gr.alloc ?_ _ | refine Gr.drew ?_))).psl (R_w0.out.gr (by (try show Gr _ _); repeat (with_reducible first | exact Gr.refl _ | refine Gr.drewN ?_ _ | refine Gr.grew ?_ _ _ | refine Gr.alloc ?_ _ | refine Gr.drew ?_))).psl rfl (by omega)).mono ?_
  rintro e u8 ⟨rfl, g⟩
  clear p_g0_0 p_w0_0
  have k : Gr u7 u8 := Gr.trans (by (try show Gr _ _); repeat (with_reducible first | exact Gr.refl _ | refine Gr.drewN ?_ _ | refine Gr.grew ?_ _ _ | refine Gr.alloc ?_ _ | refine Gr.drew ?_)) g
  have Z9 := Lib.hid k.size
  replace B_pm := Lib.hid (B_pm.out.gr k)
  replace B_w0 := Lib.hid (B_w0.out.gr k)
  replace B_xm := Lib.hid (B_xm.out.gr k)
  replace B_g0 := Lib.hid (B_g0.out.gr k)
  replace R_w0 := Lib.hid (R_w0.out.gr k)
  replace R_g0 := Lib.hid (R_g0.out.gr k)
  replace M_xm := Lib.hid (M_xm.out.gr k)
  replace G := Lib.hid (G.out.trans k)
  clear g k
  have p_g0_0 := B_g0.out.cellv 0
  go_wp2_with fail
  refine (L_markAlbum _ _ _ L.length L 1 _ (R_g0.out.gr (by (try show Gr _ _); repeat (with_reducible first | exact Gr.refl _ | refine Gr.drewN ?_ _ | refine Gr.grew ?_ _ _ | refine Gr.alloc ?_ _ | refine Gr.drew ?_))) rfl (by omega) (by omega) (by omega)).mono ?_
  rintro e u9 ⟨rfl, hw, hp⟩
  clear p_g0_0
  have Z10 := Lib.hid hw.size
  replace B_pm := Lib.hid (hw.blk (B_pm.out.gr (by (try show Gr _ _); repeat (with_reducible first | exact Gr.refl _ | refine Gr.drewN ?_ _ | refine Gr.grew ?_ _ _ | refine Gr.alloc ?_ _ | refine Gr.drew ?_))) (by have := Z1.out; have := Z2.out; have := Z3.out; have := Z4.out; have := Z5.out; have := Z6.out; have := Z7.out; have := Z8.out; have := Z9.out; (try simp only [World.size_alloc, heap_size_grew] at *); omega))
  replace B_w0 := Lib.hid (hw.blk (B_w0.out.gr (by (try show Gr _ _); repeat (with_reducible first | exact Gr.refl _ | refine Gr.drewN ?_ _ | refine Gr.grew ?_ _ _ | refine Gr.alloc ?_ _ | refine Gr.drew ?_))) (by have := Z1.out; have := Z2.out; have := Z3.out; have := Z4.out; have := Z5.out; have := Z6.out; have := Z7.out; have := Z8.out; have := Z9.out; (try simp only [World.size_alloc, heap_size_grew] at *); omega))
  replace B_xm := Lib.hid (hw.blk (B_xm.out.gr (by (try show Gr _ _); repeat (with_reducible first | exact Gr.refl _ | refine Gr.drewN ?_ _ | refine Gr.grew ?_ _ _ | refine Gr.alloc ?_ _ | refine Gr.drew ?_))) (by have := Z1.out; have := Z2.out; have := Z3.out; have := Z4.out; have := Z5.out; have := Z6.out; have := Z7.out; have := Z8.out; have := Z9.out; (try simp only [World.size_alloc, heap_size_grew] at *); omega))
  replace B_g0 := Lib.hid (hw.blk (B_g0.out.gr (by (try show Gr _ _); repeat (with_reducible first | exact Gr.refl _ | refine Gr.drewN ?_ _ | refine Gr.grew ?_ _ _ | refine Gr.alloc ?_ _ | refine Gr.drew ?_))) (by have := Z1.out; have := Z2.out; have := Z3.out; have := Z4.out; have := Z5.out; have := Z6.out; have := Z7.out; have := Z8.out; have := Z9.out; (try simp only [World.size_alloc, heap_size_grew] at *); omega))
  replace R_w0 := Lib.hid (hw.pin (R_w0.out.gr (by (try show Gr _ _); repeat (with_reducible first | exact Gr.refl _ | refine Gr.drewN ?_ _ | refine Gr.grew ?_ _ _ | refine Gr.alloc ?_ _ | refine Gr.drew ?_))) (by have := Z1.out; have := Z2.out; have := Z3.out; have := Z4.out; have := Z5.out; have := Z6.out; have := Z7.out; have := Z8.out; have := Z9.out; (try simp only [World.size_alloc, heap_size_grew] at *); omega))
  replace M_xm := Lib.hid (hw.pin (M_xm.out.gr (by (try show Gr _ _); repeat (with_reducible first | exact Gr.refl _ | refine Gr.drewN ?_ _ | refine Gr.grew ?_ _ _ | refine Gr.alloc ?_ _ | refine Gr.drew ?_))) (by have := Z1.out; have := Z2.out; have := Z3.out; have := Z4.out; have := Z5.out; have := Z6.out; have := Z7.out; have := Z8.out; have := Z9.out; (try simp only [World.size_alloc, heap_size_grew] at *); omega))
  replace G := Lib.hid (hw.gr (G.out.trans (by (try show Gr _ _); repeat (with_reducible first | exact Gr.refl _ | refine Gr.drewN ?_ _ | refine Gr.grew ?_ _ _ | refine Gr.alloc ?_ _ | refine Gr.drew ?_))) (by have := Z1.out; have := Z2.out; have := Z3.out; have := Z4.out; have := Z5.out; have := Z6.out; have := Z7.out; have := Z8.out; have := Z9.out; (try simp only [World.size_alloc, heap_size_grew] at *); omega))
  have M_g0 := Lib.hid hp
  clear hw hp
  have p_g0_0 := B_g0.out.cellv 0
  go_wp2_with fail
  refine (L_heldAlbum _ _ _ L.length L 1 _ (M_g0.out.gr (by (try show Gr _ _); repeat (with_reducible first | exact Gr.refl _ | refine Gr.drewN ?_ _ | refine Gr.grew ?_ _ _ | refine Gr.alloc ?_ _ | refine Gr.drew ?_))) rfl (by omega) (by omega) (by omega)).mono ?_
  rintro e u10 ⟨rfl, g⟩
  clear p_g0_0
  have k : Gr u9 u10 := Gr.trans (by (try show Gr _ _); repeat (with_reducible first | exact Gr.refl _ | refine Gr.drewN ?_ _ | refine Gr.grew ?_ _ _ | refine Gr.alloc ?_ _ | refine Gr.drew ?_)) g
  have Z11 := Lib.hid k.size
  replace B_pm := Lib.hid (B_pm.out.gr k)
  replace B_w0 := Lib.hid (B_w0.out.gr k)
  replace B_xm := Lib.hid (B_xm.out.gr k)
  replace B_g0 := Lib.hid (B_g0.out.gr k)
  replace R_w0 := Lib.hid (R_w0.out.gr k)
  replace M_xm := Lib.hid (M_xm.out.gr k)
  replace M_g0 := Lib.hid (M_g0.out.gr k)
  replace G := Lib.hid (G.out.trans k)
  clear g k
  have p_pm_0 := B_pm.out.cellv 0
  go_wp2_with fail
  refine (L_toAlbum ma mn _ mps _ (A_m.out.keep (G.out.trans (by (try show Gr _ _); repeat (with_reducible first | exact Gr.refl _ | refine Gr.drewN ?_ _ | refine Gr.grew ?_ _ _ | refine Gr.alloc ?_ _ | refine Gr.drew ?_))).kp) hlm (by omega) (alb_len hlm (by omega))).mono ?_
  rintro e u11 ⟨⟨v, rfl, ho⟩, g⟩
  clear p_pm_0
  have k : Gr u10 u11 := Gr.trans (by (try show Gr _ _); repeat (with_reducible first | exact Gr.refl _ | refine Gr.drewN ?_ _ | refine Gr.grew ?_ _ _ | refine Gr.alloc ?_ _ | refine Gr.drew ?_)) g
  have Z12 := Lib.hid k.size
  replace B_pm := Lib.hid (B_pm.out.gr k)
  replace B_w0 := Lib.hid (B_w0.out.gr k)
  replace B_xm := Lib.hid (B_xm.out.gr k)
  replace B_g0 := Lib.hid (B_g0.out.gr k)
  replace R_w0 := Lib.hid (R_w0.out.gr k)
  replace M_xm := Lib.hid (M_xm.out.gr k)
  replace M_g0 := Lib.hid (M_g0.out.gr k)
  replace G := Lib.hid (G.out.trans k)
  have R_t_m_h0 := Lib.hid ho
  obtain ⟨a_t_m_h0, c_t_m_h0, rfl⟩ := ho.sl' hlm
  have CP_t_m_h0 := Lib.hid ho.cap
  clear ho g k
  go_wp2_with fail
  refine (Hi.out _ _ _ (R_t_m_h0.out.psl.keep (Gr.kp (by (try show Gr _ _); repeat (with_reducible first | exact Gr.refl _ | refine Gr.drewN ?_ _ | refine Gr.grew ?_ _ _ | refine Gr.alloc ?_ _ | refine Gr.drew ?_)))) CP_t_m_h0.out).mono ?_
  rintro e u12 ⟨⟨v, rfl, ho⟩, g⟩
  have k : Gr u11 u12 := Gr.trans (by (try show Gr _ _); repeat (with_reducible first | exact Gr.refl _ | refine Gr.drewN ?_ _ | refine Gr.grew ?_ _ _ | refine Gr.alloc ?_ _ | refine Gr.drew ?_)) g
  have Z13 := Lib.hid k.size
  replace B_pm := Lib.hid (B_pm.out.gr k)
  replace B_w0 := Lib.hid (B_w0.out.gr k)
  replace B_xm := Lib.hid (B_xm.out.gr k)
  replace B_g0 := Lib.hid (B_g0.out.gr k)
  replace R_w0 := Lib.hid (R_w0.out.gr k)
  replace R_t_m_h0 := Lib.hid (R_t_m_h0.out.gr k)
  replace M_xm := Lib.hid (M_xm.out.gr k)
  replace M_g0 := Lib.hid (M_g0.out.gr k)
  replace G := Lib.hid (G.out.trans k)
  have R_h0 := Lib.hid ho
  obtain ⟨a_h0, c_h0, rfl, -⟩ := ho.sl
  clear ho g k
  clear R_t_m_h0
  have p_w0_0 := B_w0.out.cellv 0
  go_wp2_with fail
  refine (L_eqAlbum _ _ _ _ _ L _ (R_h0.out.gr (by (try show Gr _ _); repeat (with_reducible first | exact Gr.refl _ | refine Gr.drewN ?_ _ | refine Gr.grew ?_ _ _ | refine Gr.alloc ?_ _ | refine Gr.drew ?_))).psl (R_w0.out.gr (by (try show Gr _ _); repeat (with_reducible first | exact Gr.refl _ | refine Gr.drewN ?_ _ | refine Gr.grew ?_ _ _ | refine Gr.alloc ?_ _ | refine Gr.drew ?_))).psl rfl (by omega)).mono ?_
  rintro e u13 ⟨rfl, g⟩
  clear p_w0_0
  have k : Gr u12 u13 := Gr.trans (by (try show Gr _ _); repeat (with_reducible first | exact Gr.refl _ | refine Gr.drewN ?_ _ | refine Gr.grew ?_ _ _ | refine Gr.alloc ?_ _ | refine Gr.drew ?_)) g
  have Z14 := Lib.hid k.size
  replace B_pm := Lib.hid (B_pm.out.gr k)
  replace B_w0 := Lib.hid (B_w0.out.gr k)
  replace B_xm := Lib.hid (B_xm.out.gr k)
  replace B_g0 := Lib.hid (B_g0.out.gr k)
  replace R_w0 := Lib.hid (R_w0.out.gr k)
  replace R_h0 := Lib.hid (R_h0.out.gr k)
  replace M_xm := Lib.hid (M_xm.out.gr k)
  replace M_g0 := Lib.hid (M_g0.out.gr k)
  replace G := Lib.hid (G.out.trans k)
  have B_h0 := Lib.hid (Blk.gr (show Blk _ (u12.heap.size) [.slice a_h0 L.length c_h0] 50 from (by repeat (with_reducible first | assumption | exact Blk.atNew (by simp) | refine Blk.alloc ?_ _ | refine Blk.grew ?_ _ _ | refine Blk.drewN ?_ _ | refine Blk.drew ?_))) g)
  clear g k
  have p_g0_0 := B_g0.out.cellv 0
  go_wp2_with fail
  refine (L_heldAlbum _ _ _ L.length L 1 _ (M_g0.out.gr (by (try show Gr _ _); repeat (with_reducible first | exact Gr.refl _ | refine Gr.drewN ?_ _ | refine Gr.grew ?_ _ _ | refine Gr.alloc ?_ _ | refine Gr.drew ?_))) rfl (by omega) (by omega) (by omega)).mono ?_
  rintro e u14 ⟨rfl, g⟩
  clear p_g0_0
  have k : Gr u13 u14 := Gr.trans (by (try show Gr _ _); repeat (with_reducible first | exact Gr.refl _ | refine Gr.drewN ?_ _ | refine Gr.grew ?_ _ _ | refine Gr.alloc ?_ _ | refine Gr.drew ?_)) g
  have Z15 := Lib.hid k.size
  replace B_pm := Lib.hid (B_pm.out.gr k)
  replace B_w0 := Lib.hid (B_w0.out.gr k)
  replace B_xm := Lib.hid (B_xm.out.gr k)
  replace B_g0 := Lib.hid (B_g0.out.gr k)
  replace B_h0 := Lib.hid (B_h0.out.gr k)
  replace R_w0 := Lib.hid (R_w0.out.gr k)
  replace R_h0 := Lib.hid (R_h0.out.gr k)
  replace M_xm := Lib.hid (M_xm.out.gr k)
  replace M_g0 := Lib.hid (M_g0.out.gr k)
  replace G := Lib.hid (G.out.trans k)
  clear g k
  go_wp2
  go_ret
  exact ⟨rfl, G.out.trans (by (try show Gr _ _); repeat (with_reducible first | exact Gr.refl _ | refine Gr.drewN ?_ _ | refine Gr.grew ?_ _ _ | refine Gr.alloc ?_ _ | refine Gr.drew ?_))⟩

set_option maxRecDepth 20000 in
set_option maxHeartbeats 1000000 in
theorem L_FnExactSliceAlbum (ma : Option Addr) (mn mc : Nat) (mps : List Pic) (f : Int) (q : Int) (w : World) (fm : PSl w ma mps) (em : mps.length = mn) (lm : mn ≤ maxLen) :
    Calls Try.prog 8 #[.agg #[.slice ma mn mc], .int .i64 f, .int .i64 q] w fun e w' => e = .returned (.bool true) ∧ ∃ os m, w' = w.grew os m := by
  by_cases hnm : (mn + pSum mps mn) ≤ 1048576
  · skip
    exact law_SliceAlbum mn ma mc mps f q _ _ w (slice_len em hnm f q) fm em hnm
        (fun a_m c_m w f_m k_m => S_SliceAlbum a_m mn c_m mps f q w f_m em (by omega)) (fun a_m c_m w f_m k_m => I_SliceAlbum a_m mn c_m mps f q w f_m em (by omega) k_m (fun i hi => Nat.le_trans (alb_len em (Nat.le_refl _) i hi) (by unfold maxLen; omega)))
  · skip
    go_enter Try.func8, Try.ntmps8
    go_wp2_with fail
    refine (L_szAlbum_no _ _ _ mps (1048576) _ (fm.keep (Gr.kp (by (try show Gr _ _); repeat (with_reducible first | exact Gr.refl _ | refine Gr.drewN ?_ _ | refine Gr.grew ?_ _ _ | refine Gr.alloc ?_ _ | refine Gr.drew ?_)))) em (by omega) (by omega) (by omega) lm).mono ?_
    rintro e ul ⟨rfl, g⟩
    have G1 : Gr w ul := Gr.trans (by (try show Gr _ _); repeat (with_reducible first | exact Gr.refl _ | refine Gr.drewN ?_ _ | refine Gr.grew ?_ _ _ | refine Gr.alloc ?_ _ | refine Gr.drew ?_)) g
    clear g
    go_wp2
    go_ret
    exact ⟨rfl, G1⟩

set_option maxRecDepth 100000 in
theorem fnExactSliceAlbum_lifted (os : Os) (started : os.Started) (H : Type) (enc : TypeId × Value → H) :
    ReturnsInHanded {} Try.checked os 8 .any (Rows.fnExactSliceAlbumSpec.pre6 enc Try.prog Try.f8 Rows.fnExactSliceAlbumRow.domain false) (Rows.fnExactSliceAlbumSpec.post enc Try.prog Try.f8 false true false false) := by
  refine returnsInHanded_of_change (C := Try.checked) own started (by kernel_rfl) Try.func8
    (ChangeSpec.witness6 (enc := enc) (C := Try.checked) false ⟨#[], #[.agg #[.slice none 0 0], .int .i64 0, .int .i64 0], []⟩ 12 (by kernel_rfl) (by kernel_rfl) (by kernel_rfl) (by kernel_rfl)) ?_
  intro W base args ds gs before hval0 hW hcnd _
  have hval : ∀ (j : Nat) t v, Try.f8.params[j]? = some t → args[j]? = some v → Value.okWide Try.prog W .any base t v := hval0
  have hW' := hW
  obtain ⟨p, q, hA0, hV, rfl, hfz, hnd⟩ := hW
  have hA : DataW.TrodAll enc Try.prog W 0 (fun _ => true) true Try.f8.params.toList args.toList ds p := hA0
  rw [Try.params8] at hA hval
  obtain ⟨v0, vs0, d0, ds0, p0, q0, ha0, rfl, rfl, h0, r0⟩ := trodAll_cons hA
  obtain ⟨v1, vs1, d1, ds1, p1, q1, rfl, rfl, rfl, h1, r1⟩ := trodAll_cons r0
  obtain ⟨v2, vs2, d2, ds2, p2, q2, rfl, rfl, rfl, h2, r2⟩ := trodAll_cons r1
  obtain ⟨rfl, rfl, rfl⟩ := trodAll_nil r2
  obtain rfl : args = #[v0, v1, v2] := by cases args; simp_all
  obtain ⟨rfl, rfl⟩ := trodVars_none hV
  obtain ⟨ma, mn, mc, mps, rfl, fm, em, lm⟩ := open_album Try.underlying45 (by kernel_rfl) (by kernel_rfl) Try.underlying43 Try.underlying31 (by kernel_rfl) (by kernel_rfl) Try.underlying2 (by kernel_rfl) Try.underlying22 Try.underlying65 (by kernel_rfl) (hval 0 45 v0 rfl rfl) h0
  obtain ⟨f, rfl, -, -, -⟩ := open_int Try.underlying2 (hval 1 2 v1 rfl rfl) h1
  obtain ⟨q, rfl, -, -, -⟩ := open_int Try.underlying2 (hval 2 2 v2 rfl rfl) h2
  refine (L_FnExactSliceAlbum ma mn mc mps f q W fm em lm).mono fun e W' ⟨he, hg⟩ => ?_
  exact ⟨_, he, post_true laidOut (by kernel_rfl) (by kernel_rfl) Try.underlying4 rfl hW' rfl rfl rfl (Gr.below hg)⟩

theorem fnExactSliceAlbum_holds : Rows.FnExactSliceAlbumSaid :=
  OpenClaim.holds_of_wide 8 Try.f8 rfl rfl rfl rfl rfl rfl rfl ⟨rfl, rfl, rfl, rfl, rfl⟩ rfl rfl rfl rfl rfl (by kernel_rfl) Try.func8 (by kernel_rfl)
    (of_decide_eq_true (by kernel_rfl)) (by unfold Func.isWrapper; first | (rw [if_pos (by decide +kernel)]; kernel_rfl) | (rw [if_neg (by decide +kernel)]; exact ⟨rfl, rfl⟩))
    (fun os started H enc _ => fnExactSliceAlbum_lifted os started H enc)
#print axioms fnExactSliceAlbum_holds
end Go.Proofs.Ytaidkokgafojeaa
