/- Contracts: CoarseToFine, the reference. MAXREC -/
import Derived.Test.YtomlfdkcgaogcaaProg
import Derived.Test.YtomlfdkcgaogcaaC91
namespace Go.Proofs.Ytomlfdkcgaogcaa
open Go.RowKit Go.Fx Go.Soft
def gCtfOk (W H U V D L : Int) (n m : Nat) : Bool := gTwo W H U V n m && gIn D 1 8 && gIn L 1 4
def gCtf (W H U V D L : Int) (ls rs : List Nat) : List Nat := if gCtfOk W H U V D L ls.length rs.length then gCoarse (L.toNat - 1) W.toNat H.toNat D.toNat ls rs else []
theorem gSize_mk {W H : Nat} (h1 : 1 ≤ W) (h2 : W ≤ 24) (h3 : 1 ≤ H) (h4 : H ≤ 24) (h5 : W * H ≤ 256) : gSize W H = true := by
  have : (W : Int) * (H : Int) ≤ 256 := by rw [← Int.natCast_mul]; omega
  unfold gSize gIn
  simp [this]
  omega
theorem gVol_mk {W H D n : Nat} (hS : gSize W H = true) (hI : gIn (D : Int) 1 8 = true) (h : n = W * H * D) : gVol W H D n = true := by
  unfold gVol
  rw [hS, hI, h]
  simp
theorem gCtf_len (W H U V D L : Int) (ls rs : List Nat) : (gCtf W H U V D L ls rs).length ≤ 1048576 := by
  unfold gCtf
  split
  · rename_i h
    simp only [gCtfOk, gTwo, Bool.and_eq_true] at h
    obtain ⟨s1, s2, s3, s4, s5, s6⟩ := gSize_true (gPic_true h.1.1.1).1
    rw [gCoarse_length]
    have : W.toNat * H.toNat ≤ 24 * 24 := Nat.mul_le_mul (by omega) (by omega)
    omega
  · simp
set_option maxRecDepth 20000 in
set_option maxHeartbeats 2000000 in
theorem S_l03Pair (W H U V D : Int) (a b : Option Addr) (ca cb g1 g2 : Nat) (xs ys : List Nat) (w : World) (hn : xs.length ≤ maxLen) (hm : ys.length ≤ maxLen) (m1 : MP w g1 W H a xs.length ca xs) (m2 : MP w g2 U V b ys.length cb ys) :
    Calls Try.prog 59 #[.pointer (some ⟨g1, 0, none⟩), .pointer (some ⟨g2, 0, none⟩), .int .i64 D] w fun e w' => e = .returned (.bool (gTwo W H U V xs.length ys.length && gIn D 1 8)) ∧ ∃ n, w' = w.drewN n := by
  obtain ⟨a0, a1, a2, -⟩ := m1
  obtain ⟨b0, b1, b2, -⟩ := m2
  rcases (show (gPic W H xs.length = false) ∨ (gPic W H xs.length = true ∧ gPic U V ys.length = false) ∨ (gPic W H xs.length = true ∧ gPic U V ys.length = true ∧ (W == U) = false) ∨ (gPic W H xs.length = true ∧ gPic U V ys.length = true ∧ (W == U) = true ∧ (H == V) = false) ∨ (gPic W H xs.length = true ∧ gPic U V ys.length = true ∧ (W == U) = true ∧ (H == V) = true ∧ gIn D 1 8 = false) ∨ (gPic W H xs.length = true ∧ gPic U V ys.length = true ∧ (W == U) = true ∧ (H == V) = true ∧ gIn D 1 8 = true) by cases gPic W H xs.length <;> cases gPic U V ys.length <;> cases (W == U) <;> cases (H == V) <;> cases gIn D 1 8 <;> simp) with t1 | ⟨t1, t2⟩ | ⟨t1, t2, t3⟩ | ⟨t1, t2, t3, t4⟩ | ⟨t1, t2, t3, t4, t5⟩ | ⟨t1, t2, t3, t4, t5⟩
  all_goals
    try (
      have v12 := vol_small (gPic_true t1).1 t5
      obtain ⟨s1, s2, s3, s4, s5, s6⟩ := gSize_true (gPic_true t1).1
      obtain ⟨v1, v2⟩ := v12
      have e1 : IntKind.i64.wrap (W * H) = W * H := IntWalk.i64_in _ (by omega)
      have e2 : IntKind.i64.wrap (W * H * D) = W * H * D := IntWalk.i64_in _ (by omega)
      clear v1 s1 s2 s3 s4 s5 s6)
    go_enter Try.func59, Try.ntmps59
    go_wp2
    apply region_drew 46
    case hm => kernel_rfl
    case hB => kernel_rfl
    simp only [List.take_succ_cons, List.take_zero, List.drop_succ_cons, List.drop_zero]
    repeat (first
      | ((with_reducible apply wpSoft_calleq (f := 99)); (case hw => rfl); (case hc => exact Try.call99); (case hv => ((conv => lhs; simp [Act.eval]); try rfl)); (case hS => (rintro _ ⟨m, rfl⟩; with_reducible refine (S_l02Is W H a _ ca g1 0 _ hn (by simp [go_sem, a0]) (by simp [go_sem, a1]) (by simp [go_sem, a2])).mono ?_; rintro e w' ⟨rfl, n, rfl⟩; exact ⟨rfl, ⟨_, World.drewN_drewN _ _ _⟩⟩)); (simp only [Act.put, List.setIfInBounds_toArray, List.set_cons_succ, List.set_cons_zero]; try simp only [t1]))
      | ((with_reducible apply wpSoft_calleq (f := 99)); (case hw => rfl); (case hc => exact Try.call99); (case hv => ((conv => lhs; simp [Act.eval]); try rfl)); (case hS => (rintro _ ⟨m, rfl⟩; with_reducible refine (S_l02Is U V b _ cb g2 0 _ hm (by simp [go_sem, b0]) (by simp [go_sem, b1]) (by simp [go_sem, b2])).mono ?_; rintro e w' ⟨rfl, n, rfl⟩; exact ⟨rfl, ⟨_, World.drewN_drewN _ _ _⟩⟩)); (simp only [Act.put, List.setIfInBounds_toArray, List.set_cons_succ, List.set_cons_zero]; try simp only [t2]))
      | ((with_reducible apply wpSoft_calleq (f := 60)); (case hw => rfl); (case hc => exact Try.call60); (case hv => ((conv => lhs; simp [Act.eval]); try rfl)); (case hS => (rintro _ ⟨m, rfl⟩; with_reducible refine (S_l00In _ _ _ _).mono ?_; rintro e w' ⟨rfl, rfl⟩; exact ⟨rfl, ⟨_, rfl⟩⟩)); (simp only [Act.put, List.setIfInBounds_toArray, List.set_cons_succ, List.set_cons_zero]; try simp only [t5]))
      | (apply wpSoft_skip rfl; simp only [Act.put, List.setIfInBounds_toArray, List.set_cons_succ, List.set_cons_zero])
      | (apply wpSoft_nilCheck rfl rfl; simp only [Act.put, List.setIfInBounds_toArray, List.set_cons_succ, List.set_cons_zero])
      | ((with_reducible apply wpSoft_fop); (case hw => rfl); (case hD => exact closed_drew); (case hop => rfl); (case hx => rfl); (case hy => rfl); (case hA => (first | assumption | exact FE.ofInt _ _ | exact FE.lit (by decide +kernel))); (case hB => (first | assumption | exact FE.ofInt _ _ | exact FE.lit (by decide +kernel))); (intro r hr; simp only [Act.put, List.setIfInBounds_toArray, List.set_cons_succ, List.set_cons_zero]))

      | ((with_reducible apply wpSoft_widen); (case hw => rfl); (case hD => exact closed_drew); (case hs => exact Try.underlying25); (case hd => exact Try.underlying61); (case hx => rfl); (case hA => (first | assumption | exact FE.ofInt _ _ | exact FE.lit (by decide +kernel))); (intro r hr; simp only [Act.put, List.setIfInBounds_toArray, List.set_cons_succ, List.set_cons_zero]))
      | ((with_reducible apply wpSoft_fneg); (case hw => rfl); (case hx => rfl); (case hA => (first | assumption | exact FE.ofInt _ _ | exact FE.lit (by decide +kernel))); (intro r hr; simp only [Act.put, List.setIfInBounds_toArray, List.set_cons_succ, List.set_cons_zero]))
      | ((with_reducible apply wpSoft_fcmp); (case hw => rfl); (case hop => rfl); (case hx => rfl); (case hy => rfl); (case hA => (first | assumption | exact FE.ofInt _ _ | exact FE.lit (by decide +kernel))); (case hB => (first | assumption | exact FE.ofInt _ _ | exact FE.lit (by decide +kernel))); (case hb => (first | assumption | rfl)); simp only [Act.put, List.setIfInBounds_toArray, List.set_cons_succ, List.set_cons_zero])
      | (apply wpSoft_q rfl rfl; intro K hK; go_big_quiet_op; go_big_quiet_on))
    with_reducible apply wpSoft_nil
    intro m
    go_wp2
    go_ret
    exact ⟨by simp [gTwo, *], (by first | exact ⟨0, rfl⟩ | exact ⟨_, rfl⟩)⟩
set_option maxRecDepth 20000 in
set_option maxHeartbeats 2000000 in
theorem S_CoarseToFine (W H U V D L : Int) (a b : Option Addr) (ca cb : Nat) (ls rs : List Nat) (w : World) (fx : FSl w a ls.length ls) (fy : FSl w b rs.length rs) (hn : ls.length ≤ 1048576) (hm : rs.length ≤ 1048576) :
    Calls Try.prog 28 #[.agg #[.int .i64 W, .int .i64 H, .slice a ls.length ca], .agg #[.int .i64 U, .int .i64 V, .slice b rs.length cb], .int .i64 D, .int .i64 L] w
      (PostP w (gW (gCtfOk W H U V D L ls.length rs.length) W) (gW (gCtfOk W H U V D L ls.length rs.length) H) (gCtfOk W H U V D L ls.length rs.length) (gCtf W H U V D L ls rs)) := by
  have hn' : ls.length ≤ maxLen := by unfold maxLen; omega
  have hm' : rs.length ≤ maxLen := by unfold maxLen; omega
  have Fx := Lib.hid fx
  have Fy := Lib.hid fy
  clear fx fy
  unfold gCtf
  have HPr := Lib.hid (fun (u : World) (g1 g2 : Nat) (m1 : MP u g1 W H a ls.length ca ls) (m2 : MP u g2 U V b rs.length cb rs) => S_l03Pair W H U V D a b ca cb g1 g2 ls rs u hn' hm' m1 m2)
  cases hT : gCtfOk W H U V D L ls.length rs.length
  · have h2 : (gTwo W H U V ls.length rs.length && gIn D 1 8) = false ∨ ((gTwo W H U V ls.length rs.length && gIn D 1 8) = true ∧ gIn L 1 4 = false) := by
      unfold gCtfOk at hT
      cases h : (gTwo W H U V ls.length rs.length && gIn D 1 8) <;> simp [h] at hT ⊢
      exact hT
    simp only [Bool.false_eq_true, if_false]
    rcases h2 with t1 | ⟨t1, t2⟩
    all_goals
      clear hT
      go_enter Try.func28, Try.ntmps28
      go_wp2_with fail
      refine (HPr.out _ _ _ ⟨(by first | (simp (maxDischargeDepth := 12) [go_sem]; done) | (simp (maxDischargeDepth := 12) [go_sem, *]; done)), (by first | (simp (maxDischargeDepth := 12) [go_sem]; done) | (simp (maxDischargeDepth := 12) [go_sem, *]; done)), (by first | (simp (maxDischargeDepth := 12) [go_sem]; done) | (simp (maxDischargeDepth := 12) [go_sem, *]; done)), Fx.out.keep (by (repeat (with_reducible first | exact Kp.refl _ | exact kp_same | exact kp_app1 | exact kp_app2 | exact kp_app3 | refine Kp.grew ?_ _ _ | refine Kp.drewN ?_ _ | refine Kp.drew ?_ | refine Kp.alloc ?_ _)))⟩ ⟨(by first | (simp (maxDischargeDepth := 12) [go_sem]; done) | (simp (maxDischargeDepth := 12) [go_sem, *]; done)), (by first | (simp (maxDischargeDepth := 12) [go_sem]; done) | (simp (maxDischargeDepth := 12) [go_sem, *]; done)), (by first | (simp (maxDischargeDepth := 12) [go_sem]; done) | (simp (maxDischargeDepth := 12) [go_sem, *]; done)), Fy.out.keep (by (repeat (with_reducible first | exact Kp.refl _ | exact kp_same | exact kp_app1 | exact kp_app2 | exact kp_app3 | refine Kp.grew ?_ _ _ | refine Kp.drewN ?_ _ | refine Kp.drew ?_ | refine Kp.alloc ?_ _)))⟩).mono ?_
      rintro e w' ⟨rfl, n, rfl⟩
      rw [t1]
      go_wp2_with (first
      | (go_at_call 60; with_reducible refine (S_l00In _ _ _ _).mono ?_; rintro e w' ⟨rfl, hw⟩; (obtain rfl := hw.symm; rw [t2])))
      exact bodyPost_ret (v := .tuple #[.agg #[.int .i64 0, .int .i64 0, .slice none 0 0], .bool false]) (by simp [results, Try.results28, go_sem]) rfl ⟨⟨_, rfl, FOwn.nil _ _ _⟩, (by (try show Gr _ _); repeat (with_reducible first | exact Gr.refl _ | refine Gr.drewN ?_ _ | refine Gr.grew ?_ _ _ | refine Gr.alloc ?_ _ | refine Gr.drew ?_))⟩
  · have hT' := hT
    simp only [gCtfOk, gTwo, Bool.and_eq_true, beq_iff_eq] at hT'
    obtain ⟨⟨⟨hP, hQ, rfl, rfl⟩, hI⟩, hL⟩ := hT'
    have t1 : (gTwo W H W H ls.length rs.length && gIn D 1 8) = true := by simp [gTwo, hP, hQ, hI]
    have hp1 := (gPic_true hP).2
    have hp2 := (gPic_true hQ).2
    obtain ⟨s1, s2, s3, s4, s5, s6⟩ := gSize_true (gPic_true hP).1
    obtain ⟨W, rfl⟩ := Int.eq_ofNat_of_zero_le (show 0 ≤ W by omega)
    obtain ⟨H, rfl⟩ := Int.eq_ofNat_of_zero_le (show 0 ≤ H by omega)
    have hd : 1 ≤ D ∧ D ≤ 8 := by unfold gIn at hI; simp at hI; omega
    have hl4 : 1 ≤ L ∧ L ≤ 4 := by unfold gIn at hL; simp at hL; omega
    obtain ⟨D, rfl⟩ := Int.eq_ofNat_of_zero_le (show 0 ≤ D by omega)
    obtain ⟨k, hk⟩ : ∃ k : Nat, L = ((k + 1 : Nat) : Int) := ⟨L.toNat - 1, by omega⟩
    have hll : ls.length = W * H := by exact_mod_cast hp1
    have hrl : rs.length = W * H := by exact_mod_cast hp2
    have hA : W * H ≤ 256 := by have := s5; rw [← Int.natCast_mul] at this; omega
    have HCo := Lib.hid (fun (u : World) (b1 b2 : Nat) (m1 : MP u b1 W H a ls.length ca ls) (m2 : MP u b2 W H b rs.length cb rs) => S_l05Coarse k W H D b1 b2 ca cb a b ls rs u m1 m2 (by omega) (by omega) (by omega) (by omega) hA (by omega) (by omega) hll hrl (by omega))
    rw [← hk] at HCo
    rw [if_pos rfl, show L.toNat - 1 = k by omega, Int.toNat_natCast, Int.toNat_natCast, Int.toNat_natCast]
    obtain ⟨G, hG⟩ : ∃ G, G = gCoarse k W H D ls rs := ⟨_, rfl⟩
    rw [← hG] at HCo ⊢
    clear hT hP hQ hI hp1 hp2 s5 s6 hk hll hrl hA hG
    go_enter Try.func28, Try.ntmps28
    go_wp2_with fail
    refine (HPr.out _ _ _ ⟨(by first | (simp (maxDischargeDepth := 12) [go_sem]; done) | (simp (maxDischargeDepth := 12) [go_sem, *]; done)), (by first | (simp (maxDischargeDepth := 12) [go_sem]; done) | (simp (maxDischargeDepth := 12) [go_sem, *]; done)), (by first | (simp (maxDischargeDepth := 12) [go_sem]; done) | (simp (maxDischargeDepth := 12) [go_sem, *]; done)), Fx.out.keep (by (repeat (with_reducible first | exact Kp.refl _ | exact kp_same | exact kp_app1 | exact kp_app2 | exact kp_app3 | refine Kp.grew ?_ _ _ | refine Kp.drewN ?_ _ | refine Kp.drew ?_ | refine Kp.alloc ?_ _)))⟩ ⟨(by first | (simp (maxDischargeDepth := 12) [go_sem]; done) | (simp (maxDischargeDepth := 12) [go_sem, *]; done)), (by first | (simp (maxDischargeDepth := 12) [go_sem]; done) | (simp (maxDischargeDepth := 12) [go_sem, *]; done)), (by first | (simp (maxDischargeDepth := 12) [go_sem]; done) | (simp (maxDischargeDepth := 12) [go_sem, *]; done)), Fy.out.keep (by (repeat (with_reducible first | exact Kp.refl _ | exact kp_same | exact kp_app1 | exact kp_app2 | exact kp_app3 | refine Kp.grew ?_ _ _ | refine Kp.drewN ?_ _ | refine Kp.drew ?_ | refine Kp.alloc ?_ _)))⟩).mono ?_
    rintro e w' ⟨rfl, n, rfl⟩
    rw [t1]
    go_wp2_with (first | (go_at_call 60; with_reducible refine (S_l00In _ _ _ _).mono ?_; rintro e w' ⟨rfl, hw⟩; (obtain rfl := hw.symm; rw [hL])))
    refine (HCo.out _ _ _ ⟨(by first | (simp (maxDischargeDepth := 12) [go_sem]; done) | (simp (maxDischargeDepth := 12) [go_sem, *]; done)), (by first | (simp (maxDischargeDepth := 12) [go_sem]; done) | (simp (maxDischargeDepth := 12) [go_sem, *]; done)), (by first | (simp (maxDischargeDepth := 12) [go_sem]; done) | (simp (maxDischargeDepth := 12) [go_sem, *]; done)), Fx.out.keep (by (repeat (with_reducible first | exact Kp.refl _ | exact kp_same | exact kp_app1 | exact kp_app2 | exact kp_app3 | refine Kp.grew ?_ _ _ | refine Kp.drewN ?_ _ | refine Kp.drew ?_ | refine Kp.alloc ?_ _)))⟩ ⟨(by first | (simp (maxDischargeDepth := 12) [go_sem]; done) | (simp (maxDischargeDepth := 12) [go_sem, *]; done)), (by first | (simp (maxDischargeDepth := 12) [go_sem]; done) | (simp (maxDischargeDepth := 12) [go_sem, *]; done)), (by first | (simp (maxDischargeDepth := 12) [go_sem]; done) | (simp (maxDischargeDepth := 12) [go_sem, *]; done)), Fy.out.keep (by (repeat (with_reducible first | exact Kp.refl _ | exact kp_same | exact kp_app1 | exact kp_app2 | exact kp_app3 | refine Kp.grew ?_ _ _ | refine Kp.drewN ?_ _ | refine Kp.drew ?_ | refine Kp.alloc ?_ _)))⟩).mono ?_
    rintro e u1 ⟨⟨v, rfl, ho⟩, g⟩
    obtain ⟨a1, c1, rfl, -, -⟩ := ho.sl' G.length rfl
    have B2 := Lib.hid (Blk.gr (show Blk _ (w.heap.size + 1 + 1) [.int .i64 0, .int .i64 0, .slice none 0 0] 30 from (by repeat (with_reducible first | assumption | exact Blk.atNew (by simp) | refine Blk.alloc ?_ _ | refine Blk.grew ?_ _ _ | refine Blk.drewN ?_ _ | refine Blk.drew ?_))) g)
    have G1 := Lib.hid (Gr.trans (show Gr w _ from (by (try show Gr _ _); repeat (with_reducible first | exact Gr.refl _ | refine Gr.drewN ?_ _ | refine Gr.grew ?_ _ _ | refine Gr.alloc ?_ _ | refine Gr.drew ?_))) g)
    have Ho := Lib.hid ho
    have q0 := B2.out.cellv 0
    have q1 := B2.out.cellv 1
    have q2 := B2.out.cellv 2
    have z0 := B2.out.frozen 0
    have z1 := B2.out.frozen 1
    have z2 := B2.out.frozen 2
    clear g ho
    go_wp2
    refine bodyPost_ret (v := .tuple #[.agg #[.int .i64 W, .int .i64 H, .slice a1 G.length c1], .bool true]) (by simp [results, Try.results28, go_sem, *]) rfl ⟨⟨_, rfl, ?_⟩, ?_⟩
    · have h := Ho.out.base (B' := w.heap.size + 1 + 1 + 1) (by simp)
      exact FOwn.base (B := w.heap.size + 1 + 1 + 1) (by repeat (with_reducible first | assumption | refine FOwn.setOther ?_ _ (by simp <;> omega))) (by omega)
    · have h := G1.out
      exact (by repeat (with_reducible first | assumption | refine Gr.setCell ?_ (by simp <;> omega) _))
end Go.Proofs.Ytomlfdkcgaogcaa
