/- Contracts: CoarseToFine, the program, for all inputs. MAXREC -/
import Derived.Test.YtomlfdkcgaogcaaProg
import Derived.Test.YtomlfdkcgaogcaaC93
namespace Go.Proofs.Ytomlfdkcgaogcaa
open Go.RowKit Go.Fx Go.Soft
set_option maxRecDepth 20000 in
set_option maxHeartbeats 4000000 in
theorem I_CoarseToFine (W H U V D L : Int) (a b : Option Addr) (ca cb : Nat) (ls rs : List Nat) (w : World) (fx : FSl w a ls.length ls) (fy : FSl w b rs.length rs) (hn : ls.length ≤ 1048576) (hm : rs.length ≤ 1048576) :
    Calls Try.prog 30 #[.agg #[.int .i64 W, .int .i64 H, .slice a ls.length ca], .agg #[.int .i64 U, .int .i64 V, .slice b rs.length cb], .int .i64 D, .int .i64 L] w
      (PostP w (gW (gCtfOk W H U V D L ls.length rs.length) W) (gW (gCtfOk W H U V D L ls.length rs.length) H) (gCtfOk W H U V D L ls.length rs.length) (gCtf W H U V D L ls rs)) := by
  have hn' : ls.length ≤ maxLen := by unfold maxLen; omega
  have hm' : rs.length ≤ maxLen := by unfold maxLen; omega
  unfold gCtf
  cases hT : gCtfOk W H U V D L ls.length rs.length
  · have h2 : (gTwo W H U V ls.length rs.length && gIn D 1 8) = false ∨ ((gTwo W H U V ls.length rs.length && gIn D 1 8) = true ∧ gIn L 1 4 = false) := by
      unfold gCtfOk at hT
      cases h : (gTwo W H U V ls.length rs.length && gIn D 1 8) <;> simp [h] at hT ⊢
      exact hT
    simp only [Bool.false_eq_true, if_false]
    rcases h2 with t1 | ⟨t1, t2⟩
    · have HN := Lib.hid (fun (u : World) => I_SquareVolume_no W H U V D a b ls.length rs.length ca cb u hn' hm' t1)
      clear hT t1 fx fy
      go_enter Try.func30, Try.ntmps30
      go_wp2_with fail
      refine (HN.out _).mono ?_
      rintro e u1 ⟨rfl, g⟩
      have B1 := Lib.hid (Blk.gr (show Blk _ (w.heap.size + 1 + 1) [.int .i64 0, .int .i64 0, .slice none 0 0] 30 from (by repeat (with_reducible first | assumption | exact Blk.atNew (by simp) | refine Blk.alloc ?_ _ | refine Blk.grew ?_ _ _ | refine Blk.drewN ?_ _ | refine Blk.drew ?_))) g)
      have h := Gr.trans (show Gr w _ from (by (try show Gr _ _); repeat (with_reducible first | exact Gr.refl _ | refine Gr.drewN ?_ _ | refine Gr.grew ?_ _ _ | refine Gr.alloc ?_ _ | refine Gr.drew ?_))) g
      have hb := B1.out.lt
      have q0 := B1.out.cellv 0
      have q1 := B1.out.cellv 1
      have q2 := B1.out.cellv 2
      have z0 := B1.out.frozen 0
      have z1 := B1.out.frozen 1
      have z2 := B1.out.frozen 2
      clear g
      go_wp2
      refine bodyPost_ret (v := .tuple #[.agg #[.int .i64 0, .int .i64 0, .slice none 0 0], .bool false]) (by simp [results, Try.results30, go_sem, *]) rfl ⟨⟨_, rfl, FOwn.nil _ _ _⟩, ?_⟩
      repeat (with_reducible first | assumption | refine Gr.setCell ?_ (by simp <;> omega) _ | refine Gr.alloc ?_ _ | refine Gr.drewN ?_ _)
    · have t1' := t1
      simp only [gTwo, Bool.and_eq_true, beq_iff_eq] at t1'
      obtain ⟨⟨hP, hQ, rfl, rfl⟩, hI⟩ := t1'
      have h2 : gTwo W H W H ls.length rs.length = true := by simp [gTwo, hP, hQ]
      have hp1 := (gPic_true hP).2
      have hp2 := (gPic_true hQ).2
      have hS := (gPic_true hP).1
      obtain ⟨s1, s2, s3, s4, s5, s6⟩ := gSize_true hS
      obtain ⟨W, rfl⟩ := Int.eq_ofNat_of_zero_le (show 0 ≤ W by omega)
      obtain ⟨H, rfl⟩ := Int.eq_ofNat_of_zero_le (show 0 ≤ H by omega)
      have hd : 1 ≤ D ∧ D ≤ 8 := by unfold gIn at hI; simp at hI; omega
      obtain ⟨D, rfl⟩ := Int.eq_ofNat_of_zero_le (show 0 ≤ D by omega)
      have hll : ls.length = W * H := by exact_mod_cast hp1
      have hrl : rs.length = W * H := by exact_mod_cast hp2
      have HQ := Lib.hid (fun (u : World) (f1 : FSl u a ls.length ls) (f2 : FSl u b rs.length rs) => I_SquareVolume_ok W H D ca cb a b ls rs u f1 f2 hn' hm' hS h2 hI hll hrl)
      have Fx := Lib.hid fx
      have Fy := Lib.hid fy
      have HL := Lib.hid t2
      clear hT t1 t2 fx fy h2 hP hQ hI hp1 hp2 hS s5 s6 hll hrl
      go_enter Try.func30, Try.ntmps30
      go_wp2_with fail
      refine (HQ.out _ (Fx.out.keep (by (repeat (with_reducible first | exact Kp.refl _ | exact kp_same | exact kp_app1 | exact kp_app2 | exact kp_app3 | refine Kp.grew ?_ _ _ | refine Kp.drewN ?_ _ | refine Kp.drew ?_ | refine Kp.alloc ?_ _)))) (Fy.out.keep (by (repeat (with_reducible first | exact Kp.refl _ | exact kp_same | exact kp_app1 | exact kp_app2 | exact kp_app3 | refine Kp.grew ?_ _ _ | refine Kp.drewN ?_ _ | refine Kp.drew ?_ | refine Kp.alloc ?_ _))))).mono ?_
      rintro e u1 ⟨⟨a1, c1, rfl, -⟩, g⟩
      have B1 := Lib.hid (Blk.gr (show Blk _ (w.heap.size + 1 + 1) [.int .i64 0, .int .i64 0, .slice none 0 0] 30 from (by repeat (with_reducible first | assumption | exact Blk.atNew (by simp) | refine Blk.alloc ?_ _ | refine Blk.grew ?_ _ _ | refine Blk.drewN ?_ _ | refine Blk.drew ?_))) g)
      have h := Gr.trans (show Gr w _ from (by (try show Gr _ _); repeat (with_reducible first | exact Gr.refl _ | refine Gr.drewN ?_ _ | refine Gr.grew ?_ _ _ | refine Gr.alloc ?_ _ | refine Gr.drew ?_))) g
      have hb := B1.out.lt
      have q0 := B1.out.cellv 0
      have q1 := B1.out.cellv 1
      have q2 := B1.out.cellv 2
      have z0 := B1.out.frozen 0
      have z1 := B1.out.frozen 1
      have z2 := B1.out.frozen 2
      clear g
      go_wp2_with (first | (go_at_call 63; with_reducible refine (I_in _ _ _ _).mono ?_; rintro e w' ⟨rfl, hw⟩; (obtain rfl := hw.symm; rw [HL.out])))
      refine bodyPost_ret (v := .tuple #[.agg #[.int .i64 0, .int .i64 0, .slice none 0 0], .bool false]) (by simp [results, Try.results30, go_sem, *]) rfl ⟨⟨_, rfl, FOwn.nil _ _ _⟩, ?_⟩
      repeat (with_reducible first | assumption | refine Gr.setCell ?_ (by simp <;> omega) _ | refine Gr.alloc ?_ _ | refine Gr.drewN ?_ _)
  · have hT' := hT
    simp only [gCtfOk, gTwo, Bool.and_eq_true, beq_iff_eq] at hT'
    obtain ⟨⟨⟨hP, hQ, rfl, rfl⟩, hI⟩, hL⟩ := hT'
    have hp1 := (gPic_true hP).2
    have hp2 := (gPic_true hQ).2
    obtain ⟨s1, s2, s3, s4, s5, s6⟩ := gSize_true (gPic_true hP).1
    obtain ⟨W, rfl⟩ := Int.eq_ofNat_of_zero_le (show 0 ≤ W by omega)
    obtain ⟨H, rfl⟩ := Int.eq_ofNat_of_zero_le (show 0 ≤ H by omega)
    have hd : 1 ≤ D ∧ D ≤ 8 := by unfold gIn at hI; simp at hI; omega
    have hl4 : 1 ≤ L ∧ L ≤ 4 := by unfold gIn at hL; simp at hL; omega
    obtain ⟨D, rfl⟩ := Int.eq_ofNat_of_zero_le (show 0 ≤ D by omega)
    obtain ⟨k, hk⟩ : ∃ k : Nat, L = ((k + 1 : Nat) : Int) := ⟨L.toNat - 1, by omega⟩
    have hll : ls.length = W * H := by exact_mod_cast hp1
    have hrl : rs.length = W * H := by exact_mod_cast hp2
    have hA : W * H ≤ 256 := by have := s5; rw [← Int.natCast_mul] at this; omega
    rw [if_pos rfl, show L.toNat - 1 = k by omega, Int.toNat_natCast, Int.toNat_natCast, Int.toNat_natCast, hk]
    exact I_Ctf k W H D ca cb a b ls rs w fx fy (by omega) (by omega) (by omega) (by omega) hA (by omega) (by omega) hll hrl (by omega)
end Go.Proofs.Ytomlfdkcgaogcaa
