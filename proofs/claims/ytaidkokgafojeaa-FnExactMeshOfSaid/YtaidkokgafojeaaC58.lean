/- Contracts: StorePicture. MAXREC -/
import Derived.Test.YtaidkokgafojeaaProg
import Derived.Test.YtaidkokgafojeaaC57
import Derived.Deep.DeepCutAuto
namespace Go.Proofs.Ytaidkokgafojeaa
open Go.RowKit Go.Fx Go.Soft
theorem gPic_nat {W H : Int} {n : Nat} (h : gPic W H n = true) : ∃ w h : Nat, W = w ∧ H = h ∧ w ≤ 24 ∧ h ≤ 24 ∧ 1 ≤ w ∧ 1 ≤ h ∧ n = w * h ∧ n ≤ 576 := by
  have h2 := (gPic_true h).2
  obtain ⟨s1, s2, s3, s4, -, -⟩ := gSize_true (gPic_true h).1
  obtain ⟨w, rfl⟩ := Int.eq_ofNat_of_zero_le (show 0 ≤ W by omega)
  obtain ⟨q, rfl⟩ := Int.eq_ofNat_of_zero_le (show 0 ≤ H by omega)
  exact ⟨w, q, rfl, rfl, by omega, by omega, by omega, by omega, by exact_mod_cast h2, gPic_576 h⟩
set_option maxRecDepth 20000 in
set_option maxHeartbeats 1000000 in
theorem S_StorePicture (W H : Int) (a : Option Addr) (ca : Nat) (xs : List Nat) (w : World) (fx : FSl w a xs.length xs) (hn : xs.length ≤ 1048576) :
    Calls Try.prog 19 #[.agg #[.int .i64 W, .int .i64 H, .slice a xs.length ca]] w
      fun e w' => e = .returned (.tuple #[.string (if gPic W H xs.length then strOfNums (gStore W.toNat H.toNat xs) else ByteArray.empty), .bool (gPic W H xs.length)]) ∧ Gr w w' := by
  have hn' : xs.length ≤ maxLen := by unfold maxLen; omega
  have Fx := Lib.hid fx
  clear fx
  cases hT : gPic W H xs.length
  · go_enter Try.func19, Try.ntmps19
    go_wp2_with (first
      | (go_at_call 66; with_reducible refine (S_l02Is W H a _ ca _ _ _ hn' (by first | (simp (maxDischargeDepth := 12) [go_sem]; done) | (simp (maxDischargeDepth := 12) [go_sem, *]; done)) (by first | (simp (maxDischargeDepth := 12) [go_sem]; done) | (simp (maxDischargeDepth := 12) [go_sem, *]; done)) (by first | (simp (maxDischargeDepth := 12) [go_sem]; done) | (simp (maxDischargeDepth := 12) [go_sem, *]; done))).mono ?_; rintro e w' ⟨rfl, n, rfl⟩; rw [hT]))
    exact bodyPost_ret (v := .tuple #[.string ByteArray.empty, .bool false]) (by simp [results, Try.results19, go_sem] <;> rfl) rfl ⟨rfl, (by (try show Gr _ _); repeat (with_reducible first | exact Gr.refl _ | refine Gr.drewN ?_ _ | refine Gr.grew ?_ _ _ | refine Gr.alloc ?_ _ | refine Gr.drew ?_))⟩
  · obtain ⟨W, H, rfl, rfl, hW, hH, -, -, -, h576⟩ := gPic_nat hT
    simp only [Int.toNat_natCast, if_true]
    go_enter Try.func19, Try.ntmps19
    go_wp2_with (first
      | (go_at_call 66; with_reducible refine (S_l02Is W H a _ ca _ _ _ hn' (by first | (simp (maxDischargeDepth := 12) [go_sem]; done) | (simp (maxDischargeDepth := 12) [go_sem, *]; done)) (by first | (simp (maxDischargeDepth := 12) [go_sem]; done) | (simp (maxDischargeDepth := 12) [go_sem, *]; done)) (by first | (simp (maxDischargeDepth := 12) [go_sem]; done) | (simp (maxDischargeDepth := 12) [go_sem, *]; done))).mono ?_; rintro e w' ⟨rfl, n, rfl⟩; rw [hT])
      | (go_at_call 67; refine (S_l07Store W H _ ca a xs _ (by first | (simp (maxDischargeDepth := 12) [go_sem]; done) | (simp (maxDischargeDepth := 12) [go_sem, *]; done)) (by first | (simp (maxDischargeDepth := 12) [go_sem]; done) | (simp (maxDischargeDepth := 12) [go_sem, *]; done)) (by first | (simp (maxDischargeDepth := 12) [go_sem]; done) | (simp (maxDischargeDepth := 12) [go_sem, *]; done)) (Fx.out.keep (by (repeat (with_reducible first | exact Kp.refl _ | exact kp_same | exact kp_app1 | exact kp_app2 | exact kp_app3 | refine Kp.grew ?_ _ _ | refine Kp.drewN ?_ _ | refine Kp.drew ?_ | refine Kp.alloc ?_ _)))) hW hH h576).mono ?_; rintro e w' ⟨rfl, os, m, rfl⟩))
    exact bodyPost_ret (v := .tuple #[.string (strOfNums (gStore W H xs)), .bool true]) (by simp [results, Try.results19, go_sem]) rfl ⟨rfl, (by (try show Gr _ _); repeat (with_reducible first | exact Gr.refl _ | refine Gr.drewN ?_ _ | refine Gr.grew ?_ _ _ | refine Gr.alloc ?_ _ | refine Gr.drew ?_))⟩
set_option maxRecDepth 20000 in
set_option maxHeartbeats 1000000 in
theorem I_StorePicture (W H : Int) (a : Option Addr) (ca : Nat) (xs : List Nat) (w : World) (fx : FSl w a xs.length xs) (hn : xs.length ≤ 1048576) :
    Calls Try.prog 21 #[.agg #[.int .i64 W, .int .i64 H, .slice a xs.length ca]] w
      fun e w' => e = .returned (.tuple #[.string (if gPic W H xs.length then strOfNums (gStore W.toNat H.toNat xs) else ByteArray.empty), .bool (gPic W H xs.length)]) ∧ Gr w w' := by
  have hn' : xs.length ≤ maxLen := by unfold maxLen; omega
  have Fx := Lib.hid fx
  clear fx
  cases hT : gPic W H xs.length
  · go_enter Try.func21, Try.ntmps21
    go_wp2_with (first
      | (go_at_call 69; with_reducible refine (I_ValidPicture _ _ _ _ _ _ hn').mono ?_; rintro e w' ⟨rfl, os, m, rfl⟩; rw [hT]))
    exact bodyPost_ret (v := .tuple #[.string ByteArray.empty, .bool false]) (by simp [results, Try.results21, go_sem] <;> rfl) rfl ⟨rfl, (by (try show Gr _ _); repeat (with_reducible first | exact Gr.refl _ | refine Gr.drewN ?_ _ | refine Gr.grew ?_ _ _ | refine Gr.alloc ?_ _ | refine Gr.drew ?_))⟩
  · obtain ⟨W, H, rfl, rfl, hW, hH, -, -, -, h576⟩ := gPic_nat hT
    simp only [Int.toNat_natCast, if_true]
    go_enter Try.func21, Try.ntmps21
    go_wp2_with (first
      | (go_at_call 69; with_reducible refine (I_ValidPicture _ _ _ _ _ _ hn').mono ?_; rintro e w' ⟨rfl, os, m, rfl⟩; rw [hT])
      | (go_at_call 70; refine (I_stored W H a ca xs _ (Fx.out.keep (by (repeat (with_reducible first | exact Kp.refl _ | exact kp_same | exact kp_app1 | exact kp_app2 | exact kp_app3 | refine Kp.grew ?_ _ _ | refine Kp.drewN ?_ _ | refine Kp.drew ?_ | refine Kp.alloc ?_ _)))) hW hH h576).mono ?_; rintro e w' ⟨rfl, os2, m2, rfl⟩))
    exact bodyPost_ret (v := .tuple #[.string (strOfNums (gStore W H xs)), .bool true]) (by simp [results, Try.results21, go_sem]) rfl ⟨rfl, (by (try show Gr _ _); repeat (with_reducible first | exact Gr.refl _ | refine Gr.drewN ?_ _ | refine Gr.grew ?_ _ _ | refine Gr.alloc ?_ _ | refine Gr.drew ?_))⟩
end Go.Proofs.Ytaidkokgafojeaa
