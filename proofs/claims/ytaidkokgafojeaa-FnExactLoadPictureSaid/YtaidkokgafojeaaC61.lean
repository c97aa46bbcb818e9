/- Contracts: a stored picture is read (the program). MAXREC -/
import Derived.Test.YtaidkokgafojeaaProg
import Derived.Test.YtaidkokgafojeaaC60
import Derived.Deep.DeepCutAuto
import Derived.Deep.RegionHeld3
namespace Go.Proofs.Ytaidkokgafojeaa
open Go.RowKit Go.Fx Go.Soft
theorem eye_prefix {s : ByteArray} (h : 4 ≤ s.size) : Lib.hasPrefix s.data.toList (⟨#[69, 89, 69, 49]⟩ : ByteArray).data.toList = decide (s.extract 0 4 = eye1) := by
  have key : (s.extract 0 4).data.toList = s.data.toList.take 4 := by simp
  have e1 : (⟨#[69, 89, 69, 49]⟩ : ByteArray).data.toList = [69, 89, 69, 49] := rfl
  rw [Bool.eq_iff_iff, e1]
  show List.isPrefixOf [69, 89, 69, 49] s.data.toList = true ↔ _
  rw [List.isPrefixOf_iff_prefix, List.prefix_iff_eq_take, decide_eq_true_iff]
  constructor
  · intro h'
    apply ByteArray.ext
    apply Array.toList_inj.1
    rw [key]
    exact h'.symm
  · intro h'
    show _ = s.data.toList.take 4
    rw [← key, h']
    rfl
set_option maxRecDepth 20000 in
set_option maxHeartbeats 8000000 in
theorem I_load (s : ByteArray) (w : World) (hs : s.size ≤ 1048576) :
    Calls Try.prog 72 #[.string s] w (PostLd s w) := by
  by_cases h6 : s.size < 6
  · have hno : gLdOk s = false := by unfold gLdOk gHead; rw [decide_eq_false (by omega)]; rfl
    go_enter Try.func72, Try.ntmps72
    go_wp2
    exact bodyPost_ret (v := .tuple #[.agg #[.int .i64 0, .int .i64 0, .slice none 0 0], .int .i64 0, .bool false]) (by simp [results, Try.results72, go_sem]) rfl ⟨0, 0, 0, false, _, [], rfl, FOwn.nil _ _ _, hid_no hno, hid_not hno, (by (try show Gr _ _); repeat (with_reducible first | exact Gr.refl _ | refine Gr.drewN ?_ _ | refine Gr.grew ?_ _ _ | refine Gr.alloc ?_ _ | refine Gr.drew ?_))⟩
  have hq := eye_prefix (s := s) (by omega)
  cases hp : decide (s.extract 0 4 = eye1)
  · have hno : gLdOk s = false := by unfold gLdOk gHead; rw [hp]; simp
    rw [hp] at hq
    go_enter Try.func72, Try.ntmps72
    go_wp2_with (first
      | (go_at_call 126; refine (str_HasPrefix s _ _).mono ?_; rintro e w' ⟨rfl, rfl⟩; rw [hq]))
    exact bodyPost_ret (v := .tuple #[.agg #[.int .i64 0, .int .i64 0, .slice none 0 0], .int .i64 0, .bool false]) (by simp [results, Try.results72, go_sem]) rfl ⟨0, 0, 0, false, _, [], rfl, FOwn.nil _ _ _, hid_no hno, hid_not hno, (by (try show Gr _ _); repeat (with_reducible first | exact Gr.refl _ | refine Gr.drewN ?_ _ | refine Gr.grew ?_ _ _ | refine Gr.alloc ?_ _ | refine Gr.drew ?_))⟩
  rw [hp] at hq
  have l4 : 4 < s.size := by omega
  have l5 : 5 < s.size := by omega
  have EW := Lib.hid (gB_eq l4)
  have EH := Lib.hid (gB_eq l5)
  have bW := gB_lt s 4
  have bH := gB_lt s 5
  obtain ⟨W, hW⟩ : ∃ W, W = gB s 4 := ⟨_, rfl⟩
  obtain ⟨H, hH⟩ : ∃ H, H = gB s 5 := ⟨_, rfl⟩
  have HW := Lib.hid hW
  have HH := Lib.hid hH
  rw [← hW] at EW bW
  rw [← hH] at EH bH
  have q4 : (s[4]'l4).toNat = W := EW.out.symm
  have q5 : (s[5]'l5).toNat = H := EH.out.symm
  clear hW hH
  obtain ⟨n, hn⟩ : ∃ n, n = W * H := ⟨_, rfl⟩
  have HNW := Lib.hid hn
  have hb : n ≤ 255 * 255 := by rw [hn]; exact Nat.mul_le_mul (by omega) (by omega)
  have w2 : IntKind.i64.wrap (4 * (W : Int) * (H : Int)) = 4 * (n : Int) := by
    have e : 4 * (W : Int) * (H : Int) = ((4 * n : Nat) : Int) := by rw [hn, Int.mul_assoc, ← Int.natCast_mul]; rfl
    rw [e]; exact IntWalk.i64_in _ (by omega)
  clear hn
  have HP := Lib.hid hp
  clear hp
  go_enter Try.func72, Try.ntmps72
  go_upto_region 3 with (first | (go_at_call 126; refine (str_HasPrefix s _ _).mono ?_; rintro e w' ⟨rfl, rfl⟩; rw [hq]))
  go_cut [5, 6] (fun x5 x6 wx => x5 = .pointer (some ⟨w.heap.size + 2, 0, none⟩) ∧ x6 = .int .i64 H ∧ Blk wx (w.heap.size + 2) [.int .i64 W] 2 ∧ Blk wx w.heap.size [.string s] 9 ∧ Blk wx (w.heap.size + 1) [.int .i64 0, .int .i64 0, .slice none 0 0] 35 ∧ Gr w wx)
  case first =>
    have eH : IntKind.i64.wrap (H : Int) = (H : Int) := IntWalk.i64_in _ (by omega)
    have eW : IntKind.i64.wrap (W : Int) = (W : Int) := IntWalk.i64_in _ (by omega)
    go_region_held3 (fun w' => w'.cell? ⟨w.heap.size, 0, none⟩ = some (.string s))
      (first | (simp (maxDischargeDepth := 12) [go_sem]; done) | (simp (maxDischargeDepth := 12) [go_sem, *]; done)) (first
      | fail)
    all_goals (go_wp2_with fail; go_meet; (try simp only [eH, eW]); exact ⟨(by first | rfl | trivial), (by first | rfl | trivial), (by repeat (with_reducible first | assumption | exact Blk.atNew (by simp) | refine Blk.alloc ?_ _ | refine Blk.grew ?_ _ _ | refine Blk.drewN ?_ _ | refine Blk.drew ?_)), (by repeat (with_reducible first | assumption | exact Blk.atNew (by simp) | refine Blk.alloc ?_ _ | refine Blk.grew ?_ _ _ | refine Blk.drewN ?_ _ | refine Blk.drew ?_)), (by repeat (with_reducible first | assumption | exact Blk.atNew (by simp) | refine Blk.alloc ?_ _ | refine Blk.grew ?_ _ _ | refine Blk.drewN ?_ _ | refine Blk.drew ?_)), (by (try show Gr _ _); repeat (with_reducible first | exact Gr.refl _ | refine Gr.drewN ?_ _ | refine Gr.grew ?_ _ _ | refine Gr.alloc ?_ _ | refine Gr.drew ?_))⟩)
  case rest =>
    obtain ⟨rfl, rfl, b2, b0, b1, g⟩ := hcut
    clear hq q4 q5
    have p2 := b2.cellv 0
    have p0 := b0.cellv 0
    have B2 := Lib.hid b2
    have B0 := Lib.hid b0
    have B1 := Lib.hid b1
    have G := Lib.hid g
    clear b2 b0 b1 g
    cases hS : gSize W H
    · have hno : gLdOk s = false := by unfold gLdOk gHead; rw [← HW.out, ← HH.out, hS]; simp
      have q0 := B1.out.cellv 0
      have q1 := B1.out.cellv 1
      have q2 := B1.out.cellv 2
      have z0 := B1.out.frozen 0
      have z1 := B1.out.frozen 1
      have z2 := B1.out.frozen 2
      go_wp2_with (first
      | (go_at_call 60; with_reducible refine (I_sizeOk _ _ _).mono ?_; rintro e w' ⟨rfl, rfl⟩; rw [hS]))
      refine bodyPost_ret (v := .tuple #[.agg #[.int .i64 0, .int .i64 0, .slice none 0 0], .int .i64 0, .bool false]) (by simp [results, Try.results72, go_sem, *]) rfl ⟨0, 0, 0, false, _, [], rfl, FOwn.nil _ _ _, hid_no hno, hid_not hno, ?_⟩
      have h := G.out
      exact (by repeat (with_reducible first | assumption | refine Gr.setCell ?_ (by simp <;> omega) _))
    obtain ⟨s1, s2, s3, s4, s5, s6⟩ := gSize_true hS
    have hW : W ≤ 24 := by omega
    have hH : H ≤ 24 := by omega
    have h576 : n ≤ 24 * 24 := by rw [HNW.out]; exact Nat.mul_le_mul hW hH
    clear s5 s6 hb
    by_cases hl : s.size < 6 + 4 * n
    · have hno : gLdOk s = false := by unfold gLdOk; rw [← HW.out, ← HH.out, ← HNW.out, decide_eq_false (by omega)]; simp
      have q0 := B1.out.cellv 0
      have q1 := B1.out.cellv 1
      have q2 := B1.out.cellv 2
      have z0 := B1.out.frozen 0
      have z1 := B1.out.frozen 1
      have z2 := B1.out.frozen 2
      go_wp2_with (first
      | (go_at_call 60; with_reducible refine (I_sizeOk _ _ _).mono ?_; rintro e w' ⟨rfl, rfl⟩; rw [hS]))
      refine bodyPost_ret (v := .tuple #[.agg #[.int .i64 0, .int .i64 0, .slice none 0 0], .int .i64 0, .bool false]) (by simp [results, Try.results72, go_sem, *]) rfl ⟨0, 0, 0, false, _, [], rfl, FOwn.nil _ _ _, hid_no hno, hid_not hno, ?_⟩
      have h := G.out
      exact (by repeat (with_reducible first | assumption | refine Gr.setCell ?_ (by simp <;> omega) _))
    go_wp2_with (first | (go_at_call 60; with_reducible refine (I_sizeOk _ _ _).mono ?_; rintro e w' ⟨rfl, rfl⟩; rw [hS]))
    refine (I_made W H (fun x y => gLoad s (x + W * y)) 128 #[.pointer (some ⟨w.heap.size + 2, 0, none⟩), .pointer (some ⟨w.heap.size, 0, none⟩)] _ (tells_load s W H _ _ _ (by rw [← HNW.out]; omega) hs p2 p0 hW hH) hW hH (by omega) (by omega)).mono ?_
    rintro e w1 ⟨⟨v0, rfl, ho0⟩, g1⟩
    rw [← HNW.out] at ho0
    obtain ⟨a1, c1, rfl, hf, -⟩ := ho0.sl' n (by simp)
    have Ho := Lib.hid ho0
    have hlt' := B1.out.lt
    have Hf := Lib.hid hf
    have H0 := Lib.hid (B0.out.gr g1)
    have H1 := Lib.hid (B1.out.gr g1)
    have G1 := Lib.hid (G.out.trans g1)
    have e0 := H0.out.cellv 0
    clear ho0 hf g1 p2 p0 B2 B0 B1 G w2
    have hE1 : (0 : Int) ≤ 6 + 4 * (n : Int) := by omega
    have hE2 : 6 + 4 * (n : Int) ≤ (s.size : Int) := by omega
    have hE3 : (6 + 4 * (n : Int)).toNat = 6 + 4 * n := by omega
    obtain ⟨L, hL⟩ : ∃ L, L = grid W (fun x y => gLoad s (x + W * y)) n := ⟨_, rfl⟩
    have hLn : L.length = n := by rw [hL]; simp
    have HL := Lib.hid hL
    rw [← hL] at Ho Hf
    obtain ⟨R, hR⟩ : ∃ R, R = strOfNums (gStore W H L) := ⟨_, rfl⟩
    have HR := Lib.hid hR
    have LP := Lib.hid (fun w2 (g : Gr w1 w2) => I_stored W H a1 c1 L w2 (by rw [hLn]; exact Hf.out.keep g.kp) hW hH (by omega))
    rw [← hR, hLn] at LP
    clear hL hR Hf hLn
    have q0 := H1.out.cellv 0
    have q1 := H1.out.cellv 1
    have q2 := H1.out.cellv 2
    have z0 := H1.out.frozen 0
    have z1 := H1.out.frozen 1
    have z2 := H1.out.frozen 2
    have hlt := H1.out.lt
    go_wp2
    go_region_held3 (fun w' => w'.cell? ⟨w1.heap.size, 0, none⟩ = some (.int .i64 W) ∧ w'.cell? ⟨w1.heap.size, 1, none⟩ = some (.int .i64 H) ∧ w'.cell? ⟨w1.heap.size, 2, none⟩ = some (.slice a1 n c1) ∧ w'.cell? ⟨w.heap.size, 0, none⟩ = some (.string s))
      (first | (simp (maxDischargeDepth := 12) [go_sem]; done) | (simp (maxDischargeDepth := 12) [go_sem, *]; done)) (first
      | (go_at_call 70; refine (LP.out _ (by (try show Gr _ _); repeat (with_reducible first | exact Gr.refl _ | refine Gr.drewN ?_ _ | refine Gr.grew ?_ _ _ | refine Gr.alloc ?_ _ | refine Gr.drew ?_))).mono ?_; rintro e w1 ⟨rfl, os3, m3, rfl⟩))
    go_wp2
    clear LP q0 q1 q2 z0 z1 z2 hE1 hE2 hE3 e0
    have BF : Blk (((((w1.setCell ⟨w.heap.size + 1, 0, none⟩ (.int .i64 W)).setCell ⟨w.heap.size + 1, 1, none⟩ (.int .i64 H)).setCell ⟨w.heap.size + 1, 2, none⟩ (.slice a1 n c1)).alloc (Obj.cells #[.int .i64 W, .int .i64 H, .slice a1 n c1] 35)).drew.grew os3 m3) (w.heap.size + 1) [.int .i64 W, .int .i64 H, .slice a1 n c1] 35 := (((((H1.out.set (i := 0) _).set (i := 1) _).set (i := 2) _).alloc _).drew).grew _ _
    have r0 := BF.cellv 0
    have r1 := BF.cellv 1
    have r2 := BF.cellv 2
    clear BF
    have HG := Lib.hid (show gLoads s = L by
      unfold gLoads; rw [← HW.out, ← HH.out, ← HNW.out, HL.out]
      apply lst_congr
      intro i _
      show gLoad s i = gLoad s (i % W + W * (i / W))
      rw [Nat.mod_add_div])
    have HK := Lib.hid (show gLdOk s = (decide (6 + 4 * n = s.size) && decide (R = s)) by
      unfold gLdOk gHead
      rw [HG.out, ← HW.out, ← HH.out, ← HNW.out, ← HR.out, hS, HP.out, decide_eq_true (show 6 ≤ s.size by omega)]
      rfl)
    refine bodyPost_ret (v := .tuple #[.agg #[.int .i64 W, .int .i64 H, .slice a1 n c1], .int .i64 (6 + 4 * (n : Int)), .bool (R.toList == (s.extract 0 (6 + 4 * n)).toList)]) (by simp [results, Try.results72, go_sem, r0, r1, r2]) rfl ⟨W, H, 6 + 4 * (n : Int), R.toList == (s.extract 0 (6 + 4 * n)).toList, _, L, rfl, ?_, ?_, ?_, ?_⟩
    · have h := Ho.out
      have hh : FOwn (((w1.setCell ⟨w.heap.size + 1, 0, none⟩ (.int .i64 W)).setCell ⟨w.heap.size + 1, 1, none⟩ (.int .i64 H)).setCell ⟨w.heap.size + 1, 2, none⟩ (.slice a1 n c1)) w'.heap.size 65 (.slice a1 n c1) L := (by repeat (with_reducible first | assumption | refine FOwn.setOther ?_ _ (by simp <;> omega)))
      exact FOwn.base (B := w'.heap.size) (hh.gr (by (try show Gr _ _); repeat (with_reducible first | exact Gr.refl _ | refine Gr.drewN ?_ _ | refine Gr.grew ?_ _ _ | refine Gr.alloc ?_ _ | refine Gr.drew ?_))) (by omega)
    · refine Lib.hid ?_
      rw [HK.out, str_eqb]
      by_cases hz : 6 + 4 * n = s.size
      · rw [decide_eq_true hz, hz, decide_eq_true (show 6 + 4 * (n : Int) = (s.size : Int) by omega), ByteArray.extract_zero_size]
        simp
      · rw [decide_eq_false hz, decide_eq_false (show ¬ 6 + 4 * (n : Int) = (s.size : Int) by omega)]
        simp
    · refine Lib.hid fun _ => ⟨?_, ?_, HG.out.symm⟩
      · rw [← HW.out]
      · rw [← HH.out]
    · have h := G1.out
      have hh : Gr w (((w1.setCell ⟨w.heap.size + 1, 0, none⟩ (.int .i64 W)).setCell ⟨w.heap.size + 1, 1, none⟩ (.int .i64 H)).setCell ⟨w.heap.size + 1, 2, none⟩ (.slice a1 n c1)) := (by repeat (with_reducible first | assumption | refine Gr.setCell ?_ (by simp <;> omega) _))
      exact hh.trans (by (try show Gr _ _); repeat (with_reducible first | exact Gr.refl _ | refine Gr.drewN ?_ _ | refine Gr.grew ?_ _ _ | refine Gr.alloc ?_ _ | refine Gr.drew ?_))
end Go.Proofs.Ytaidkokgafojeaa
