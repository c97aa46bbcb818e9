/- Contracts: MedianAt. MAXREC -/
import Derived.Test.YtomlfdkcgaogcaaProg
import Derived.Test.YtomlfdkcgaogcaaC109
import Derived.Test.YtomlfdkcgaogcaaC110
import Derived.Test.YtomlfdkcgaogcaaC111
import Derived.Test.YtomlfdkcgaogcaaC116
import Derived.Test.YtomlfdkcgaogcaaC117
import Derived.Test.YtomlfdkcgaogcaaC98
import Derived.Deep.DeepCutAuto
namespace Go.Proofs.Ytomlfdkcgaogcaa
open Go.RowKit Go.Fx Go.Soft Go.Sort
theorem I_mergeOk (w0 : World) (g n0 cap : Nat) (hn : n0 < 60) : MergeOk w0 g n0 cap := fun a m b d w h1 h2 h3 S s1 s2 ht =>
  I_symMerge w0 g n0 cap (by omega) (fun a m b d w h1 h2 h3 S s1 s2 ht hc => by
    rcases hc with hc | ⟨hc, hd⟩
    · exact I_symLeft w0 g n0 cap a m b d w (by omega) h1 h2 h3 S s1 s2 ht hc
    · exact I_symRight w0 g n0 cap a m b d w (by omega) h1 h2 h3 S s1 s2 ht hc hd) (b - a) a m b d w (Nat.le_refl _) h1 h2 h3 S s1 s2 ht
def gMdOk (W H x y r : Int) (n : Nat) : Bool := gPic W H n && (gHas W H x y && gIn r 0 3)
def gMdAt (xs : List Nat) (W H x y r : Int) : Nat := if gMdOk W H x y r xs.length then gMedI (gMv xs W.toNat (gWn W.toNat H.toNat r.toNat x.toNat y.toNat)) else 0
theorem gHas_nat {W H x y : Int} (h : gHas W H x y = true) : 0 ≤ x ∧ x < W ∧ 0 ≤ y ∧ y < H := by
  unfold gHas gIn at h
  simp at h
  omega
set_option maxRecDepth 20000 in
set_option maxHeartbeats 8000000 in
theorem I_MedianAt (W H x y r : Int) (a : Option Addr) (ca : Nat) (xs : List Nat) (w : World) (fx : FSl w a xs.length xs) (hn : xs.length ≤ 1048576) :
    Calls Try.prog 34 #[.agg #[.int .i64 W, .int .i64 H, .slice a xs.length ca], .int .i64 x, .int .i64 y, .int .i64 r] w
      fun e w' => (∃ v, e = .returned (.tuple #[.float .f32 v, .bool (gMdOk W H x y r xs.length)]) ∧ FE .f32 v (gMdAt xs W H x y r)) ∧ Gr w w' := by
  have hn' : xs.length ≤ maxLen := by unfold maxLen; omega
  have Fx := Lib.hid fx
  have f0 := FE0
  clear fx
  obtain ⟨B, hB⟩ : ∃ B, B = gMdOk W H x y r xs.length := ⟨_, rfl⟩
  obtain ⟨V, hV⟩ : ∃ V, V = gMdAt xs W H x y r := ⟨_, rfl⟩
  rw [← hB, ← hV]
  have hV0 : B = false → V = 0 := fun h => by rw [hV]; unfold gMdAt; rw [← hB, h]; rfl
  cases t1 : gPic W H xs.length
  · have EB := Lib.hid (show B = false by rw [hB]; unfold gMdOk; rw [t1]; rfl)
    have EV := Lib.hid (hV0 EB.out)
    clear hB hV hV0
    go_enter Try.func34, Try.ntmps34
    go_wp2_with (first
      | (go_at_call 42; with_reducible refine (I_ValidMap _ _ _ _ _ _ hn').mono ?_; rintro e w' ⟨rfl, os, m, rfl⟩; rw [t1]))
    refine bodyPost_ret (v := .tuple #[.float .f32 0, .bool false]) (by simp [results, Try.results34, go_sem]) rfl ⟨⟨_, by rw [EB.out], by rw [EV.out]; exact f0⟩, (by (try show Gr _ _); repeat (with_reducible first | exact Gr.refl _ | refine Gr.drewN ?_ _ | refine Gr.grew ?_ _ _ | refine Gr.alloc ?_ _ | refine Gr.drew ?_))⟩
  · have hp1 := (gPic_true t1).2
    obtain ⟨s1, s2, s3, s4, s5, s6⟩ := gSize_true (gPic_true t1).1
    obtain ⟨W, rfl⟩ := Int.eq_ofNat_of_zero_le (show 0 ≤ W by omega)
    obtain ⟨H, rfl⟩ := Int.eq_ofNat_of_zero_le (show 0 ≤ H by omega)
    have hl : xs.length = W * H := by exact_mod_cast hp1
    have hW : W ≤ 24 := by omega
    have hH : H ≤ 24 := by omega
    have Hl := Lib.hid hl
    have T1 := Lib.hid t1
    clear hp1 hl s5 s6 t1
    cases t2 : gHas W H x y
    · have EB := Lib.hid (show B = false by rw [hB]; unfold gMdOk; rw [T1.out, t2]; rfl)
      have EV := Lib.hid (hV0 EB.out)
      clear hB hV hV0
      go_enter Try.func34, Try.ntmps34
      go_wp2_with fail
      refine (I_ValidMap _ _ _ _ _ _ hn').mono ?_
      rintro e u0 ⟨rfl, g⟩
      rw [T1.out]
      have B0 := Blk.gr (show Blk _ w.heap.size [.int .i64 W, .int .i64 H, .slice a xs.length ca] 30 from (by repeat (with_reducible first | assumption | exact Blk.atNew (by simp) | refine Blk.alloc ?_ _ | refine Blk.grew ?_ _ _ | refine Blk.drewN ?_ _ | refine Blk.drew ?_))) g
      have G0 := Lib.hid (Gr.trans (show Gr w _ from (by (try show Gr _ _); repeat (with_reducible first | exact Gr.refl _ | refine Gr.drewN ?_ _ | refine Gr.grew ?_ _ _ | refine Gr.alloc ?_ _ | refine Gr.drew ?_))) g)
      have M0 := Lib.hid (MP.mk (B0.cellv 0 rfl) (B0.cellv 1 rfl) (B0.cellv 2 rfl) (Fx.out.keep G0.out.kp))
      clear g B0
      go_wp2_with fail
      refine (I_Map_has W H x y _ ca _ xs u0 M0.out hW hH).mono ?_
      rintro e u1 ⟨rfl, n, rfl⟩
      rw [t2]
      go_wp2
      refine bodyPost_ret (v := .tuple #[.float .f32 0, .bool false]) (by simp [results, Try.results34, go_sem]) rfl ⟨⟨_, by rw [EB.out], by rw [EV.out]; exact f0⟩, G0.out.trans (by (try show Gr _ _); repeat (with_reducible first | exact Gr.refl _ | refine Gr.drewN ?_ _ | refine Gr.grew ?_ _ _ | refine Gr.alloc ?_ _ | refine Gr.drew ?_))⟩
    · obtain ⟨x1, x2, y1, y2⟩ := gHas_nat t2
      cases t3 : gIn r 0 3
      · have EB := Lib.hid (show B = false by rw [hB]; unfold gMdOk; rw [T1.out, t2, t3]; rfl)
        have EV := Lib.hid (hV0 EB.out)
        clear hB hV hV0
        go_enter Try.func34, Try.ntmps34
        go_wp2_with fail
        refine (I_ValidMap _ _ _ _ _ _ hn').mono ?_
        rintro e u0 ⟨rfl, g⟩
        rw [T1.out]
        have B0 := Blk.gr (show Blk _ w.heap.size [.int .i64 W, .int .i64 H, .slice a xs.length ca] 30 from (by repeat (with_reducible first | assumption | exact Blk.atNew (by simp) | refine Blk.alloc ?_ _ | refine Blk.grew ?_ _ _ | refine Blk.drewN ?_ _ | refine Blk.drew ?_))) g
        have G0 := Lib.hid (Gr.trans (show Gr w _ from (by (try show Gr _ _); repeat (with_reducible first | exact Gr.refl _ | refine Gr.drewN ?_ _ | refine Gr.grew ?_ _ _ | refine Gr.alloc ?_ _ | refine Gr.drew ?_))) g)
        have M0 := Lib.hid (MP.mk (B0.cellv 0 rfl) (B0.cellv 1 rfl) (B0.cellv 2 rfl) (Fx.out.keep G0.out.kp))
        clear g B0
        go_wp2_with fail
        refine (I_Map_has W H x y _ ca _ xs u0 M0.out hW hH).mono ?_
        rintro e u1 ⟨rfl, n, rfl⟩
        rw [t2]
        go_wp2_with (first | (go_at_call 63; with_reducible refine (I_in _ _ _ _).mono ?_; rintro e w' ⟨rfl, hw⟩; (obtain rfl := hw.symm; rw [t3])))
        refine bodyPost_ret (v := .tuple #[.float .f32 0, .bool false]) (by simp [results, Try.results34, go_sem]) rfl ⟨⟨_, by rw [EB.out], by rw [EV.out]; exact f0⟩, G0.out.trans (by (try show Gr _ _); repeat (with_reducible first | exact Gr.refl _ | refine Gr.drewN ?_ _ | refine Gr.grew ?_ _ _ | refine Gr.alloc ?_ _ | refine Gr.drew ?_))⟩
      · have hr3 : 0 ≤ r ∧ r ≤ 3 := by unfold gIn at t3; simp at t3; omega
        obtain ⟨r, rfl⟩ := Int.eq_ofNat_of_zero_le hr3.1
        obtain ⟨x, rfl⟩ := Int.eq_ofNat_of_zero_le x1
        obtain ⟨y, rfl⟩ := Int.eq_ofNat_of_zero_le y1
        have EB := Lib.hid (show B = true by rw [hB]; unfold gMdOk; rw [T1.out, t2, t3]; rfl)
        have EV := Lib.hid (show V = gMedI (gMv xs W (gWn W H r x y)) by rw [hV]; unfold gMdAt; rw [← hB, EB.out]; rfl)
        clear hB hV hV0
        go_enter Try.func34, Try.ntmps34
        go_wp2_with fail
        refine (I_ValidMap _ _ _ _ _ _ hn').mono ?_
        rintro e u0 ⟨rfl, g⟩
        rw [T1.out]
        have B0 := Blk.gr (show Blk _ w.heap.size [.int .i64 W, .int .i64 H, .slice a xs.length ca] 30 from (by repeat (with_reducible first | assumption | exact Blk.atNew (by simp) | refine Blk.alloc ?_ _ | refine Blk.grew ?_ _ _ | refine Blk.drewN ?_ _ | refine Blk.drew ?_))) g
        have G0 := Lib.hid (Gr.trans (show Gr w _ from (by (try show Gr _ _); repeat (with_reducible first | exact Gr.refl _ | refine Gr.drewN ?_ _ | refine Gr.grew ?_ _ _ | refine Gr.alloc ?_ _ | refine Gr.drew ?_))) g)
        have M0 := Lib.hid (MP.mk (B0.cellv 0 rfl) (B0.cellv 1 rfl) (B0.cellv 2 rfl) (Fx.out.keep G0.out.kp))
        clear g B0
        go_wp2_with fail
        refine (I_Map_has W H x y _ ca _ xs u0 M0.out hW hH).mono ?_
        rintro e u1 ⟨rfl, n, rfl⟩
        rw [t2]
        go_wp2_with (first | (go_at_call 63; with_reducible refine (I_in _ _ _ _).mono ?_; rintro e w' ⟨rfl, hw⟩; (obtain rfl := hw.symm; rw [t3])))
        refine (I_median W H x y r w.heap.size ca a xs _ I_mergeOk (M0.out.gr (by (try show Gr _ _); repeat (with_reducible first | exact Gr.refl _ | refine Gr.drewN ?_ _ | refine Gr.grew ?_ _ _ | refine Gr.alloc ?_ _ | refine Gr.drew ?_))) (by omega) (by omega) (by omega) hW hH Hl.out).mono ?_
        rintro e w' ⟨⟨v, rfl, hv⟩, g⟩
        have G1 := Lib.hid (G0.out.trans (Gr.trans (gr_drewN u0 n) g))
        clear g
        go_wp2
        refine bodyPost_ret (v := .tuple #[.float .f32 v, .bool true]) (by simp [results, Try.results34, go_sem]) rfl ⟨⟨_, by rw [EB.out], by rw [EV.out]; exact hv⟩, G1.out⟩
set_option maxRecDepth 20000 in
set_option maxHeartbeats 8000000 in
theorem S_MedianAt (W H x y r : Int) (a : Option Addr) (ca : Nat) (xs : List Nat) (w : World) (fx : FSl w a xs.length xs) (hn : xs.length ≤ 1048576) :
    Calls Try.prog 33 #[.agg #[.int .i64 W, .int .i64 H, .slice a xs.length ca], .int .i64 x, .int .i64 y, .int .i64 r] w
      fun e w' => (∃ v, e = .returned (.tuple #[.float .f32 v, .bool (gMdOk W H x y r xs.length)]) ∧ FE .f32 v (gMdAt xs W H x y r)) ∧ Gr w w' := by
  have hn' : xs.length ≤ maxLen := by unfold maxLen; omega
  have Fx := Lib.hid fx
  have f0 := FE0
  clear fx
  obtain ⟨B, hB⟩ : ∃ B, B = gMdOk W H x y r xs.length := ⟨_, rfl⟩
  obtain ⟨V, hV⟩ : ∃ V, V = gMdAt xs W H x y r := ⟨_, rfl⟩
  rw [← hB, ← hV]
  have hV0 : B = false → V = 0 := fun h => by rw [hV]; unfold gMdAt; rw [← hB, h]; rfl
  have hB4 : B = (gPic W H xs.length && ((gIn x 0 (W - 1) && gIn y 0 (H - 1)) && gIn r 0 3)) := hB
  cases t1 : gPic W H xs.length
  · have EB := Lib.hid (show B = false by rw [hB4, t1]; rfl)
    have EV := Lib.hid (hV0 EB.out)
    clear hB hV hV0 hB4
    go_enter Try.func33, Try.ntmps33
    go_wp2_with (first
      | (go_at_call 39; with_reducible refine (S_l03IsMap W H a _ ca _ _ _ hn' (by first | (simp (maxDischargeDepth := 12) [go_sem]; done) | (simp (maxDischargeDepth := 12) [go_sem, *]; done)) (by first | (simp (maxDischargeDepth := 12) [go_sem]; done) | (simp (maxDischargeDepth := 12) [go_sem, *]; done)) (by first | (simp (maxDischargeDepth := 12) [go_sem]; done) | (simp (maxDischargeDepth := 12) [go_sem, *]; done))).mono ?_; rintro e w' ⟨rfl, n, rfl⟩; rw [t1]))
    refine bodyPost_ret (v := .tuple #[.float .f32 0, .bool false]) (by simp [results, Try.results33, go_sem]) rfl ⟨⟨_, by rw [EB.out], by rw [EV.out]; exact f0⟩, (by (try show Gr _ _); repeat (with_reducible first | exact Gr.refl _ | refine Gr.drewN ?_ _ | refine Gr.grew ?_ _ _ | refine Gr.alloc ?_ _ | refine Gr.drew ?_))⟩
  · have hp1 := (gPic_true t1).2
    obtain ⟨s1, s2, s3, s4, s5, s6⟩ := gSize_true (gPic_true t1).1
    obtain ⟨W, rfl⟩ := Int.eq_ofNat_of_zero_le (show 0 ≤ W by omega)
    obtain ⟨H, rfl⟩ := Int.eq_ofNat_of_zero_le (show 0 ≤ H by omega)
    have hl : xs.length = W * H := by exact_mod_cast hp1
    have hW : W ≤ 24 := by omega
    have hH : H ≤ 24 := by omega
    have Hl := Lib.hid hl
    have wW : IntKind.i64.wrap ((W : Int) - 1) = (W : Int) - 1 := IntWalk.i64_in _ (by omega)
    have wH : IntKind.i64.wrap ((H : Int) - 1) = (H : Int) - 1 := IntWalk.i64_in _ (by omega)
    clear hp1 hl s5 s6
    rcases (show gIn x 0 ((W : Int) - 1) = false ∨ (gIn x 0 ((W : Int) - 1) = true ∧ gIn y 0 ((H : Int) - 1) = false) ∨ (gIn x 0 ((W : Int) - 1) = true ∧ gIn y 0 ((H : Int) - 1) = true ∧ gIn r 0 3 = false) ∨ (gIn x 0 ((W : Int) - 1) = true ∧ gIn y 0 ((H : Int) - 1) = true ∧ gIn r 0 3 = true) by cases gIn x 0 ((W : Int) - 1) <;> cases gIn y 0 ((H : Int) - 1) <;> cases gIn r 0 3 <;> simp) with t2 | ⟨t2, t3⟩ | ⟨t2, t3, t4⟩ | ⟨t2, t3, t4⟩
    rotate_left 3
    · obtain ⟨x1, x2, y1, y2⟩ := gHas_nat (show gHas W H x y = true by unfold gHas; rw [t2, t3]; rfl)
      have hr3 : 0 ≤ r ∧ r ≤ 3 := by unfold gIn at t4; simp at t4; omega
      obtain ⟨r, rfl⟩ := Int.eq_ofNat_of_zero_le hr3.1
      obtain ⟨x, rfl⟩ := Int.eq_ofNat_of_zero_le x1
      obtain ⟨y, rfl⟩ := Int.eq_ofNat_of_zero_le y1
      have EB := Lib.hid (show B = true by rw [hB4, t1, t2, t3, t4]; rfl)
      have EV := Lib.hid (show V = gMedI (gMv xs W (gWn W H r x y)) by rw [hV]; unfold gMdAt; rw [← hB, EB.out]; rfl)
      clear hB hV hV0 hB4
      go_enter Try.func33, Try.ntmps33
      go_wp2_with (first
      | (go_at_call 39; with_reducible refine (S_l03IsMap W H a _ ca _ _ _ hn' (by first | (simp (maxDischargeDepth := 12) [go_sem]; done) | (simp (maxDischargeDepth := 12) [go_sem, *]; done)) (by first | (simp (maxDischargeDepth := 12) [go_sem]; done) | (simp (maxDischargeDepth := 12) [go_sem, *]; done)) (by first | (simp (maxDischargeDepth := 12) [go_sem]; done) | (simp (maxDischargeDepth := 12) [go_sem, *]; done))).mono ?_; rintro e w' ⟨rfl, n, rfl⟩; rw [t1])
      | (go_at_call 60; with_reducible refine (S_l00In _ _ _ _).mono ?_; rintro e w' ⟨rfl, hw⟩; (obtain rfl := hw.symm; first | rw [t2] | rw [t3] | rw [t4])))
      refine (S_l05Window W H _ x y r ca a xs _ ⟨(by first | (simp (maxDischargeDepth := 12) [go_sem]; done) | (simp (maxDischargeDepth := 12) [go_sem, *]; done)), (by first | (simp (maxDischargeDepth := 12) [go_sem]; done) | (simp (maxDischargeDepth := 12) [go_sem, *]; done)), (by first | (simp (maxDischargeDepth := 12) [go_sem]; done) | (simp (maxDischargeDepth := 12) [go_sem, *]; done)), Fx.out.keep (by (repeat (with_reducible first | exact Kp.refl _ | exact kp_same | exact kp_app1 | exact kp_app2 | exact kp_app3 | refine Kp.grew ?_ _ _ | refine Kp.drewN ?_ _ | refine Kp.drew ?_ | refine Kp.alloc ?_ _)))⟩ (by omega) (by omega) (by omega) hW hH Hl.out).mono ?_
      rintro e w1 ⟨⟨v0, rfl, ho⟩, g⟩
      have G1 : Gr w w1 := Gr.trans (by (try show Gr _ _); repeat (with_reducible first | exact Gr.refl _ | refine Gr.drewN ?_ _ | refine Gr.grew ?_ _ _ | refine Gr.alloc ?_ _ | refine Gr.drew ?_)) g
      obtain ⟨a1, c1, rfl, hs, -⟩ := ho.sl
      have HG1 := Lib.hid G1
      have hlen : (gMv xs W (gWn W H r x y)).length ≤ 4096 := by
        unfold gMv gWn wl
        rw [List.length_map]
        refine Nat.le_trans (List.length_filter_le _ _) ?_
        rw [List.length_map, List.length_range]
        have := Nat.mul_le_mul (show min (x + r) (W - 1) + 1 - (x - r) ≤ 7 by omega) (show min (y + r) (H - 1) + 1 - (y - r) ≤ 7 by omega)
        omega
      have HC := Lib.hid (S_l05Median a1 c1 (gMv xs W (gWn W H r x y)) w1 hs hlen)
      clear ho g G1 hs hlen
      go_wp2_with fail
      refine HC.out.mono ?_
      rintro e w' ⟨⟨v, rfl, hv⟩, g⟩
      have G2 := Lib.hid (HG1.out.trans g)
      clear g
      go_wp2
      refine bodyPost_ret (v := .tuple #[.float .f32 v, .bool true]) (by simp [results, Try.results33, go_sem]) rfl ⟨⟨_, by rw [EB.out], by rw [EV.out]; exact hv⟩, G2.out⟩
    all_goals
      have EB := Lib.hid (show B = false by rw [hB4]; simp [*])
      have EV := Lib.hid (hV0 EB.out)
      clear hB hV hV0 hB4
      go_enter Try.func33, Try.ntmps33
      go_wp2_with (first
      | (go_at_call 39; with_reducible refine (S_l03IsMap W H a _ ca _ _ _ hn' (by first | (simp (maxDischargeDepth := 12) [go_sem]; done) | (simp (maxDischargeDepth := 12) [go_sem, *]; done)) (by first | (simp (maxDischargeDepth := 12) [go_sem]; done) | (simp (maxDischargeDepth := 12) [go_sem, *]; done)) (by first | (simp (maxDischargeDepth := 12) [go_sem]; done) | (simp (maxDischargeDepth := 12) [go_sem, *]; done))).mono ?_; rintro e w' ⟨rfl, n, rfl⟩; rw [t1])
      | (go_at_call 60; with_reducible refine (S_l00In _ _ _ _).mono ?_; rintro e w' ⟨rfl, hw⟩; (obtain rfl := hw.symm; first | rw [t2] | rw [t3] | rw [t4])))
      refine bodyPost_ret (v := .tuple #[.float .f32 0, .bool false]) (by simp [results, Try.results33, go_sem]) rfl ⟨⟨_, by rw [EB.out], by rw [EV.out]; exact f0⟩, (by (try show Gr _ _); repeat (with_reducible first | exact Gr.refl _ | refine Gr.drewN ?_ _ | refine Gr.grew ?_ _ _ | refine Gr.alloc ?_ _ | refine Gr.drew ?_))⟩
end Go.Proofs.Ytomlfdkcgaogcaa
