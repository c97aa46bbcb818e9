/- Contracts: FillAll. MAXREC -/
import Derived.Test.YtaidkokgafojeaaProg
import Derived.Test.YtaidkokgafojeaaC105
import Derived.Test.YtaidkokgafojeaaLw
import Derived.Deep.LoopGhost
import Derived.Deep.DeepCutAuto
namespace Go.Proofs.Ytaidkokgafojeaa
open Go.RowKit Go.Fx Go.Soft
theorem FOwn.toFSl {w : World} {B : Nat} {e : TypeId} {a : Option Addr} {n cap : Nat} {xs : List Nat} (h : FOwn w B e (.slice a n cap) xs) : FSl w a n xs := by
  obtain ⟨a', c', e', F, -⟩ := h.sl
  cases e'
  exact F
/-- A map behind a round; how many holes it has; the map behind all rounds, and their number. -/
def gStep (W H : Nat) (xs : List Nat) : List Nat := lst xs.length (gFillA xs W H)
def gHls (xs : List Nat) : Nat := gCnt (fun i => gHole (xs.getD i 0)) xs.length
theorem gCnt_congr {p q : Nat → Bool} : ∀ k, (∀ i, i < k → p i = q i) → gCnt p k = gCnt q k
  | 0, _ => rfl
  | k + 1, h => by
    have ih := gCnt_congr k (fun i hi => h i (by omega))
    have e1 : gCnt p (k + 1) = gCnt p k + if p k then 1 else 0 := rfl
    have e2 : gCnt q (k + 1) = gCnt q k + if q k then 1 else 0 := rfl
    rw [e1, e2, ih, h k (by omega)]
theorem gStep_length (W H : Nat) (xs : List Nat) : (gStep W H xs).length = xs.length := by unfold gStep; simp
theorem gHls_step (W H : Nat) (xs : List Nat) : gHls (gStep W H xs) + gCnt (gGets xs W H) xs.length = gHls xs := by
  have h := gFill_count xs W H xs.length
  unfold gHls
  rw [gStep_length]
  rw [gCnt_congr (q := fun i => gHole (gFillA xs W H i)) xs.length (fun i hi => by show gHole ((lst xs.length (gFillA xs W H)).getD i 0) = _; congr 1; unfold lst; simp [hi])]
  exact h
theorem gHls_less {W H : Nat} {xs : List Nat} (h : ¬ gCnt (gGets xs W H) xs.length = 0) : gHls (gStep W H xs) < gHls xs := by
  have := gHls_step W H xs
  omega
def gRun (W H : Nat) (xs : List Nat) (r : Nat) : List Nat × Nat := if h : gCnt (gGets xs W H) xs.length = 0 then (gStep W H xs, r) else gRun W H (gStep W H xs) (r + 1)
termination_by gHls xs
decreasing_by exact gHls_less h
theorem gRun_end {W H : Nat} {xs : List Nat} {r : Nat} (h : gCnt (gGets xs W H) xs.length = 0) : gRun W H xs r = (gStep W H xs, r) := by rw [gRun, dif_pos h]
theorem gRun_on {W H : Nat} {xs : List Nat} {r : Nat} (h : ¬ gCnt (gGets xs W H) xs.length = 0) : gRun W H xs r = gRun W H (gStep W H xs) (r + 1) := by rw [gRun, dif_neg h]
theorem gRun_length (W H : Nat) : ∀ (n : Nat) (xs : List Nat) (r : Nat), gHls xs ≤ n → (gRun W H xs r).1.length = xs.length
  | n, xs, r, hn => by
    by_cases h : gCnt (gGets xs W H) xs.length = 0
    · rw [gRun_end h]; exact gStep_length W H xs
    · rw [gRun_on h]
      have hl := gHls_less h
      match n, hn with
      | 0, hn => omega
      | n + 1, hn => rw [gRun_length W H n _ _ (by omega)]; exact gStep_length W H xs
theorem gHls_le (xs : List Nat) : gHls xs ≤ xs.length := gCnt_le _ _
def PostPI (w : World) (A B R : Int) (ok : Bool) (L : List Nat) (e : Ending) (w' : World) : Prop :=
  (∃ v, e = .returned (.tuple #[.agg #[.int .i64 A, .int .i64 B, v], .int .i64 R, .bool ok]) ∧ FOwn w' w.heap.size 65 v L) ∧ Gr w w'
def gAllL (W H : Int) (xs : List Nat) : List Nat := if gPic W H xs.length then (gRun W.toNat H.toNat xs 0).1 else []
def gAllR (W H : Int) (xs : List Nat) : Int := if gPic W H xs.length then ((gRun W.toNat H.toNat xs 0).2 : Int) else 0
theorem gAllL_length (W H : Int) (xs : List Nat) : (gAllL W H xs).length ≤ xs.length := by
  unfold gAllL
  split
  · rw [gRun_length _ _ _ _ _ (Nat.le_refl _)]; exact Nat.le_refl _
  · exact Nat.zero_le _
set_option maxRecDepth 20000 in
set_option maxHeartbeats 8000000 in
theorem S_FillAll (W H : Int) (a : Option Addr) (ca : Nat) (xs : List Nat) (w : World) (fx : FSl w a xs.length xs) (hn : xs.length ≤ 1048576) :
    Calls Try.prog 39 #[.agg #[.int .i64 W, .int .i64 H, .slice a xs.length ca]] w
      (PostPI w (gW (gPic W H xs.length) W) (gW (gPic W H xs.length) H) (gAllR W H xs) (gPic W H xs.length) (gAllL W H xs)) := by
  have hn' : xs.length ≤ maxLen := by unfold maxLen; omega
  have Fx := Lib.hid fx
  clear fx
  cases hT : gPic W H xs.length
  · have EL : gAllL W H xs = [] := by unfold gAllL; rw [hT]; rfl
    have ER : gAllR W H xs = 0 := by unfold gAllR; rw [hT]; rfl
    rw [EL, ER]
    clear EL ER
    go_enter Try.func39, Try.ntmps39
    go_wp2_with (first
      | (go_at_call 88; with_reducible refine (S_l03IsMap W H a _ ca _ _ _ hn' (by first | (simp (maxDischargeDepth := 12) [go_sem]; done) | (simp (maxDischargeDepth := 12) [go_sem, *]; done)) (by first | (simp (maxDischargeDepth := 12) [go_sem]; done) | (simp (maxDischargeDepth := 12) [go_sem, *]; done)) (by first | (simp (maxDischargeDepth := 12) [go_sem]; done) | (simp (maxDischargeDepth := 12) [go_sem, *]; done))).mono ?_; rintro e w' ⟨rfl, n, rfl⟩; rw [hT]))
    exact bodyPost_ret (v := .tuple #[.agg #[.int .i64 0, .int .i64 0, .slice none 0 0], .int .i64 0, .bool false]) (by simp [results, Try.results39, go_sem]) rfl ⟨⟨_, rfl, FOwn.nil _ _ _⟩, (by (try show Gr _ _); repeat (with_reducible first | exact Gr.refl _ | refine Gr.drewN ?_ _ | refine Gr.grew ?_ _ _ | refine Gr.alloc ?_ _ | refine Gr.drew ?_))⟩
  · have hp1 := (gPic_true hT).2
    obtain ⟨s1, s2, s3, s4, s5, s6⟩ := gSize_true (gPic_true hT).1
    obtain ⟨W, rfl⟩ := Int.eq_ofNat_of_zero_le (show 0 ≤ W by omega)
    obtain ⟨H, rfl⟩ := Int.eq_ofNat_of_zero_le (show 0 ≤ H by omega)
    have hl : xs.length = W * H := by exact_mod_cast hp1
    have hpos : 0 < xs.length := by omega
    have hn5 : xs.length ≤ 576 := (by rw [hl]; exact Nat.mul_le_mul (show W ≤ 24 by omega) (show H ≤ 24 by omega) : xs.length ≤ 24 * 24)
    have EL : gAllL W H xs = (gRun W H xs 0).1 := by unfold gAllL; rw [hT]; rfl
    have ER : gAllR W H xs = ((gRun W H xs 0).2 : Int) := by unfold gAllR; rw [hT]; rfl
    rw [EL, ER]
    obtain ⟨RR, hRR⟩ : ∃ RR, RR = gRun W H xs 0 := ⟨_, rfl⟩
    rw [← hRR]
    have HR := Lib.hid hRR.symm
    have hW : W ≤ 24 := by omega
    have hH : H ≤ 24 := by omega
    have hW0 : 1 ≤ W := by omega
    have hH0 : 1 ≤ H := by omega
    have Hl := Lib.hid hl
    have hh := gHls_le xs
    obtain ⟨bx, ox, rfl⟩ := Fx.out.ptr hpos
    clear EL ER hRR hp1 hl s5 s6
    go_enter Try.func39, Try.ntmps39
    go_wp2_with (first
      | (go_at_call 88; with_reducible refine (S_l03IsMap W H (some ⟨bx, ox, none⟩) _ ca _ _ _ hn' (by first | (simp (maxDischargeDepth := 12) [go_sem]; done) | (simp (maxDischargeDepth := 12) [go_sem, *]; done)) (by first | (simp (maxDischargeDepth := 12) [go_sem]; done) | (simp (maxDischargeDepth := 12) [go_sem, *]; done)) (by first | (simp (maxDischargeDepth := 12) [go_sem]; done) | (simp (maxDischargeDepth := 12) [go_sem, *]; done))).mono ?_; rintro e w' ⟨rfl, n, rfl⟩; rw [hT]))
    go_loopg [6] (gHls xs) (fun g1 s wr => ∃ (ys : List Nat) (R b1 o1 c1 : Nat), s = .int .i64 R ∧ Blk wr (w.heap.size + 1) [.int .i64 0, .int .i64 0, .slice none 0 0] 24 ∧ Blk wr (w.heap.size + 2) [.int .i64 W, .int .i64 H, .slice (some ⟨b1, o1, none⟩) ys.length c1] 24 ∧ FSl wr (some ⟨b1, o1, none⟩) ys.length ys ∧ ys.length = xs.length ∧ Gr w wr ∧ Hid (gRun W H ys R = RR) ∧ R + gHls ys ≤ 576 ∧ g1 = gHls ys)
    case atStart => exact ⟨xs, 0, bx, ox, ca, rfl, (by repeat (with_reducible first | assumption | exact Blk.atNew (by simp) | refine Blk.alloc ?_ _ | refine Blk.grew ?_ _ _ | refine Blk.drewN ?_ _ | refine Blk.drew ?_)), (by repeat (with_reducible first | assumption | exact Blk.atNew (by simp) | refine Blk.alloc ?_ _ | refine Blk.grew ?_ _ _ | refine Blk.drewN ?_ _ | refine Blk.drew ?_)), Fx.out.keep (by (repeat (with_reducible first | exact Kp.refl _ | exact kp_same | exact kp_app1 | exact kp_app2 | exact kp_app3 | refine Kp.grew ?_ _ _ | refine Kp.drewN ?_ _ | refine Kp.drew ?_ | refine Kp.alloc ?_ _))), rfl, (by (try show Gr _ _); repeat (with_reducible first | exact Gr.refl _ | refine Gr.drewN ?_ _ | refine Gr.grew ?_ _ _ | refine Gr.alloc ?_ _ | refine Gr.drew ?_)), HR.out, by omega, rfl⟩
    case round =>
      obtain ⟨ys, R, b1, o1, c1, rfl, h0, h2, hs, hyl, hg, hr, hle, rfl⟩ := hrel
      have hyl2 : ys.length = W * H := by rw [hyl]; exact Hl.out
      obtain ⟨N, hN⟩ : ∃ N, N = gCnt (gGets ys W H) ys.length := ⟨_, rfl⟩
      have HC := Lib.hid (S_l05Round W H (w.heap.size + 2) b1 o1 c1 ys wr ⟨h2.cellv 0 rfl, h2.cellv 1 rfl, h2.cellv 2 rfl, hs⟩ hW hH hW0 hH0 hyl2)
      rw [← hN] at HC
      have hst := gHls_step W H ys
      rw [← hN] at hst
      have hrun0 := fun h => gRun_end (W := W) (H := H) (xs := ys) (r := R) h
      have hrun1 := fun h => gRun_on (W := W) (H := H) (xs := ys) (r := R) h
      rw [← hN] at hrun0 hrun1
      have hstl := gStep_length W H ys
      have hb := h2.lt
      have hy0 : 0 < ys.length := by omega
      go_wp2_with fail
      refine HC.out.mono ?_
      rintro e u ⟨⟨v0, rfl, ho⟩, g⟩
      have ho2 : FOwn u (w.heap.size + 3) 65 v0 (gStep W H ys) := ho.base (by omega)
      obtain ⟨zs, hzs⟩ : ∃ zs, zs = gStep W H ys := ⟨_, rfl⟩
      rw [← hzs] at ho2 hst hrun0 hrun1 hstl
      obtain ⟨gg, cg, rfl, hgb⟩ := ho2.ptr (by omega)
      have k0 := h0.gr g
      have k2 := h2.gr g
      have G := hg.trans g
      have y0 := k0.cellv 0
      have y1 := k0.cellv 1
      have y2 := k0.cellv 2
      have f0 := k0.frozen 0
      have f1 := k0.frozen 1
      have f2 := k0.frozen 2
      have q0 := k2.cellv 0
      have q1 := k2.cellv 1
      have q2 := k2.cellv 2
      have z0 := k2.frozen 0
      have z1 := k2.frozen 1
      have z2 := k2.frozen 2
      have K0 := Lib.hid k0
      have K2 := Lib.hid k2
      have HG := Lib.hid G
      have HO := Lib.hid ho2
      have HR := Lib.hid hr
      have hlt := k2.lt
      have hul := G.size
      have HZ := Lib.hid (show zs.length = xs.length by omega)
      clear HC ho ho2 g k0 k2 G hzs h0 h2 hs hg hgb hN hr hstl hyl hyl2
      go_upto_region 7 with fail
      generalize hwq : World.alloc _ _ = wq
      have N0 : Blk wq (w.heap.size + 1) [.int .i64 0, .int .i64 0, .slice none 0 0] 24 := by
        rw [← hwq]
        have h := K0.out
        repeat (with_reducible first | exact h | refine Blk.setOther ?_ _ (by simp <;> omega) | refine Blk.alloc ?_ _)
      have N2 : Blk wq (w.heap.size + 2) [.int .i64 W, .int .i64 H, .slice (some ⟨gg, 0, none⟩) zs.length cg] 24 := by
        rw [← hwq]
        exact Blk.alloc (Blk.set (i := 2) (Blk.set (i := 1) (Blk.set (i := 0) K2.out (.int .i64 W)) (.int .i64 H)) (.slice (some ⟨gg, 0, none⟩) zs.length cg)) _
      have NF : Hid (FOwn wq (w.heap.size + 3) 65 (.slice (some ⟨gg, 0, none⟩) zs.length cg) zs) := by
        show FOwn _ _ _ _ _
        rw [← hwq]
        have h := HO.out
        repeat (with_reducible first | exact h | refine FOwn.setOther ?_ _ (by simp <;> omega) | refine FOwn.alloc ?_ _)
      have NG : Hid (Gr w wq) := by
        show Gr _ _
        rw [← hwq]
        have h := HG.out
        repeat (with_reducible first | exact h | refine Gr.setCell ?_ (by simp <;> omega) _ | refine Gr.alloc ?_ _)
      clear hwq y0 y1 y2 f0 f1 f2 q0 q1 q2 z0 z1 z2 K0 K2 HG HO
      have y0 := N0.cellv 0
      have y1 := N0.cellv 1
      have y2 := N0.cellv 2
      have f0 := N0.frozen 0
      have f1 := N0.frozen 1
      have f2 := N0.frozen 2
      have q0 := N2.cellv 0
      have q1 := N2.cellv 1
      have q2 := N2.cellv 2
      have HN0 := Lib.hid N0
      have HN2 := Lib.hid N2
      clear N0 N2
      by_cases hz : N = 0
      · subst hz
        have E0 := Lib.hid (hrun0 rfl)
        clear hrun0 hrun1
        go_wp2
        refine bodyPost_ret (v := .tuple #[.agg #[.int .i64 W, .int .i64 H, .slice (some ⟨gg, 0, none⟩) zs.length cg], .int .i64 R, .bool true]) (by simp [results, Try.results39, go_sem, *]) rfl ⟨⟨.slice (some ⟨gg, 0, none⟩) zs.length cg, ?_, ?_⟩, ?_⟩
        · rw [← HR.out.out, E0.out]; rfl
        · rw [← HR.out.out, E0.out]
          have h := NF.out
          refine FOwn.base (B := w.heap.size + 3) ?_ (by omega)
          repeat (with_reducible first | exact h | refine FOwn.setOther ?_ _ (by simp <;> omega) | refine FOwn.alloc ?_ _)
        · have h := NG.out
          repeat (with_reducible first | exact h | refine Gr.setCell ?_ (by simp <;> omega) _ | refine Gr.alloc ?_ _)
      · have E1 := Lib.hid (hrun1 hz)
        have hNz : ¬ (N : Int) = 0 := by omega
        clear hrun0 hrun1
        go_wp2
        go_roundg (gHls zs)
        case measure => omega
        case rel => exact ⟨zs, R + 1, gg, 0, cg, by go_num, HN0.out, HN2.out, FOwn.toFSl NF.out, HZ.out, NG.out, by rw [← HR.out.out, E1.out]; rfl, by omega, rfl⟩
set_option maxRecDepth 20000 in
set_option maxHeartbeats 8000000 in
theorem I_FillAll (W H : Int) (a : Option Addr) (ca : Nat) (xs : List Nat) (w : World) (fx : FSl w a xs.length xs) (hn : xs.length ≤ 1048576) :
    Calls Try.prog 41 #[.agg #[.int .i64 W, .int .i64 H, .slice a xs.length ca]] w
      (PostPI w (gW (gPic W H xs.length) W) (gW (gPic W H xs.length) H) (gAllR W H xs) (gPic W H xs.length) (gAllL W H xs)) := by
  have hn' : xs.length ≤ maxLen := by unfold maxLen; omega
  have Fx := Lib.hid fx
  clear fx
  cases hT : gPic W H xs.length
  · have EL : gAllL W H xs = [] := by unfold gAllL; rw [hT]; rfl
    have ER : gAllR W H xs = 0 := by unfold gAllR; rw [hT]; rfl
    rw [EL, ER]
    clear EL ER
    go_enter Try.func41, Try.ntmps41
    go_wp2_with (first
      | (go_at_call 90; with_reducible refine (I_ValidMap _ _ _ _ _ _ hn').mono ?_; rintro e w' ⟨rfl, os, m, rfl⟩; rw [hT]))
    exact bodyPost_ret (v := .tuple #[.agg #[.int .i64 0, .int .i64 0, .slice none 0 0], .int .i64 0, .bool false]) (by simp [results, Try.results41, go_sem]) rfl ⟨⟨_, rfl, FOwn.nil _ _ _⟩, (by (try show Gr _ _); repeat (with_reducible first | exact Gr.refl _ | refine Gr.drewN ?_ _ | refine Gr.grew ?_ _ _ | refine Gr.alloc ?_ _ | refine Gr.drew ?_))⟩
  · have hp1 := (gPic_true hT).2
    obtain ⟨s1, s2, s3, s4, s5, s6⟩ := gSize_true (gPic_true hT).1
    obtain ⟨W, rfl⟩ := Int.eq_ofNat_of_zero_le (show 0 ≤ W by omega)
    obtain ⟨H, rfl⟩ := Int.eq_ofNat_of_zero_le (show 0 ≤ H by omega)
    have hl : xs.length = W * H := by exact_mod_cast hp1
    have hpos : 0 < xs.length := by omega
    have hn5 : xs.length ≤ 576 := (by rw [hl]; exact Nat.mul_le_mul (show W ≤ 24 by omega) (show H ≤ 24 by omega) : xs.length ≤ 24 * 24)
    have EL : gAllL W H xs = (gRun W H xs 0).1 := by unfold gAllL; rw [hT]; rfl
    have ER : gAllR W H xs = ((gRun W H xs 0).2 : Int) := by unfold gAllR; rw [hT]; rfl
    rw [EL, ER]
    obtain ⟨RR, hRR⟩ : ∃ RR, RR = gRun W H xs 0 := ⟨_, rfl⟩
    rw [← hRR]
    have HR := Lib.hid hRR.symm
    have hW : W ≤ 24 := by omega
    have hH : H ≤ 24 := by omega
    have hW0 : 1 ≤ W := by omega
    have hH0 : 1 ≤ H := by omega
    have Hl := Lib.hid hl
    have hh := gHls_le xs
    obtain ⟨bx, ox, rfl⟩ := Fx.out.ptr hpos
    clear EL ER hRR hp1 hl s5 s6
    go_enter Try.func41, Try.ntmps41
    go_wp2_with (first
      | (go_at_call 90; with_reducible refine (I_ValidMap _ _ _ _ _ _ hn').mono ?_; rintro e w' ⟨rfl, os, m, rfl⟩; rw [hT]))
    go_loopg [5] (gHls xs) (fun g1 s wr => ∃ (ys : List Nat) (R b1 o1 c1 : Nat), s = .int .i64 R ∧ Blk wr (w.heap.size + 1) [.int .i64 0, .int .i64 0, .slice none 0 0] 24 ∧ Blk wr w.heap.size [.int .i64 W, .int .i64 H, .slice (some ⟨b1, o1, none⟩) ys.length c1] 24 ∧ FSl wr (some ⟨b1, o1, none⟩) ys.length ys ∧ ys.length = xs.length ∧ Gr w wr ∧ Hid (gRun W H ys R = RR) ∧ R + gHls ys ≤ 576 ∧ g1 = gHls ys)
    case atStart => exact ⟨xs, 0, bx, ox, ca, rfl, (by repeat (with_reducible first | assumption | exact Blk.atNew (by simp) | refine Blk.alloc ?_ _ | refine Blk.grew ?_ _ _ | refine Blk.drewN ?_ _ | refine Blk.drew ?_)), (by repeat (with_reducible first | assumption | exact Blk.atNew (by simp) | refine Blk.alloc ?_ _ | refine Blk.grew ?_ _ _ | refine Blk.drewN ?_ _ | refine Blk.drew ?_)), Fx.out.keep (by (repeat (with_reducible first | exact Kp.refl _ | exact kp_same | exact kp_app1 | exact kp_app2 | exact kp_app3 | refine Kp.grew ?_ _ _ | refine Kp.drewN ?_ _ | refine Kp.drew ?_ | refine Kp.alloc ?_ _))), rfl, (by (try show Gr _ _); repeat (with_reducible first | exact Gr.refl _ | refine Gr.drewN ?_ _ | refine Gr.grew ?_ _ _ | refine Gr.alloc ?_ _ | refine Gr.drew ?_)), HR.out, by omega, rfl⟩
    case round =>
      obtain ⟨ys, R, b1, o1, c1, rfl, h0, h2, hs, hyl, hg, hr, hle, rfl⟩ := hrel
      have hyl2 : ys.length = W * H := by rw [hyl]; exact Hl.out
      obtain ⟨N, hN⟩ : ∃ N, N = gCnt (gGets ys W H) ys.length := ⟨_, rfl⟩
      have HC := Lib.hid (I_filled W H b1 o1 c1 ys wr hs hW hH hW0 hH0 hyl2)
      have e0 := h2.cellv 0
      have e1 := h2.cellv 1
      have e2 := h2.cellv 2
      rw [← hN] at HC
      have hst := gHls_step W H ys
      rw [← hN] at hst
      have hrun0 := fun h => gRun_end (W := W) (H := H) (xs := ys) (r := R) h
      have hrun1 := fun h => gRun_on (W := W) (H := H) (xs := ys) (r := R) h
      rw [← hN] at hrun0 hrun1
      have hstl := gStep_length W H ys
      have hb := h0.lt
      have hy0 : 0 < ys.length := by omega
      have hzl := Lib.hid (⟨hyl, hstl⟩ : _ ∧ _)
      clear hyl hyl2 hstl
      go_wp2_with fail
      refine HC.out.mono ?_
      rintro e u ⟨⟨v0, rfl, ho⟩, g⟩
      have ho2 : FOwn u (w.heap.size + 2) 65 v0 (gStep W H ys) := ho.base (by omega)
      obtain ⟨zs, hzs⟩ : ∃ zs, zs = gStep W H ys := ⟨_, rfl⟩
      have hyl := hzl.out.1
      have hstl := hzl.out.2
      rw [← hzs] at ho2 hst hrun0 hrun1 hstl
      obtain ⟨gg, cg, rfl, hgb⟩ := ho2.ptr (by omega)
      have k0 := h0.gr g
      have k2 := h2.gr g
      have G := hg.trans g
      have y0 := k0.cellv 0
      have y1 := k0.cellv 1
      have y2 := k0.cellv 2
      have f0 := k0.frozen 0
      have f1 := k0.frozen 1
      have f2 := k0.frozen 2
      have q0 := k2.cellv 0
      have q1 := k2.cellv 1
      have q2 := k2.cellv 2
      have z0 := k2.frozen 0
      have z1 := k2.frozen 1
      have z2 := k2.frozen 2
      have K0 := Lib.hid k0
      have K2 := Lib.hid k2
      have HG := Lib.hid G
      have HO := Lib.hid ho2
      have HR := Lib.hid hr
      have hlt := k0.lt
      have hul := G.size
      have HZ := Lib.hid (show zs.length = xs.length by omega)
      clear e0 e1 e2 HC ho ho2 g k0 k2 G hzs h0 h2 hs hg hgb hN hr hstl hyl hzl
      go_upto_region 6 with fail
      generalize hwq : World.setCell _ ⟨w.heap.size, 2, none⟩ _ = wq
      have N0 : Blk wq (w.heap.size + 1) [.int .i64 0, .int .i64 0, .slice none 0 0] 24 := by
        rw [← hwq]
        have h := K0.out
        repeat (with_reducible first | exact h | refine Blk.setOther ?_ _ (by simp <;> omega) | refine Blk.alloc ?_ _)
      have N2 : Blk wq w.heap.size [.int .i64 W, .int .i64 H, .slice (some ⟨gg, 0, none⟩) zs.length cg] 24 := by
        rw [← hwq]
        exact Blk.set (i := 2) (Blk.set (i := 1) (Blk.set (i := 0) (Blk.alloc K2.out _) (.int .i64 W)) (.int .i64 H)) (.slice (some ⟨gg, 0, none⟩) zs.length cg)
      have NF : Hid (FOwn wq (w.heap.size + 2) 65 (.slice (some ⟨gg, 0, none⟩) zs.length cg) zs) := by
        show FOwn _ _ _ _ _
        rw [← hwq]
        have h := HO.out
        repeat (with_reducible first | exact h | refine FOwn.setOther ?_ _ (by simp <;> omega) | refine FOwn.alloc ?_ _)
      have NG : Hid (Gr w wq) := by
        show Gr _ _
        rw [← hwq]
        have h := HG.out
        repeat (with_reducible first | exact h | refine Gr.setCell ?_ (by simp <;> omega) _ | refine Gr.alloc ?_ _)
      clear hwq y0 y1 y2 f0 f1 f2 q0 q1 q2 z0 z1 z2 K0 K2 HG HO
      have y0 := N0.cellv 0
      have y1 := N0.cellv 1
      have y2 := N0.cellv 2
      have f0 := N0.frozen 0
      have f1 := N0.frozen 1
      have f2 := N0.frozen 2
      have q0 := N2.cellv 0
      have q1 := N2.cellv 1
      have q2 := N2.cellv 2
      have HN0 := Lib.hid N0
      have HN2 := Lib.hid N2
      clear N0 N2
      by_cases hz : N = 0
      · subst hz
        have E0 := Lib.hid (hrun0 rfl)
        clear hrun0 hrun1
        go_wp2
        refine bodyPost_ret (v := .tuple #[.agg #[.int .i64 W, .int .i64 H, .slice (some ⟨gg, 0, none⟩) zs.length cg], .int .i64 R, .bool true]) (by simp [results, Try.results41, go_sem, *]) rfl ⟨⟨.slice (some ⟨gg, 0, none⟩) zs.length cg, ?_, ?_⟩, ?_⟩
        · rw [← HR.out.out, E0.out]; rfl
        · rw [← HR.out.out, E0.out]
          have h := NF.out
          refine FOwn.base (B := w.heap.size + 2) ?_ (by omega)
          repeat (with_reducible first | exact h | refine FOwn.setOther ?_ _ (by simp <;> omega) | refine FOwn.alloc ?_ _)
        · have h := NG.out
          repeat (with_reducible first | exact h | refine Gr.setCell ?_ (by simp <;> omega) _ | refine Gr.alloc ?_ _)
      · have E1 := Lib.hid (hrun1 hz)
        have hNz : ¬ (N : Int) = 0 := by omega
        clear hrun0 hrun1
        go_wp2
        go_roundg (gHls zs)
        case measure => omega
        case rel => exact ⟨zs, R + 1, gg, 0, cg, by go_num, HN0.out, HN2.out, FOwn.toFSl NF.out, HZ.out, NG.out, by rw [← HR.out.out, E1.out]; rfl, by omega, rfl⟩
end Go.Proofs.Ytaidkokgafojeaa
