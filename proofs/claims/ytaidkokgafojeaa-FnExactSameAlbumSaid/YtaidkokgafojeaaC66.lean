/- Contracts: SameAlbum. MAXREC -/
import Derived.Test.YtaidkokgafojeaaProg
import Derived.Test.YtaidkokgafojeaaC65
import Derived.Deep.DeepCutAuto
import Derived.Deep.RegionHeld3
namespace Go.Proofs.Ytaidkokgafojeaa
open Go.RowKit Go.Fx Go.Soft
set_option maxRecDepth 20000 in
set_option maxHeartbeats 1000000 in
theorem S_SamePicture (W H W' H' : Int) (a b : Option Addr) (ca cb : Nat) (xs ys : List Nat) (w : World) (hx : FSl w a xs.length xs) (hy : FSl w b ys.length ys) (hn : xs.length ≤ 1048576) (hm : ys.length ≤ 1048576) :
    Calls Try.prog 79 #[.agg #[.int .i64 W, .int .i64 H, .slice a xs.length ca], .agg #[.int .i64 W', .int .i64 H', .slice b ys.length cb]] w
      fun e w' => e = .returned (.bool (decide (W = W') && (decide (H = H') && gSames xs ys))) ∧ Gr w w' := by
  have LS := Lib.hid (fun w1 (g : Gr w w1) => S_l01SameAll a b ca cb xs ys w1 (hx.keep g.kp) (hy.keep g.kp) hn hm)
  clear hx hy
  generalize gSames xs ys = R at *
  by_cases hW : W = W'
  · by_cases hH : H = H'
    · rw [decide_eq_true hW, decide_eq_true hH, Bool.true_and, Bool.true_and]
      subst hW hH
      cases R
      all_goals
        go_enter Try.func79, Try.ntmps79
        go_wp2_with fail
        refine (LS.out _ (by (try show Gr _ _); repeat (with_reducible first | exact Gr.refl _ | refine Gr.drewN ?_ _ | refine Gr.grew ?_ _ _ | refine Gr.alloc ?_ _ | refine Gr.drew ?_))).mono ?_
        rintro e w1 ⟨rfl, q, rfl⟩
        go_wp2
        go_ret
        exact ⟨rfl, (by (try show Gr _ _); repeat (with_reducible first | exact Gr.refl _ | refine Gr.drewN ?_ _ | refine Gr.grew ?_ _ _ | refine Gr.alloc ?_ _ | refine Gr.drew ?_))⟩
    · rw [decide_eq_true hW, decide_eq_false hH, Bool.true_and, Bool.false_and]
      go_enter Try.func79, Try.ntmps79
      go_wp2
      go_ret
      exact ⟨rfl, (by (try show Gr _ _); repeat (with_reducible first | exact Gr.refl _ | refine Gr.drewN ?_ _ | refine Gr.grew ?_ _ _ | refine Gr.alloc ?_ _ | refine Gr.drew ?_))⟩
  · rw [decide_eq_false hW, Bool.false_and]
    go_enter Try.func79, Try.ntmps79
    go_wp2
    go_ret
    exact ⟨rfl, (by (try show Gr _ _); repeat (with_reducible first | exact Gr.refl _ | refine Gr.drewN ?_ _ | refine Gr.grew ?_ _ _ | refine Gr.alloc ?_ _ | refine Gr.drew ?_))⟩
set_option maxRecDepth 20000 in
set_option maxHeartbeats 1000000 in
theorem I_SamePicture (W H W' H' : Int) (a b : Option Addr) (ca cb : Nat) (xs ys : List Nat) (w : World) (hx : FSl w a xs.length xs) (hy : FSl w b ys.length ys) (hn : xs.length ≤ 1048576) (hm : ys.length ≤ 1048576) :
    Calls Try.prog 81 #[.agg #[.int .i64 W, .int .i64 H, .slice a xs.length ca], .agg #[.int .i64 W', .int .i64 H', .slice b ys.length cb]] w
      fun e w' => e = .returned (.bool (decide (W = W') && (decide (H = H') && gSames xs ys))) ∧ Gr w w' := by
  have LS := Lib.hid (fun w1 (g : Gr w w1) => I_sameList a b ca cb xs ys w1 (hx.keep g.kp) (hy.keep g.kp) hn hm)
  clear hx hy
  generalize gSames xs ys = R at *
  by_cases hW : W = W'
  · by_cases hH : H = H'
    · rw [decide_eq_true hW, decide_eq_true hH, Bool.true_and, Bool.true_and]
      subst hW hH
      cases R
      all_goals
        go_enter Try.func81, Try.ntmps81
        go_wp2_with fail
        refine (LS.out _ (by (try show Gr _ _); repeat (with_reducible first | exact Gr.refl _ | refine Gr.drewN ?_ _ | refine Gr.grew ?_ _ _ | refine Gr.alloc ?_ _ | refine Gr.drew ?_))).mono ?_
        rintro e w1 ⟨rfl, g⟩
        have G := Lib.hid (show Gr w w1 from Gr.trans (by (try show Gr _ _); repeat (with_reducible first | exact Gr.refl _ | refine Gr.drewN ?_ _ | refine Gr.grew ?_ _ _ | refine Gr.alloc ?_ _ | refine Gr.drew ?_)) g)
        go_wp2
        go_ret
        exact ⟨rfl, G.out⟩
    · rw [decide_eq_true hW, decide_eq_false hH, Bool.true_and, Bool.false_and]
      go_enter Try.func81, Try.ntmps81
      go_wp2
      go_ret
      exact ⟨rfl, (by (try show Gr _ _); repeat (with_reducible first | exact Gr.refl _ | refine Gr.drewN ?_ _ | refine Gr.grew ?_ _ _ | refine Gr.alloc ?_ _ | refine Gr.drew ?_))⟩
  · rw [decide_eq_false hW, Bool.false_and]
    go_enter Try.func81, Try.ntmps81
    go_wp2
    go_ret
    exact ⟨rfl, (by (try show Gr _ _); repeat (with_reducible first | exact Gr.refl _ | refine Gr.drewN ?_ _ | refine Gr.grew ?_ _ _ | refine Gr.alloc ?_ _ | refine Gr.drew ?_))⟩
set_option maxRecDepth 20000 in
set_option maxHeartbeats 2000000 in
theorem S_SameAlbum (a b : Option Addr) (n m ca cb : Nat) (ps qs : List Pic) (w : World) (hp : PSl w a ps) (hq : PSl w b qs) (hn : ps.length = n) (hm : qs.length = m) (hn' : n ≤ 1048576) (hm' : m ≤ 1048576) (lp : ∀ i, i < n → (pAt ps i).gs.length ≤ 1048576) (lq : ∀ i, i < m → (pAt qs i).gs.length ≤ 1048576) :
    Calls Try.prog 32 #[.agg #[.slice a n ca], .agg #[.slice b m cb]] w fun e w' => e = .returned (.bool (gAlb ps && (gAlb qs && gSamePics ps qs))) ∧ Gr w w' := by
  have HP := Lib.hid hp
  have HQ := Lib.hid hq
  have Hn := Lib.hid hn
  have Hm := Lib.hid hm
  have LP := Lib.hid lp
  have LQ := Lib.hid lq
  clear hp hq hn hm lp lq
  have A1 := Lib.hid (fun w1 b0 (g : Gr w w1) c0 => S_l07Album b0 a n ca ps w1 c0 (HP.out.keep g.kp) Hn.out hn')
  have A2 := Lib.hid (fun w1 b0 (g : Gr w w1) c0 => S_l07Album b0 b m cb qs w1 c0 (HQ.out.keep g.kp) Hm.out hm')
  cases h1 : gAlb ps
  · rw [h1] at A1
    rw [Bool.false_and]
    go_enter Try.func32, Try.ntmps32
    go_wp2_with (first
      | (go_at_call 74; with_reducible refine (A1.out _ _ (by (try show Gr _ _); repeat (with_reducible first | exact Gr.refl _ | refine Gr.drewN ?_ _ | refine Gr.grew ?_ _ _ | refine Gr.alloc ?_ _ | refine Gr.drew ?_)) (by first | (simp (maxDischargeDepth := 12) [go_sem]; done) | (simp (maxDischargeDepth := 12) [go_sem, *]; done))).mono ?_; rintro e w' ⟨rfl, q, rfl⟩))
    go_ret
    exact ⟨rfl, (by (try show Gr _ _); repeat (with_reducible first | exact Gr.refl _ | refine Gr.drewN ?_ _ | refine Gr.grew ?_ _ _ | refine Gr.alloc ?_ _ | refine Gr.drew ?_))⟩
  rw [h1] at A1
  cases h2 : gAlb qs
  · rw [h2] at A2
    rw [Bool.true_and, Bool.false_and]
    go_enter Try.func32, Try.ntmps32
    go_wp2_with (first
      | (go_at_call 74; with_reducible refine (A1.out _ w.heap.size (by (try show Gr _ _); repeat (with_reducible first | exact Gr.refl _ | refine Gr.drewN ?_ _ | refine Gr.grew ?_ _ _ | refine Gr.alloc ?_ _ | refine Gr.drew ?_)) (by first | (simp (maxDischargeDepth := 12) [go_sem]; done) | (simp (maxDischargeDepth := 12) [go_sem, *]; done))).mono ?_; rintro e w' ⟨rfl, q, rfl⟩)
      | (go_at_call 74; with_reducible refine (A2.out _ _ (by (try show Gr _ _); repeat (with_reducible first | exact Gr.refl _ | refine Gr.drewN ?_ _ | refine Gr.grew ?_ _ _ | refine Gr.alloc ?_ _ | refine Gr.drew ?_)) (by first | (simp (maxDischargeDepth := 12) [go_sem]; done) | (simp (maxDischargeDepth := 12) [go_sem, *]; done))).mono ?_; rintro e w' ⟨rfl, q2, rfl⟩))
    go_ret
    exact ⟨rfl, (by (try show Gr _ _); repeat (with_reducible first | exact Gr.refl _ | refine Gr.drewN ?_ _ | refine Gr.grew ?_ _ _ | refine Gr.alloc ?_ _ | refine Gr.drew ?_))⟩
  rw [h2] at A2
  rw [Bool.true_and, Bool.true_and]
  clear h1 h2
  obtain ⟨R, hR⟩ : ∃ R, R = gSamePics ps qs := ⟨_, rfl⟩
  rw [← hR]
  have HR := Lib.hid hR
  clear hR
  by_cases hl : n = m
  · subst hl
    go_enter Try.func32, Try.ntmps32
    go_wp2_with (first
      | (go_at_call 74; with_reducible refine (A1.out _ w.heap.size (by (try show Gr _ _); repeat (with_reducible first | exact Gr.refl _ | refine Gr.drewN ?_ _ | refine Gr.grew ?_ _ _ | refine Gr.alloc ?_ _ | refine Gr.drew ?_)) (by first | (simp (maxDischargeDepth := 12) [go_sem]; done) | (simp (maxDischargeDepth := 12) [go_sem, *]; done))).mono ?_; rintro e w' ⟨rfl, q, rfl⟩)
      | (go_at_call 74; with_reducible refine (A2.out _ _ (by (try show Gr _ _); repeat (with_reducible first | exact Gr.refl _ | refine Gr.drewN ?_ _ | refine Gr.grew ?_ _ _ | refine Gr.alloc ?_ _ | refine Gr.drew ?_)) (by first | (simp (maxDischargeDepth := 12) [go_sem]; done) | (simp (maxDischargeDepth := 12) [go_sem, *]; done))).mono ?_; rintro e w' ⟨rfl, q2, rfl⟩))
    clear A1 A2
    go_loopw [5] (fun i wr => ∃ k : Nat, k ≤ n ∧ i = .int .i64 k ∧ Hid (∀ j, j < k → gSamePic (pAt ps j) (pAt qs j) = true) ∧ Blk wr w.heap.size [.slice a n ca] 50 ∧ Blk wr (w.heap.size + 1) [.slice b n cb] 50 ∧ Gr w wr) (fun i _ => n - (intOf i).toNat)
    case atStart => exact ⟨0, Nat.zero_le _, rfl, Lib.hid (fun j h => absurd h (Nat.not_lt_zero _)), (by repeat (with_reducible first | assumption | exact Blk.atNew (by simp) | refine Blk.alloc ?_ _ | refine Blk.grew ?_ _ _ | refine Blk.drewN ?_ _ | refine Blk.drew ?_)), (by repeat (with_reducible first | assumption | exact Blk.atNew (by simp) | refine Blk.alloc ?_ _ | refine Blk.grew ?_ _ _ | refine Blk.drewN ?_ _ | refine Blk.drew ?_)), (by (try show Gr _ _); repeat (with_reducible first | exact Gr.refl _ | refine Gr.drewN ?_ _ | refine Gr.grew ?_ _ _ | refine Gr.alloc ?_ _ | refine Gr.drew ?_))⟩
    case round =>
      obtain ⟨k, hk, rfl, hv, b0, b1, hg⟩ := hrel
      have x0 := b0.cellv 0
      have x1 := b1.cellv 0
      have B0 := Lib.hid b0
      have B1 := Lib.hid b1
      have Hg := Lib.hid hg
      by_cases hlt : k < n
      · obtain ⟨bl, off, rfl⟩ := HP.out.ptr (by rw [Hn.out]; omega)
        obtain ⟨bl', off', rfl⟩ := HQ.out.ptr (by rw [Hm.out]; omega)
        obtain ⟨ga, gc, d0, d1, d2, df, -⟩ := (HP.out.keep hg.kp).get (i := k) (by rw [Hn.out]; exact hlt)
        obtain ⟨gb, gd, e0, e1, e2, ef, -⟩ := (HQ.out.keep hg.kp).get (i := k) (by rw [Hm.out]; exact hlt)
        have LS := Lib.hid (fun w1 (g : Gr wr w1) => S_SamePicture (pAt ps k).wide (pAt ps k).high (pAt qs k).wide (pAt qs k).high ga gb gc gd (pAt ps k).gs (pAt qs k).gs w1 (df.keep g.kp) (ef.keep g.kp) (LP.out k hlt) (LQ.out k hlt))
        have HE := Lib.hid (show gSamePic (pAt ps k) (pAt qs k) = (decide ((pAt ps k).wide = (pAt qs k).wide) && (decide ((pAt ps k).high = (pAt qs k).high) && gSames (pAt ps k).gs (pAt qs k).gs)) from rfl)
        rw [← HE.out] at LS
        generalize (pAt ps k).wide = W at d0 LS
        generalize (pAt ps k).high = H at d1 LS
        generalize (pAt ps k).gs.length = L at d2 LS
        generalize (pAt qs k).wide = W' at e0 LS
        generalize (pAt qs k).high = H' at e1 LS
        generalize (pAt qs k).gs.length = L' at e2 LS
        clear b0 b1 hg df ef
        cases hT : gSamePic (pAt ps k) (pAt qs k)
        · obtain rfl : R = false := by rw [HR.out]; exact gSamePics_no (by rw [Hn.out]; exact hlt) hT
          rw [hT] at LS
          clear hT
          go_wp2
          go_region_held3 (fun w' => w'.cell? ⟨w.heap.size, 0, none⟩ = some (.slice (some ⟨bl, off, none⟩) n ca) ∧ w'.cell? ⟨w.heap.size + 1, 0, none⟩ = some (.slice (some ⟨bl', off', none⟩) n cb) ∧ w'.cell? ⟨bl, off + k * 3, none⟩ = some (.int .i64 W) ∧ w'.cell? ⟨bl, off + k * 3 + 1, none⟩ = some (.int .i64 H) ∧ w'.cell? ⟨bl, off + k * 3 + 2, none⟩ = some (.slice ga L gc) ∧ w'.cell? ⟨bl', off' + k * 3, none⟩ = some (.int .i64 W') ∧ w'.cell? ⟨bl', off' + k * 3 + 1, none⟩ = some (.int .i64 H') ∧ w'.cell? ⟨bl', off' + k * 3 + 2, none⟩ = some (.slice gb L' gd))
      (first | (simp (maxDischargeDepth := 12) [go_sem]; done) | (simp (maxDischargeDepth := 12) [go_sem, *]; done)) (first
      | (go_at_call 79; refine (LS.out _ (by (try show Gr _ _); repeat (with_reducible first | exact Gr.refl _ | refine Gr.drewN ?_ _ | refine Gr.grew ?_ _ _ | refine Gr.alloc ?_ _ | refine Gr.drew ?_))).mono ?_; rintro e w' ⟨rfl, os, m, rfl⟩))
          go_wp2
          go_ret
          exact ⟨rfl, Hg.out.trans (by (try show Gr _ _); repeat (with_reducible first | exact Gr.refl _ | refine Gr.drewN ?_ _ | refine Gr.grew ?_ _ _ | refine Gr.alloc ?_ _ | refine Gr.drew ?_))⟩
        · have HV := Lib.hid (show ∀ j, j < k + 1 → gSamePic (pAt ps j) (pAt qs j) = true from fun j hj => by
            by_cases hjk : j < k
            · exact hv.out j hjk
            · obtain rfl : j = k := by omega
              exact hT)
          rw [hT] at LS
          clear hT
          go_wp2
          go_region_held3 (fun w' => w'.cell? ⟨w.heap.size, 0, none⟩ = some (.slice (some ⟨bl, off, none⟩) n ca) ∧ w'.cell? ⟨w.heap.size + 1, 0, none⟩ = some (.slice (some ⟨bl', off', none⟩) n cb) ∧ w'.cell? ⟨bl, off + k * 3, none⟩ = some (.int .i64 W) ∧ w'.cell? ⟨bl, off + k * 3 + 1, none⟩ = some (.int .i64 H) ∧ w'.cell? ⟨bl, off + k * 3 + 2, none⟩ = some (.slice ga L gc) ∧ w'.cell? ⟨bl', off' + k * 3, none⟩ = some (.int .i64 W') ∧ w'.cell? ⟨bl', off' + k * 3 + 1, none⟩ = some (.int .i64 H') ∧ w'.cell? ⟨bl', off' + k * 3 + 2, none⟩ = some (.slice gb L' gd))
      (first | (simp (maxDischargeDepth := 12) [go_sem]; done) | (simp (maxDischargeDepth := 12) [go_sem, *]; done)) (first
      | (go_at_call 79; refine (LS.out _ (by (try show Gr _ _); repeat (with_reducible first | exact Gr.refl _ | refine Gr.drewN ?_ _ | refine Gr.grew ?_ _ _ | refine Gr.alloc ?_ _ | refine Gr.drew ?_))).mono ?_; rintro e w' ⟨rfl, os, m, rfl⟩))
          go_wp2
          go_roundw
          case rel => exact ⟨k + 1, by omega, by go_num, HV, B0.out.gr (by (try show Gr _ _); repeat (with_reducible first | exact Gr.refl _ | refine Gr.drewN ?_ _ | refine Gr.grew ?_ _ _ | refine Gr.alloc ?_ _ | refine Gr.drew ?_)), B1.out.gr (by (try show Gr _ _); repeat (with_reducible first | exact Gr.refl _ | refine Gr.drewN ?_ _ | refine Gr.grew ?_ _ _ | refine Gr.alloc ?_ _ | refine Gr.drew ?_)), Hg.out.trans (by (try show Gr _ _); repeat (with_reducible first | exact Gr.refl _ | refine Gr.drewN ?_ _ | refine Gr.grew ?_ _ _ | refine Gr.alloc ?_ _ | refine Gr.drew ?_))⟩
          case measure => simp [intOf]; omega
      · obtain rfl : k = n := by omega
        obtain rfl : R = true := by rw [HR.out]; exact gSamePics_yes (by rw [Hn.out, Hm.out]) (by rw [Hn.out]; exact hv.out)
        clear b0 b1 hg
        go_wp2
        go_ret
        exact ⟨rfl, Hg.out⟩
  · obtain rfl : R = false := by rw [HR.out]; exact gSamePics_len (by rw [Hn.out, Hm.out]; exact hl)
    go_enter Try.func32, Try.ntmps32
    go_wp2_with (first
      | (go_at_call 74; with_reducible refine (A1.out _ w.heap.size (by (try show Gr _ _); repeat (with_reducible first | exact Gr.refl _ | refine Gr.drewN ?_ _ | refine Gr.grew ?_ _ _ | refine Gr.alloc ?_ _ | refine Gr.drew ?_)) (by first | (simp (maxDischargeDepth := 12) [go_sem]; done) | (simp (maxDischargeDepth := 12) [go_sem, *]; done))).mono ?_; rintro e w' ⟨rfl, q, rfl⟩)
      | (go_at_call 74; with_reducible refine (A2.out _ _ (by (try show Gr _ _); repeat (with_reducible first | exact Gr.refl _ | refine Gr.drewN ?_ _ | refine Gr.grew ?_ _ _ | refine Gr.alloc ?_ _ | refine Gr.drew ?_)) (by first | (simp (maxDischargeDepth := 12) [go_sem]; done) | (simp (maxDischargeDepth := 12) [go_sem, *]; done))).mono ?_; rintro e w' ⟨rfl, q2, rfl⟩))
    go_ret
    exact ⟨rfl, (by (try show Gr _ _); repeat (with_reducible first | exact Gr.refl _ | refine Gr.drewN ?_ _ | refine Gr.grew ?_ _ _ | refine Gr.alloc ?_ _ | refine Gr.drew ?_))⟩
set_option maxRecDepth 20000 in
set_option maxHeartbeats 2000000 in
theorem EqualFuncP (a b : Option Addr) (n m ca cb : Nat) (ps qs : List Pic) (w : World) (hp : PSl w a ps) (hq : PSl w b qs) (hn : ps.length = n) (hm : qs.length = m) (hn' : n ≤ 1048576) (hm' : m ≤ 1048576) (lp : ∀ i, i < n → (pAt ps i).gs.length ≤ 1048576) (lq : ∀ i, i < m → (pAt qs i).gs.length ≤ 1048576) :
    Calls Try.prog 80 #[.slice a n ca, .slice b m cb, .func (.func 81) #[] #[]] w fun e w' => e = .returned (.bool (gSamePics ps qs)) ∧ Gr w w' := by
  have HP := Lib.hid hp
  have HQ := Lib.hid hq
  have Hn := Lib.hid hn
  have Hm := Lib.hid hm
  have LP := Lib.hid lp
  have LQ := Lib.hid lq
  clear hp hq hn hm lp lq
  have hcf := Try.call81
  obtain ⟨R, hR⟩ : ∃ R, R = gSamePics ps qs := ⟨_, rfl⟩
  rw [← hR]
  have HR := Lib.hid hR
  clear hR
  by_cases hl : n = m
  · subst hl
    go_enter Try.func80, Try.ntmps80
    go_wp2
    go_loopw [17] (fun i wr => ∃ k : Nat, k ≤ n ∧ i = .int .i64 k ∧ Hid (∀ j, j < k → gSamePic (pAt ps j) (pAt qs j) = true) ∧ Gr w wr) (fun i _ => n - (intOf i).toNat)
    case atStart => exact ⟨0, Nat.zero_le _, rfl, Lib.hid (fun j h => absurd h (Nat.not_lt_zero _)), Gr.refl w⟩
    case round =>
      obtain ⟨k, hk, rfl, hv, hg⟩ := hrel
      have Hg := Lib.hid hg
      by_cases hlt : k < n
      · obtain ⟨bl, off, rfl⟩ := HP.out.ptr (by rw [Hn.out]; omega)
        obtain ⟨bl', off', rfl⟩ := HQ.out.ptr (by rw [Hm.out]; omega)
        obtain ⟨ga, gc, d0, d1, d2, df, -⟩ := (HP.out.keep hg.kp).get (i := k) (by rw [Hn.out]; exact hlt)
        obtain ⟨gb, gd, e0, e1, e2, ef, -⟩ := (HQ.out.keep hg.kp).get (i := k) (by rw [Hm.out]; exact hlt)
        have LS := Lib.hid (fun w1 (g : Gr wr w1) => I_SamePicture (pAt ps k).wide (pAt ps k).high (pAt qs k).wide (pAt qs k).high ga gb gc gd (pAt ps k).gs (pAt qs k).gs w1 (df.keep g.kp) (ef.keep g.kp) (LP.out k hlt) (LQ.out k hlt))
        have HE := Lib.hid (show gSamePic (pAt ps k) (pAt qs k) = (decide ((pAt ps k).wide = (pAt qs k).wide) && (decide ((pAt ps k).high = (pAt qs k).high) && gSames (pAt ps k).gs (pAt qs k).gs)) from rfl)
        rw [← HE.out] at LS
        generalize (pAt ps k).wide = W at d0 LS
        generalize (pAt ps k).high = H at d1 LS
        generalize (pAt ps k).gs.length = L at d2 LS
        generalize (pAt qs k).wide = W' at e0 LS
        generalize (pAt qs k).high = H' at e1 LS
        generalize (pAt qs k).gs.length = L' at e2 LS
        clear hg df ef
        cases hT : gSamePic (pAt ps k) (pAt qs k)
        · obtain rfl : R = false := by rw [HR.out]; exact gSamePics_no (by rw [Hn.out]; exact hlt) hT
          rw [hT] at LS
          clear hT
          go_wp2_with fail
          refine (LS.out _ (by (try show Gr _ _); repeat (with_reducible first | exact Gr.refl _ | refine Gr.drewN ?_ _ | refine Gr.grew ?_ _ _ | refine Gr.alloc ?_ _ | refine Gr.drew ?_))).mono ?_
          rintro e w1 ⟨rfl, g⟩
          have G1 := Lib.hid (Hg.out.trans (Gr.trans (by (try show Gr _ _); repeat (with_reducible first | exact Gr.refl _ | refine Gr.drewN ?_ _ | refine Gr.grew ?_ _ _ | refine Gr.alloc ?_ _ | refine Gr.drew ?_)) g))
          clear g
          go_wp2
          go_ret
          exact ⟨rfl, G1.out⟩
        · have HV := Lib.hid (show ∀ j, j < k + 1 → gSamePic (pAt ps j) (pAt qs j) = true from fun j hj => by
            by_cases hjk : j < k
            · exact hv.out j hjk
            · obtain rfl : j = k := by omega
              exact hT)
          rw [hT] at LS
          clear hT
          go_wp2_with fail
          refine (LS.out _ (by (try show Gr _ _); repeat (with_reducible first | exact Gr.refl _ | refine Gr.drewN ?_ _ | refine Gr.grew ?_ _ _ | refine Gr.alloc ?_ _ | refine Gr.drew ?_))).mono ?_
          rintro e w1 ⟨rfl, g⟩
          have G1 := Lib.hid (Hg.out.trans (Gr.trans (by (try show Gr _ _); repeat (with_reducible first | exact Gr.refl _ | refine Gr.drewN ?_ _ | refine Gr.grew ?_ _ _ | refine Gr.alloc ?_ _ | refine Gr.drew ?_)) g))
          clear g
          go_wp2
          go_roundw
          case rel => exact ⟨k + 1, by omega, by go_num, HV, G1.out⟩
          case measure => simp [intOf]; omega
      · obtain rfl : k = n := by omega
        obtain rfl : R = true := by rw [HR.out]; exact gSamePics_yes (by rw [Hn.out, Hm.out]) (by rw [Hn.out]; exact hv.out)
        clear hg
        go_wp2
        go_ret
        exact ⟨rfl, Hg.out⟩
  · obtain rfl : R = false := by rw [HR.out]; exact gSamePics_len (by rw [Hn.out, Hm.out]; exact hl)
    go_enter Try.func80, Try.ntmps80
    go_wp2
    go_ret
    exact ⟨rfl, (by (try show Gr _ _); repeat (with_reducible first | exact Gr.refl _ | refine Gr.drewN ?_ _ | refine Gr.grew ?_ _ _ | refine Gr.alloc ?_ _ | refine Gr.drew ?_))⟩
set_option maxRecDepth 20000 in
set_option maxHeartbeats 2000000 in
theorem I_SameAlbum (a b : Option Addr) (n m ca cb : Nat) (ps qs : List Pic) (w : World) (hp : PSl w a ps) (hq : PSl w b qs) (hn : ps.length = n) (hm : qs.length = m) (hn' : n ≤ 1048576) (hm' : m ≤ 1048576) (lp : ∀ i, i < n → (pAt ps i).gs.length ≤ 1048576) (lq : ∀ i, i < m → (pAt qs i).gs.length ≤ 1048576) :
    Calls Try.prog 33 #[.agg #[.slice a n ca], .agg #[.slice b m cb]] w fun e w' => e = .returned (.bool (gAlb ps && (gAlb qs && gSamePics ps qs))) ∧ Gr w w' := by
  have up : ∀ {k : Nat}, k ≤ 1048576 → k ≤ maxLen := fun h => Nat.le_trans h (by unfold maxLen; decide)
  have A1 := Lib.hid (fun w1 (g : Gr w w1) => I_ValidAlbum a n ca ps w1 (hp.keep g.kp) hn hn' (fun i hi => up (lp i hi)))
  have A2 := Lib.hid (fun w1 (g : Gr w w1) => I_ValidAlbum b m cb qs w1 (hq.keep g.kp) hm hm' (fun i hi => up (lq i hi)))
  have LE := Lib.hid (fun w1 (g : Gr w w1) => EqualFuncP a b n m ca cb ps qs w1 (hp.keep g.kp) (hq.keep g.kp) hn hm hn' hm' lp lq)
  clear hp hq lp lq hn hm up
  generalize gAlb ps = b1 at *
  generalize gAlb qs = b2 at *
  generalize gSamePics ps qs = b3 at *
  cases b1
  · rw [Bool.false_and]
    go_enter Try.func33, Try.ntmps33
    go_wp2_with fail
    refine (A1.out _ (by (try show Gr _ _); repeat (with_reducible first | exact Gr.refl _ | refine Gr.drewN ?_ _ | refine Gr.grew ?_ _ _ | refine Gr.alloc ?_ _ | refine Gr.drew ?_))).mono ?_
    rintro e w1 ⟨rfl, g⟩
    have G := Lib.hid (show Gr w w1 from Gr.trans (by (try show Gr _ _); repeat (with_reducible first | exact Gr.refl _ | refine Gr.drewN ?_ _ | refine Gr.grew ?_ _ _ | refine Gr.alloc ?_ _ | refine Gr.drew ?_)) g)
    clear g A1 A2 LE
    go_wp2
    go_ret
    exact ⟨rfl, G.out⟩
  · cases b2
    · rw [Bool.true_and, Bool.false_and]
      go_enter Try.func33, Try.ntmps33
      go_wp2_with fail
      refine (A1.out _ (by (try show Gr _ _); repeat (with_reducible first | exact Gr.refl _ | refine Gr.drewN ?_ _ | refine Gr.grew ?_ _ _ | refine Gr.alloc ?_ _ | refine Gr.drew ?_))).mono ?_
      rintro e w1 ⟨rfl, g⟩
      have B1 := (show Blk _ (w.heap.size + 1) [.slice b m cb] 50 from (by repeat (with_reducible first | assumption | exact Blk.atNew (by simp) | refine Blk.alloc ?_ _ | refine Blk.grew ?_ _ _ | refine Blk.drewN ?_ _ | refine Blk.drew ?_))).gr g
      have q0 := B1.cellv 0
      have G := Lib.hid (show Gr w w1 from Gr.trans (by (try show Gr _ _); repeat (with_reducible first | exact Gr.refl _ | refine Gr.drewN ?_ _ | refine Gr.grew ?_ _ _ | refine Gr.alloc ?_ _ | refine Gr.drew ?_)) g)
      clear g A1 LE B1
      go_wp2_with fail
      refine (A2.out _ (G.out.trans (by (try show Gr _ _); repeat (with_reducible first | exact Gr.refl _ | refine Gr.drewN ?_ _ | refine Gr.grew ?_ _ _ | refine Gr.alloc ?_ _ | refine Gr.drew ?_)))).mono ?_
      rintro e w2 ⟨rfl, g⟩
      have G2 := Lib.hid (show Gr w w2 from G.out.trans (Gr.trans (by (try show Gr _ _); repeat (with_reducible first | exact Gr.refl _ | refine Gr.drewN ?_ _ | refine Gr.grew ?_ _ _ | refine Gr.alloc ?_ _ | refine Gr.drew ?_)) g))
      clear g A2 q0
      go_wp2
      go_ret
      exact ⟨rfl, G2.out⟩
    · rw [Bool.true_and, Bool.true_and]
      go_enter Try.func33, Try.ntmps33
      go_wp2_with fail
      refine (A1.out _ (by (try show Gr _ _); repeat (with_reducible first | exact Gr.refl _ | refine Gr.drewN ?_ _ | refine Gr.grew ?_ _ _ | refine Gr.alloc ?_ _ | refine Gr.drew ?_))).mono ?_
      rintro e w1 ⟨rfl, g⟩
      have B0 := (show Blk _ w.heap.size [.slice a n ca] 50 from (by repeat (with_reducible first | assumption | exact Blk.atNew (by simp) | refine Blk.alloc ?_ _ | refine Blk.grew ?_ _ _ | refine Blk.drewN ?_ _ | refine Blk.drew ?_))).gr g
      have B1 := (show Blk _ (w.heap.size + 1) [.slice b m cb] 50 from (by repeat (with_reducible first | assumption | exact Blk.atNew (by simp) | refine Blk.alloc ?_ _ | refine Blk.grew ?_ _ _ | refine Blk.drewN ?_ _ | refine Blk.drew ?_))).gr g
      have q0 := B1.cellv 0
      have G := Lib.hid (show Gr w w1 from Gr.trans (by (try show Gr _ _); repeat (with_reducible first | exact Gr.refl _ | refine Gr.drewN ?_ _ | refine Gr.grew ?_ _ _ | refine Gr.alloc ?_ _ | refine Gr.drew ?_)) g)
      clear g A1
      go_wp2_with fail
      refine (A2.out _ (G.out.trans (by (try show Gr _ _); repeat (with_reducible first | exact Gr.refl _ | refine Gr.drewN ?_ _ | refine Gr.grew ?_ _ _ | refine Gr.alloc ?_ _ | refine Gr.drew ?_)))).mono ?_
      rintro e w2 ⟨rfl, g⟩
      have p0 := (B0.gr (Gr.trans (by (try show Gr _ _); repeat (with_reducible first | exact Gr.refl _ | refine Gr.drewN ?_ _ | refine Gr.grew ?_ _ _ | refine Gr.alloc ?_ _ | refine Gr.drew ?_)) g)).cellv 0
      have p1 := (B1.gr (Gr.trans (by (try show Gr _ _); repeat (with_reducible first | exact Gr.refl _ | refine Gr.drewN ?_ _ | refine Gr.grew ?_ _ _ | refine Gr.alloc ?_ _ | refine Gr.drew ?_)) g)).cellv 0
      have G2 := Lib.hid (show Gr w w2 from G.out.trans (Gr.trans (by (try show Gr _ _); repeat (with_reducible first | exact Gr.refl _ | refine Gr.drewN ?_ _ | refine Gr.grew ?_ _ _ | refine Gr.alloc ?_ _ | refine Gr.drew ?_)) g))
      clear g A2 q0 B0 B1
      go_wp2_with fail
      refine (LE.out _ (G2.out.trans (by (try show Gr _ _); repeat (with_reducible first | exact Gr.refl _ | refine Gr.drewN ?_ _ | refine Gr.grew ?_ _ _ | refine Gr.alloc ?_ _ | refine Gr.drew ?_)))).mono ?_
      rintro e w3 ⟨rfl, g⟩
      have G3 := Lib.hid (show Gr w w3 from G2.out.trans (Gr.trans (by (try show Gr _ _); repeat (with_reducible first | exact Gr.refl _ | refine Gr.drewN ?_ _ | refine Gr.grew ?_ _ _ | refine Gr.alloc ?_ _ | refine Gr.drew ?_)) g))
      clear g LE
      cases b3
      all_goals
        go_wp2
        go_ret
        exact ⟨rfl, G3.out⟩
end Go.Proofs.Ytaidkokgafojeaa
