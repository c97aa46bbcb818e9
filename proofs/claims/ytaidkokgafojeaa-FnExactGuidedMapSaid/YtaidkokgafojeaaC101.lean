/- Contracts: GuidedMap, the reference. MAXREC -/
import Derived.Test.YtaidkokgafojeaaProg
import Derived.Test.YtaidkokgafojeaaC100
import Derived.Deep.DeepCutAuto
namespace Go.Proofs.Ytaidkokgafojeaa
open Go.RowKit Go.Fx Go.Soft
def gGuI (ms gs : List Nat) (W H r : Int) (N : Nat) : Nat → Nat := gGuAt ms gs W.toNat H.toNat N r.toNat
set_option maxRecDepth 20000 in
set_option maxHeartbeats 8000000 in
theorem S_GuidedMap (W H U V r : Int) (a b : Option Addr) (ca cb near N : Nat) (ms gs : List Nat) (w : World) (fx : FSl w a ms.length ms) (fy : FSl w b gs.length gs) (hn : ms.length ≤ 1048576) (hm : gs.length ≤ 1048576) (hN : FE .f32 near N) :
    Calls Try.prog 42 #[.agg #[.int .i64 W, .int .i64 H, .slice a ms.length ca], .agg #[.int .i64 U, .int .i64 V, .slice b gs.length cb], .int .i64 r, .float .f32 near] w
      (PostP w (gW (gGuOk W H U V r ms.length gs.length) W) (gW (gGuOk W H U V r ms.length gs.length) H) (gGuOk W H U V r ms.length gs.length) (gVals (gGuOk W H U V r ms.length gs.length) (ms.length) (gGuI ms gs W H r N))) := by
  have Fx := Lib.hid fx
  have Fy := Lib.hid fy
  clear fx fy
  have hn' : ms.length ≤ maxLen := by unfold maxLen; omega
  have hm' : gs.length ≤ maxLen := by unfold maxLen; omega
  have hT2 : gGuOk W H U V r ms.length gs.length = false → gTwo U V W H gs.length ms.length = false ∨ (gTwo U V W H gs.length ms.length = true ∧ gIn r 0 3 = false) := fun h => by
    unfold gGuOk at h
    cases h1 : gTwo U V W H gs.length ms.length <;> simp [h1] at h ⊢
    exact h
  cases hT : gGuOk W H U V r ms.length gs.length
  · rcases hT2 hT with t1 | ⟨t1, t2⟩
    all_goals
      go_enter Try.func42, Try.ntmps42
      go_wp2_with (first
      | (go_at_call 92; with_reducible refine (S_l03Fits U V W H b a cb ca _ _ gs ms _ hm' hn' ⟨(by first | (simp (maxDischargeDepth := 12) [go_sem]; done) | (simp (maxDischargeDepth := 12) [go_sem, *]; done)), (by first | (simp (maxDischargeDepth := 12) [go_sem]; done) | (simp (maxDischargeDepth := 12) [go_sem, *]; done)), (by first | (simp (maxDischargeDepth := 12) [go_sem]; done) | (simp (maxDischargeDepth := 12) [go_sem, *]; done)), Fy.out.keep (by (repeat (with_reducible first | exact Kp.refl _ | exact kp_same | exact kp_app1 | exact kp_app2 | exact kp_app3 | refine Kp.grew ?_ _ _ | refine Kp.drewN ?_ _ | refine Kp.drew ?_ | refine Kp.alloc ?_ _)))⟩ ⟨(by first | (simp (maxDischargeDepth := 12) [go_sem]; done) | (simp (maxDischargeDepth := 12) [go_sem, *]; done)), (by first | (simp (maxDischargeDepth := 12) [go_sem]; done) | (simp (maxDischargeDepth := 12) [go_sem, *]; done)), (by first | (simp (maxDischargeDepth := 12) [go_sem]; done) | (simp (maxDischargeDepth := 12) [go_sem, *]; done)), Fx.out.keep (by (repeat (with_reducible first | exact Kp.refl _ | exact kp_same | exact kp_app1 | exact kp_app2 | exact kp_app3 | refine Kp.grew ?_ _ _ | refine Kp.drewN ?_ _ | refine Kp.drew ?_ | refine Kp.alloc ?_ _)))⟩).mono ?_; rintro e w' ⟨rfl, n, rfl⟩; rw [t1])
      | (go_at_call 82; with_reducible refine (S_l00In _ _ _ _).mono ?_; rintro e w' ⟨rfl, hw⟩; (obtain rfl := hw.symm; rw [t2])))
      exact bodyPost_ret (v := .tuple #[.agg #[.int .i64 0, .int .i64 0, .slice none 0 0], .bool false]) (by simp [results, Try.results42, go_sem]) rfl ⟨⟨_, rfl, FOwn.nil _ _ _⟩, (by (try show Gr _ _); repeat (with_reducible first | exact Gr.refl _ | refine Gr.drewN ?_ _ | refine Gr.grew ?_ _ _ | refine Gr.alloc ?_ _ | refine Gr.drew ?_))⟩
  · have hT' := hT
    simp only [gGuOk, gTwo, Bool.and_eq_true, beq_iff_eq] at hT'
    obtain ⟨⟨hQ, hP, rfl, rfl⟩, hI⟩ := hT'
    have t1 : gTwo U V U V gs.length ms.length = true := by simp [gTwo, hP, hQ]
    have hp1 := (gPic_true hP).2
    have hp2 := (gPic_true hQ).2
    obtain ⟨s1, s2, s3, s4, s5, s6⟩ := gSize_true (gPic_true hP).1
    obtain ⟨W, rfl⟩ := Int.eq_ofNat_of_zero_le (show 0 ≤ U by omega)
    obtain ⟨H, rfl⟩ := Int.eq_ofNat_of_zero_le (show 0 ≤ V by omega)
    have hr3 : 0 ≤ r ∧ r ≤ 3 := by unfold gIn at hI; simp at hI; omega
    obtain ⟨r, rfl⟩ := Int.eq_ofNat_of_zero_le hr3.1
    have hll : ms.length = W * H := by exact_mod_cast hp1
    have hgl : gs.length = W * H := by exact_mod_cast hp2
    have hpos : 0 < ms.length := by omega
    obtain ⟨bx, ox, rfl⟩ := Fx.out.ptr hpos
    obtain ⟨by', oy, rfl⟩ := Fy.out.ptr (by omega)
    have Hll := Lib.hid hll
    have Hgl := Lib.hid hgl
    have HI := Lib.hid hI
    have hl6 : ms.length ≤ 576 := by rw [hll]; exact Nat.mul_le_mul (show W ≤ 24 by omega) (show H ≤ 24 by omega)
    have f1 : FE .f32 3212836864 3212836864 := FE.lit (by decide +kernel)
    have f0 := FE0
    have hr3 : r ≤ 3 := by omega
    clear hP hQ hI hp1 hp2 s5 s6 hll hgl hT2
    go_enter Try.func42, Try.ntmps42
    go_wp2_with (first | (go_at_call 92; with_reducible refine (S_l03Fits W H W H _ _ cb ca _ _ gs ms _ hm' hn' ⟨(by first | (simp (maxDischargeDepth := 12) [go_sem]; done) | (simp (maxDischargeDepth := 12) [go_sem, *]; done)), (by first | (simp (maxDischargeDepth := 12) [go_sem]; done) | (simp (maxDischargeDepth := 12) [go_sem, *]; done)), (by first | (simp (maxDischargeDepth := 12) [go_sem]; done) | (simp (maxDischargeDepth := 12) [go_sem, *]; done)), Fy.out.keep (by (repeat (with_reducible first | exact Kp.refl _ | exact kp_same | exact kp_app1 | exact kp_app2 | exact kp_app3 | refine Kp.grew ?_ _ _ | refine Kp.drewN ?_ _ | refine Kp.drew ?_ | refine Kp.alloc ?_ _)))⟩ ⟨(by first | (simp (maxDischargeDepth := 12) [go_sem]; done) | (simp (maxDischargeDepth := 12) [go_sem, *]; done)), (by first | (simp (maxDischargeDepth := 12) [go_sem]; done) | (simp (maxDischargeDepth := 12) [go_sem, *]; done)), (by first | (simp (maxDischargeDepth := 12) [go_sem]; done) | (simp (maxDischargeDepth := 12) [go_sem, *]; done)), Fx.out.keep (by (repeat (with_reducible first | exact Kp.refl _ | exact kp_same | exact kp_app1 | exact kp_app2 | exact kp_app3 | refine Kp.grew ?_ _ _ | refine Kp.drewN ?_ _ | refine Kp.drew ?_ | refine Kp.alloc ?_ _)))⟩).mono ?_; rintro e w' ⟨rfl, n, rfl⟩; rw [t1]) | (go_at_call 82; with_reducible refine (S_l00In _ _ _ _).mono ?_; rintro e w' ⟨rfl, hw⟩; (obtain rfl := hw.symm; rw [HI.out])))
    refine (S_l03Flat W H ms.length _ _ _ f1 (by omega) (by omega) Hll.out).mono ?_
    rintro e u1 ⟨⟨v0, rfl, ho0⟩, kk⟩
    obtain ⟨g, cg, hv, -⟩ := ho0.ptr (by simp; exact hpos)
    rw [lst_length] at hv
    subst hv
    have A0 := Lib.hid (Blk.gr (show Blk _ w.heap.size [.int .i64 W, .int .i64 H, .slice (some ⟨bx, ox, none⟩) ms.length ca] 24 from (by repeat (with_reducible first | assumption | exact Blk.atNew (by simp) | refine Blk.alloc ?_ _ | refine Blk.grew ?_ _ _ | refine Blk.drewN ?_ _ | refine Blk.drew ?_))) kk)
    have A1 := Lib.hid (Blk.gr (show Blk _ (w.heap.size + 1) [.int .i64 W, .int .i64 H, .slice (some ⟨by', oy, none⟩) gs.length cb] 35 from (by repeat (with_reducible first | assumption | exact Blk.atNew (by simp) | refine Blk.alloc ?_ _ | refine Blk.grew ?_ _ _ | refine Blk.drewN ?_ _ | refine Blk.drew ?_))) kk)
    have A2 := Lib.hid (Blk.gr (show Blk _ (w.heap.size + 1 + 1) [.int .i64 0, .int .i64 0, .slice none 0 0] 24 from (by repeat (with_reducible first | assumption | exact Blk.atNew (by simp) | refine Blk.alloc ?_ _ | refine Blk.grew ?_ _ _ | refine Blk.drewN ?_ _ | refine Blk.drew ?_))) kk)
    have AG := Lib.hid (Gr.trans (show Gr w _ from (by (try show Gr _ _); repeat (with_reducible first | exact Gr.refl _ | refine Gr.drewN ?_ _ | refine Gr.grew ?_ _ _ | refine Gr.alloc ?_ _ | refine Gr.drew ?_))) kk)
    have AO := Lib.hid (FOwn.base (B' := w.heap.size + 1 + 1 + 1) ho0 (by simp <;> omega))
    clear ho0 kk
    have a2 := A0.out.cellv 2
    go_wp2
    clear a2
    go_loopw [11, 35] (fun s11 i wr => ∃ k : Nat, k ≤ ms.length ∧ i = .int .i64 k ∧ Blk wr (w.heap.size) [.int .i64 W, .int .i64 H, .slice (some ⟨bx, ox, none⟩) ms.length ca] 24 ∧ Blk wr (w.heap.size + 1) [.int .i64 W, .int .i64 H, .slice (some ⟨by', oy, none⟩) gs.length cb] 35 ∧ Blk wr (w.heap.size + 1 + 1) [.int .i64 0, .int .i64 0, .slice none 0 0] 24 ∧ Blk wr (u1.heap.size) [.int .i64 W, .int .i64 H, .slice (some ⟨g, 0, none⟩) (ms.length) cg] 24 ∧ FOwn wr (w.heap.size + 1 + 1 + 1) 65 (.slice (some ⟨g, 0, none⟩) (ms.length) cg) (upto (ms.length) k (gGuI ms gs W H r N) (fun _ => 3212836864)) ∧ Gr w wr) (fun _ i _ => ms.length - (intOf i).toNat)
    case atStart => exact ⟨0, Nat.zero_le _, rfl, A0.out.gr (by (try show Gr _ _); repeat (with_reducible first | exact Gr.refl _ | refine Gr.drewN ?_ _ | refine Gr.grew ?_ _ _ | refine Gr.alloc ?_ _ | refine Gr.drew ?_)), A1.out.gr (by (try show Gr _ _); repeat (with_reducible first | exact Gr.refl _ | refine Gr.drewN ?_ _ | refine Gr.grew ?_ _ _ | refine Gr.alloc ?_ _ | refine Gr.drew ?_)), A2.out.gr (by (try show Gr _ _); repeat (with_reducible first | exact Gr.refl _ | refine Gr.drewN ?_ _ | refine Gr.grew ?_ _ _ | refine Gr.alloc ?_ _ | refine Gr.drew ?_)), (show Blk _ u1.heap.size [.int .i64 W, .int .i64 H, .slice (some ⟨g, 0, none⟩) ms.length cg] 24 from (by repeat (with_reducible first | assumption | exact Blk.atNew (by simp) | refine Blk.alloc ?_ _ | refine Blk.grew ?_ _ _ | refine Blk.drewN ?_ _ | refine Blk.drew ?_))), (by rw [upto_zero]; exact AO.out.gr (by (try show Gr _ _); repeat (with_reducible first | exact Gr.refl _ | refine Gr.drewN ?_ _ | refine Gr.grew ?_ _ _ | refine Gr.alloc ?_ _ | refine Gr.drew ?_))), AG.out.trans (by (try show Gr _ _); repeat (with_reducible first | exact Gr.refl _ | refine Gr.drewN ?_ _ | refine Gr.grew ?_ _ _ | refine Gr.alloc ?_ _ | refine Gr.drew ?_))⟩
    case round =>
      clear A0 A1 A2 AG AO
      obtain ⟨k, hk, rfl, b0, b1, b2, bO, ho, hg⟩ := hrel
      by_cases hlt : k < ms.length
      · obtain ⟨ro, hco, -⟩ := ho.get k (by simp; exact hlt)
        have hz := ho.free k
        have o2 := bO.cellv 2
        have hgb : g ≠ u1.heap.size := by
          intro e
          exact ho.okb (.inr (bO.okb (e := 65) (by decide))) (by simp [Value.ownBlock, e])
        have hg3 : w.heap.size + 1 + 1 + 1 ≤ g := (ho.block rfl).1
        obtain ⟨rx, hcx, hrx⟩ := (Fx.out.keep hg.kp).get k hlt
        have m0 := b0.cellv 0
        have m1 := b0.cellv 1
        have m2 := b0.cellv 2
        have n2 := b1.cellv 2
        have FXk := Lib.hid (Fx.out.keep hg.kp)
        have FYk := Lib.hid (Fy.out.keep hg.kp)
        have Hgb := Lib.hid hgb
        have Hg3 := Lib.hid hg3
        have B0 := Lib.hid b0
        have B1 := Lib.hid b1
        have B2 := Lib.hid b2
        have BO := Lib.hid bO
        have Ho := Lib.hid ho
        have Hg := Lib.hid hg
        clear b0 b1 b2 bO ho hg hgb hg3
        cases t1 : gHole (ms.getD k 0)
        · have hx : k % W < W := Nat.mod_lt _ (by omega)
          have hy : k / W < H := Nat.div_lt_of_lt_mul (by have := Hll.out; omega)
          obtain ⟨x, ex⟩ : ∃ x, x = k % W := ⟨_, rfl⟩
          obtain ⟨y, ey⟩ : ∃ y, y = k / W := ⟨_, rfl⟩
          have e3 : (k : Int).tmod (W : Int) = (x : Int) := by rw [Int.tmod_eq_emod_of_nonneg (by omega), ex]; exact (Int.natCast_emod k W).symm
          have e4 : (k : Int).tdiv (W : Int) = (y : Int) := by rw [Int.tdiv_eq_ediv_of_nonneg (by omega), ey]; exact (Int.natCast_ediv k W).symm
          have e5 : ¬ (W : Int) = 0 := by omega
          rw [← ex] at hx
          rw [← ey] at hy
          have e6 : IntKind.i64.wrap (y : Int) = (y : Int) := IntWalk.i64_in _ (by omega)
          obtain ⟨rg, hcg, hrg⟩ := FYk.out.get k (by rw [Hgl.out, ← Hll.out]; exact hlt)
          have EQ := Lib.hid (show gGs ms gs W H N r k = gFoldM (gGw ms gs W N k) (fun c => ms.getD (c.1 + W * c.2) 0) (wl (x - r) (y - r) (min (x + r) (W - 1) + 1 - (x - r)) ((min (x + r) (W - 1) + 1 - (x - r)) * (min (y + r) (H - 1) + 1 - (y - r)))) by rw [ex, ey]; rfl)
          have HX0 := fun u => S_l00Max 0 ((x : Int) - (r : Int)) u
          have HY0 := fun u => S_l00Max 0 ((y : Int) - (r : Int)) u
          have HX1 := fun u => S_l00Min ((W : Int) - 1) ((x : Int) + (r : Int)) u
          have HY1 := fun u => S_l00Min ((H : Int) - 1) ((y : Int) + (r : Int)) u
          rw [show max 0 ((x : Int) - (r : Int)) = ((x - r : Nat) : Int) by omega] at HX0
          rw [show max 0 ((y : Int) - (r : Int)) = ((y - r : Nat) : Int) by omega] at HY0
          rw [show min ((W : Int) - 1) ((x : Int) + (r : Int)) = ((min (x + r) (W - 1) : Nat) : Int) by omega] at HX1
          rw [show min ((H : Int) - 1) ((y : Int) + (r : Int)) = ((min (y + r) (H - 1) : Nat) : Int) by omega] at HY1
          obtain ⟨x0, hx0⟩ : ∃ x0, x0 = x - r := ⟨_, rfl⟩
          obtain ⟨y0, hy0⟩ : ∃ y0, y0 = y - r := ⟨_, rfl⟩
          obtain ⟨x1, hx1⟩ : ∃ x1, x1 = min (x + r) (W - 1) := ⟨_, rfl⟩
          obtain ⟨y1, hy1⟩ : ∃ y1, y1 = min (y + r) (H - 1) := ⟨_, rfl⟩
          rw [← hx0] at HX0
          rw [← hy0] at HY0
          rw [← hx1] at HX1
          rw [← hy1] at HY1
          rw [← hx0, ← hy0, ← hx1, ← hy1] at EQ
          have hx01 : x0 ≤ x1 := by omega
          have hy01 : y0 ≤ y1 := by omega
          have hx1W : x1 < W := by omega
          have hy1H : y1 < H := by omega
          obtain ⟨cw, hn⟩ : ∃ cw, cw = x1 + 1 - x0 := ⟨_, rfl⟩
          obtain ⟨ch, hm⟩ : ∃ ch, ch = y1 + 1 - y0 := ⟨_, rfl⟩
          rw [← hn, ← hm] at EQ
          have hnm := Nat.mul_le_mul (show cw ≤ 24 by omega) (show ch ≤ 24 by omega)
          have HNM := Lib.hid hnm
          have HX0 := Lib.hid HX0
          have HY0 := Lib.hid HY0
          have HX1 := Lib.hid HX1
          have HY1 := Lib.hid HY1
          have HN' := Lib.hid hn
          have HM := Lib.hid hm
          obtain ⟨F, hF⟩ : ∃ F : List (Nat × Nat) → Nat × Nat, F = gFoldM (gGw ms gs W N k) (fun c => ms.getD (c.1 + W * c.2) 0) := ⟨_, rfl⟩
          rw [← hF] at EQ
          have HF := Lib.hid hF
          have wW : IntKind.i64.wrap ((W : Int) - 1) = (W : Int) - 1 := IntWalk.i64_in _ (by omega)
          have wH : IntKind.i64.wrap ((H : Int) - 1) = (H : Int) - 1 := IntWalk.i64_in _ (by omega)
          have HRX := Lib.hid hrx
          have T1 := Lib.hid t1
          clear ex ey hx0 hy0 hx1 hy1 hn hm hF hnm
          go_wp2_with (first | (go_at_call 94; with_reducible refine (S_l05Hole _ _ _ (by assumption)).mono ?_; rintro e w' ⟨rfl, nn, rfl⟩; rw [t1]) | (go_at_call 95; (with_reducible refine (HY0.out _).mono ?_); rintro e w' ⟨rfl, hw⟩; obtain rfl := hw.symm))
          go_loopw [14, 15, 16] (fun s t i wq => ∃ q j : Nat, q = y0 + j ∧ j ≤ ch ∧ i = .int .i64 q ∧ (∃ r', s = .float .f32 r' ∧ FE .f32 r' (F (wl x0 y0 cw (0 + cw * j))).1) ∧ t = .int .i64 ((F (wl x0 y0 cw (0 + cw * j))).2 : Int) ∧ ∃ d, wq = wr.drewN d) (fun _ _ i _ => 50 - (intOf i).toNat)
          case atStart => exact ⟨y0, 0, rfl, Nat.zero_le _, rfl, ⟨0, rfl, by rw [HF.out]; exact f0⟩, by rw [HF.out]; rfl, (by with_reducible first | exact ⟨_, rfl⟩ | exact ⟨_, World.drewN_drewN _ _ _⟩ | exact drew_self _)⟩
          case round =>
            obtain ⟨q, j, hq, hj, rfl, ⟨sr, rfl, hsr⟩, rfl, dd, rfl⟩ := hrel
            have HQ := Lib.hid hq
            have hm' := HM.out
            by_cases hjm : j < ch
            · have hqy : q ≤ y1 := by omega
              clear hm' hq
              go_wp2_with (first | (go_at_call 96; (with_reducible refine (HY1.out _).mono ?_); rintro e w' ⟨rfl, hw⟩; obtain rfl := hw.symm) | (go_at_call 95; (with_reducible refine (HX0.out _).mono ?_); rintro e w' ⟨rfl, hw⟩; obtain rfl := hw.symm))
              go_loopw [14, 15, 17] (fun s t i wq => ∃ p i' : Nat, p = x0 + i' ∧ i' ≤ cw ∧ i = .int .i64 p ∧ (∃ r', s = .float .f32 r' ∧ FE .f32 r' (F (wl x0 y0 cw (i' + cw * j))).1) ∧ t = .int .i64 ((F (wl x0 y0 cw (i' + cw * j))).2 : Int) ∧ ∃ d, wq = wr.drewN d) (fun _ _ i _ => 50 - (intOf i).toNat)
              case atStart => exact ⟨x0, 0, rfl, Nat.zero_le _, rfl, ⟨_, rfl, hsr⟩, by rw [Nat.zero_add], (by with_reducible first | exact ⟨_, rfl⟩ | exact ⟨_, World.drewN_drewN _ _ _⟩ | exact drew_self _)⟩
              case round =>
                clear hsr
                obtain ⟨p, i', hp, hi', rfl, ⟨sr, rfl, hsr⟩, rfl, dd, rfl⟩ := hrel
                have HP := Lib.hid hp
                have hn2 := HN'.out
                by_cases hin : i' < cw
                · have hpx : p ≤ x1 := by omega
                  have hpW : p < W := by omega
                  have hqH : q < H := by omega
                  have hpq : p + W * q < ms.length := by rw [Hll.out]; exact cell_lt hpW hqH
                  obtain ⟨w1, w2⟩ := wrap_cell (W := W) (x := p) (y := q) (by omega) (by omega) (by omega)
                  obtain ⟨z, hcz, hz'⟩ := FXk.out.get (p + W * q) hpq
                  have hpg : p + W * q < gs.length := by rw [Hgl.out, ← Hll.out]; exact hpq
                  have hkg : k < gs.length := by rw [Hgl.out, ← Hll.out]; exact hlt
                  obtain ⟨zg, hcg2, hzg⟩ := FYk.out.get (p + W * q) (by rw [Hgl.out, ← Hll.out]; exact hpq)
                  have ES := Lib.hid (show wl x0 y0 cw (i' + 1 + cw * j) = wl x0 y0 cw (i' + cw * j) ++ [(p, q)] by rw [HP.out, HQ.out]; exact wl_succ hin)
                  have hcnt : (F (wl x0 y0 cw (i' + cw * j))).2 ≤ 576 := by
                    rw [HF.out]
                    refine Nat.le_trans (gFoldM_le _ _ _) ?_
                    unfold wl
                    rw [List.length_map, List.length_range]
                    have := Nat.mul_le_mul (show cw ≤ 24 by omega) (show j + 1 ≤ 24 by have := HM.out; omega)
                    rw [Nat.mul_add, Nat.mul_one] at this
                    omega
                  clear hn2 hp
                  cases tm : gHole (ms.getD (p + W * q) 0)
                  · cases tn : fcmp .leq .f32 (gAbs (fop .sub .f32 (gs.getD (p + W * q) 0) (gs.getD k 0))) N
                    · have EV := Lib.hid (show F (wl x0 y0 cw (i' + cw * j) ++ [(p, q)]) = F (wl x0 y0 cw (i' + cw * j)) by rw [HF.out]; exact gFoldM_no (by show gGw ms gs W N k (p, q) = false; unfold gGw gNear; rw [tm, tn]; rfl))
                      generalize F (wl x0 y0 cw (i' + cw * j)) = st at *
                      go_wp2_with (first | (go_at_call 96; (with_reducible refine (HX1.out _).mono ?_); rintro e w' ⟨rfl, hw⟩; obtain rfl := hw.symm))
                      apply region_drew 22
                      case hm => kernel_rfl
                      case hB => kernel_rfl
                      simp only [List.take_succ_cons, List.take_zero, List.drop_succ_cons, List.drop_zero]
                      repeat (first
                        | ((with_reducible apply wpSoft_calleq (f := 94)); (case hw => rfl); (case hc => exact Try.call94); (case hv => ((conv => lhs; simp [Act.eval]); try rfl)); (case hS => (rintro _ ⟨m, rfl⟩; with_reducible refine (S_l05Hole _ _ _ (by assumption)).mono ?_; rintro e w' ⟨rfl, n, rfl⟩; exact ⟨rfl, ⟨_, World.drewN_drewN _ _ _⟩⟩)); (simp only [Act.put, List.setIfInBounds_toArray, List.set_cons_succ, List.set_cons_zero]; try simp only [tm]))
                        | ((with_reducible apply wpSoft_callf (f := 97)); (case hw => rfl); (case hc => exact Try.call97); (case hv => ((conv => lhs; simp [Act.eval]); try rfl)); (case hS => (rintro _ ⟨m, rfl⟩; with_reducible refine (S_l03Size _ _ _ (by assumption)).mono ?_; rintro e w' ⟨r, rfl, hr, n, rfl⟩; exact ⟨_, rfl, hr, ⟨_, World.drewN_drewN _ _ _⟩⟩)); (intro r hr; simp only [Act.put, List.setIfInBounds_toArray, List.set_cons_succ, List.set_cons_zero]))
                        | (apply wpSoft_skip rfl; simp only [Act.put, List.setIfInBounds_toArray, List.set_cons_succ, List.set_cons_zero])
                        | (apply wpSoft_nilCheck rfl rfl; simp only [Act.put, List.setIfInBounds_toArray, List.set_cons_succ, List.set_cons_zero])
                        | ((with_reducible apply wpSoft_fop); (case hw => rfl); (case hD => exact closed_drew); (case hop => rfl); (case hx => rfl); (case hy => rfl); (case hA => (first | assumption | exact FE.ofInt _ _ | exact FE.lit (by decide +kernel))); (case hB => (first | assumption | exact FE.ofInt _ _ | exact FE.lit (by decide +kernel))); (intro r hr; simp only [Act.put, List.setIfInBounds_toArray, List.set_cons_succ, List.set_cons_zero]))

                        | ((with_reducible apply wpSoft_widen); (case hw => rfl); (case hD => exact closed_drew); (case hs => exact Try.underlying65); (case hd => exact Try.underlying147); (case hx => rfl); (case hA => (first | assumption | exact FE.ofInt _ _ | exact FE.lit (by decide +kernel))); (intro r hr; simp only [Act.put, List.setIfInBounds_toArray, List.set_cons_succ, List.set_cons_zero]))
                        | ((with_reducible apply wpSoft_fneg); (case hw => rfl); (case hx => rfl); (case hA => (first | assumption | exact FE.ofInt _ _ | exact FE.lit (by decide +kernel))); (intro r hr; simp only [Act.put, List.setIfInBounds_toArray, List.set_cons_succ, List.set_cons_zero]))
                        | ((with_reducible apply wpSoft_fcmp); (case hw => rfl); (case hop => rfl); (case hx => rfl); (case hy => rfl); (case hA => (first | assumption | exact FE.ofInt _ _ | exact FE.lit (by decide +kernel))); (case hB => (first | assumption | exact FE.ofInt _ _ | exact FE.lit (by decide +kernel))); (case hb => (first | assumption | rfl)); simp only [Act.put, List.setIfInBounds_toArray, List.set_cons_succ, List.set_cons_zero])
                        | (apply wpSoft_q rfl rfl; intro K hK; go_big_quiet_op; go_big_quiet_on))
                      with_reducible apply wpSoft_nil
                      intro m
                      go_wp2
                      go_roundw
                      case rel => exact ⟨p + 1, i' + 1, by have := HP.out; omega, by omega, by go_num, ⟨_, rfl, by rw [ES.out, EV.out]; exact hsr⟩, by rw [ES.out, EV.out], (by with_reducible first | exact ⟨_, rfl⟩ | exact ⟨_, World.drewN_drewN _ _ _⟩ | exact drew_self _)⟩
                      case measure => simp [intOf]; omega

                    · have EV := Lib.hid (show F (wl x0 y0 cw (i' + cw * j) ++ [(p, q)]) = (fop .add .f32 (F (wl x0 y0 cw (i' + cw * j))).1 (ms.getD (p + W * q) 0), (F (wl x0 y0 cw (i' + cw * j))).2 + 1) by rw [HF.out]; exact gFoldM_yes (by show gGw ms gs W N k (p, q) = true; unfold gGw gNear; rw [tm, tn]; rfl))
                      generalize F (wl x0 y0 cw (i' + cw * j)) = st at *
                      obtain ⟨s1', s2'⟩ := st
                      simp only at hsr hcnt EV
                      go_wp2_with (first | (go_at_call 96; (with_reducible refine (HX1.out _).mono ?_); rintro e w' ⟨rfl, hw⟩; obtain rfl := hw.symm))
                      apply region_drew 22
                      case hm => kernel_rfl
                      case hB => kernel_rfl
                      simp only [List.take_succ_cons, List.take_zero, List.drop_succ_cons, List.drop_zero]
                      repeat (first
                        | ((with_reducible apply wpSoft_calleq (f := 94)); (case hw => rfl); (case hc => exact Try.call94); (case hv => ((conv => lhs; simp [Act.eval]); try rfl)); (case hS => (rintro _ ⟨m, rfl⟩; with_reducible refine (S_l05Hole _ _ _ (by assumption)).mono ?_; rintro e w' ⟨rfl, n, rfl⟩; exact ⟨rfl, ⟨_, World.drewN_drewN _ _ _⟩⟩)); (simp only [Act.put, List.setIfInBounds_toArray, List.set_cons_succ, List.set_cons_zero]; try simp only [tm]))
                        | ((with_reducible apply wpSoft_callf (f := 97)); (case hw => rfl); (case hc => exact Try.call97); (case hv => ((conv => lhs; simp [Act.eval]); try rfl)); (case hS => (rintro _ ⟨m, rfl⟩; with_reducible refine (S_l03Size _ _ _ (by assumption)).mono ?_; rintro e w' ⟨r, rfl, hr, n, rfl⟩; exact ⟨_, rfl, hr, ⟨_, World.drewN_drewN _ _ _⟩⟩)); (intro r hr; simp only [Act.put, List.setIfInBounds_toArray, List.set_cons_succ, List.set_cons_zero]))
                        | (apply wpSoft_skip rfl; simp only [Act.put, List.setIfInBounds_toArray, List.set_cons_succ, List.set_cons_zero])
                        | (apply wpSoft_nilCheck rfl rfl; simp only [Act.put, List.setIfInBounds_toArray, List.set_cons_succ, List.set_cons_zero])
                        | ((with_reducible apply wpSoft_fop); (case hw => rfl); (case hD => exact closed_drew); (case hop => rfl); (case hx => rfl); (case hy => rfl); (case hA => (first | assumption | exact FE.ofInt _ _ | exact FE.lit (by decide +kernel))); (case hB => (first | assumption | exact FE.ofInt _ _ | exact FE.lit (by decide +kernel))); (intro r hr; simp only [Act.put, List.setIfInBounds_toArray, List.set_cons_succ, List.set_cons_zero]))

                        | ((with_reducible apply wpSoft_widen); (case hw => rfl); (case hD => exact closed_drew); (case hs => exact Try.underlying65); (case hd => exact Try.underlying147); (case hx => rfl); (case hA => (first | assumption | exact FE.ofInt _ _ | exact FE.lit (by decide +kernel))); (intro r hr; simp only [Act.put, List.setIfInBounds_toArray, List.set_cons_succ, List.set_cons_zero]))
                        | ((with_reducible apply wpSoft_fneg); (case hw => rfl); (case hx => rfl); (case hA => (first | assumption | exact FE.ofInt _ _ | exact FE.lit (by decide +kernel))); (intro r hr; simp only [Act.put, List.setIfInBounds_toArray, List.set_cons_succ, List.set_cons_zero]))
                        | ((with_reducible apply wpSoft_fcmp); (case hw => rfl); (case hop => rfl); (case hx => rfl); (case hy => rfl); (case hA => (first | assumption | exact FE.ofInt _ _ | exact FE.lit (by decide +kernel))); (case hB => (first | assumption | exact FE.ofInt _ _ | exact FE.lit (by decide +kernel))); (case hb => (first | assumption | rfl)); simp only [Act.put, List.setIfInBounds_toArray, List.set_cons_succ, List.set_cons_zero])
                        | (apply wpSoft_q rfl rfl; intro K hK; go_big_quiet_op; go_big_quiet_on))
                      with_reducible apply wpSoft_nil
                      intro m
                      go_wp2_with (first
      | ((with_reducible apply wpList_fop); (case hw => rfl); (case hop => rfl); (case hx => rfl); (case hy => rfl); (case hA => (first | assumption | exact FE.ofInt _ _ | exact FE.lit (by decide +kernel))); (case hB => (first | assumption | exact FE.ofInt _ _ | exact FE.lit (by decide +kernel))); intro r n hr)
      | ((with_reducible apply wpList_fcmp); (case hw => rfl); (case hop => rfl); (case hx => rfl); (case hy => rfl); (case hA => (first | assumption | exact FE.ofInt _ _ | exact FE.lit (by decide +kernel))); (case hB => (first | assumption | exact FE.ofInt _ _ | exact FE.lit (by decide +kernel))); (case hb => (first | assumption | rfl)))
      | ((with_reducible apply wpList_widen); (case hw => rfl); (case hs => exact Try.underlying65); (case hd => exact Try.underlying147); (case hx => rfl); (case hA => (first | assumption | exact FE.ofInt _ _ | exact FE.lit (by decide +kernel))); intro r n hr)
      | ((with_reducible apply wpList_fneg); (case hw => rfl); (case hx => rfl); (case hA => (first | assumption | exact FE.ofInt _ _ | exact FE.lit (by decide +kernel))); intro r hr))
                      go_roundw
                      case rel => exact ⟨p + 1, i' + 1, by have := HP.out; omega, by omega, by go_num, ⟨_, rfl, by rw [ES.out, EV.out]; assumption⟩, by rw [ES.out, EV.out]; go_num, (by with_reducible first | exact ⟨_, rfl⟩ | exact ⟨_, World.drewN_drewN _ _ _⟩ | exact drew_self _)⟩
                      case measure => simp [intOf]; omega
                  · have EV := Lib.hid (show F (wl x0 y0 cw (i' + cw * j) ++ [(p, q)]) = F (wl x0 y0 cw (i' + cw * j)) by rw [HF.out]; exact gFoldM_no (by show gGw ms gs W N k (p, q) = false; unfold gGw gNear; rw [tm]; rfl))
                    generalize F (wl x0 y0 cw (i' + cw * j)) = st at *
                    go_wp2_with (first | (go_at_call 96; (with_reducible refine (HX1.out _).mono ?_); rintro e w' ⟨rfl, hw⟩; obtain rfl := hw.symm))
                    apply region_drew 22
                    case hm => kernel_rfl
                    case hB => kernel_rfl
                    simp only [List.take_succ_cons, List.take_zero, List.drop_succ_cons, List.drop_zero]
                    repeat (first
                      | ((with_reducible apply wpSoft_calleq (f := 94)); (case hw => rfl); (case hc => exact Try.call94); (case hv => ((conv => lhs; simp [Act.eval]); try rfl)); (case hS => (rintro _ ⟨m, rfl⟩; with_reducible refine (S_l05Hole _ _ _ (by assumption)).mono ?_; rintro e w' ⟨rfl, n, rfl⟩; exact ⟨rfl, ⟨_, World.drewN_drewN _ _ _⟩⟩)); (simp only [Act.put, List.setIfInBounds_toArray, List.set_cons_succ, List.set_cons_zero]; try simp only [tm]))
                      | ((with_reducible apply wpSoft_callf (f := 97)); (case hw => rfl); (case hc => exact Try.call97); (case hv => ((conv => lhs; simp [Act.eval]); try rfl)); (case hS => (rintro _ ⟨m, rfl⟩; with_reducible refine (S_l03Size _ _ _ (by assumption)).mono ?_; rintro e w' ⟨r, rfl, hr, n, rfl⟩; exact ⟨_, rfl, hr, ⟨_, World.drewN_drewN _ _ _⟩⟩)); (intro r hr; simp only [Act.put, List.setIfInBounds_toArray, List.set_cons_succ, List.set_cons_zero]))
                      | (apply wpSoft_skip rfl; simp only [Act.put, List.setIfInBounds_toArray, List.set_cons_succ, List.set_cons_zero])
                      | (apply wpSoft_nilCheck rfl rfl; simp only [Act.put, List.setIfInBounds_toArray, List.set_cons_succ, List.set_cons_zero])
                      | ((with_reducible apply wpSoft_fop); (case hw => rfl); (case hD => exact closed_drew); (case hop => rfl); (case hx => rfl); (case hy => rfl); (case hA => (first | assumption | exact FE.ofInt _ _ | exact FE.lit (by decide +kernel))); (case hB => (first | assumption | exact FE.ofInt _ _ | exact FE.lit (by decide +kernel))); (intro r hr; simp only [Act.put, List.setIfInBounds_toArray, List.set_cons_succ, List.set_cons_zero]))

                      | ((with_reducible apply wpSoft_widen); (case hw => rfl); (case hD => exact closed_drew); (case hs => exact Try.underlying65); (case hd => exact Try.underlying147); (case hx => rfl); (case hA => (first | assumption | exact FE.ofInt _ _ | exact FE.lit (by decide +kernel))); (intro r hr; simp only [Act.put, List.setIfInBounds_toArray, List.set_cons_succ, List.set_cons_zero]))
                      | ((with_reducible apply wpSoft_fneg); (case hw => rfl); (case hx => rfl); (case hA => (first | assumption | exact FE.ofInt _ _ | exact FE.lit (by decide +kernel))); (intro r hr; simp only [Act.put, List.setIfInBounds_toArray, List.set_cons_succ, List.set_cons_zero]))
                      | ((with_reducible apply wpSoft_fcmp); (case hw => rfl); (case hop => rfl); (case hx => rfl); (case hy => rfl); (case hA => (first | assumption | exact FE.ofInt _ _ | exact FE.lit (by decide +kernel))); (case hB => (first | assumption | exact FE.ofInt _ _ | exact FE.lit (by decide +kernel))); (case hb => (first | assumption | rfl)); simp only [Act.put, List.setIfInBounds_toArray, List.set_cons_succ, List.set_cons_zero])
                      | (apply wpSoft_q rfl rfl; intro K hK; go_big_quiet_op; go_big_quiet_on))
                    with_reducible apply wpSoft_nil
                    intro m
                    go_wp2
                    go_roundw
                    case rel => exact ⟨p + 1, i' + 1, by have := HP.out; omega, by omega, by go_num, ⟨_, rfl, by rw [ES.out, EV.out]; exact hsr⟩, by rw [ES.out, EV.out], (by with_reducible first | exact ⟨_, rfl⟩ | exact ⟨_, World.drewN_drewN _ _ _⟩ | exact drew_self _)⟩
                    case measure => simp [intOf]; omega

                · have hpx : ¬ p ≤ x1 := by omega
                  obtain rfl : i' = cw := by omega
                  clear hn2 hp
                  go_wp2_with (first | (go_at_call 96; (with_reducible refine (HX1.out _).mono ?_); rintro e w' ⟨rfl, hw⟩; obtain rfl := hw.symm))
                  go_roundw
                  case rel => exact ⟨q + 1, j + 1, by have := HQ.out; omega, by omega, by go_num, ⟨_, rfl, by rw [show 0 + i' * (j + 1) = i' + i' * j by rw [Nat.mul_add, Nat.mul_one, Nat.zero_add, Nat.add_comm]]; exact hsr⟩, by rw [show 0 + i' * (j + 1) = i' + i' * j by rw [Nat.mul_add, Nat.mul_one, Nat.zero_add, Nat.add_comm]], (by with_reducible first | exact ⟨_, rfl⟩ | exact ⟨_, World.drewN_drewN _ _ _⟩ | exact drew_self _)⟩
                  case measure => simp [intOf]; omega
            · have hqy : ¬ q ≤ y1 := by omega
              obtain rfl : j = ch := by omega
              clear hm' hq
              have EQ2 := EQ.out
              have hcnt : (F (wl x0 y0 cw (0 + cw * j))).2 ≤ 576 := by
                rw [HF.out]
                refine Nat.le_trans (gFoldM_le _ _ _) ?_
                unfold wl
                rw [List.length_map, List.length_range]
                have := HNM.out
                omega
              rw [Nat.zero_add] at hsr hcnt
              rw [Nat.zero_add]
              obtain ⟨T, hT⟩ : ∃ T, T = F (wl x0 y0 cw (cw * j)) := ⟨_, rfl⟩
              rw [← hT] at hsr hcnt EQ2
              rw [← hT]
              obtain ⟨s1', s2'⟩ := T
              simp only at hsr hcnt ⊢
              clear hT
              by_cases h2 : s2' = 0
              · subst h2
                have eG := Lib.hid (show gGuI ms gs W H r N k = ms.getD k 0 by show gGuAt ms gs W H N r k = _; unfold gGuAt; rw [T1.out, EQ2]; rfl)
                clear EQ2
                go_wp2_with (first | (go_at_call 96; (with_reducible refine (HY1.out _).mono ?_); rintro e w' ⟨rfl, hw⟩; obtain rfl := hw.symm))
                apply region_drew 8
                case hm => kernel_rfl
                case hB => kernel_rfl
                simp only [List.take_succ_cons, List.take_zero, List.drop_succ_cons, List.drop_zero]
                repeat (first
                  | (apply wpSoft_skip rfl; simp only [Act.put, List.setIfInBounds_toArray, List.set_cons_succ, List.set_cons_zero])
                  | (apply wpSoft_nilCheck rfl rfl; simp only [Act.put, List.setIfInBounds_toArray, List.set_cons_succ, List.set_cons_zero])
                  | ((with_reducible apply wpSoft_fop); (case hw => rfl); (case hD => exact closed_drew); (case hop => rfl); (case hx => rfl); (case hy => rfl); (case hA => (first | assumption | exact FE.ofInt _ _ | exact FE.lit (by decide +kernel))); (case hB => (first | assumption | exact FE.ofInt _ _ | exact FE.lit (by decide +kernel))); (intro r hr; simp only [Act.put, List.setIfInBounds_toArray, List.set_cons_succ, List.set_cons_zero]))

                  | ((with_reducible apply wpSoft_widen); (case hw => rfl); (case hD => exact closed_drew); (case hs => exact Try.underlying65); (case hd => exact Try.underlying147); (case hx => rfl); (case hA => (first | assumption | exact FE.ofInt _ _ | exact FE.lit (by decide +kernel))); (intro r hr; simp only [Act.put, List.setIfInBounds_toArray, List.set_cons_succ, List.set_cons_zero]))
                  | ((with_reducible apply wpSoft_fneg); (case hw => rfl); (case hx => rfl); (case hA => (first | assumption | exact FE.ofInt _ _ | exact FE.lit (by decide +kernel))); (intro r hr; simp only [Act.put, List.setIfInBounds_toArray, List.set_cons_succ, List.set_cons_zero]))
                  | ((with_reducible apply wpSoft_fcmp); (case hw => rfl); (case hop => rfl); (case hx => rfl); (case hy => rfl); (case hA => (first | assumption | exact FE.ofInt _ _ | exact FE.lit (by decide +kernel))); (case hB => (first | assumption | exact FE.ofInt _ _ | exact FE.lit (by decide +kernel))); (case hb => (first | assumption | rfl)); simp only [Act.put, List.setIfInBounds_toArray, List.set_cons_succ, List.set_cons_zero])
                  | (apply wpSoft_q rfl rfl; intro K hK; go_big_quiet_op; go_big_quiet_on))
                with_reducible apply wpSoft_nil
                intro m
                go_wp2
                go_roundw
                case rel =>
                  have hx := Hg3.out
                  refine ⟨k + 1, by omega, by go_num, B0.out.setG (by (try show Gr _ _); repeat (with_reducible first | exact Gr.refl _ | refine Gr.drewN ?_ _ | refine Gr.grew ?_ _ _ | refine Gr.alloc ?_ _ | refine Gr.drew ?_)) (by simp; omega), B1.out.setG (by (try show Gr _ _); repeat (with_reducible first | exact Gr.refl _ | refine Gr.drewN ?_ _ | refine Gr.grew ?_ _ _ | refine Gr.alloc ?_ _ | refine Gr.drew ?_)) (by simp; omega), B2.out.setG (by (try show Gr _ _); repeat (with_reducible first | exact Gr.refl _ | refine Gr.drewN ?_ _ | refine Gr.grew ?_ _ _ | refine Gr.alloc ?_ _ | refine Gr.drew ?_)) (by simp; omega), BO.out.setG (by (try show Gr _ _); repeat (with_reducible first | exact Gr.refl _ | refine Gr.drewN ?_ _ | refine Gr.grew ?_ _ _ | refine Gr.alloc ?_ _ | refine Gr.drew ?_)) Hgb.out, ?_, Hg.out.setG (by (try show Gr _ _); repeat (with_reducible first | exact Gr.refl _ | refine Gr.drewN ?_ _ | refine Gr.grew ?_ _ _ | refine Gr.alloc ?_ _ | refine Gr.drew ?_)) (by simp; omega)⟩
                  rw [← upto_set (G := gGuI ms gs W H r N) (O := fun _ => 3212836864) hlt]
                  refine FOwn.gr ?_ (by (try show Gr _ _); repeat (with_reducible first | exact Gr.refl _ | refine Gr.drewN ?_ _ | refine Gr.grew ?_ _ _ | refine Gr.alloc ?_ _ | refine Gr.drew ?_))
                  rw [eG.out]
                  exact Ho.out.store (k := k) (by first | assumption | exact FE.ofInt _ _ | exact FE.lit (by decide +kernel))
                case measure => simp [intOf]; omega
              · have h2' : 0 < s2' := by omega
                have eG := Lib.hid (show gGuI ms gs W H r N k = fop .quo .f32 s1' (floatOfInt .f32 (s2' : Int)) by show gGuAt ms gs W H N r k = _; unfold gGuAt; rw [T1.out, EQ2]; simp [h2])
                clear EQ2
                go_wp2_with (first | (go_at_call 96; (with_reducible refine (HY1.out _).mono ?_); rintro e w' ⟨rfl, hw⟩; obtain rfl := hw.symm))
                apply region_drew 8
                case hm => kernel_rfl
                case hB => kernel_rfl
                simp only [List.take_succ_cons, List.take_zero, List.drop_succ_cons, List.drop_zero]
                repeat (first
                  | (apply wpSoft_skip rfl; simp only [Act.put, List.setIfInBounds_toArray, List.set_cons_succ, List.set_cons_zero])
                  | (apply wpSoft_nilCheck rfl rfl; simp only [Act.put, List.setIfInBounds_toArray, List.set_cons_succ, List.set_cons_zero])
                  | ((with_reducible apply wpSoft_fop); (case hw => rfl); (case hD => exact closed_drew); (case hop => rfl); (case hx => rfl); (case hy => rfl); (case hA => (first | assumption | exact FE.ofInt _ _ | exact FE.lit (by decide +kernel))); (case hB => (first | assumption | exact FE.ofInt _ _ | exact FE.lit (by decide +kernel))); (intro r hr; simp only [Act.put, List.setIfInBounds_toArray, List.set_cons_succ, List.set_cons_zero]))

                  | ((with_reducible apply wpSoft_widen); (case hw => rfl); (case hD => exact closed_drew); (case hs => exact Try.underlying65); (case hd => exact Try.underlying147); (case hx => rfl); (case hA => (first | assumption | exact FE.ofInt _ _ | exact FE.lit (by decide +kernel))); (intro r hr; simp only [Act.put, List.setIfInBounds_toArray, List.set_cons_succ, List.set_cons_zero]))
                  | ((with_reducible apply wpSoft_fneg); (case hw => rfl); (case hx => rfl); (case hA => (first | assumption | exact FE.ofInt _ _ | exact FE.lit (by decide +kernel))); (intro r hr; simp only [Act.put, List.setIfInBounds_toArray, List.set_cons_succ, List.set_cons_zero]))
                  | ((with_reducible apply wpSoft_fcmp); (case hw => rfl); (case hop => rfl); (case hx => rfl); (case hy => rfl); (case hA => (first | assumption | exact FE.ofInt _ _ | exact FE.lit (by decide +kernel))); (case hB => (first | assumption | exact FE.ofInt _ _ | exact FE.lit (by decide +kernel))); (case hb => (first | assumption | rfl)); simp only [Act.put, List.setIfInBounds_toArray, List.set_cons_succ, List.set_cons_zero])
                  | (apply wpSoft_q rfl rfl; intro K hK; go_big_quiet_op; go_big_quiet_on))
                with_reducible apply wpSoft_nil
                intro m
                go_upto_region 24 with fail
                have hgb := Hgb.out
                have hx := Hg3.out
                generalize hwq : World.drewN _ _ = wq
                have C0 : Hid (Blk wq (w.heap.size) [.int .i64 W, .int .i64 H, .slice (some ⟨bx, ox, none⟩) ms.length ca] 24) := by show Blk _ _ _ _; rw [← hwq]; exact B0.out.setG (by (try show Gr _ _); repeat (with_reducible first | exact Gr.refl _ | refine Gr.drewN ?_ _ | refine Gr.grew ?_ _ _ | refine Gr.alloc ?_ _ | refine Gr.drew ?_)) (by simp; omega)
                have C1 : Hid (Blk wq (w.heap.size + 1) [.int .i64 W, .int .i64 H, .slice (some ⟨by', oy, none⟩) gs.length cb] 35) := by show Blk _ _ _ _; rw [← hwq]; exact B1.out.setG (by (try show Gr _ _); repeat (with_reducible first | exact Gr.refl _ | refine Gr.drewN ?_ _ | refine Gr.grew ?_ _ _ | refine Gr.alloc ?_ _ | refine Gr.drew ?_)) (by simp; omega)
                have C2 : Hid (Blk wq (w.heap.size + 1 + 1) [.int .i64 0, .int .i64 0, .slice none 0 0] 24) := by show Blk _ _ _ _; rw [← hwq]; exact B2.out.setG (by (try show Gr _ _); repeat (with_reducible first | exact Gr.refl _ | refine Gr.drewN ?_ _ | refine Gr.grew ?_ _ _ | refine Gr.alloc ?_ _ | refine Gr.drew ?_)) (by simp; omega)
                have CO : Hid (Blk wq (u1.heap.size) [.int .i64 W, .int .i64 H, .slice (some ⟨g, 0, none⟩) ms.length cg] 24) := by show Blk _ _ _ _; rw [← hwq]; exact BO.out.setG (by (try show Gr _ _); repeat (with_reducible first | exact Gr.refl _ | refine Gr.drewN ?_ _ | refine Gr.grew ?_ _ _ | refine Gr.alloc ?_ _ | refine Gr.drew ?_)) hgb
                have CF : Hid (FOwn wq (w.heap.size + 1 + 1 + 1) 65 (.slice (some ⟨g, 0, none⟩) ms.length cg) ((upto ms.length k (gGuI ms gs W H r N) (fun _ => 3212836864)).set k (ms.getD k 0))) := by show FOwn _ _ _ _ _; rw [← hwq]; exact FOwn.gr (Ho.out.store (k := k) HRX.out) (by (try show Gr _ _); repeat (with_reducible first | exact Gr.refl _ | refine Gr.drewN ?_ _ | refine Gr.grew ?_ _ _ | refine Gr.alloc ?_ _ | refine Gr.drew ?_))
                have CG : Hid (Gr w wq) := by show Gr _ _; rw [← hwq]; exact Hg.out.setG (by (try show Gr _ _); repeat (with_reducible first | exact Gr.refl _ | refine Gr.drewN ?_ _ | refine Gr.grew ?_ _ _ | refine Gr.alloc ?_ _ | refine Gr.drew ?_)) (by simp; omega)
                clear hwq hco hz o2 m0 m1 m2 n2 hcx hcg
                obtain ⟨ro2, hco2, -⟩ := CF.out.get k (by simp; exact hlt)
                have hz2 := CF.out.free k
                have o3 := CO.out.cellv 2
                go_wp2_with (first
      | ((with_reducible apply wpList_fop); (case hw => rfl); (case hop => rfl); (case hx => rfl); (case hy => rfl); (case hA => (first | assumption | exact FE.ofInt _ _ | exact FE.lit (by decide +kernel))); (case hB => (first | assumption | exact FE.ofInt _ _ | exact FE.lit (by decide +kernel))); intro r n hr)
      | ((with_reducible apply wpList_fcmp); (case hw => rfl); (case hop => rfl); (case hx => rfl); (case hy => rfl); (case hA => (first | assumption | exact FE.ofInt _ _ | exact FE.lit (by decide +kernel))); (case hB => (first | assumption | exact FE.ofInt _ _ | exact FE.lit (by decide +kernel))); (case hb => (first | assumption | rfl)))
      | ((with_reducible apply wpList_widen); (case hw => rfl); (case hs => exact Try.underlying65); (case hd => exact Try.underlying147); (case hx => rfl); (case hA => (first | assumption | exact FE.ofInt _ _ | exact FE.lit (by decide +kernel))); intro r n hr)
      | ((with_reducible apply wpList_fneg); (case hw => rfl); (case hx => rfl); (case hA => (first | assumption | exact FE.ofInt _ _ | exact FE.lit (by decide +kernel))); intro r hr))
                go_roundw
                case rel =>
                  refine ⟨k + 1, by omega, by go_num, C0.out.setG (by (try show Gr _ _); repeat (with_reducible first | exact Gr.refl _ | refine Gr.drewN ?_ _ | refine Gr.grew ?_ _ _ | refine Gr.alloc ?_ _ | refine Gr.drew ?_)) (by simp; omega), C1.out.setG (by (try show Gr _ _); repeat (with_reducible first | exact Gr.refl _ | refine Gr.drewN ?_ _ | refine Gr.grew ?_ _ _ | refine Gr.alloc ?_ _ | refine Gr.drew ?_)) (by simp; omega), C2.out.setG (by (try show Gr _ _); repeat (with_reducible first | exact Gr.refl _ | refine Gr.drewN ?_ _ | refine Gr.grew ?_ _ _ | refine Gr.alloc ?_ _ | refine Gr.drew ?_)) (by simp; omega), CO.out.setG (by (try show Gr _ _); repeat (with_reducible first | exact Gr.refl _ | refine Gr.drewN ?_ _ | refine Gr.grew ?_ _ _ | refine Gr.alloc ?_ _ | refine Gr.drew ?_)) hgb, ?_, CG.out.setG (by (try show Gr _ _); repeat (with_reducible first | exact Gr.refl _ | refine Gr.drewN ?_ _ | refine Gr.grew ?_ _ _ | refine Gr.alloc ?_ _ | refine Gr.drew ?_)) (by simp; omega)⟩
                  rw [← upto_set hlt]
                  refine FOwn.gr ?_ (by (try show Gr _ _); repeat (with_reducible first | exact Gr.refl _ | refine Gr.drewN ?_ _ | refine Gr.grew ?_ _ _ | refine Gr.alloc ?_ _ | refine Gr.drew ?_))
                  rw [eG.out]
                  have h := fun (r' : Nat) (hr' : FE .f32 r' (fop .quo .f32 s1' (floatOfInt .f32 (s2' : Int)))) => CF.out.store (k := k) hr'
                  simp only [List.set_set] at h
                  exact h _ (by assumption)
                case measure => simp [intOf]; omega
        · have eG := Lib.hid (show gGuI ms gs W H r N k = 3212836864 by show gGuAt ms gs W H N r k = _; unfold gGuAt; rw [t1]; rfl)
          go_wp2_with (first
      | (go_at_call 94; with_reducible refine (S_l05Hole _ _ _ (by assumption)).mono ?_; rintro e w' ⟨rfl, n, rfl⟩; rw [t1]))
          go_roundw
          case rel => exact ⟨k + 1, by omega, by go_num, B0.out.gr (by (try show Gr _ _); repeat (with_reducible first | exact Gr.refl _ | refine Gr.drewN ?_ _ | refine Gr.grew ?_ _ _ | refine Gr.alloc ?_ _ | refine Gr.drew ?_)), B1.out.gr (by (try show Gr _ _); repeat (with_reducible first | exact Gr.refl _ | refine Gr.drewN ?_ _ | refine Gr.grew ?_ _ _ | refine Gr.alloc ?_ _ | refine Gr.drew ?_)), B2.out.gr (by (try show Gr _ _); repeat (with_reducible first | exact Gr.refl _ | refine Gr.drewN ?_ _ | refine Gr.grew ?_ _ _ | refine Gr.alloc ?_ _ | refine Gr.drew ?_)), BO.out.gr (by (try show Gr _ _); repeat (with_reducible first | exact Gr.refl _ | refine Gr.drewN ?_ _ | refine Gr.grew ?_ _ _ | refine Gr.alloc ?_ _ | refine Gr.drew ?_)), (by rw [← upto_keep (n := ms.length) (k := k) (G := gGuI ms gs W H r N) (O := fun _ => 3212836864) (eG.out).symm]; exact Ho.out.gr (by (try show Gr _ _); repeat (with_reducible first | exact Gr.refl _ | refine Gr.drewN ?_ _ | refine Gr.grew ?_ _ _ | refine Gr.alloc ?_ _ | refine Gr.drew ?_))), Hg.out.trans (by (try show Gr _ _); repeat (with_reducible first | exact Gr.refl _ | refine Gr.drewN ?_ _ | refine Gr.grew ?_ _ _ | refine Gr.alloc ?_ _ | refine Gr.drew ?_))⟩
          case measure => simp [intOf]; omega
      · obtain rfl : k = ms.length := by omega
        have p0 := bO.cellv 0
        have p1 := bO.cellv 1
        have p2 := bO.cellv 2
        have q0 := b2.cellv 0
        have q1 := b2.cellv 1
        have q2 := b2.cellv 2
        have z0 := b2.frozen 0
        have z1 := b2.frozen 1
        have z2 := b2.frozen 2
        have Ho := Lib.hid ho
        have Hg := Lib.hid hg
        clear b0 b1 b2 bO ho hg
        go_wp2
        refine bodyPost_ret (v := .tuple #[.agg #[.int .i64 W, .int .i64 H, .slice (some ⟨g, 0, none⟩) (ms.length) cg], .bool true]) (by simp [results, Try.results42, go_sem, *]) rfl ⟨⟨_, rfl, ?_⟩, ?_⟩
        · have h := Ho.out
          rw [upto_all] at h
          show FOwn _ _ _ _ (lst (ms.length) _)
          exact FOwn.base (B := w.heap.size + 1 + 1 + 1) (by repeat (with_reducible first | assumption | refine FOwn.setOther ?_ _ (by simp <;> omega))) (by omega)
        · have h := Hg.out
          exact (by repeat (with_reducible first | assumption | refine Gr.setCell ?_ (by simp <;> omega) _))
end Go.Proofs.Ytaidkokgafojeaa
