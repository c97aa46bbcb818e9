/- Contracts: MedianMap. MAXREC -/
import Derived.Test.YtomlfdkcgaogcaaProg
import Derived.Test.YtomlfdkcgaogcaaC118
import Derived.Test.YtomlfdkcgaogcaaC15
import Derived.Test.YtomlfdkcgaogcaaLw
import Derived.Deep.DeepCutAuto
namespace Go.Proofs.Ytomlfdkcgaogcaa
open Go.RowKit Go.Fx Go.Soft
def gMmOk (W H r : Int) (n : Nat) : Bool := gPic W H n && gIn r 0 3
def gMdG (xs : List Nat) (W H r : Int) (i : Nat) : Nat := gMedI (gMv xs W.toNat (gWn W.toNat H.toNat r.toNat (i % W.toNat) (i / W.toNat)))
theorem gMv_len49 (xs : List Nat) (W H r x y : Nat) (hx : x < W) (hy : y < H) (hr : r ≤ 3) : (gMv xs W (gWn W H r x y)).length ≤ 4096 := by
  unfold gMv gWn wl
  rw [List.length_map]
  refine Nat.le_trans (List.length_filter_le _ _) ?_
  rw [List.length_map, List.length_range]
  have := Nat.mul_le_mul (show min (x + r) (W - 1) + 1 - (x - r) ≤ 7 by omega) (show min (y + r) (H - 1) + 1 - (y - r) ≤ 7 by omega)
  omega
set_option maxRecDepth 20000 in
set_option maxHeartbeats 4000000 in
theorem I_MedianMap_1 (W H b rb ca r x y : Nat) (a : Option Addr) (xs : List Nat) (w : World) (m1 : MP w b W H a xs.length ca xs) (cr : w.cell? ⟨rb, 0, none⟩ = some (.int .i64 r)) (hr : r ≤ 3) (hW : W ≤ 24) (hH : H ≤ 24) (hl : xs.length = W * H) (hx : x < W) (hy : y < H) :
    Calls Try.prog 72 #[.int .i64 x, .int .i64 y, .pointer (some ⟨b, 0, none⟩), .pointer (some ⟨rb, 0, none⟩)] w fun e w' => (∃ v, e = .returned (.float .f32 v) ∧ FE .f32 v (gMedI (gMv xs W (gWn W H r x y)))) ∧ Gr w w' := by
  have HC := Lib.hid (I_median W H x y r b ca a xs w I_mergeOk m1 hx hy hr hW hH hl)
  clear m1 hl
  go_enter Try.func72, Try.ntmps72
  go_wp2_with fail
  refine HC.out.mono ?_
  rintro e w' ⟨⟨v, rfl, hv⟩, g⟩
  have HG := Lib.hid g
  clear g
  go_wp2
  go_ret
  exact ⟨⟨_, rfl, hv⟩, HG.out⟩
theorem tells_Median (W H b rb ca r : Nat) (a : Option Addr) (xs : List Nat) (w : World) (m1 : MP w b W H a xs.length ca xs) (cr : w.cell? ⟨rb, 0, none⟩ = some (.int .i64 r)) (hr : r ≤ 3) (hW : W ≤ 24) (hH : H ≤ 24) (hl : xs.length = W * H) :
    Tells w 72 #[.pointer (some ⟨b, 0, none⟩), .pointer (some ⟨rb, 0, none⟩)] W H (fun x y => gMedI (gMv xs W (gWn W H r x y))) :=
  ⟨Try.call72, fun x y hx hy w1 g => I_MedianMap_1 W H b rb ca r x y a xs w1 (m1.gr g) (g.cell cr) hr hW hH hl hx hy⟩
set_option maxRecDepth 20000 in
set_option maxHeartbeats 4000000 in
theorem I_MedianMap (W H r : Int) (a : Option Addr) (ca : Nat) (xs : List Nat) (w : World) (fx : FSl w a xs.length xs) (hn : xs.length ≤ 1048576) :
    Calls Try.prog 37 #[.agg #[.int .i64 W, .int .i64 H, .slice a xs.length ca], .int .i64 r] w
      (PostP w (gW (gMmOk W H r xs.length) W) (gW (gMmOk W H r xs.length) H) (gMmOk W H r xs.length) (gVals (gMmOk W H r xs.length) xs.length (gMdG xs W H r))) := by
  have hn' : xs.length ≤ maxLen := by unfold maxLen; omega
  have Fx := Lib.hid fx
  clear fx
  cases t3 : gIn r 0 3
  · have EB : gMmOk W H r xs.length = false := by unfold gMmOk; rw [t3]; simp
    rw [EB]
    go_enter Try.func37, Try.ntmps37
    go_wp2_with (first | (go_at_call 63; with_reducible refine (I_in _ _ _ _).mono ?_; rintro e w' ⟨rfl, hw⟩; (obtain rfl := hw.symm; rw [t3])))
    exact bodyPost_ret (v := .tuple #[.agg #[.int .i64 0, .int .i64 0, .slice none 0 0], .bool false]) (by simp [results, Try.results37, go_sem]) rfl ⟨⟨_, rfl, FOwn.nil _ _ _⟩, (by (try show Gr _ _); repeat (with_reducible first | exact Gr.refl _ | refine Gr.drewN ?_ _ | refine Gr.grew ?_ _ _ | refine Gr.alloc ?_ _ | refine Gr.drew ?_))⟩
  · have hr3 : 0 ≤ r ∧ r ≤ 3 := by unfold gIn at t3; simp at t3; omega
    obtain ⟨r, rfl⟩ := Int.eq_ofNat_of_zero_le hr3.1
    have EB : gMmOk W H r xs.length = gPic W H xs.length := by unfold gMmOk; rw [t3]; simp
    rw [EB]
    have EG : Hid ((if gPic W H xs.length then grid W.toNat (fun x y => gMedI (gMv xs W.toNat (gWn W.toNat H.toNat r x y))) xs.length else []) = gVals (gPic W H xs.length) xs.length (gMdG xs W H r)) := by
      show _ = _
      unfold gVals
      split
      · exact lst_congr fun i _ => by unfold gMdG; rw [Int.toNat_natCast]
      · rfl
    have HT := Lib.hid (fun (u : World) (b1 rb : Nat) (c0 : u.cell? ⟨b1, 0, none⟩ = some (.int .i64 W)) (c1 : u.cell? ⟨b1, 1, none⟩ = some (.int .i64 H)) (c2 : u.cell? ⟨b1, 2, none⟩ = some (.slice a xs.length ca)) (fs : FSl u a xs.length xs) (cr : u.cell? ⟨rb, 0, none⟩ = some (.int .i64 r)) => I_remap W H a ca xs 72 #[.pointer (some ⟨b1, 0, none⟩), .pointer (some ⟨rb, 0, none⟩)] (fun x y => gMedI (gMv xs W.toNat (gWn W.toNat H.toNat r x y))) u fs hn' (fun W' H' e1 e2 h1 h2 h3 h4 hl => by
      subst e1 e2
      rw [Int.toNat_natCast, Int.toNat_natCast]
      exact tells_Median W' H' b1 rb ca r a xs u ⟨c0, c1, c2, fs⟩ cr (by omega) h2 h4 hl))
    clear EB
    go_enter Try.func37, Try.ntmps37
    go_wp2_with (first | (go_at_call 63; with_reducible refine (I_in _ _ _ _).mono ?_; rintro e w' ⟨rfl, hw⟩; (obtain rfl := hw.symm; rw [t3])))
    refine (HT.out _ w.heap.size (w.heap.size + 1) (by first | (simp (maxDischargeDepth := 12) [go_sem]; done) | (simp (maxDischargeDepth := 12) [go_sem, *]; done)) (by first | (simp (maxDischargeDepth := 12) [go_sem]; done) | (simp (maxDischargeDepth := 12) [go_sem, *]; done)) (by first | (simp (maxDischargeDepth := 12) [go_sem]; done) | (simp (maxDischargeDepth := 12) [go_sem, *]; done)) (Fx.out.keep (by (repeat (with_reducible first | exact Kp.refl _ | exact kp_same | exact kp_app1 | exact kp_app2 | exact kp_app3 | refine Kp.grew ?_ _ _ | refine Kp.drewN ?_ _ | refine Kp.drew ?_ | refine Kp.alloc ?_ _)))) (by first | (simp (maxDischargeDepth := 12) [go_sem]; done) | (simp (maxDischargeDepth := 12) [go_sem, *]; done))).mono ?_
    rintro e un ⟨⟨v0, rfl, ho⟩, g⟩
    rw [EG.out] at ho
    have B2 := Lib.hid (Blk.gr (show Blk _ (w.heap.size + 1 + 1) [.int .i64 0, .int .i64 0, .slice none 0 0] 30 from (by repeat (with_reducible first | assumption | exact Blk.atNew (by simp) | refine Blk.alloc ?_ _ | refine Blk.grew ?_ _ _ | refine Blk.drewN ?_ _ | refine Blk.drew ?_))) g)
    have GN := Lib.hid (Gr.trans (show Gr w _ from (by (try show Gr _ _); repeat (with_reducible first | exact Gr.refl _ | refine Gr.drewN ?_ _ | refine Gr.grew ?_ _ _ | refine Gr.alloc ?_ _ | refine Gr.drew ?_))) g)
    obtain ⟨a1, c1, rfl, -, -⟩ := ho.sl
    have ho2 := ho.base (B' := w.heap.size + 1 + 1 + 1) (by simp <;> omega)
    have Ho := Lib.hid ho2
    clear ho ho2 g
    have q0 := B2.out.cellv 0
    have q1 := B2.out.cellv 1
    have q2 := B2.out.cellv 2
    have z0 := B2.out.frozen 0
    have z1 := B2.out.frozen 1
    have z2 := B2.out.frozen 2
    generalize gVals (gPic W H xs.length) xs.length (gMdG xs W H r) = R at *
    generalize gW (gPic W H xs.length) W = A1 at *
    generalize gW (gPic W H xs.length) H = A2 at *
    generalize gPic W H xs.length = P at *
    cases P
    all_goals
      go_wp2
      refine bodyPost_ret (v := .tuple #[.agg #[.int .i64 A1, .int .i64 A2, .slice a1 R.length c1], .bool _]) (by simp [results, Try.results37, go_sem, *]) rfl ⟨⟨_, rfl, ?_⟩, ?_⟩
      · have h := Ho.out
        exact FOwn.base (B := w.heap.size + 1 + 1 + 1) (by repeat (with_reducible first | assumption | refine FOwn.setOther ?_ _ (by simp <;> omega))) (by omega)
      · have h := GN.out
        exact (by repeat (with_reducible first | assumption | refine Gr.setCell ?_ (by simp <;> omega) _))
set_option maxRecDepth 20000 in
set_option maxHeartbeats 8000000 in
theorem S_MedianMap (W H r : Int) (a : Option Addr) (ca : Nat) (xs : List Nat) (w : World) (fx : FSl w a xs.length xs) (hn : xs.length ≤ 1048576) :
    Calls Try.prog 36 #[.agg #[.int .i64 W, .int .i64 H, .slice a xs.length ca], .int .i64 r] w
      (PostP w (gW (gMmOk W H r xs.length) W) (gW (gMmOk W H r xs.length) H) (gMmOk W H r xs.length) (gVals (gMmOk W H r xs.length) (xs.length) (gMdG xs W H r))) := by
  have Fx := Lib.hid fx
  clear fx
  have hn' : xs.length ≤ maxLen := by unfold maxLen; omega
  cases hT : gMmOk W H r xs.length
  · rcases (show gPic W H xs.length = false ∨ (gPic W H xs.length = true ∧ gIn r 0 3 = false) by unfold gMmOk at hT; cases h1 : gPic W H xs.length <;> simp [h1] at hT ⊢; exact hT) with t1 | ⟨t1, t2⟩
    all_goals
      go_enter Try.func36, Try.ntmps36
      go_wp2_with (first
      | (go_at_call 39; with_reducible refine (S_l03IsMap W H a _ ca _ _ _ hn' (by first | (simp (maxDischargeDepth := 12) [go_sem]; done) | (simp (maxDischargeDepth := 12) [go_sem, *]; done)) (by first | (simp (maxDischargeDepth := 12) [go_sem]; done) | (simp (maxDischargeDepth := 12) [go_sem, *]; done)) (by first | (simp (maxDischargeDepth := 12) [go_sem]; done) | (simp (maxDischargeDepth := 12) [go_sem, *]; done))).mono ?_; rintro e w' ⟨rfl, n, rfl⟩; rw [t1])
      | (go_at_call 60; with_reducible refine (S_l00In _ _ _ _).mono ?_; rintro e w' ⟨rfl, hw⟩; (obtain rfl := hw.symm; rw [t2])))
      exact bodyPost_ret (v := .tuple #[.agg #[.int .i64 0, .int .i64 0, .slice none 0 0], .bool false]) (by simp [results, Try.results36, go_sem]) rfl ⟨⟨_, rfl, FOwn.nil _ _ _⟩, (by (try show Gr _ _); repeat (with_reducible first | exact Gr.refl _ | refine Gr.drewN ?_ _ | refine Gr.grew ?_ _ _ | refine Gr.alloc ?_ _ | refine Gr.drew ?_))⟩
  · have hT' := hT
    simp only [gMmOk, Bool.and_eq_true] at hT'
    obtain ⟨hP, hI⟩ := hT'
    have hp1 := (gPic_true hP).2
    obtain ⟨s1, s2, s3, s4, s5, s6⟩ := gSize_true (gPic_true hP).1
    obtain ⟨W, rfl⟩ := Int.eq_ofNat_of_zero_le (show 0 ≤ W by omega)
    obtain ⟨H, rfl⟩ := Int.eq_ofNat_of_zero_le (show 0 ≤ H by omega)
    have hr3 : 0 ≤ r ∧ r ≤ 3 := by unfold gIn at hI; simp at hI; omega
    obtain ⟨r, rfl⟩ := Int.eq_ofNat_of_zero_le hr3.1
    have hl : xs.length = W * H := by exact_mod_cast hp1
    have hpos : 0 < xs.length := by omega
    have Hl := Lib.hid hl
    have hl6 : xs.length ≤ 576 := by rw [hl]; exact Nat.mul_le_mul (show W ≤ 24 by omega) (show H ≤ 24 by omega)
    obtain ⟨bx, ox, rfl⟩ := Fx.out.ptr hpos
    clear hp1 hl s5 s6
    go_enter Try.func36, Try.ntmps36
    go_wp2_with (first
      | (go_at_call 39; with_reducible refine (S_l03IsMap W H (some ⟨bx, ox, none⟩) _ ca _ _ _ hn' (by first | (simp (maxDischargeDepth := 12) [go_sem]; done) | (simp (maxDischargeDepth := 12) [go_sem, *]; done)) (by first | (simp (maxDischargeDepth := 12) [go_sem]; done) | (simp (maxDischargeDepth := 12) [go_sem, *]; done)) (by first | (simp (maxDischargeDepth := 12) [go_sem]; done) | (simp (maxDischargeDepth := 12) [go_sem, *]; done))).mono ?_; rintro e w' ⟨rfl, n, rfl⟩; rw [hP])
      | (go_at_call 60; with_reducible refine (S_l00In _ _ _ _).mono ?_; rintro e w' ⟨rfl, hw⟩; (obtain rfl := hw.symm; rw [hI]))
      | (go_at_call 46; refine (S_l05Own W H _ ca _ xs _ ⟨(by first | (simp (maxDischargeDepth := 12) [go_sem]; done) | (simp (maxDischargeDepth := 12) [go_sem, *]; done)), (by first | (simp (maxDischargeDepth := 12) [go_sem]; done) | (simp (maxDischargeDepth := 12) [go_sem, *]; done)), (by first | (simp (maxDischargeDepth := 12) [go_sem]; done) | (simp (maxDischargeDepth := 12) [go_sem, *]; done)), Fx.out.keep (by (repeat (with_reducible first | exact Kp.refl _ | exact kp_same | exact kp_app1 | exact kp_app2 | exact kp_app3 | refine Kp.grew ?_ _ _ | refine Kp.drewN ?_ _ | refine Kp.drew ?_ | refine Kp.alloc ?_ _)))⟩ hpos hn).mono ?_; rintro e w1 ⟨⟨v0, rfl, ho0⟩, os0, m0, rfl⟩; obtain ⟨g, cg, rfl, -⟩ := ho0.ptr hpos; have Ho0 := Lib.hid ho0; clear ho0))
    go_loopw [20] (fun i wr => ∃ k : Nat, k ≤ xs.length ∧ i = .int .i64 k ∧ Blk wr (w.heap.size) [.int .i64 W, .int .i64 H, .slice (some ⟨bx, ox, none⟩) xs.length ca] 30 ∧ Blk wr (w.heap.size + 1) [.int .i64 0, .int .i64 0, .slice none 0 0] 30 ∧ Blk wr (w.heap.size + 1 + 1 + os0.size) [.int .i64 W, .int .i64 H, .slice (some ⟨g, 0, none⟩) (xs.length) cg] 30 ∧ FOwn wr (w.heap.size + 1 + 1) 25 (.slice (some ⟨g, 0, none⟩) (xs.length) cg) (upto (xs.length) k (gMdG xs W H r) (fun i => xs.getD i 0)) ∧ Gr w wr) (fun i _ => xs.length - (intOf i).toNat)
    case atStart => exact ⟨0, Nat.zero_le _, rfl, (by repeat (with_reducible first | assumption | exact Blk.atNew (by simp) | refine Blk.alloc ?_ _ | refine Blk.grew ?_ _ _ | refine Blk.drewN ?_ _ | refine Blk.drew ?_)), (by repeat (with_reducible first | assumption | exact Blk.atNew (by simp) | refine Blk.alloc ?_ _ | refine Blk.grew ?_ _ _ | refine Blk.drewN ?_ _ | refine Blk.drew ?_)), (by repeat (with_reducible first | assumption | exact Blk.atNew (by simp) | refine Blk.alloc ?_ _ | refine Blk.grew ?_ _ _ | refine Blk.drewN ?_ _ | refine Blk.drew ?_)), (by have h2 := Ho0.out.base (B' := w.heap.size + 1 + 1) (by simp <;> omega); (try simp only [grew_drewN] at h2); rw [upto_zero]; rw [lst_of]; exact h2.gr (by (try show Gr _ _); repeat (with_reducible first | exact Gr.refl _ | refine Gr.drewN ?_ _ | refine Gr.grew ?_ _ _ | refine Gr.alloc ?_ _ | refine Gr.drew ?_))), (by (try show Gr _ _); repeat (with_reducible first | exact Gr.refl _ | refine Gr.drewN ?_ _ | refine Gr.grew ?_ _ _ | refine Gr.alloc ?_ _ | refine Gr.drew ?_))⟩
    case round =>
      clear Ho0
      obtain ⟨k, hk, rfl, b0, b1, bO, ho, hg⟩ := hrel
      by_cases hlt : k < xs.length
      · obtain ⟨ro, hco, -⟩ := ho.get k (by simp; exact hlt)
        have hz := ho.free k
        have o2 := bO.cellv 2
        have hgb : g ≠ w.heap.size + 1 + 1 + os0.size := by
          intro e
          exact ho.okb (.inr (bO.okb (e := 25) (by decide))) (by simp [Value.ownBlock, e])
        have hg3 : w.heap.size + 1 + 1 ≤ g := (ho.block rfl).1
        have MM := Lib.hid (MP.mk (b0.cellv 0) (b0.cellv 1) (b0.cellv 2) (Fx.out.keep hg.kp))
        have m0 := b0.cellv 0
        have Hgb := Lib.hid hgb
        have Hg3 := Lib.hid hg3
        have B0 := Lib.hid b0
        have B1 := Lib.hid b1
        have BO := Lib.hid bO
        have Ho := Lib.hid ho
        have Hg := Lib.hid hg
        clear b0 b1 bO ho hg hgb hg3
        have hx : k % W < W := Nat.mod_lt _ (by omega)
        have hy : k / W < H := Nat.div_lt_of_lt_mul (by have := Hl.out; omega)
        obtain ⟨x, ex⟩ : ∃ x, x = k % W := ⟨_, rfl⟩
        obtain ⟨y, ey⟩ : ∃ y, y = k / W := ⟨_, rfl⟩
        have e3 : (k : Int).tmod (W : Int) = (x : Int) := by rw [Int.tmod_eq_emod_of_nonneg (by omega), ex]; exact (Int.natCast_emod k W).symm
        have e4 : (k : Int).tdiv (W : Int) = (y : Int) := by rw [Int.tdiv_eq_ediv_of_nonneg (by omega), ey]; exact (Int.natCast_ediv k W).symm
        have e5 : ¬ (W : Int) = 0 := by omega
        have e5b : ¬ W = 0 := by omega
        rw [← ex] at hx
        rw [← ey] at hy
        have hyk : y ≤ 24 := by omega
        have e6 : IntKind.i64.wrap (y : Int) = (y : Int) := IntWalk.i64_in _ (by omega)
        obtain ⟨L, hL⟩ : ∃ L, L = gMv xs W (gWn W H r x y) := ⟨_, rfl⟩
        have eG := Lib.hid (show gMdG xs W H r k = gMedI L by rw [hL, ex, ey]; rfl)
        have hlen : L.length ≤ 4096 := by rw [hL]; exact gMv_len49 xs W H r x y hx hy (by omega)
        have HW := Lib.hid (fun (u : World) (g : Gr wr u) => S_l05Window W H w.heap.size x y r ca _ xs u (MM.out.gr g) hx hy (by omega) (by omega) (by omega) Hl.out)
        have hW2 := fun (u : World) (g : Gr wr u) => HW.out u g
        have HWL : Hid (∀ (u : World), Gr wr u → Calls Try.prog 69 #[.pointer (some ⟨w.heap.size, 0, none⟩), .int .i64 x, .int .i64 y, .int .i64 r] u fun e w' => (∃ v, e = .returned v ∧ FOwn w' u.heap.size 25 v L) ∧ Gr u w') := fun u g => by rw [hL]; exact hW2 u g
        have hne : ∃ v, FS .f32 (gMedI L) v := by
          obtain ⟨e, w', ⟨v, _, ho⟩, _⟩ := calls_some (HWL.out wr (Gr.refl wr))
          obtain ⟨a', c', _, hs, _⟩ := ho.sl
          obtain ⟨e2, w2, ⟨r2, _, hr2⟩, _⟩ := calls_some (S_l05Median a' c' L w' hs hlen)
          exact ⟨_, r2, rfl, hr2⟩
        have HNE := Lib.hid hne
        clear hL ex ey hW2 HW hne
        go_upto_region 7 with fail
        apply region_facts 14 [12] (fun _ v w' => ∃ a c, v = .slice a L.length c ∧ FSl w' a L.length L)
        case hm => kernel_rfl
        case hB => kernel_rfl
        case hR => rfl
        case hP => (intro q hq v w1 w2 hg hv; obtain ⟨a, c, hv, hs⟩ := hv; exact ⟨a, c, hv, hs.keep hg.kp⟩)
        simp only [List.take_succ_cons, List.take_zero, List.drop_succ_cons, List.drop_zero]
        repeat (first
          | ((with_reducible apply wpF_call (f := 69) (S := fun v => ∃ a c, v = .slice a L.length c)); (case hw => rfl); (case hc => exact Try.call69); (case hv => ((conv => lhs; simp [Act.eval]); try rfl)); (case hS => (intro os m _; refine (HWL.out _ ⟨os, m, rfl⟩).mono ?_; rintro e w' ⟨⟨v, rfl, ho⟩, g⟩; obtain ⟨a', c', rfl, hs', -⟩ := ho.sl; exact ⟨_, rfl, g, fun _ => ⟨a', c', rfl, hs'⟩, a', c', rfl⟩)); (case hne => exact ⟨_, none, 0, rfl⟩); (rintro v ⟨a', c', rfl⟩; simp only [Act.put, List.setIfInBounds_toArray, List.set_cons_succ, List.set_cons_zero]))
          | ((with_reducible apply wpF_call (f := 68) (S := FS .f32 (gMedI L))); (case hw => rfl); (case hc => exact Try.call68); (case hv => ((conv => lhs; simp [Act.eval]); try rfl)); (case hS => (intro os m hse; obtain ⟨a'', c'', hv', hs'⟩ := hse ⟨12, .data⟩ (by simp) rfl (by decide) _ _ rfl rfl; simp at hv'; obtain ⟨rfl, rfl⟩ := hv'; refine (S_l05Median _ _ L _ hs' hlen).mono ?_; rintro e w' ⟨⟨r2, rfl, hr2⟩, g⟩; exact ⟨_, rfl, g, fun h => absurd h (by decide), r2, rfl, hr2⟩)); (case hne => exact HNE.out); (rintro v ⟨r2, rfl, hr2⟩; simp only [Act.put, List.setIfInBounds_toArray, List.set_cons_succ, List.set_cons_zero]))
          | (apply wpF_skip rfl (by decide); simp only [Act.put, List.setIfInBounds_toArray, List.set_cons_succ, List.set_cons_zero])
          | (apply wpF_nilCheck rfl (by decide) rfl; simp only [Act.put, List.setIfInBounds_toArray, List.set_cons_succ, List.set_cons_zero])
          | ((with_reducible apply wpF_fop); (case hw => rfl); (case hT => decide); (case hop => rfl); (case hx => rfl); (case hy => rfl); (case hA => (first | assumption | exact FE.ofInt _ _ | exact FE.lit (by decide +kernel))); (case hB => (first | assumption | exact FE.ofInt _ _ | exact FE.lit (by decide +kernel))); (intro r hr; simp only [Act.put, List.setIfInBounds_toArray, List.set_cons_succ, List.set_cons_zero]))
          | ((with_reducible apply wpF_fneg); (case hw => rfl); (case hT => decide); (case hx => rfl); (case hA => (first | assumption | exact FE.ofInt _ _ | exact FE.lit (by decide +kernel))); (intro r hr; simp only [Act.put, List.setIfInBounds_toArray, List.set_cons_succ, List.set_cons_zero]))
          | ((with_reducible apply wpF_fcmp); (case hw => rfl); (case hT => decide); (case hop => rfl); (case hx => rfl); (case hy => rfl); (case hA => (first | assumption | exact FE.ofInt _ _ | exact FE.lit (by decide +kernel))); (case hB => (first | assumption | exact FE.ofInt _ _ | exact FE.lit (by decide +kernel))); (case hb => (first | assumption | rfl)); simp only [Act.put, List.setIfInBounds_toArray, List.set_cons_succ, List.set_cons_zero])
          | (apply wpF_q rfl (by decide) rfl; intro K hK; go_big_quiet_op; go_big_quiet_on))
        with_reducible apply wpF_nil
        intro os m hf
        clear hf
        go_wp2
        go_roundw
        case rel =>
          have hx := Hg3.out
          refine ⟨k + 1, by omega, by go_num, B0.out.setG (by (try show Gr _ _); repeat (with_reducible first | exact Gr.refl _ | refine Gr.drewN ?_ _ | refine Gr.grew ?_ _ _ | refine Gr.alloc ?_ _ | refine Gr.drew ?_)) (by simp; omega), B1.out.setG (by (try show Gr _ _); repeat (with_reducible first | exact Gr.refl _ | refine Gr.drewN ?_ _ | refine Gr.grew ?_ _ _ | refine Gr.alloc ?_ _ | refine Gr.drew ?_)) (by simp; omega), BO.out.setG (by (try show Gr _ _); repeat (with_reducible first | exact Gr.refl _ | refine Gr.drewN ?_ _ | refine Gr.grew ?_ _ _ | refine Gr.alloc ?_ _ | refine Gr.drew ?_)) Hgb.out, ?_, Hg.out.setG (by (try show Gr _ _); repeat (with_reducible first | exact Gr.refl _ | refine Gr.drewN ?_ _ | refine Gr.grew ?_ _ _ | refine Gr.alloc ?_ _ | refine Gr.drew ?_)) (by simp; omega)⟩
          rw [← upto_set (G := gMdG xs W H r) (O := fun i => xs.getD i 0) hlt]
          rw [eG.out]
          exact (Ho.out.store (k := k) (by assumption)).gr ⟨os, m, rfl⟩
        case measure => simp [intOf]; omega
      · obtain rfl : k = xs.length := by omega
        have p0 := bO.cellv 0
        have p1 := bO.cellv 1
        have p2 := bO.cellv 2
        have q0 := b1.cellv 0
        have q1 := b1.cellv 1
        have q2 := b1.cellv 2
        have z0 := b1.frozen 0
        have z1 := b1.frozen 1
        have z2 := b1.frozen 2
        have Ho := Lib.hid ho
        have Hg := Lib.hid hg
        clear b0 b1 bO ho hg
        go_wp2
        refine bodyPost_ret (v := .tuple #[.agg #[.int .i64 W, .int .i64 H, .slice (some ⟨g, 0, none⟩) (xs.length) cg], .bool true]) (by simp [results, Try.results36, go_sem, *]) rfl ⟨⟨_, rfl, ?_⟩, ?_⟩
        · have h := Ho.out
          rw [upto_all] at h
          show FOwn _ _ _ _ (lst (xs.length) _)
          exact FOwn.base (B := w.heap.size + 1 + 1) (by repeat (with_reducible first | assumption | refine FOwn.setOther ?_ _ (by simp <;> omega))) (by omega)
        · have h := Hg.out
          exact (by repeat (with_reducible first | assumption | refine Gr.setCell ?_ (by simp <;> omega) _))
end Go.Proofs.Ytomlfdkcgaogcaa
