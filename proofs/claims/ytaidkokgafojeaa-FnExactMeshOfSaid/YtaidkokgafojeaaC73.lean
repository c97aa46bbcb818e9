/- Contracts: PointsOf. MAXREC -/
import Derived.Test.YtaidkokgafojeaaProg
import Derived.Test.YtaidkokgafojeaaC72
import Derived.Deep.DeepCutAuto
namespace Go.Proofs.Ytaidkokgafojeaa
open Go.RowKit Go.Fx Go.Soft
def gPtsOk (F B X Y : Nat) (W H : Int) (n : Nat) : Bool := gCam F B X Y && gPic W H n
/-- What a function that hands back vectors, numbers and whether there are any leaves. -/
def PostVI (w : World) (ok : Bool) (n : Nat) (L : List Nat) (I : List Int) (e : Ending) (w' : World) : Prop :=
  (∃ v u, e = .returned (.tuple #[v, u, .bool ok]) ∧ VOwn w' w.heap.size 137 v n L ∧ IOwn w' w.heap.size 2 u I) ∧ Gr w w'
set_option maxRecDepth 20000 in
set_option maxHeartbeats 2000000 in
theorem S_PointsOf (f b mx my F B X Y : Nat) (W H : Int) (a : Option Addr) (ca : Nat) (xs : List Nat) (w : World) (hf : FE .f32 f F) (hb : FE .f32 b B) (hx : FE .f32 mx X) (hy : FE .f32 my Y) (fx : FSl w a xs.length xs) (hn : xs.length ≤ 1048576) :
    Calls Try.prog 44 #[.agg #[.float .f32 f, .float .f32 b, .float .f32 mx, .float .f32 my], .agg #[.int .i64 W, .int .i64 H, .slice a xs.length ca]] w
      (PostVI w (gPtsOk F B X Y W H xs.length) (if gPtsOk F B X Y W H xs.length then (gPtsI F B xs xs.length).length else 0) (if gPtsOk F B X Y W H xs.length then gPtsV F B X Y W.toNat xs xs.length else []) (if gPtsOk F B X Y W H xs.length then gPtsI F B xs xs.length else [])) := by
  have hn' : xs.length ≤ maxLen := by unfold maxLen; omega
  have Fx := Lib.hid fx
  clear fx
  unfold gPtsOk
  cases hC : gCam F B X Y
  · go_enter Try.func44, Try.ntmps44
    go_wp2_with (first
      | (go_at_call 107; with_reducible refine (S_l06Is _ _ _ _ _ _ _ _ _ _ _ hf hb hx hy (by first | (simp (maxDischargeDepth := 12) [go_sem]; done) | (simp (maxDischargeDepth := 12) [go_sem, *]; done)) (by first | (simp (maxDischargeDepth := 12) [go_sem]; done) | (simp (maxDischargeDepth := 12) [go_sem, *]; done)) (by first | (simp (maxDischargeDepth := 12) [go_sem]; done) | (simp (maxDischargeDepth := 12) [go_sem, *]; done)) (by first | (simp (maxDischargeDepth := 12) [go_sem]; done) | (simp (maxDischargeDepth := 12) [go_sem, *]; done))).mono ?_; rintro e w' ⟨rfl, n, rfl⟩; rw [hC]))
    exact bodyPost_ret (v := .tuple #[.slice none 0 0, .slice none 0 0, .bool false]) (by simp [results, Try.results44, go_sem]) rfl ⟨⟨_, _, rfl, VOwn.nil _ _ _, IOwn.nil _ _ _⟩, (by (try show Gr _ _); repeat (with_reducible first | exact Gr.refl _ | refine Gr.drewN ?_ _ | refine Gr.grew ?_ _ _ | refine Gr.alloc ?_ _ | refine Gr.drew ?_))⟩
  cases hP : gPic W H xs.length
  · go_enter Try.func44, Try.ntmps44
    go_wp2_with (first
      | (go_at_call 107; with_reducible refine (S_l06Is _ _ _ _ _ _ _ _ _ _ _ hf hb hx hy (by first | (simp (maxDischargeDepth := 12) [go_sem]; done) | (simp (maxDischargeDepth := 12) [go_sem, *]; done)) (by first | (simp (maxDischargeDepth := 12) [go_sem]; done) | (simp (maxDischargeDepth := 12) [go_sem, *]; done)) (by first | (simp (maxDischargeDepth := 12) [go_sem]; done) | (simp (maxDischargeDepth := 12) [go_sem, *]; done)) (by first | (simp (maxDischargeDepth := 12) [go_sem]; done) | (simp (maxDischargeDepth := 12) [go_sem, *]; done))).mono ?_; rintro e w' ⟨rfl, n, rfl⟩; rw [hC])
      | (go_at_call 88; with_reducible refine (S_l03IsMap W H a _ ca _ _ _ hn' (by first | (simp (maxDischargeDepth := 12) [go_sem]; done) | (simp (maxDischargeDepth := 12) [go_sem, *]; done)) (by first | (simp (maxDischargeDepth := 12) [go_sem]; done) | (simp (maxDischargeDepth := 12) [go_sem, *]; done)) (by first | (simp (maxDischargeDepth := 12) [go_sem]; done) | (simp (maxDischargeDepth := 12) [go_sem, *]; done))).mono ?_; rintro e w' ⟨rfl, n, rfl⟩; rw [hP]))
    exact bodyPost_ret (v := .tuple #[.slice none 0 0, .slice none 0 0, .bool false]) (by simp [results, Try.results44, go_sem]) rfl ⟨⟨_, _, rfl, VOwn.nil _ _ _, IOwn.nil _ _ _⟩, (by (try show Gr _ _); repeat (with_reducible first | exact Gr.refl _ | refine Gr.drewN ?_ _ | refine Gr.grew ?_ _ _ | refine Gr.alloc ?_ _ | refine Gr.drew ?_))⟩
  · obtain ⟨W', H', rfl, rfl, h1, h2, h3, h4, h5, h6⟩ := gPic_nat hP
    have LP := Lib.hid (fun w1 (g : Gr w w1) c0 c1 c2 c3 d0 d2 => S_l06Points f b mx my F B X Y w.heap.size (w.heap.size + 1) W' H' xs.length ca a xs w1 hf hb hx hy c0 c1 c2 c3 d0 d2 (Fx.out.keep g.kp) h3 h1 h2 h5)
    simp only [Bool.and_self, if_true, Int.toNat_natCast]
    obtain ⟨L, hL⟩ : ∃ L, L = gPtsV F B X Y W' xs xs.length := ⟨_, rfl⟩
    obtain ⟨I, hI⟩ : ∃ I, I = gPtsI F B xs xs.length := ⟨_, rfl⟩
    rw [← hL, ← hI] at LP ⊢
    clear hL hI h1 h2 h3 h4 h5 h6
    go_enter Try.func44, Try.ntmps44
    go_wp2_with (first
      | (go_at_call 107; with_reducible refine (S_l06Is _ _ _ _ _ _ _ _ _ _ _ hf hb hx hy (by first | (simp (maxDischargeDepth := 12) [go_sem]; done) | (simp (maxDischargeDepth := 12) [go_sem, *]; done)) (by first | (simp (maxDischargeDepth := 12) [go_sem]; done) | (simp (maxDischargeDepth := 12) [go_sem, *]; done)) (by first | (simp (maxDischargeDepth := 12) [go_sem]; done) | (simp (maxDischargeDepth := 12) [go_sem, *]; done)) (by first | (simp (maxDischargeDepth := 12) [go_sem]; done) | (simp (maxDischargeDepth := 12) [go_sem, *]; done))).mono ?_; rintro e w' ⟨rfl, n, rfl⟩; rw [hC])
      | (go_at_call 88; with_reducible refine (S_l03IsMap W' H' a _ ca _ _ _ hn' (by first | (simp (maxDischargeDepth := 12) [go_sem]; done) | (simp (maxDischargeDepth := 12) [go_sem, *]; done)) (by first | (simp (maxDischargeDepth := 12) [go_sem]; done) | (simp (maxDischargeDepth := 12) [go_sem, *]; done)) (by first | (simp (maxDischargeDepth := 12) [go_sem]; done) | (simp (maxDischargeDepth := 12) [go_sem, *]; done))).mono ?_; rintro e w' ⟨rfl, n, rfl⟩; rw [hP])
      | (go_at_call 108; with_reducible refine (LP.out _ (by (try show Gr _ _); repeat (with_reducible first | exact Gr.refl _ | refine Gr.drewN ?_ _ | refine Gr.grew ?_ _ _ | refine Gr.alloc ?_ _ | refine Gr.drew ?_)) (by first | (simp (maxDischargeDepth := 12) [go_sem]; done) | (simp (maxDischargeDepth := 12) [go_sem, *]; done)) (by first | (simp (maxDischargeDepth := 12) [go_sem]; done) | (simp (maxDischargeDepth := 12) [go_sem, *]; done)) (by first | (simp (maxDischargeDepth := 12) [go_sem]; done) | (simp (maxDischargeDepth := 12) [go_sem, *]; done)) (by first | (simp (maxDischargeDepth := 12) [go_sem]; done) | (simp (maxDischargeDepth := 12) [go_sem, *]; done)) (by first | (simp (maxDischargeDepth := 12) [go_sem]; done) | (simp (maxDischargeDepth := 12) [go_sem, *]; done)) (by first | (simp (maxDischargeDepth := 12) [go_sem]; done) | (simp (maxDischargeDepth := 12) [go_sem, *]; done))).mono ?_; rintro e w1 ⟨⟨v, u, rfl, ho, hu⟩, g⟩; have G := Lib.hid (Gr.trans (show Gr w _ from (by (try show Gr _ _); repeat (with_reducible first | exact Gr.refl _ | refine Gr.drewN ?_ _ | refine Gr.grew ?_ _ _ | refine Gr.alloc ?_ _ | refine Gr.drew ?_))) g); have HO := Lib.hid (ho.base (B' := w.heap.size) (by simp <;> omega)); have HU := Lib.hid (hu.base (B' := w.heap.size) (by simp <;> omega)); clear ho hu g))
    exact bodyPost_ret (v := .tuple #[v, u, .bool true]) (by simp [results, Try.results44, go_sem]) rfl ⟨⟨_, _, rfl, HO.out, HU.out⟩, G.out⟩
theorem FE_gPt (w : World) {f m x z F M X Z : Nat} (hf : FE .f32 f F) (hm : FE .f32 m M) (hx : FE .f32 x X) (hr' : FE .f32 z Z) : ∃ r, FE .f32 r (gPt F M X Z) := by
  obtain ⟨r1, _, _, h1⟩ := run_fop (P := Try.prog) w .sub rfl 0 .f32 _ _ _ _ hx hm
  obtain ⟨r2, _, _, h2⟩ := run_fop (P := Try.prog) w .quo rfl 0 .f32 _ _ _ _ h1 hf
  obtain ⟨r3, _, _, h3⟩ := run_fop (P := Try.prog) w .mul rfl 0 .f32 _ _ _ _ hr' h2
  exact ⟨r3, h3⟩
theorem VOwn.ne {w : World} {lo n b : Nat} {t : TypeId} {v : Value} {xs : List Nat} (h : VOwn w lo t v n xs) (hb : w.okb t b = true) : v.ownBlock ≠ some b := by
  obtain ⟨rs, _, h2⟩ := h
  exact own_ne h2 hb
set_option maxRecDepth 20000 in
set_option maxHeartbeats 4000000 in
theorem I_PointsOf (f b mx my F B X Y : Nat) (W H : Int) (a : Option Addr) (ca : Nat) (xs : List Nat) (w : World) (hf : FE .f32 f F) (hb : FE .f32 b B) (hx : FE .f32 mx X) (hy : FE .f32 my Y) (fx : FSl w a xs.length xs) (hn : xs.length ≤ 1048576) :
    Calls Try.prog 46 #[.agg #[.float .f32 f, .float .f32 b, .float .f32 mx, .float .f32 my], .agg #[.int .i64 W, .int .i64 H, .slice a xs.length ca]] w
      (PostVI w (gPtsOk F B X Y W H xs.length) (if gPtsOk F B X Y W H xs.length then (gPtsI F B xs xs.length).length else 0) (if gPtsOk F B X Y W H xs.length then gPtsV F B X Y W.toNat xs xs.length else []) (if gPtsOk F B X Y W H xs.length then gPtsI F B xs xs.length else [])) := by
  obtain ⟨i0, hi, hz0, hz1, hz2⟩ := info_parts info_vector
  obtain ⟨j0, ji, jz0, jz1, jz2⟩ := info_parts info_int64
  have hn' : xs.length ≤ maxLen := by unfold maxLen; omega
  have Fx := Lib.hid fx
  clear fx
  unfold gPtsOk
  cases hC : gCam F B X Y
  · go_enter Try.func46, Try.ntmps46
    go_wp2_with (first
      | (go_at_call 109; with_reducible refine (I_ValidCamera _ _ _ _ _ _ _ _ _ hf hb hx hy).mono ?_; rintro e w' ⟨rfl, os, m, rfl⟩; rw [hC]))
    exact bodyPost_ret (v := .tuple #[.slice none 0 0, .slice none 0 0, .bool false]) (by simp [results, Try.results46, go_sem]) rfl ⟨⟨_, _, rfl, VOwn.nil _ _ _, IOwn.nil _ _ _⟩, (by (try show Gr _ _); repeat (with_reducible first | exact Gr.refl _ | refine Gr.drewN ?_ _ | refine Gr.grew ?_ _ _ | refine Gr.alloc ?_ _ | refine Gr.drew ?_))⟩
  cases hP : gPic W H xs.length
  · go_enter Try.func46, Try.ntmps46
    go_wp2_with (first
      | (go_at_call 109; with_reducible refine (I_ValidCamera _ _ _ _ _ _ _ _ _ hf hb hx hy).mono ?_; rintro e w' ⟨rfl, os, m, rfl⟩; rw [hC])
      | (go_at_call 90; with_reducible refine (I_ValidMap W H a _ ca _ hn').mono ?_; rintro e w' ⟨rfl, os2, m2, rfl⟩; rw [hP]))
    exact bodyPost_ret (v := .tuple #[.slice none 0 0, .slice none 0 0, .bool false]) (by simp [results, Try.results46, go_sem]) rfl ⟨⟨_, _, rfl, VOwn.nil _ _ _, IOwn.nil _ _ _⟩, (by (try show Gr _ _); repeat (with_reducible first | exact Gr.refl _ | refine Gr.drewN ?_ _ | refine Gr.grew ?_ _ _ | refine Gr.alloc ?_ _ | refine Gr.drew ?_))⟩
  obtain ⟨W', H', rfl, rfl, hW, hH, hW0, h4, h5, h6⟩ := gPic_nat hP
  simp only [Bool.and_self, if_true, Int.toNat_natCast]
  obtain ⟨n, hN⟩ : ∃ n, n = xs.length := ⟨_, rfl⟩
  rw [← hN] at hn hn' hP h5 h6 Fx ⊢
  have HN := Lib.hid hN
  have H5 := Lib.hid h5
  clear hN h5 h4
  go_enter Try.func46, Try.ntmps46
  go_wp2_with fail
  refine (I_ValidCamera _ _ _ _ _ _ _ _ _ hf hb hx hy).mono ?_
  rintro e u0 ⟨rfl, g⟩
  rw [hC]
  have k : Gr w u0 := Gr.trans (by (try show Gr _ _); repeat (with_reducible first | exact Gr.refl _ | refine Gr.drewN ?_ _ | refine Gr.grew ?_ _ _ | refine Gr.alloc ?_ _ | refine Gr.drew ?_)) g
  have b0 := (Blk.gr (show Blk _ w.heap.size [.float .f32 f, .float .f32 b, .float .f32 mx, .float .f32 my] 74 from (by repeat (with_reducible first | assumption | exact Blk.atNew (by simp) | refine Blk.alloc ?_ _ | refine Blk.grew ?_ _ _ | refine Blk.drewN ?_ _ | refine Blk.drew ?_))) g)
  have b1 := (Blk.gr (show Blk _ (w.heap.size + 1) [.int .i64 W', .int .i64 H', .slice a n ca] 24 from (by repeat (with_reducible first | assumption | exact Blk.atNew (by simp) | refine Blk.alloc ?_ _ | refine Blk.grew ?_ _ _ | refine Blk.drewN ?_ _ | refine Blk.drew ?_))) g)
  have p0 := b1.cellv 0
  have p1 := b1.cellv 1
  have p2 := b1.cellv 2
  have K := Lib.hid k
  have B0 := Lib.hid b0
  have B1 := Lib.hid b1
  clear g k b0 b1
  go_wp2_with fail
  refine (I_ValidMap W' H' a _ ca _ hn').mono ?_
  rintro e u ⟨rfl, g⟩
  rw [hP]
  have q0 := (B0.out.gr g).cellv 0
  have q1 := (B0.out.gr g).cellv 1
  have q2 := (B0.out.gr g).cellv 2
  have q3 := (B0.out.gr g).cellv 3
  have r0 := (B1.out.gr g).cellv 0
  have r2 := (B1.out.gr g).cellv 2
  have Ku := Lib.hid (K.out.trans g)
  have Ks := K.out.size
  have Fu := Lib.hid (Fx.out.keep (K.out.trans g).kp)
  clear p0 p1 p2 K B0 B1 g Fx hC hP Ks
  go_wp2
  go_loopw [7, 8, 26] (fun v u' i wr => ∃ k : Nat, k ≤ n ∧ i = .int .i64 k ∧ (VOwn wr u.heap.size 137 v (gPtsI F B xs k).length (gPtsV F B X Y W' xs k) ∧ IOwn wr u.heap.size 2 u' (gPtsI F B xs k)) ∧ Gr u wr) (fun v u i _ => n - (intOf i).toNat)
  case atStart => exact ⟨0, Nat.zero_le _, rfl, ⟨VOwn.empty (by repeat (with_reducible first | assumption | exact Blk.atNew (by simp) | refine Blk.alloc ?_ _ | refine Blk.grew ?_ _ _ | refine Blk.drewN ?_ _ | refine Blk.drew ?_)) (by simp), IOwn.empty (by repeat (with_reducible first | assumption | exact Blk.atNew (by simp) | refine Blk.alloc ?_ _ | refine Blk.grew ?_ _ _ | refine Blk.drewN ?_ _ | refine Blk.drew ?_)) (by simp)⟩, (by (try show Gr _ _); repeat (with_reducible first | exact Gr.refl _ | refine Gr.drewN ?_ _ | refine Gr.grew ?_ _ _ | refine Gr.alloc ?_ _ | refine Gr.drew ?_))⟩
  case round =>
    obtain ⟨k, hk, rfl, ⟨hv, hu⟩, hg⟩ := hrel
    obtain ⟨av, cv, rfl⟩ := hv.form
    obtain ⟨au, cu, rfl⟩ := hu.form
    have c0 := hg.cell q0
    have c1 := hg.cell q1
    have c2 := hg.cell q2
    have c3 := hg.cell q3
    have d0 := hg.cell r0
    have d2 := hg.cell r2
    have Hv := Lib.hid hv
    have Hu := Lib.hid hu
    have Hg := Lib.hid hg
    clear hv hu hg
    by_cases hlt : k < n
    · have hkx : k < xs.length := by have := HN.out; omega
      obtain ⟨bl, off, x, rfl, x0, hx'⟩ := (Fu.out.keep Hg.out.kp).at_ k hkx
      have hD : xs[k] = xs.getD k 0 := by simp [hkx]
      rw [hD] at hx'
      obtain ⟨px, hpx⟩ : ∃ px, px = k % W' := ⟨_, rfl⟩
      obtain ⟨py, hpy⟩ : ∃ py, py = k / W' := ⟨_, rfl⟩
      have e1 : (k : Int) % (W' : Int) = (px : Int) := by rw [hpx]; rfl
      have e2 : (k : Int) / (W' : Int) = (py : Int) := by rw [hpy]; rfl
      have e3 : (k : Int).tmod (W' : Int) = (px : Int) := by rw [← e1]; exact Int.tmod_eq_emod_of_nonneg (by omega)
      have e4 : (k : Int).tdiv (W' : Int) = (py : Int) := by rw [← e2]; exact Int.tdiv_eq_ediv_of_nonneg (by omega)
      have W0 : ¬ (W' : Int) = 0 := by omega
      have W1 : ¬ W' = 0 := by omega
      have hp4 : py ≤ k := by rw [hpy]; exact Nat.div_le_self _ _
      have x4 : IntKind.i64.wrap (py : Int) = (py : Int) := IntWalk.i64_in _ (by omega)
      have fX := FE.ofInt .f32 (px : Int)
      have fY := FE.ofInt .f32 (py : Int)
      have Px := Lib.hid hpx
      have Py := Lib.hid hpy
      clear hpx hpy
      have K0 : (0 : Int) ≤ (k : Int) := by omega
      have K1 : (k : Int) < (n : Int) := by omega
      have LF := Lib.hid (fun w1 (g : Gr wr w1) => I_Camera_far f b x F B (xs.getD k 0) w.heap.size 0 w1 hf hb hx' (g.cell c0) (g.cell c1))
      cases hZ : gFar F B (xs.getD k 0) with
      | none =>
        rw [hZ] at LF
        have HZ := Lib.hid hZ
        clear fX fY hx' hD hZ hkx
        go_wp2_with (first
      | (go_at_call 110; refine (LF.out _ (by (try show Gr _ _); repeat (with_reducible first | exact Gr.refl _ | refine Gr.drewN ?_ _ | refine Gr.grew ?_ _ _ | refine Gr.alloc ?_ _ | refine Gr.drew ?_))).mono ?_; rintro e w1 ⟨⟨r, rfl, hr⟩, n1, rfl⟩))
        go_roundw
        case rel => exact ⟨k + 1, by omega, by go_num, ⟨by rw [gPtsV_none HZ.out, gPtsI_none HZ.out]; exact Hv.out.gr (by (try show Gr _ _); repeat (with_reducible first | exact Gr.refl _ | refine Gr.drewN ?_ _ | refine Gr.grew ?_ _ _ | refine Gr.alloc ?_ _ | refine Gr.drew ?_)), by rw [gPtsI_none HZ.out]; exact Hu.out.gr (by (try show Gr _ _); repeat (with_reducible first | exact Gr.refl _ | refine Gr.drewN ?_ _ | refine Gr.grew ?_ _ _ | refine Gr.alloc ?_ _ | refine Gr.drew ?_))⟩, Hg.out.trans (by (try show Gr _ _); repeat (with_reducible first | exact Gr.refl _ | refine Gr.drewN ?_ _ | refine Gr.grew ?_ _ _ | refine Gr.alloc ?_ _ | refine Gr.drew ?_))⟩
        case measure => simp [intOf]; omega
      | some Z =>
        rw [hZ] at LF
        have HZ := Lib.hid hZ
        obtain ⟨P1, hX⟩ : ∃ P1, P1 = gPt F X (floatOfInt .f32 (px : Int)) Z := ⟨_, rfl⟩
        obtain ⟨P2, hY⟩ : ∃ P2, P2 = gPt F Y (floatOfInt .f32 (py : Int)) Z := ⟨_, rfl⟩
        have EV := Lib.hid (show gPtsV F B X Y W' xs (k + 1) = gPtsV F B X Y W' xs k ++ [P1, P2, Z] by rw [gPtsV_some hZ, hX, hY, Px.out, Py.out])
        have EI := Lib.hid (gPtsI_some hZ)
        have LI := gPtsI_length F B xs k
        have LP := Lib.hid (fun (z : Nat) (hz : FE .f32 z Z) w1 (g : Gr wr w1) => I_Camera_point f b mx my _ _ z F B X Y _ _ Z w.heap.size 0 w1 hf hx hy fX fY hz (g.cell c0) (g.cell c2) (g.cell c3))
        rw [← hX, ← hY] at LP
        have NE := Lib.hid (fun (z : Nat) (hr0 : FE .f32 z Z) => show ∃ s t, FE .f32 s P1 ∧ FE .f32 t P2 from by
          obtain ⟨s, hs⟩ := FE_gPt w hf hx fX hr0
          obtain ⟨t, ht⟩ := FE_gPt w hf hy fY hr0
          rw [hX, hY]; exact ⟨s, t, hs, ht⟩)
        clear fX fY hx' hD hZ hkx hX hY
        go_wp2_with (go_at_call 110; refine (LF.out _ (by (try show Gr _ _); repeat (with_reducible first | exact Gr.refl _ | refine Gr.drewN ?_ _ | refine Gr.grew ?_ _ _ | refine Gr.alloc ?_ _ | refine Gr.drew ?_))).mono ?_; rintro e w1 ⟨⟨r, rfl, hr⟩, n1, rfl⟩)
        have ne0 := NE.out r (by simpa using hr)
        have d0' := ((Gr.refl wr).drewN n1).cell d0
        apply region_facts 14 [13] (fun _ v w' => ∃ b p q r, v = .slice (some ⟨b, 0, none⟩) 1 1 ∧ Blk w' b [.float .f32 p, .float .f32 q, .float .f32 r] 137 ∧ FE .f32 p P1 ∧ FE .f32 q P2 ∧ FE .f32 r Z)
        case hm => kernel_rfl
        case hB => kernel_rfl
        case hR => rfl
        case hP => (intro k hk v w1 w2 hg hv; obtain ⟨b, p, q, r, hv, hB, h⟩ := hv; exact ⟨b, p, q, r, hv, hB.gr hg, h⟩)
        simp only [List.take_succ_cons, List.take_zero, List.drop_succ_cons, List.drop_zero]
        repeat (first
          | ((with_reducible apply wpF_call (f := 111) (S := fun v => ∃ p q r, v = .agg #[.float .f32 p, .float .f32 q, .float .f32 r] ∧ FE .f32 p P1 ∧ FE .f32 q P2 ∧ FE .f32 r Z)); (case hw => rfl); (case hc => exact Try.call111); (case hv => ((conv => lhs; simp [Act.eval]); try rfl)); (case hS => (intro os m _; refine (LP.out _ (by simpa using hr) _ (((Gr.refl wr).drewN n1).grew os m)).mono ?_; rintro e w' ⟨⟨p, q, r, rfl, p1, p2, p3⟩, os2, m2, rfl⟩; exact ⟨_, rfl, (Gr.refl _).grew _ _, fun h => absurd h (by decide), p, q, r, rfl, p1, p2, p3⟩)); (case hne => exact ⟨_, _, _, r, rfl, ne0.choose_spec.choose_spec.1, ne0.choose_spec.choose_spec.2, by simpa using hr⟩); (rintro v ⟨p, q, r, rfl, p1, p2, p3⟩; simp only [Act.put, List.setIfInBounds_toArray, List.set_cons_succ, List.set_cons_zero]))
          | ((with_reducible apply wpF_new (c := #[.float .f32 p, .float .f32 q, .float .f32 r]) (e := 137) (fun b => .slice (some ⟨b, 0, none⟩) 1 1)); (case hw => rfl); (case hx => (intro w; simp [execOp, go_sem])); (case hF => (intro w b hb hc _; exact ⟨b, _, _, _, rfl, ⟨hc⟩, p1, p2, p3⟩)); (intro b hb; simp only [Act.put, List.setIfInBounds_toArray, List.set_cons_succ, List.set_cons_zero]))
          | (apply wpF_skip rfl (by decide); simp only [Act.put, List.setIfInBounds_toArray, List.set_cons_succ, List.set_cons_zero])
          | (apply wpF_nilCheck rfl (by decide) rfl; simp only [Act.put, List.setIfInBounds_toArray, List.set_cons_succ, List.set_cons_zero])
          | ((with_reducible apply wpF_fop); (case hw => rfl); (case hT => decide); (case hop => rfl); (case hx => rfl); (case hy => rfl); (case hA => (first | assumption | exact FE.ofInt _ _ | exact FE.lit (by decide +kernel))); (case hB => (first | assumption | exact FE.ofInt _ _ | exact FE.lit (by decide +kernel))); (intro r hr; simp only [Act.put, List.setIfInBounds_toArray, List.set_cons_succ, List.set_cons_zero]))
          | ((with_reducible apply wpF_fneg); (case hw => rfl); (case hT => decide); (case hx => rfl); (case hA => (first | assumption | exact FE.ofInt _ _ | exact FE.lit (by decide +kernel))); (intro r hr; simp only [Act.put, List.setIfInBounds_toArray, List.set_cons_succ, List.set_cons_zero]))
          | ((with_reducible apply wpF_fcmp); (case hw => rfl); (case hT => decide); (case hop => rfl); (case hx => rfl); (case hy => rfl); (case hA => (first | assumption | exact FE.ofInt _ _ | exact FE.lit (by decide +kernel))); (case hB => (first | assumption | exact FE.ofInt _ _ | exact FE.lit (by decide +kernel))); (case hb => (first | assumption | rfl)); simp only [Act.put, List.setIfInBounds_toArray, List.set_cons_succ, List.set_cons_zero])
          | (apply wpF_q rfl (by decide) rfl; intro K hK; go_big_quiet_op; go_big_quiet_on))
        with_reducible apply wpF_nil
        intro os m hf
        obtain ⟨bv, p, q, r, hb', hB', p1, p2, p3⟩ := hf.1
        obtain rfl : bv = _ := by simpa using hb'.symm
        have g0 := hB'.cellv 0
        have g1 := hB'.cellv 1
        have g2 := hB'.cellv 2
        have KG : Gr wr ((wr.drewN n1).grew os m) := (by (try show Gr _ _); repeat (with_reducible first | exact Gr.refl _ | refine Gr.drewN ?_ _ | refine Gr.grew ?_ _ _ | refine Gr.alloc ?_ _ | refine Gr.drew ?_))
        clear hf hb' hB' LP LF d0'
        refine wpList_append_v rfl rfl i0 Try.underlying70 hi hz0 hz1 hz2 rfl (Hv.out.gr KG) rfl g0 g1 g2 p1 p2 p3 (by omega) (Gr.size (Hg.out.trans KG)) ?_
        intro v1 w1 ho1 hg1
        have HG1 := Lib.hid (Gr.grownBy (Hg.out.trans KG) hg1 (fun q hq => (VOwn.block Hv.out hq).1))
        have HU2 := Lib.hid (IOwn.besideV (Hu.out.gr KG) (Hv.out.gr KG) hg1 (by decide))
        obtain ⟨a1, k1, rfl⟩ := ho1.form
        have HV1 := Lib.hid ho1
        clear ho1 hg1 g0 g1 g2 KG
        go_wp2_with (apply wpList_append_i (hgd := rfl) (ho := rfl) (i := j0) (ht := Try.underlying71) (hi := ji) (hz := jz0) (hsize := jz1) (hby := jz2); (case hown => exact HU2.out.gr ((Gr.refl _).alloc _)); (case hs => rfl); (case hx => rfl); (case hcell => exact (Blk.atNew (by simp <;> omega)).cellv 0 rfl); (case hn => omega); (case hB => exact Gr.size (HG1.out.alloc _)); intro v2 w2 ho2 hg2; have G2 := Gr.grownBy (HG1.out.alloc _) hg2 (fun q hq => (IOwn.block HU2.out hq).1); have HV2 := VOwn.besideI (HV1.out.gr ((Gr.refl _).alloc _)) (HU2.out.gr ((Gr.refl _).alloc _)) hg2 (by decide); clear hg2; obtain ⟨a2, k2, rfl⟩ := ho2.form; have HG2 := Lib.hid G2; have HV3 := Lib.hid HV2; have HU3 := Lib.hid ho2; clear G2 ho2 HV2)
        go_roundw
        case rel => exact ⟨k + 1, by omega, by go_num, ⟨by rw [EV.out, EI.out]; simpa using HV3.out, by rw [EI.out]; simpa using HU3.out⟩, HG2.out⟩
        case measure => simp [intOf]; omega
    · obtain rfl : k = n := by omega
      go_wp2
      refine bodyPost_ret (v := .tuple #[.slice av (gPtsI F B xs k).length cv, .slice au (gPtsI F B xs k).length cu, .bool true]) (by simp [results, Try.results46, go_sem, *]) rfl ⟨⟨_, _, rfl, ?_⟩, ?_⟩
      · exact ⟨Hv.out.base Ku.out.size, Hu.out.base Ku.out.size⟩
      · exact Ku.out.trans Hg.out
end Go.Proofs.Ytaidkokgafojeaa
