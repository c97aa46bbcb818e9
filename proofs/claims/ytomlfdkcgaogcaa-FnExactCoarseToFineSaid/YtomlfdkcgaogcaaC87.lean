/- Contracts: ChecksOf. MAXREC -/
import Derived.Test.YtomlfdkcgaogcaaProg
import Derived.Test.YtomlfdkcgaogcaaC86
namespace Go.Proofs.Ytomlfdkcgaogcaa
open Go.RowKit Go.Fx Go.Soft
def gWinI (xs : List Nat) (D i : Nat) : Int := gWin (fun j => xs.getD (i * D + j) 0) (-1) D
theorem gWinI_range (xs : List Nat) {D : Nat} (hD : D ≤ 8) (i : Nat) : -1 ≤ gWinI xs D i ∧ gWinI xs D i < 8 := by
  have := gWin_range (fun j => xs.getD (i * D + j) 0) (-1) D
  unfold gWinI
  omega
theorem gPic_mk {W H n : Nat} (hS : gSize W H = true) (h : n = W * H) : gPic (W : Int) (H : Int) n = true := by
  unfold gPic
  rw [hS, h]
  simp
theorem tells_CheckMaps (W H b1 b2 b3 ca cb near N : Nat) (a b : Option Addr) (xs ys : List Nat) (p q : Nat → Int) (w : World) (m1 : MP w b1 W H a xs.length ca xs) (m2 : MP w b2 W H b ys.length cb ys) (c3 : w.cell? ⟨b3, 0, none⟩ = some (.float .f32 near)) (hN : FE .f32 near N)
    (hW : W ≤ 24) (hH : H ≤ 24) (hl : xs.length = W * H) (hm : ys.length = W * H) (hX : ∀ k, k < W * H → xs.getD k 0 = floatOfInt .f32 (p k)) (hY : ∀ k, k < W * H → ys.getD k 0 = floatOfInt .f32 (q k)) (hp : ∀ k, -1 ≤ p k ∧ p k < 8) (hq : ∀ k, -1 ≤ q k ∧ q k < 8) :
    Tells w 96 #[.pointer (some ⟨b1, 0, none⟩), .pointer (some ⟨b2, 0, none⟩), .pointer (some ⟨b3, 0, none⟩)] W H (fun x y => gChk p q W N (x + W * y)) :=
  ⟨Try.call96, fun x y hx hy w1 g => I_CheckMaps_1 W H x y b1 b2 b3 ca cb near N a b xs ys p q w1 (m1.gr g) (m2.gr g) (g.cell c3) hN hW hH hx hy hl hm hX hY hp hq⟩
set_option maxRecDepth 20000 in
set_option maxHeartbeats 2000000 in
theorem I_CheckMaps_ok (W H ca cb near N : Nat) (a b : Option Addr) (xs ys : List Nat) (p q : Nat → Int) (w : World) (fx : FSl w a xs.length xs) (fy : FSl w b ys.length ys) (hN : FE .f32 near N) (hS : gSize W H = true) (hl : xs.length = W * H) (hm : ys.length = W * H)
    (hX : ∀ k, k < W * H → xs.getD k 0 = floatOfInt .f32 (p k)) (hY : ∀ k, k < W * H → ys.getD k 0 = floatOfInt .f32 (q k)) (hp : ∀ k, -1 ≤ p k ∧ p k < 8) (hq : ∀ k, -1 ≤ q k ∧ q k < 8) :
    Calls Try.prog 58 #[.agg #[.int .i64 W, .int .i64 H, .slice a xs.length ca], .agg #[.int .i64 W, .int .i64 H, .slice b ys.length cb], .float .f32 near] w
      (PostP w W H true (lst (W * H) (gChk p q W N))) := by
  obtain ⟨s1, s2, s3, s4, s5, s6⟩ := gSize_true hS
  have hWH : W * H ≤ 576 := Nat.mul_le_mul (show W ≤ 24 by omega) (show H ≤ 24 by omega)
  have hn' : xs.length ≤ maxLen := by unfold maxLen; omega
  have hm' : ys.length ≤ maxLen := by unfold maxLen; omega
  have HP := Lib.hid (gPic_mk hS hl)
  have HT := Lib.hid (show gTwo W H W H xs.length ys.length = true by simp [gTwo, gPic_mk hS hl, gPic_mk hS hm])
  have Fx := Lib.hid fx
  have Fy := Lib.hid fy
  have EG : Hid (grid W (fun x y => gChk p q W N (x + W * y)) xs.length = lst (W * H) (gChk p q W N)) := by
    show _ = _
    rw [hl]
    exact lst_congr fun i _ => by simp only [Nat.mod_add_div]
  have HTl := Lib.hid (fun (u : World) (b1 b2 b3 : Nat) (m1 : MP u b1 W H a xs.length ca xs) (m2 : MP u b2 W H b ys.length cb ys) c3 => tells_CheckMaps W H b1 b2 b3 ca cb near N a b xs ys p q u m1 m2 c3 hN (by omega) (by omega) hl hm hX hY hp hq)
  have Hl := Lib.hid hl
  clear fx fy hX hY hp hq hl hm s5 s6 hS
  go_enter Try.func58, Try.ntmps58
  go_wp2_with (first
      | (go_at_call 95; refine (I_mapsOk W H W H a b _ _ _ _ _ hn' hm').mono ?_; rintro e u0 ⟨rfl, g⟩; rw [HT.out]; have B0 := Lib.hid (Blk.gr (show Blk _ w.heap.size [.int .i64 W, .int .i64 H, .slice a xs.length ca] 30 from (by repeat (with_reducible first | assumption | exact Blk.atNew (by simp) | refine Blk.alloc ?_ _ | refine Blk.grew ?_ _ _ | refine Blk.drewN ?_ _ | refine Blk.drew ?_))) g); have B1 := Lib.hid (Blk.gr (show Blk _ (w.heap.size + 1) [.int .i64 W, .int .i64 H, .slice b ys.length cb] 30 from (by repeat (with_reducible first | assumption | exact Blk.atNew (by simp) | refine Blk.alloc ?_ _ | refine Blk.grew ?_ _ _ | refine Blk.drewN ?_ _ | refine Blk.drew ?_))) g); have B2 := Lib.hid (Blk.gr (show Blk _ (w.heap.size + 1 + 1) [.float .f32 near] 25 from (by repeat (with_reducible first | assumption | exact Blk.atNew (by simp) | refine Blk.alloc ?_ _ | refine Blk.grew ?_ _ _ | refine Blk.drewN ?_ _ | refine Blk.drew ?_))) g); have B3 := Lib.hid (Blk.gr (show Blk _ (w.heap.size + 1 + 1 + 1) [.int .i64 0, .int .i64 0, .slice none 0 0] 30 from (by repeat (with_reducible first | assumption | exact Blk.atNew (by simp) | refine Blk.alloc ?_ _ | refine Blk.grew ?_ _ _ | refine Blk.drewN ?_ _ | refine Blk.drew ?_))) g); have G := Lib.hid (Gr.trans (show Gr w _ from (by (try show Gr _ _); repeat (with_reducible first | exact Gr.refl _ | refine Gr.drewN ?_ _ | refine Gr.grew ?_ _ _ | refine Gr.alloc ?_ _ | refine Gr.drew ?_))) g); have p0 := B0.out.cellv 0; have p1 := B0.out.cellv 1; have p2 := B0.out.cellv 2; clear g)
      | (go_at_call 47; refine (I_remap_ok W H a ca xs 96 _ (fun x y => gChk p q W N (x + W * y)) u0 (Fx.out.keep G.out.kp) hn' HP.out (HTl.out u0 _ _ _ ⟨B0.out.cellv 0, B0.out.cellv 1, B0.out.cellv 2, Fx.out.keep G.out.kp⟩ ⟨B1.out.cellv 0, B1.out.cellv 1, B1.out.cellv 2, Fy.out.keep G.out.kp⟩ (B2.out.cellv 0))).mono ?_; rintro e u1 ⟨⟨v0, rfl, ho⟩, g⟩; rw [EG.out] at ho; obtain ⟨a1, c1, rfl, -, -⟩ := ho.sl' xs.length (by rw [lst_length]; exact Hl.out.symm); have Hb := Lib.hid B3.out.lt; have B4 := Lib.hid (B3.out.gr g); have Ho := Lib.hid ho; have G1 := Lib.hid (G.out.trans g); have q0 := B4.out.cellv 0; have q1 := B4.out.cellv 1; have q2 := B4.out.cellv 2; have z0 := B4.out.frozen 0; have z1 := B4.out.frozen 1; have z2 := B4.out.frozen 2; clear ho g p0 p1 p2))
  refine bodyPost_ret (v := .tuple #[.agg #[.int .i64 W, .int .i64 H, .slice a1 xs.length c1], .bool true]) (by simp [results, Try.results58, go_sem, *]) rfl ⟨⟨_, rfl, ?_⟩, ?_⟩
  · have h := Ho.out
    have hb := Hb.out
    have h0 := G.out.size
    exact FOwn.base (B := u0.heap.size) (by repeat (with_reducible first | assumption | refine FOwn.setOther ?_ _ (by simp <;> omega))) h0
  · have h := G1.out
    exact (by repeat (with_reducible first | assumption | refine Gr.setCell ?_ (by simp <;> omega) _))
set_option maxRecDepth 20000 in
set_option maxHeartbeats 2000000 in
theorem I_OtherVolume_ok (W H D bx ox ca : Nat) (xs : List Nat) (w : World) (fx : FSl w (some ⟨bx, ox, none⟩) xs.length xs) (hP : gVol W H D xs.length = true) (hn' : xs.length ≤ maxLen) (hl : xs.length = W * H * D) (hc : xs.length ≤ ca) :
    Calls Try.prog 57 #[.agg #[.int .i64 W, .int .i64 H, .int .i64 D, .slice (some ⟨bx, ox, none⟩) xs.length ca]] w fun e w' => (∃ v c, e = .returned (.tuple #[.agg #[.int .i64 W, .int .i64 H, .int .i64 D, .slice v (W * H * D) c], .bool true]) ∧ FOwn w' w.heap.size 25 (.slice v (W * H * D) c) (lst (W * H * D) (gV3 W D (gOth xs W D)))) ∧ Gr w w' := by
  obtain ⟨hS, d1, d2, hp, hp2⟩ := gVol_true hP
  obtain ⟨s1, s2, s3, s4, s5, s6⟩ := gSize_true hS
  have HP := Lib.hid hP
  have Fx := Lib.hid fx
  have HTl := Lib.hid (fun (u : World) (b1 : Nat) (m1 : MV u b1 W H D (some ⟨bx, ox, none⟩) xs.length ca xs) => tells_OtherVolume W H D b1 bx ox ca xs u m1 (by omega) (by omega) (by omega) (by omega) hl hc)
  clear hP hp hS fx s5 s6 hl hc
  go_enter Try.func57, Try.ntmps57
  go_wp2_with (first | (go_at_call 92; refine (I_revolume_ok W H D _ ca xs 93 _ (gOth xs W D) _ HP.out hn' (HTl.out _ _ ⟨(by first | (simp (maxDischargeDepth := 12) [go_sem]; done) | (simp (maxDischargeDepth := 12) [go_sem, *]; done)), (by first | (simp (maxDischargeDepth := 12) [go_sem]; done) | (simp (maxDischargeDepth := 12) [go_sem, *]; done)), (by first | (simp (maxDischargeDepth := 12) [go_sem]; done) | (simp (maxDischargeDepth := 12) [go_sem, *]; done)), (by first | (simp (maxDischargeDepth := 12) [go_sem]; done) | (simp (maxDischargeDepth := 12) [go_sem, *]; done)), Fx.out.keep (by (repeat (with_reducible first | exact Kp.refl _ | exact kp_same | exact kp_app1 | exact kp_app2 | exact kp_app3 | refine Kp.grew ?_ _ _ | refine Kp.drewN ?_ _ | refine Kp.drew ?_ | refine Kp.alloc ?_ _)))⟩)).mono ?_; rintro e u1 ⟨⟨v, c, rfl, ho⟩, g⟩; have B2 := Lib.hid (Blk.gr (show Blk _ (w.heap.size + 1) [.int .i64 0, .int .i64 0, .int .i64 0, .slice none 0 0] 44 from (by repeat (with_reducible first | assumption | exact Blk.atNew (by simp) | refine Blk.alloc ?_ _ | refine Blk.grew ?_ _ _ | refine Blk.drewN ?_ _ | refine Blk.drew ?_))) g); have Ho := Lib.hid ho; have G1 := Lib.hid (Gr.trans (show Gr w _ from (by (try show Gr _ _); repeat (with_reducible first | exact Gr.refl _ | refine Gr.drewN ?_ _ | refine Gr.grew ?_ _ _ | refine Gr.alloc ?_ _ | refine Gr.drew ?_))) g); have q0 := B2.out.cellv 0; have q1 := B2.out.cellv 1; have q2 := B2.out.cellv 2; have q3 := B2.out.cellv 3; have z0 := B2.out.frozen 0; have z1 := B2.out.frozen 1; have z2 := B2.out.frozen 2; have z3 := B2.out.frozen 3; clear ho g))
  refine bodyPost_ret (v := .tuple #[.agg #[.int .i64 W, .int .i64 H, .int .i64 D, .slice v (W * H * D) c], .bool true]) (by simp [results, Try.results57, go_sem, *]) rfl ⟨⟨_, _, rfl, ?_⟩, ?_⟩
  · have h := Ho.out.base (B' := w.heap.size + 1 + 1) (by simp)
    exact FOwn.base (B := w.heap.size + 1 + 1) (by repeat (with_reducible first | assumption | refine FOwn.setOther ?_ _ (by simp <;> omega))) (by omega)
  · have h := G1.out
    exact (by repeat (with_reducible first | assumption | refine Gr.setCell ?_ (by simp <;> omega) _))
set_option maxRecDepth 20000 in
set_option maxHeartbeats 2000000 in
theorem I_WinnersOf_ok (W H D ca : Nat) (a : Option Addr) (xs : List Nat) (w : World) (fx : FSl w a xs.length xs) (hca : xs.length ≤ ca) (hP : gVol W H D xs.length = true) :
    Calls Try.prog 56 #[.agg #[.int .i64 W, .int .i64 H, .int .i64 D, .slice a xs.length ca]] w fun e w' => (∃ v c, e = .returned (.tuple #[.agg #[.int .i64 W, .int .i64 H, .slice v (W * H) c], .bool true]) ∧ FOwn w' w.heap.size 25 (.slice v (W * H) c) (lst (W * H) (gWinAt xs D))) ∧ Gr w w' := by
  obtain ⟨hS, d1, d2, hp, hp2⟩ := gVol_true hP
  have HR := fun (u : World) (fx : FSl u a xs.length xs) =>
    I_cellMap W H D a ca xs 90 #[] tWin u fx hca (by omega) ⟨Try.call90, fun a c ys w1 g hs h1 h8 => I_WinnersOf_1 a c ys w1 hs h8⟩
  rw [hP, gCell_win, show ((W : Int) * (H : Int)).toNat = W * H by rw [← Int.natCast_mul]; exact Int.toNat_natCast _] at HR
  have HR := Lib.hid HR
  have Fx := Lib.hid fx
  clear fx hP hp hp2 hS
  go_enter Try.func56, Try.ntmps56
  go_wp2_with (first | (go_at_call 89; refine (HR.out _ (Fx.out.keep (by (repeat (with_reducible first | exact Kp.refl _ | exact kp_same | exact kp_app1 | exact kp_app2 | exact kp_app3 | refine Kp.grew ?_ _ _ | refine Kp.drewN ?_ _ | refine Kp.drew ?_ | refine Kp.alloc ?_ _))))).mono ?_; rintro e u1 ⟨⟨v0, rfl, ho⟩, g⟩; simp only [gW, gVals, if_true] at ho; obtain ⟨a1, c1, rfl, -, -⟩ := ho.sl' (W * H) (by simp); have B2 := Lib.hid (Blk.gr (show Blk _ (w.heap.size + 1) [.int .i64 0, .int .i64 0, .slice none 0 0] 30 from (by repeat (with_reducible first | assumption | exact Blk.atNew (by simp) | refine Blk.alloc ?_ _ | refine Blk.grew ?_ _ _ | refine Blk.drewN ?_ _ | refine Blk.drew ?_))) g); have Ho := Lib.hid ho; have G1 := Lib.hid (Gr.trans (show Gr w _ from (by (try show Gr _ _); repeat (with_reducible first | exact Gr.refl _ | refine Gr.drewN ?_ _ | refine Gr.grew ?_ _ _ | refine Gr.alloc ?_ _ | refine Gr.drew ?_))) g); have q0 := B2.out.cellv 0; have q1 := B2.out.cellv 1; have q2 := B2.out.cellv 2; have z0 := B2.out.frozen 0; have z1 := B2.out.frozen 1; have z2 := B2.out.frozen 2; clear ho g))
  refine bodyPost_ret (v := .tuple #[.agg #[.int .i64 W, .int .i64 H, .slice a1 (W * H) c1], .bool true]) (by simp [results, Try.results56, go_sem, gW, *]) rfl ⟨⟨_, _, rfl, ?_⟩, ?_⟩
  · have h := Ho.out.base (B' := w.heap.size + 1 + 1) (by simp)
    exact FOwn.base (B := w.heap.size + 1 + 1) (by repeat (with_reducible first | assumption | refine FOwn.setOther ?_ _ (by simp <;> omega))) (by omega)
  · have h := G1.out
    exact (by repeat (with_reducible first | assumption | refine Gr.setCell ?_ (by simp <;> omega) _))
end Go.Proofs.Ytomlfdkcgaogcaa
