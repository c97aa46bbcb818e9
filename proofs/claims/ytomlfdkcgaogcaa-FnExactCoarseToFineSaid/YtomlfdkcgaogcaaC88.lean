/- Contracts: ChecksOf, both sides. MAXREC -/
import Derived.Test.YtomlfdkcgaogcaaProg
import Derived.Test.YtomlfdkcgaogcaaC87
namespace Go.Proofs.Ytomlfdkcgaogcaa
open Go.RowKit Go.Fx Go.Soft
def gOthL (W H D : Nat) (xs : List Nat) : List Nat := lst (W * H * D) (gV3 W D (gOth xs W D))
/-- The value of cell i that the winners of both volumes tell. -/
def gChkAt (W H D : Int) (N : Nat) (xs : List Nat) : Nat → Nat := gChk (gWinI xs D.toNat) (gWinI (gOthL W.toNat H.toNat D.toNat xs) D.toNat) W.toNat N
theorem MV.ofBlk {w : World} {b t : Nat} {wd hg dp : Int} {a : Option Addr} {n cap : Nat} {xs : List Nat} (B : Blk w b [.int .i64 wd, .int .i64 hg, .int .i64 dp, .slice a n cap] t) (f : FSl w a n xs) : MV w b wd hg dp a n cap xs :=
  ⟨B.cellv 0, B.cellv 1, B.cellv 2, B.cellv 3, f⟩
theorem MP.ofBlk {w : World} {b t : Nat} {wd hg : Int} {a : Option Addr} {n cap : Nat} {xs : List Nat} (B : Blk w b [.int .i64 wd, .int .i64 hg, .slice a n cap] t) (f : FSl w a n xs) : MP w b wd hg a n cap xs :=
  ⟨B.cellv 0, B.cellv 1, B.cellv 2, f⟩
set_option maxRecDepth 20000 in
set_option maxHeartbeats 2000000 in
theorem S_ChecksOf (W H D : Int) (a : Option Addr) (ca near N : Nat) (xs : List Nat) (w : World) (fx : FSl w a xs.length xs) (hn : xs.length ≤ 1048576) (hN : FE .f32 near N) :
    Calls Try.prog 22 #[.agg #[.int .i64 W, .int .i64 H, .int .i64 D, .slice a xs.length ca], .float .f32 near] w
      (PostP w (gW (gVol W H D xs.length) W) (gW (gVol W H D xs.length) H) (gVol W H D xs.length) (gVals (gVol W H D xs.length) (W * H).toNat (gChkAt W H D N xs))) := by
  have hn' : xs.length ≤ maxLen := by unfold maxLen; omega
  have Fx := Lib.hid fx
  clear fx
  cases hT : gVol W H D xs.length
  · go_enter Try.func22, Try.ntmps22
    go_wp2_with (first
      | (go_at_call 51; with_reducible refine (S_l03Is W H D a _ ca _ _ hn' (by first | (simp (maxDischargeDepth := 12) [go_sem]; done) | (simp (maxDischargeDepth := 12) [go_sem, *]; done)) (by first | (simp (maxDischargeDepth := 12) [go_sem]; done) | (simp (maxDischargeDepth := 12) [go_sem, *]; done)) (by first | (simp (maxDischargeDepth := 12) [go_sem]; done) | (simp (maxDischargeDepth := 12) [go_sem, *]; done)) (by first | (simp (maxDischargeDepth := 12) [go_sem]; done) | (simp (maxDischargeDepth := 12) [go_sem, *]; done))).mono ?_; rintro e w' ⟨rfl, n, rfl⟩; rw [hT]))
    exact bodyPost_ret (v := .tuple #[.agg #[.int .i64 0, .int .i64 0, .slice none 0 0], .bool false]) (by simp [results, Try.results22, go_sem]) rfl ⟨⟨_, rfl, FOwn.nil _ _ _⟩, (by (try show Gr _ _); repeat (with_reducible first | exact Gr.refl _ | refine Gr.drewN ?_ _ | refine Gr.grew ?_ _ _ | refine Gr.alloc ?_ _ | refine Gr.drew ?_))⟩
  · obtain ⟨hS, d1, d2, hp, hp2⟩ := gVol_true hT
    obtain ⟨s1, s2, s3, s4, s5, s6⟩ := gSize_true hS
    obtain ⟨W, rfl⟩ := Int.eq_ofNat_of_zero_le (show 0 ≤ W by omega)
    obtain ⟨H, rfl⟩ := Int.eq_ofNat_of_zero_le (show 0 ≤ H by omega)
    obtain ⟨D, rfl⟩ := Int.eq_ofNat_of_zero_le (show 0 ≤ D by omega)
    have hl : xs.length = W * H * D := by exact_mod_cast hp
    rw [show ((W : Int) * (H : Int)).toNat = W * H by rw [← Int.natCast_mul]; exact Int.toNat_natCast _]
    unfold gChkAt
    rw [Int.toNat_natCast, Int.toNat_natCast, Int.toNat_natCast]
    obtain ⟨ys, hys⟩ : ∃ ys, ys = gOthL W H D xs := ⟨_, rfl⟩
    have hyl : ys.length = W * H * D := by rw [hys]; unfold gOthL; simp
    obtain ⟨ls, hls⟩ : ∃ ls, ls = lst (W * H) (gWinAt xs D) := ⟨_, rfl⟩
    obtain ⟨rs, hrs⟩ : ∃ rs, rs = lst (W * H) (gWinAt ys D) := ⟨_, rfl⟩
    have hll : ls.length = W * H := by rw [hls]; simp
    have hrl : rs.length = W * H := by rw [hrs]; simp
    have HO := fun (b : Nat) (u : World) (m : MV u b W H D a xs.length ca xs) => S_l03Other W H D b a ca xs u m (by omega) (by omega) (by omega) (by omega) (by omega) (by omega) hl
    rw [show lst (W * H * D) (gV3 W D (gOth xs W D)) = ys from hys.symm] at HO
    have HW1 := fun (b : Nat) (u : World) (m : MV u b W H D a xs.length ca xs) => S_l03Winners W H D b a ca xs u m (by omega) (by omega) (by omega) (by omega) (by omega) (by omega) hl hp2
    have HW2 := fun (b : Nat) (a' : Option Addr) (c' : Nat) (u : World) (m : MV u b W H D a' ys.length c' ys) => S_l03Winners W H D b a' c' ys u m (by omega) (by omega) (by omega) (by omega) (by omega) (by omega) hyl (by omega)
    rw [← hls] at HW1
    rw [← hrs] at HW2
    have HCk := fun (u : World) (b1 b2 c1 c2 : Nat) (a1 a2 : Option Addr) (m1 : MP u b1 W H a1 ls.length c1 ls) (m2 : MP u b2 W H a2 rs.length c2 rs) => S_l05Check W H b1 b2 c1 c2 near N a1 a2 ls rs (gWinI xs D) (gWinI ys D) u m1 m2 (by omega) (by omega) (by omega) (by omega) hll hrl hN (fun k hk => by rw [hls]; exact lst_getD hk) (fun k hk => by rw [hrs]; exact lst_getD hk) (gWinI_range xs (by omega)) (gWinI_range ys (by omega))
    rw [← hys]
    obtain ⟨G, hG⟩ : ∃ G, G = gChk (gWinI xs D) (gWinI ys D) W N := ⟨_, rfl⟩
    rw [← hG] at HCk ⊢
    rw [show gVals true (W * H) G = lst ls.length G by rw [hll]; rfl]
    have HO := Lib.hid HO
    have HW1 := Lib.hid HW1
    have HW2 := Lib.hid HW2
    have HCk := Lib.hid HCk
    clear hys hls hrs hG hl hp hyl hll hrl hS s5 s6
    go_enter Try.func22, Try.ntmps22
    go_wp2_with (first | (go_at_call 51; with_reducible refine (S_l03Is W H D a _ ca _ _ hn' (by first | (simp (maxDischargeDepth := 12) [go_sem]; done) | (simp (maxDischargeDepth := 12) [go_sem, *]; done)) (by first | (simp (maxDischargeDepth := 12) [go_sem]; done) | (simp (maxDischargeDepth := 12) [go_sem, *]; done)) (by first | (simp (maxDischargeDepth := 12) [go_sem]; done) | (simp (maxDischargeDepth := 12) [go_sem, *]; done)) (by first | (simp (maxDischargeDepth := 12) [go_sem]; done) | (simp (maxDischargeDepth := 12) [go_sem, *]; done))).mono ?_; rintro e w' ⟨rfl, n, rfl⟩; rw [hT]))
    refine (HO.out w.heap.size _ ⟨(by first | (simp (maxDischargeDepth := 12) [go_sem]; done) | (simp (maxDischargeDepth := 12) [go_sem, *]; done)), (by first | (simp (maxDischargeDepth := 12) [go_sem]; done) | (simp (maxDischargeDepth := 12) [go_sem, *]; done)), (by first | (simp (maxDischargeDepth := 12) [go_sem]; done) | (simp (maxDischargeDepth := 12) [go_sem, *]; done)), (by first | (simp (maxDischargeDepth := 12) [go_sem]; done) | (simp (maxDischargeDepth := 12) [go_sem, *]; done)), Fx.out.keep (by (repeat (with_reducible first | exact Kp.refl _ | exact kp_same | exact kp_app1 | exact kp_app2 | exact kp_app3 | refine Kp.grew ?_ _ _ | refine Kp.drewN ?_ _ | refine Kp.drew ?_ | refine Kp.alloc ?_ _)))⟩).mono ?_
    rintro e u1 ⟨⟨v1, rfl, ho⟩, g⟩
    obtain ⟨a1, c1, rfl, F1, -⟩ := ho.sl' ys.length rfl
    have B0 := Lib.hid (Blk.gr (show Blk _ w.heap.size [.int .i64 W, .int .i64 H, .int .i64 D, .slice a xs.length ca] 44 from (by repeat (with_reducible first | assumption | exact Blk.atNew (by simp) | refine Blk.alloc ?_ _ | refine Blk.grew ?_ _ _ | refine Blk.drewN ?_ _ | refine Blk.drew ?_))) g)
    have B1 := Lib.hid (Blk.gr (show Blk _ (w.heap.size + 1) [.int .i64 0, .int .i64 0, .slice none 0 0] 30 from (by repeat (with_reducible first | assumption | exact Blk.atNew (by simp) | refine Blk.alloc ?_ _ | refine Blk.grew ?_ _ _ | refine Blk.drewN ?_ _ | refine Blk.drew ?_))) g)
    have G1 := Lib.hid (Gr.trans (show Gr w _ from (by (try show Gr _ _); repeat (with_reducible first | exact Gr.refl _ | refine Gr.drewN ?_ _ | refine Gr.grew ?_ _ _ | refine Gr.alloc ?_ _ | refine Gr.drew ?_))) g)
    have F1 := Lib.hid F1
    clear ho g
    go_wp2_with fail
    refine (HW1.out w.heap.size _ (MV.ofBlk (B0.out.gr (by (try show Gr _ _); repeat (with_reducible first | exact Gr.refl _ | refine Gr.drewN ?_ _ | refine Gr.grew ?_ _ _ | refine Gr.alloc ?_ _ | refine Gr.drew ?_))) (Fx.out.keep (Gr.kp (G1.out.trans (by (try show Gr _ _); repeat (with_reducible first | exact Gr.refl _ | refine Gr.drewN ?_ _ | refine Gr.grew ?_ _ _ | refine Gr.alloc ?_ _ | refine Gr.drew ?_))))))).mono ?_
    rintro e u2 ⟨⟨v2, rfl, ho⟩, g⟩
    obtain ⟨a2, c2, rfl, F2, -⟩ := ho.sl' ls.length rfl
    have BV := Lib.hid (Blk.gr (show Blk _ u1.heap.size [.int .i64 W, .int .i64 H, .int .i64 D, .slice a1 ys.length c1] 44 from (by repeat (with_reducible first | assumption | exact Blk.atNew (by simp) | refine Blk.alloc ?_ _ | refine Blk.grew ?_ _ _ | refine Blk.drewN ?_ _ | refine Blk.drew ?_))) g)
    have k2 := Gr.trans (show Gr u1 _ from (by (try show Gr _ _); repeat (with_reducible first | exact Gr.refl _ | refine Gr.drewN ?_ _ | refine Gr.grew ?_ _ _ | refine Gr.alloc ?_ _ | refine Gr.drew ?_))) g
    have B1' := Lib.hid (B1.out.gr k2)
    have F1' := Lib.hid (F1.out.keep k2.kp)
    have G2 := Lib.hid (G1.out.trans k2)
    have F2 := Lib.hid F2
    clear ho g k2
    go_wp2_with fail
    refine (HW2.out u1.heap.size _ _ _ (MV.ofBlk (BV.out.gr (by (try show Gr _ _); repeat (with_reducible first | exact Gr.refl _ | refine Gr.drewN ?_ _ | refine Gr.grew ?_ _ _ | refine Gr.alloc ?_ _ | refine Gr.drew ?_))) (F1'.out.keep (Gr.kp (by (try show Gr _ _); repeat (with_reducible first | exact Gr.refl _ | refine Gr.drewN ?_ _ | refine Gr.grew ?_ _ _ | refine Gr.alloc ?_ _ | refine Gr.drew ?_)))))).mono ?_
    rintro e u3 ⟨⟨v3, rfl, ho⟩, g⟩
    obtain ⟨a3, c3, rfl, F3, -⟩ := ho.sl' rs.length rfl
    have BL := Lib.hid (Blk.gr (show Blk _ u2.heap.size [.int .i64 W, .int .i64 H, .slice a2 ls.length c2] 30 from (by repeat (with_reducible first | assumption | exact Blk.atNew (by simp) | refine Blk.alloc ?_ _ | refine Blk.grew ?_ _ _ | refine Blk.drewN ?_ _ | refine Blk.drew ?_))) g)
    have k3 := Gr.trans (show Gr u2 _ from (by (try show Gr _ _); repeat (with_reducible first | exact Gr.refl _ | refine Gr.drewN ?_ _ | refine Gr.grew ?_ _ _ | refine Gr.alloc ?_ _ | refine Gr.drew ?_))) g
    have B1'' := Lib.hid (B1'.out.gr k3)
    have F2' := Lib.hid (F2.out.keep k3.kp)
    have G3 := Lib.hid (G2.out.trans k3)
    have F3 := Lib.hid F3
    clear ho g k3
    go_wp2_with fail
    refine (HCk.out _ u2.heap.size u3.heap.size _ _ _ _ (MP.ofBlk (BL.out.gr (by (try show Gr _ _); repeat (with_reducible first | exact Gr.refl _ | refine Gr.drewN ?_ _ | refine Gr.grew ?_ _ _ | refine Gr.alloc ?_ _ | refine Gr.drew ?_))) (F2'.out.keep (Gr.kp (by (try show Gr _ _); repeat (with_reducible first | exact Gr.refl _ | refine Gr.drewN ?_ _ | refine Gr.grew ?_ _ _ | refine Gr.alloc ?_ _ | refine Gr.drew ?_))))) (MP.ofBlk (show Blk _ u3.heap.size [.int .i64 W, .int .i64 H, .slice a3 rs.length c3] 30 from (by repeat (with_reducible first | assumption | exact Blk.atNew (by simp) | refine Blk.alloc ?_ _ | refine Blk.grew ?_ _ _ | refine Blk.drewN ?_ _ | refine Blk.drew ?_))) (F3.out.keep (Gr.kp (by (try show Gr _ _); repeat (with_reducible first | exact Gr.refl _ | refine Gr.drewN ?_ _ | refine Gr.grew ?_ _ _ | refine Gr.alloc ?_ _ | refine Gr.drew ?_)))))).mono ?_
    rintro e u4 ⟨⟨v4, rfl, ho⟩, g⟩
    obtain ⟨a4, c4, rfl, -, -⟩ := ho.sl' ls.length (by simp)
    have k4 := Gr.trans (show Gr u3 _ from (by (try show Gr _ _); repeat (with_reducible first | exact Gr.refl _ | refine Gr.drewN ?_ _ | refine Gr.grew ?_ _ _ | refine Gr.alloc ?_ _ | refine Gr.drew ?_))) g
    have B5 := Lib.hid (B1''.out.gr k4)
    have Hb := Lib.hid B1''.out.lt
    have Ho := Lib.hid ho
    have G4 := Lib.hid (G3.out.trans k4)
    have q0 := B5.out.cellv 0
    have q1 := B5.out.cellv 1
    have q2 := B5.out.cellv 2
    have z0 := B5.out.frozen 0
    have z1 := B5.out.frozen 1
    have z2 := B5.out.frozen 2
    clear ho g k4
    go_wp2
    refine bodyPost_ret (v := .tuple #[.agg #[.int .i64 W, .int .i64 H, .slice a4 ls.length c4], .bool true]) (by simp [results, Try.results22, go_sem, *]) rfl ⟨⟨_, rfl, ?_⟩, ?_⟩
    · have h := Ho.out.base (B' := u3.heap.size) (by simp)
      have hb := Hb.out
      exact FOwn.base (B := u3.heap.size) (by repeat (with_reducible first | assumption | refine FOwn.setOther ?_ _ (by simp <;> omega))) (by have := G3.out.size; omega)
    · have h := G4.out
      exact (by repeat (with_reducible first | assumption | refine Gr.setCell ?_ (by simp <;> omega) _))
set_option maxRecDepth 20000 in
set_option maxHeartbeats 2000000 in
theorem I_ChecksOf (W H D : Int) (a : Option Addr) (ca near N : Nat) (xs : List Nat) (w : World) (fx : FSl w a xs.length xs) (hca : xs.length ≤ ca) (hn : xs.length ≤ 1048576) (hN : FE .f32 near N) :
    Calls Try.prog 24 #[.agg #[.int .i64 W, .int .i64 H, .int .i64 D, .slice a xs.length ca], .float .f32 near] w
      (PostP w (gW (gVol W H D xs.length) W) (gW (gVol W H D xs.length) H) (gVol W H D xs.length) (gVals (gVol W H D xs.length) (W * H).toNat (gChkAt W H D N xs))) := by
  have hn' : xs.length ≤ maxLen := by unfold maxLen; omega
  have Fx := Lib.hid fx
  clear fx
  cases hT : gVol W H D xs.length
  · go_enter Try.func24, Try.ntmps24
    go_wp2_with (first
      | (go_at_call 55; with_reducible refine (I_ValidVolume _ _ _ _ _ _ _ hn').mono ?_; rintro e w' ⟨rfl, os, m, rfl⟩; rw [hT]))
    exact bodyPost_ret (v := .tuple #[.agg #[.int .i64 0, .int .i64 0, .slice none 0 0], .bool false]) (by simp [results, Try.results24, go_sem]) rfl ⟨⟨_, rfl, FOwn.nil _ _ _⟩, (by (try show Gr _ _); repeat (with_reducible first | exact Gr.refl _ | refine Gr.drewN ?_ _ | refine Gr.grew ?_ _ _ | refine Gr.alloc ?_ _ | refine Gr.drew ?_))⟩
  · obtain ⟨hS, d1, d2, hp, hp2⟩ := gVol_true hT
    obtain ⟨s1, s2, s3, s4, s5, s6⟩ := gSize_true hS
    obtain ⟨W, rfl⟩ := Int.eq_ofNat_of_zero_le (show 0 ≤ W by omega)
    obtain ⟨H, rfl⟩ := Int.eq_ofNat_of_zero_le (show 0 ≤ H by omega)
    obtain ⟨D, rfl⟩ := Int.eq_ofNat_of_zero_le (show 0 ≤ D by omega)
    have hl : xs.length = W * H * D := by exact_mod_cast hp
    have hpos : 0 < xs.length := by rw [hl]; exact Nat.mul_pos (Nat.mul_pos (by omega) (by omega)) (by omega)
    obtain ⟨bx, ox, rfl⟩ := Fx.out.ptr hpos
    rw [show ((W : Int) * (H : Int)).toNat = W * H by rw [← Int.natCast_mul]; exact Int.toNat_natCast _]
    unfold gChkAt
    rw [Int.toNat_natCast, Int.toNat_natCast, Int.toNat_natCast]
    obtain ⟨ys, hys⟩ : ∃ ys, ys = gOthL W H D xs := ⟨_, rfl⟩
    have hyl : ys.length = W * H * D := by rw [hys]; unfold gOthL; simp
    obtain ⟨ls, hls⟩ : ∃ ls, ls = lst (W * H) (gWinAt xs D) := ⟨_, rfl⟩
    obtain ⟨rs, hrs⟩ : ∃ rs, rs = lst (W * H) (gWinAt ys D) := ⟨_, rfl⟩
    have hll : ls.length = W * H := by rw [hls]; simp
    have hrl : rs.length = W * H := by rw [hrs]; simp
    have hT2 : gVol W H D ys.length = true := by rw [hyl, ← hl]; exact hT
    have HO := fun (u : World) (f : FSl u (some ⟨bx, ox, none⟩) xs.length xs) => I_OtherVolume_ok W H D bx ox ca xs u f hT hn' hl hca
    rw [show lst (W * H * D) (gV3 W D (gOth xs W D)) = ys from hys.symm, ← hyl] at HO
    have HW1 := fun (u : World) (f : FSl u (some ⟨bx, ox, none⟩) xs.length xs) => I_WinnersOf_ok W H D ca _ xs u f hca hT
    have HW2 := fun (a' : Option Addr) (c' : Nat) (u : World) (f : FSl u a' ys.length ys) (hc : ys.length ≤ c') => I_WinnersOf_ok W H D c' a' ys u f hc hT2
    rw [← hls, ← hll] at HW1
    rw [← hrs, ← hrl] at HW2
    have HCk := fun (u : World) (c1 c2 : Nat) (a1 a2 : Option Addr) (f1 : FSl u a1 ls.length ls) (f2 : FSl u a2 rs.length rs) => I_CheckMaps_ok W H c1 c2 near N a1 a2 ls rs (gWinI xs D) (gWinI ys D) u f1 f2 hN hS hll hrl (fun k hk => by rw [hls]; exact lst_getD hk) (fun k hk => by rw [hrs]; exact lst_getD hk) (gWinI_range xs (by omega)) (gWinI_range ys (by omega))
    rw [← hys]
    obtain ⟨G, hG⟩ : ∃ G, G = gChk (gWinI xs D) (gWinI ys D) W N := ⟨_, rfl⟩
    rw [← hG, ← hll] at HCk
    rw [← hG]
    rw [show gVals true (W * H) G = lst ls.length G by rw [hll]; rfl]
    have HO := Lib.hid HO
    have HW1 := Lib.hid HW1
    have HW2 := Lib.hid HW2
    have HCk := Lib.hid HCk
    have HT := Lib.hid hT
    clear hys hls hrs hG hl hp hyl hll hrl hS s5 s6 hT hT2 hpos
    go_enter Try.func24, Try.ntmps24
    go_wp2_with fail
    refine (I_ValidVolume _ _ _ _ _ _ _ hn').mono ?_
    rintro e u0 ⟨rfl, g⟩
    rw [HT.out]
    have B0 := Lib.hid (Blk.gr (show Blk _ w.heap.size [.int .i64 W, .int .i64 H, .int .i64 D, .slice (some ⟨bx, ox, none⟩) xs.length ca] 44 from (by repeat (with_reducible first | assumption | exact Blk.atNew (by simp) | refine Blk.alloc ?_ _ | refine Blk.grew ?_ _ _ | refine Blk.drewN ?_ _ | refine Blk.drew ?_))) g)
    have B1 := Lib.hid (Blk.gr (show Blk _ (w.heap.size + 1) [.int .i64 0, .int .i64 0, .slice none 0 0] 30 from (by repeat (with_reducible first | assumption | exact Blk.atNew (by simp) | refine Blk.alloc ?_ _ | refine Blk.grew ?_ _ _ | refine Blk.drewN ?_ _ | refine Blk.drew ?_))) g)
    have G0 := Lib.hid (Gr.trans (show Gr w _ from (by (try show Gr _ _); repeat (with_reducible first | exact Gr.refl _ | refine Gr.drewN ?_ _ | refine Gr.grew ?_ _ _ | refine Gr.alloc ?_ _ | refine Gr.drew ?_))) g)
    clear g
    have p0 := B0.out.cellv 0
    have p1 := B0.out.cellv 1
    have p2 := B0.out.cellv 2
    have p3 := B0.out.cellv 3
    go_wp2_with fail
    refine (HW1.out _ (Fx.out.keep G0.out.kp)).mono ?_
    rintro e u1 ⟨⟨a1, c1, rfl, ho⟩, g⟩
    obtain ⟨a1', c1', e1, F1, -⟩ := ho.sl' ls.length rfl
    obtain ⟨rfl, rfl⟩ : a1 = a1' ∧ c1 = c1' := by simpa using e1
    clear e1 p0 p1 p2 p3
    replace B0 := Lib.hid (B0.out.gr g)
    replace B1 := Lib.hid (B1.out.gr g)
    have G1 := Lib.hid (G0.out.trans g)
    have F1 := Lib.hid F1
    clear ho g
    have p0 := B0.out.cellv 0
    have p1 := B0.out.cellv 1
    have p2 := B0.out.cellv 2
    have p3 := B0.out.cellv 3
    have lt0 := B0.out.lt
    go_wp2_with fail
    refine (HO.out _ (Fx.out.keep (Gr.kp (G1.out.trans (by (try show Gr _ _); repeat (with_reducible first | exact Gr.refl _ | refine Gr.drewN ?_ _ | refine Gr.grew ?_ _ _ | refine Gr.alloc ?_ _ | refine Gr.drew ?_)))))).mono ?_
    rintro e u2 ⟨⟨a2, c2, rfl, ho⟩, g⟩
    have hc2 := ho.cap
    obtain ⟨a2', c2', e1, F2, -⟩ := ho.sl' ys.length rfl
    obtain ⟨rfl, rfl⟩ : a2 = a2' ∧ c2 = c2' := by simpa using e1
    clear e1 p0 p1 p2 p3 lt0 B0
    have BL := Lib.hid (Blk.gr (show Blk _ u1.heap.size [.int .i64 W, .int .i64 H, .slice a1 ls.length c1] 30 from (by repeat (with_reducible first | assumption | exact Blk.atNew (by simp) | refine Blk.alloc ?_ _ | refine Blk.grew ?_ _ _ | refine Blk.drewN ?_ _ | refine Blk.drew ?_))) g)
    have k2 := Gr.trans (show Gr u1 _ from (by (try show Gr _ _); repeat (with_reducible first | exact Gr.refl _ | refine Gr.drewN ?_ _ | refine Gr.grew ?_ _ _ | refine Gr.alloc ?_ _ | refine Gr.drew ?_))) g
    replace B1 := Lib.hid (B1.out.gr k2)
    replace F1 := Lib.hid (F1.out.keep k2.kp)
    have G2 := Lib.hid (G1.out.trans k2)
    have F2 := Lib.hid F2
    have HC2 := Lib.hid hc2
    clear ho g k2 hc2
    go_wp2_with fail
    refine (HW2.out _ _ _ (F2.out.keep (Gr.kp (by (try show Gr _ _); repeat (with_reducible first | exact Gr.refl _ | refine Gr.drewN ?_ _ | refine Gr.grew ?_ _ _ | refine Gr.alloc ?_ _ | refine Gr.drew ?_)))) HC2.out).mono ?_
    rintro e u3 ⟨⟨a3, c3, rfl, ho⟩, g⟩
    obtain ⟨a3', c3', e1, F3, -⟩ := ho.sl' rs.length rfl
    obtain ⟨rfl, rfl⟩ : a3 = a3' ∧ c3 = c3' := by simpa using e1
    clear e1
    have k3 := Gr.trans (show Gr u2 _ from (by (try show Gr _ _); repeat (with_reducible first | exact Gr.refl _ | refine Gr.drewN ?_ _ | refine Gr.grew ?_ _ _ | refine Gr.alloc ?_ _ | refine Gr.drew ?_))) g
    replace BL := Lib.hid (BL.out.gr k3)
    replace B1 := Lib.hid (B1.out.gr k3)
    replace F1 := Lib.hid (F1.out.keep k3.kp)
    have G3 := Lib.hid (G2.out.trans k3)
    have F3 := Lib.hid F3
    clear ho g k3
    have p0 := BL.out.cellv 0
    have p1 := BL.out.cellv 1
    have p2 := BL.out.cellv 2
    have lt0 := BL.out.lt
    go_wp2_with fail
    refine (HCk.out _ _ _ _ _ (F1.out.keep (Gr.kp (by (try show Gr _ _); repeat (with_reducible first | exact Gr.refl _ | refine Gr.drewN ?_ _ | refine Gr.grew ?_ _ _ | refine Gr.alloc ?_ _ | refine Gr.drew ?_)))) (F3.out.keep (Gr.kp (by (try show Gr _ _); repeat (with_reducible first | exact Gr.refl _ | refine Gr.drewN ?_ _ | refine Gr.grew ?_ _ _ | refine Gr.alloc ?_ _ | refine Gr.drew ?_))))).mono ?_
    rintro e u4 ⟨⟨v4, rfl, ho⟩, g⟩
    obtain ⟨a4, c4, rfl, -, -⟩ := ho.sl' ls.length (by simp)
    have k4 := Gr.trans (show Gr u3 _ from (by (try show Gr _ _); repeat (with_reducible first | exact Gr.refl _ | refine Gr.drewN ?_ _ | refine Gr.grew ?_ _ _ | refine Gr.alloc ?_ _ | refine Gr.drew ?_))) g
    have B5 := Lib.hid (B1.out.gr k4)
    have Hb := Lib.hid B1.out.lt
    have Ho := Lib.hid ho
    have G4 := Lib.hid (G3.out.trans k4)
    have q0 := B5.out.cellv 0
    have q1 := B5.out.cellv 1
    have q2 := B5.out.cellv 2
    have z0 := B5.out.frozen 0
    have z1 := B5.out.frozen 1
    have z2 := B5.out.frozen 2
    clear ho g k4 p0 p1 p2 lt0
    go_wp2
    refine bodyPost_ret (v := .tuple #[.agg #[.int .i64 W, .int .i64 H, .slice a4 ls.length c4], .bool true]) (by simp [results, Try.results24, go_sem, *]) rfl ⟨⟨_, rfl, ?_⟩, ?_⟩
    · have h := Ho.out.base (B' := u3.heap.size) (by simp)
      have hb := Hb.out
      exact FOwn.base (B := u3.heap.size) (by repeat (with_reducible first | assumption | refine FOwn.setOther ?_ _ (by simp <;> omega))) (by have := G3.out.size; omega)
    · have h := G4.out
      exact (by repeat (with_reducible first | assumption | refine Gr.setCell ?_ (by simp <;> omega) _))
end Go.Proofs.Ytomlfdkcgaogcaa
