/- Contracts: WinnersNear. MAXREC -/
import Derived.Test.YtomlfdkcgaogcaaProg
import Derived.Test.YtomlfdkcgaogcaaC40
namespace Go.Proofs.Ytomlfdkcgaogcaa
open Go.RowKit Go.Fx Go.Soft
def gNearOk (W H D U V : Int) (n m : Nat) (r : Int) : Bool := gVol W H D n && (gPic U V m && (decide (W = U) && (decide (H = V) && gIn r 0 8)))
theorem gNearOk_false {W H D U V : Int} {n m : Nat} {r : Int} (h : gNearOk W H D U V n m r = false) : gVol W H D n = false ∨ (gVol W H D n = true ∧ gPic U V m = false) ∨ (gVol W H D n = true ∧ gPic U V m = true ∧ W ≠ U) ∨ (gVol W H D n = true ∧ gPic U V m = true ∧ W = U ∧ H ≠ V) ∨ (gVol W H D n = true ∧ gPic U V m = true ∧ W = U ∧ H = V ∧ gIn r 0 8 = false) := by
  unfold gNearOk at h
  cases h1 : gVol W H D n
  · exact .inl rfl
  · cases h2 : gPic U V m
    · exact .inr (.inl ⟨rfl, rfl⟩)
    · by_cases h3 : W = U
      · by_cases h4 : H = V
        · rw [h1, h2] at h
          refine .inr (.inr (.inr (.inr ⟨rfl, rfl, h3, h4, ?_⟩)))
          simpa [h3, h4] using h
        · exact .inr (.inr (.inr (.inl ⟨rfl, rfl, h3, h4⟩)))
      · exact .inr (.inr (.inl ⟨rfl, rfl, h3⟩))
theorem gNearOk_true {W H D U V : Int} {n m : Nat} {r : Int} (h : gNearOk W H D U V n m r = true) : gVol W H D n = true ∧ gPic U V m = true ∧ W = U ∧ H = V ∧ gIn r 0 8 = true := by
  simpa [gNearOk] using h
theorem tells_WinnersNear (W H D b1 b2 b3 bx ox ca cap : Nat) (a : Option Addr) (ms xs : List Nat) (r : Int) (w : World) (m1 : MP w b1 W H a ms.length ca ms) (c0 : w.cell? ⟨b2, 0, none⟩ = some (.int .i64 r)) (mv : MV w b3 W H D (some ⟨bx, ox, none⟩) xs.length cap xs)
    (hW : W ≤ 24) (hH : H ≤ 24) (hD0 : 1 ≤ D) (hD : D ≤ 8) (hr0 : 0 ≤ r) (hr8 : r ≤ 8) (hm : ms.length = W * H) (hn : xs.length = W * H * D) (hc : xs.length ≤ cap) :
    Tells w 111 #[.pointer (some ⟨b1, 0, none⟩), .pointer (some ⟨b2, 0, none⟩), .pointer (some ⟨b3, 0, none⟩)] W H (fun x y => gNearAt xs ms D r (x + W * y)) :=
  ⟨Try.call111, fun x y hx hy w1 g => by
    have h := I_WinnersNear_1 W H D x y b1 b2 b3 bx ox ca cap a ms xs r w1 (m1.gr g) (g.cell c0) (mv.gr g) hW hH hD0 hD hr0 hr8 hx hy hm hn hc
    rw [← gWinN_cap _ _ _ _ hr0 hr8 hD0 hD] at h
    exact h⟩
set_option maxRecDepth 20000 in
set_option maxHeartbeats 2000000 in
theorem I_WinnersNear (W H D U V r : Int) (a b : Option Addr) (ca cb : Nat) (xs ms : List Nat) (w : World) (fx : FSl w a xs.length xs) (hca : xs.length ≤ ca) (fm : FSl w b ms.length ms) (hn : xs.length ≤ 1048576) (hm : ms.length ≤ 1048576) :
    Calls Try.prog 67 #[.agg #[.int .i64 W, .int .i64 H, .int .i64 D, .slice a xs.length ca], .agg #[.int .i64 U, .int .i64 V, .slice b ms.length cb], .int .i64 r] w
      (PostP w (gW (gNearOk W H D U V xs.length ms.length r) W) (gW (gNearOk W H D U V xs.length ms.length r) H) (gNearOk W H D U V xs.length ms.length r) (gVals (gNearOk W H D U V xs.length ms.length r) (ms.length) (gNearAt xs ms D r))) := by
  have Fx := Lib.hid fx
  have Fm := Lib.hid fm
  clear fx fm
  have hn' : xs.length ≤ maxLen := by unfold maxLen; omega
  have hm' : ms.length ≤ maxLen := by unfold maxLen; omega
  cases hT : gNearOk W H D U V xs.length ms.length r
  · rcases gNearOk_false hT with t1 | ⟨t1, t2⟩ | ⟨t1, t2, t3⟩ | ⟨t1, t2, rfl, t3⟩ | ⟨t1, t2, rfl, rfl, t3⟩
    · go_enter Try.func67, Try.ntmps67
      go_wp2_with (first
      | (go_at_call 55; with_reducible refine (I_ValidVolume _ _ _ _ _ _ _ hn').mono ?_; rintro e w' ⟨rfl, os, m, rfl⟩; rw [t1]))
      exact bodyPost_ret (v := .tuple #[.agg #[.int .i64 0, .int .i64 0, .slice none 0 0], .bool false]) (by simp [results, Try.results67, go_sem]) rfl ⟨⟨_, rfl, FOwn.nil _ _ _⟩, (by (try show Gr _ _); repeat (with_reducible first | exact Gr.refl _ | refine Gr.drewN ?_ _ | refine Gr.grew ?_ _ _ | refine Gr.alloc ?_ _ | refine Gr.drew ?_))⟩
    · go_enter Try.func67, Try.ntmps67
      go_wp2_with (first
      | (go_at_call 55; with_reducible refine (I_ValidVolume _ _ _ _ _ _ _ hn').mono ?_; rintro e w' ⟨rfl, os, m, rfl⟩; rw [t1])
      | (go_at_call 42; with_reducible refine (I_ValidMap _ _ _ _ _ _ hm').mono ?_; rintro e w' ⟨rfl, os2, m2, rfl⟩; rw [t2]))
      exact bodyPost_ret (v := .tuple #[.agg #[.int .i64 0, .int .i64 0, .slice none 0 0], .bool false]) (by simp [results, Try.results67, go_sem]) rfl ⟨⟨_, rfl, FOwn.nil _ _ _⟩, (by (try show Gr _ _); repeat (with_reducible first | exact Gr.refl _ | refine Gr.drewN ?_ _ | refine Gr.grew ?_ _ _ | refine Gr.alloc ?_ _ | refine Gr.drew ?_))⟩
    · go_enter Try.func67, Try.ntmps67
      go_wp2_with fail
      refine (I_ValidVolume W H D _ _ ca _ hn').mono ?_
      rintro e u0 ⟨rfl, g⟩
      rw [t1]
      have k : Gr w u0 := Gr.trans (by (try show Gr _ _); repeat (with_reducible first | exact Gr.refl _ | refine Gr.drewN ?_ _ | refine Gr.grew ?_ _ _ | refine Gr.alloc ?_ _ | refine Gr.drew ?_)) g
      have B0 := Lib.hid (Blk.gr (show Blk _ w.heap.size [.int .i64 W, .int .i64 H, .int .i64 D, .slice a xs.length ca] 44 from (by repeat (with_reducible first | assumption | exact Blk.atNew (by simp) | refine Blk.alloc ?_ _ | refine Blk.grew ?_ _ _ | refine Blk.drewN ?_ _ | refine Blk.drew ?_))) g)
      have B1 := Lib.hid (Blk.gr (show Blk _ (w.heap.size + 1) [.int .i64 U, .int .i64 V, .slice b ms.length cb] 30 from (by repeat (with_reducible first | assumption | exact Blk.atNew (by simp) | refine Blk.alloc ?_ _ | refine Blk.grew ?_ _ _ | refine Blk.drewN ?_ _ | refine Blk.drew ?_))) g)
      have B2 := Lib.hid (Blk.gr (show Blk _ (w.heap.size + 2) [.int .i64 r] 2 from (by repeat (with_reducible first | assumption | exact Blk.atNew (by simp) | refine Blk.alloc ?_ _ | refine Blk.grew ?_ _ _ | refine Blk.drewN ?_ _ | refine Blk.drew ?_))) g)
      have B6 := Lib.hid (Blk.gr (show Blk _ (w.heap.size + 3) [.int .i64 0, .int .i64 0, .slice none 0 0] 30 from (by repeat (with_reducible first | assumption | exact Blk.atNew (by simp) | refine Blk.alloc ?_ _ | refine Blk.grew ?_ _ _ | refine Blk.drewN ?_ _ | refine Blk.drew ?_))) g)
      have G := Lib.hid k
      clear g k
      have p0 := B1.out.cellv 0
      have p1 := B1.out.cellv 1
      have p2 := B1.out.cellv 2
      go_wp2_with fail
      refine (I_ValidMap U V b _ cb _ hm').mono ?_
      rintro e u1 ⟨rfl, g⟩
      rw [t2]
      have k : Gr u0 u1 := g
      replace B0 := Lib.hid (B0.out.gr k)
      replace B1 := Lib.hid (B1.out.gr k)
      replace B2 := Lib.hid (B2.out.gr k)
      replace B6 := Lib.hid (B6.out.gr k)
      replace G := Lib.hid (G.out.trans k)
      clear g k p0 p1 p2
      have p0 := B1.out.cellv 0
      have p1 := B1.out.cellv 1
      have p3 := B0.out.cellv 0
      have p4 := B0.out.cellv 1
      have p5 := B2.out.cellv 0
      have q0 := B6.out.cellv 0
      have q1 := B6.out.cellv 1
      have q2 := B6.out.cellv 2
      have z0 := B6.out.frozen 0
      have z1 := B6.out.frozen 1
      have z2 := B6.out.frozen 2
      go_wp2_with (first
      | (go_at_call 63; with_reducible refine (I_in _ _ _ _).mono ?_; rintro e w' ⟨rfl, rfl⟩; rw [t3]))
      refine bodyPost_ret (v := .tuple #[.agg #[.int .i64 0, .int .i64 0, .slice none 0 0], .bool false]) (by simp [results, Try.results67, go_sem, *]) rfl ⟨⟨_, rfl, FOwn.nil _ _ _⟩, ?_⟩
      have h := G.out
      exact (by repeat (with_reducible first | assumption | refine Gr.setCell ?_ (by simp <;> omega) _))
    · go_enter Try.func67, Try.ntmps67
      go_wp2_with fail
      refine (I_ValidVolume W H D _ _ ca _ hn').mono ?_
      rintro e u0 ⟨rfl, g⟩
      rw [t1]
      have k : Gr w u0 := Gr.trans (by (try show Gr _ _); repeat (with_reducible first | exact Gr.refl _ | refine Gr.drewN ?_ _ | refine Gr.grew ?_ _ _ | refine Gr.alloc ?_ _ | refine Gr.drew ?_)) g
      have B0 := Lib.hid (Blk.gr (show Blk _ w.heap.size [.int .i64 W, .int .i64 H, .int .i64 D, .slice a xs.length ca] 44 from (by repeat (with_reducible first | assumption | exact Blk.atNew (by simp) | refine Blk.alloc ?_ _ | refine Blk.grew ?_ _ _ | refine Blk.drewN ?_ _ | refine Blk.drew ?_))) g)
      have B1 := Lib.hid (Blk.gr (show Blk _ (w.heap.size + 1) [.int .i64 W, .int .i64 V, .slice b ms.length cb] 30 from (by repeat (with_reducible first | assumption | exact Blk.atNew (by simp) | refine Blk.alloc ?_ _ | refine Blk.grew ?_ _ _ | refine Blk.drewN ?_ _ | refine Blk.drew ?_))) g)
      have B2 := Lib.hid (Blk.gr (show Blk _ (w.heap.size + 2) [.int .i64 r] 2 from (by repeat (with_reducible first | assumption | exact Blk.atNew (by simp) | refine Blk.alloc ?_ _ | refine Blk.grew ?_ _ _ | refine Blk.drewN ?_ _ | refine Blk.drew ?_))) g)
      have B6 := Lib.hid (Blk.gr (show Blk _ (w.heap.size + 3) [.int .i64 0, .int .i64 0, .slice none 0 0] 30 from (by repeat (with_reducible first | assumption | exact Blk.atNew (by simp) | refine Blk.alloc ?_ _ | refine Blk.grew ?_ _ _ | refine Blk.drewN ?_ _ | refine Blk.drew ?_))) g)
      have G := Lib.hid k
      clear g k
      have p0 := B1.out.cellv 0
      have p1 := B1.out.cellv 1
      have p2 := B1.out.cellv 2
      go_wp2_with fail
      refine (I_ValidMap W V b _ cb _ hm').mono ?_
      rintro e u1 ⟨rfl, g⟩
      rw [t2]
      have k : Gr u0 u1 := g
      replace B0 := Lib.hid (B0.out.gr k)
      replace B1 := Lib.hid (B1.out.gr k)
      replace B2 := Lib.hid (B2.out.gr k)
      replace B6 := Lib.hid (B6.out.gr k)
      replace G := Lib.hid (G.out.trans k)
      clear g k p0 p1 p2
      have p0 := B1.out.cellv 0
      have p1 := B1.out.cellv 1
      have p3 := B0.out.cellv 0
      have p4 := B0.out.cellv 1
      have p5 := B2.out.cellv 0
      have q0 := B6.out.cellv 0
      have q1 := B6.out.cellv 1
      have q2 := B6.out.cellv 2
      have z0 := B6.out.frozen 0
      have z1 := B6.out.frozen 1
      have z2 := B6.out.frozen 2
      go_wp2_with (first
      | (go_at_call 63; with_reducible refine (I_in _ _ _ _).mono ?_; rintro e w' ⟨rfl, rfl⟩; rw [t3]))
      refine bodyPost_ret (v := .tuple #[.agg #[.int .i64 0, .int .i64 0, .slice none 0 0], .bool false]) (by simp [results, Try.results67, go_sem, *]) rfl ⟨⟨_, rfl, FOwn.nil _ _ _⟩, ?_⟩
      have h := G.out
      exact (by repeat (with_reducible first | assumption | refine Gr.setCell ?_ (by simp <;> omega) _))
    · go_enter Try.func67, Try.ntmps67
      go_wp2_with fail
      refine (I_ValidVolume W H D _ _ ca _ hn').mono ?_
      rintro e u0 ⟨rfl, g⟩
      rw [t1]
      have k : Gr w u0 := Gr.trans (by (try show Gr _ _); repeat (with_reducible first | exact Gr.refl _ | refine Gr.drewN ?_ _ | refine Gr.grew ?_ _ _ | refine Gr.alloc ?_ _ | refine Gr.drew ?_)) g
      have B0 := Lib.hid (Blk.gr (show Blk _ w.heap.size [.int .i64 W, .int .i64 H, .int .i64 D, .slice a xs.length ca] 44 from (by repeat (with_reducible first | assumption | exact Blk.atNew (by simp) | refine Blk.alloc ?_ _ | refine Blk.grew ?_ _ _ | refine Blk.drewN ?_ _ | refine Blk.drew ?_))) g)
      have B1 := Lib.hid (Blk.gr (show Blk _ (w.heap.size + 1) [.int .i64 W, .int .i64 H, .slice b ms.length cb] 30 from (by repeat (with_reducible first | assumption | exact Blk.atNew (by simp) | refine Blk.alloc ?_ _ | refine Blk.grew ?_ _ _ | refine Blk.drewN ?_ _ | refine Blk.drew ?_))) g)
      have B2 := Lib.hid (Blk.gr (show Blk _ (w.heap.size + 2) [.int .i64 r] 2 from (by repeat (with_reducible first | assumption | exact Blk.atNew (by simp) | refine Blk.alloc ?_ _ | refine Blk.grew ?_ _ _ | refine Blk.drewN ?_ _ | refine Blk.drew ?_))) g)
      have B6 := Lib.hid (Blk.gr (show Blk _ (w.heap.size + 3) [.int .i64 0, .int .i64 0, .slice none 0 0] 30 from (by repeat (with_reducible first | assumption | exact Blk.atNew (by simp) | refine Blk.alloc ?_ _ | refine Blk.grew ?_ _ _ | refine Blk.drewN ?_ _ | refine Blk.drew ?_))) g)
      have G := Lib.hid k
      clear g k
      have p0 := B1.out.cellv 0
      have p1 := B1.out.cellv 1
      have p2 := B1.out.cellv 2
      go_wp2_with fail
      refine (I_ValidMap W H b _ cb _ hm').mono ?_
      rintro e u1 ⟨rfl, g⟩
      rw [t2]
      have k : Gr u0 u1 := g
      replace B0 := Lib.hid (B0.out.gr k)
      replace B1 := Lib.hid (B1.out.gr k)
      replace B2 := Lib.hid (B2.out.gr k)
      replace B6 := Lib.hid (B6.out.gr k)
      replace G := Lib.hid (G.out.trans k)
      clear g k p0 p1 p2
      have p0 := B1.out.cellv 0
      have p1 := B1.out.cellv 1
      have p3 := B0.out.cellv 0
      have p4 := B0.out.cellv 1
      have p5 := B2.out.cellv 0
      have q0 := B6.out.cellv 0
      have q1 := B6.out.cellv 1
      have q2 := B6.out.cellv 2
      have z0 := B6.out.frozen 0
      have z1 := B6.out.frozen 1
      have z2 := B6.out.frozen 2
      go_wp2_with (first
      | (go_at_call 63; with_reducible refine (I_in _ _ _ _).mono ?_; rintro e w' ⟨rfl, rfl⟩; rw [t3]))
      refine bodyPost_ret (v := .tuple #[.agg #[.int .i64 0, .int .i64 0, .slice none 0 0], .bool false]) (by simp [results, Try.results67, go_sem, *]) rfl ⟨⟨_, rfl, FOwn.nil _ _ _⟩, ?_⟩
      have h := G.out
      exact (by repeat (with_reducible first | assumption | refine Gr.setCell ?_ (by simp <;> omega) _))
  · obtain ⟨hV, hP, rfl, rfl, hI⟩ := gNearOk_true hT
    obtain ⟨hS, d1, d2, hp, hp2⟩ := gVol_true hV
    obtain ⟨s1, s2, s3, s4, s5, s6⟩ := gSize_true hS
    obtain ⟨r1, r2⟩ := gIn_true hI
    obtain ⟨W, rfl⟩ := Int.eq_ofNat_of_zero_le (show 0 ≤ W by omega)
    obtain ⟨H, rfl⟩ := Int.eq_ofNat_of_zero_le (show 0 ≤ H by omega)
    obtain ⟨D, rfl⟩ := Int.eq_ofNat_of_zero_le (show 0 ≤ D by omega)
    have e1 := Lib.hid (show xs.length = W * H * D by exact_mod_cast hp)
    have hq := (gPic_true hP).2
    have e2 := Lib.hid (show ms.length = W * H by exact_mod_cast hq)
    have hWH : 0 < W * H := Nat.mul_pos (by omega) (by omega)
    have hpos : 0 < xs.length := by rw [e1.out]; exact Nat.mul_pos hWH (by omega)
    obtain ⟨bx, ox, rfl⟩ := Fx.out.ptr hpos
    have HV := Lib.hid hV
    have HP := Lib.hid hP
    have HI := Lib.hid hI
    clear hp hq s5 s6 hS hT hWH hV hP hI
    have EG : Hid (grid W (fun x y => gNearAt xs ms D r (x + W * y)) (ms.length) = lst (ms.length) (gNearAt xs ms D r)) := by
      exact lst_congr fun i _ => by simp only [Nat.mod_add_div]
    go_enter Try.func67, Try.ntmps67
    go_wp2_with fail
    refine (I_ValidVolume W H D _ _ ca _ hn').mono ?_
    rintro e u0 ⟨rfl, g⟩
    have k : Gr w u0 := Gr.trans (by (try show Gr _ _); repeat (with_reducible first | exact Gr.refl _ | refine Gr.drewN ?_ _ | refine Gr.grew ?_ _ _ | refine Gr.alloc ?_ _ | refine Gr.drew ?_)) g
    rw [HV.out]
    have B0 := Lib.hid (Blk.gr (show Blk _ (w.heap.size) [.int .i64 W, .int .i64 H, .int .i64 D, .slice (some ⟨bx, ox, none⟩) xs.length ca] 44 from (by repeat (with_reducible first | assumption | exact Blk.atNew (by simp) | refine Blk.alloc ?_ _ | refine Blk.grew ?_ _ _ | refine Blk.drewN ?_ _ | refine Blk.drew ?_))) g)
    have B1 := Lib.hid (Blk.gr (show Blk _ (w.heap.size + 1) [.int .i64 W, .int .i64 H, .slice b ms.length cb] 30 from (by repeat (with_reducible first | assumption | exact Blk.atNew (by simp) | refine Blk.alloc ?_ _ | refine Blk.grew ?_ _ _ | refine Blk.drewN ?_ _ | refine Blk.drew ?_))) g)
    have B2 := Lib.hid (Blk.gr (show Blk _ (w.heap.size + 1 + 1) [.int .i64 r] 2 from (by repeat (with_reducible first | assumption | exact Blk.atNew (by simp) | refine Blk.alloc ?_ _ | refine Blk.grew ?_ _ _ | refine Blk.drewN ?_ _ | refine Blk.drew ?_))) g)
    have B3 := Lib.hid (Blk.gr (show Blk _ (w.heap.size + 1 + 1 + 1) [.int .i64 0, .int .i64 0, .slice none 0 0] 30 from (by repeat (with_reducible first | assumption | exact Blk.atNew (by simp) | refine Blk.alloc ?_ _ | refine Blk.grew ?_ _ _ | refine Blk.drewN ?_ _ | refine Blk.drew ?_))) g)
    have G := Lib.hid k
    clear g k
    have p0_0 := B0.out.cellv 0
    have p0_1 := B0.out.cellv 1
    have p0_2 := B0.out.cellv 2
    have p0_3 := B0.out.cellv 3
    have p1_0 := B1.out.cellv 0
    have p1_1 := B1.out.cellv 1
    have p1_2 := B1.out.cellv 2
    have p2_0 := B2.out.cellv 0
    go_wp2_with fail
    refine (I_ValidMap W H b _ cb _ hm').mono ?_
    rintro e u1 ⟨rfl, g⟩
    have k : Gr u0 u1 := Gr.trans (by (try show Gr _ _); repeat (with_reducible first | exact Gr.refl _ | refine Gr.drewN ?_ _ | refine Gr.grew ?_ _ _ | refine Gr.alloc ?_ _ | refine Gr.drew ?_)) g
    rw [HP.out]
    replace B0 := Lib.hid (B0.out.gr k)
    replace B1 := Lib.hid (B1.out.gr k)
    replace B2 := Lib.hid (B2.out.gr k)
    replace B3 := Lib.hid (B3.out.gr k)
    replace G := Lib.hid (G.out.trans k)
    clear g k
    have p0_0 := B0.out.cellv 0
    have p0_1 := B0.out.cellv 1
    have p0_2 := B0.out.cellv 2
    have p0_3 := B0.out.cellv 3
    have p1_0 := B1.out.cellv 0
    have p1_1 := B1.out.cellv 1
    have p1_2 := B1.out.cellv 2
    have p2_0 := B2.out.cellv 0
    go_wp2_with ((go_at_call 63; with_reducible refine (I_in _ _ _ _).mono ?_; rintro e w' ⟨rfl, hw⟩; (obtain rfl := hw.symm; rw [HI.out])))
    refine (I_remap_ok W H b cb ms 111 _ (fun x y => gNearAt xs ms D r (x + W * y)) u1 (Fm.out.keep G.out.kp) hm' HP.out (tells_WinnersNear W H D _ _ _ bx ox cb ca b ms xs r u1 ⟨B1.out.cellv 0, B1.out.cellv 1, B1.out.cellv 2, Fm.out.keep G.out.kp⟩ (B2.out.cellv 0) ⟨B0.out.cellv 0, B0.out.cellv 1, B0.out.cellv 2, B0.out.cellv 3, Fx.out.keep G.out.kp⟩ (by omega) (by omega) (by omega) (by omega) r1 r2 e2.out e1.out hca)).mono ?_
    rintro e un ⟨⟨v0, rfl, ho⟩, g⟩
    rw [EG.out] at ho
    obtain ⟨a1, c1, rfl, -, -⟩ := ho.sl' (ms.length) (by simp)
    have Hb := Lib.hid B3.out.lt
    replace B3 := Lib.hid (B3.out.gr g)
    have Ho := Lib.hid ho
    have G1 := Lib.hid (G.out.trans g)
    have G0 := Lib.hid G.out.size
    clear ho g p0_0 p0_1 p0_2 p0_3 p1_0 p1_1 p1_2 p2_0
    have q0 := B3.out.cellv 0
    have q1 := B3.out.cellv 1
    have q2 := B3.out.cellv 2
    have z0 := B3.out.frozen 0
    have z1 := B3.out.frozen 1
    have z2 := B3.out.frozen 2
    go_wp2
    refine bodyPost_ret (v := .tuple #[.agg #[.int .i64 W, .int .i64 H, .slice a1 (ms.length) c1], .bool true]) (by simp [results, Try.results67, go_sem, gW, *]) rfl ⟨⟨_, rfl, ?_⟩, ?_⟩
    · have h := Ho.out
      have hb := Hb.out
      have h0 := G0.out
      show FOwn _ _ _ _ (lst (ms.length) _)
      exact FOwn.base (B := u1.heap.size) (by repeat (with_reducible first | assumption | refine FOwn.setOther ?_ _ (by simp <;> omega))) h0
    · have h := G1.out
      exact (by repeat (with_reducible first | assumption | refine Gr.setCell ?_ (by simp <;> omega) _))
end Go.Proofs.Ytomlfdkcgaogcaa
