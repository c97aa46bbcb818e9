/- Contracts: winners that small pictures lead to; the reference. MAXREC -/
import Derived.Test.YtomlfdkcgaogcaaProg
import Derived.Test.YtomlfdkcgaogcaaC90
import Derived.Test.YtomlfdkcgaogcaaC88
import Derived.Test.YtomlfdkcgaogcaaC41
import Derived.Deep.DeepCutAuto
namespace Go.Proofs.Ytomlfdkcgaogcaa
open Go.RowKit Go.Fx Go.Soft
def gHalf (ps : List Nat) (W H : Nat) : List Nat := grid ((W + 1) / 2) (gHalfAt ps W H) ((W + 1) / 2 * ((H + 1) / 2))
def gCost (ls rs : List Nat) (W H D : Nat) : List Nat := lst (W * H * D) (gV3 W D (gSq ls rs W H))
def gTwice (ms : List Nat) (U V W H : Nat) : List Nat := grid W (gDouble ms U V) (W * H)
def gCoarse : Nat → Nat → Nat → Nat → List Nat → List Nat → List Nat
  | 0, W, H, D, ls, rs => lst (W * H) (gWinAt (gCost ls rs W H D) D)
  | k + 1, W, H, D, ls, rs => lst (W * H) (gNearAt (gCost ls rs W H D) (gTwice (gCoarse k ((W + 1) / 2) ((H + 1) / 2) ((D + 1) / 2) (gHalf ls W H) (gHalf rs W H)) ((W + 1) / 2) ((H + 1) / 2) W H) D 1)
theorem gCoarse_length (k W H D : Nat) (ls rs : List Nat) : (gCoarse k W H D ls rs).length = W * H := by
  cases k <;> simp [gCoarse]
theorem half_ok {W H : Nat} (hW0 : 1 ≤ W) (hH0 : 1 ≤ H) (hA : W * H ≤ 256) : (W + 1) / 2 * ((H + 1) / 2) ≤ 256 :=
  Nat.le_trans (Nat.mul_le_mul (show (W + 1) / 2 ≤ W by omega) (show (H + 1) / 2 ≤ H by omega)) hA
set_option maxRecDepth 20000 in
set_option maxHeartbeats 4000000 in
theorem S_l05Coarse (k : Nat) : ∀ (W H D b1 b2 ca cb : Nat) (a b : Option Addr) (ls rs : List Nat) (w : World), MP w b1 W H a ls.length ca ls → MP w b2 W H b rs.length cb rs → 1 ≤ W → 1 ≤ H → W ≤ 24 → H ≤ 24 → W * H ≤ 256 → 1 ≤ D → D ≤ 8 → ls.length = W * H → rs.length = W * H → k ≤ 3 →
    Calls Try.prog 61 #[.pointer (some ⟨b1, 0, none⟩), .pointer (some ⟨b2, 0, none⟩), .int .i64 D, .int .i64 ((k + 1 : Nat) : Int)] w fun e w' => (∃ v, e = .returned (.agg #[.int .i64 W, .int .i64 H, v]) ∧ FOwn w' w.heap.size 25 v (gCoarse k W H D ls rs)) ∧ Gr w w' := by
  induction k with
  | zero =>
    intro W H D b1 b2 ca cb a b ls rs w m1 m2 hW0 hH0 hW hH hA hD0 hD hl hm hk
    have HC := fun (u : World) (g : Gr w u) => S_l03Compare W H D b1 b2 ca cb a b ls rs u (m1.gr g) (m2.gr g) hW0 hH0 hW hH hD hl hm
    obtain ⟨cs, hcs⟩ : ∃ cs, cs = gCost ls rs W H D := ⟨_, rfl⟩
    have hcl : cs.length = W * H * D := by rw [hcs]; unfold gCost; simp
    have hc2 : cs.length ≤ 2048 := by rw [hcl]; exact Nat.mul_le_mul hA hD
    rw [show lst (W * H * D) (gV3 W D (gSq ls rs W H)) = cs from hcs.symm] at HC
    have HWn := Lib.hid (fun (bv : Nat) (a' : Option Addr) (c' : Nat) (u : World) (m : MV u bv W H D a' cs.length c' cs) => S_l03Winners W H D bv a' c' cs u m hW hH hW0 hH0 hD0 hD hcl hc2)
    rw [show gCoarse 0 W H D ls rs = lst (W * H) (gWinAt cs D) by rw [hcs]; rfl, show ((0 + 1 : Nat) : Int) = 1 from rfl]
    have HC := Lib.hid HC
    clear hcs hcl hc2 m1 m2 hl hm hA
    go_enter Try.func61, Try.ntmps61
    go_wp2_with fail
    refine (HC.out _ (by (try show Gr _ _); repeat (with_reducible first | exact Gr.refl _ | refine Gr.drewN ?_ _ | refine Gr.grew ?_ _ _ | refine Gr.alloc ?_ _ | refine Gr.drew ?_))).mono ?_
    rintro e u1 ⟨⟨v1, rfl, ho⟩, g⟩
    obtain ⟨a1, c1, rfl, F1, -⟩ := ho.sl' cs.length rfl
    have B1 := Lib.hid (Blk.gr (show Blk _ w.heap.size [.int .i64 0, .int .i64 0, .slice none 0 0] 30 from (by repeat (with_reducible first | assumption | exact Blk.atNew (by simp) | refine Blk.alloc ?_ _ | refine Blk.grew ?_ _ _ | refine Blk.drewN ?_ _ | refine Blk.drew ?_))) g)
    have G1 := Lib.hid (Gr.trans (show Gr w _ from (by (try show Gr _ _); repeat (with_reducible first | exact Gr.refl _ | refine Gr.drewN ?_ _ | refine Gr.grew ?_ _ _ | refine Gr.alloc ?_ _ | refine Gr.drew ?_))) g)
    have F1 := Lib.hid F1
    clear ho g
    go_wp2_with fail
    refine (HWn.out u1.heap.size _ _ _ (MV.ofBlk (show Blk _ u1.heap.size [.int .i64 W, .int .i64 H, .int .i64 D, .slice a1 cs.length c1] 44 from (by repeat (with_reducible first | assumption | exact Blk.atNew (by simp) | refine Blk.alloc ?_ _ | refine Blk.grew ?_ _ _ | refine Blk.drewN ?_ _ | refine Blk.drew ?_))) (F1.out.keep (Gr.kp (by (try show Gr _ _); repeat (with_reducible first | exact Gr.refl _ | refine Gr.drewN ?_ _ | refine Gr.grew ?_ _ _ | refine Gr.alloc ?_ _ | refine Gr.drew ?_)))))).mono ?_
    rintro e u2 ⟨⟨v2, rfl, ho⟩, g⟩
    obtain ⟨a2, c2, rfl, -, -⟩ := ho.sl' (W * H) (by simp)
    have k2 := Gr.trans (show Gr u1 _ from (by (try show Gr _ _); repeat (with_reducible first | exact Gr.refl _ | refine Gr.drewN ?_ _ | refine Gr.grew ?_ _ _ | refine Gr.alloc ?_ _ | refine Gr.drew ?_))) g
    have B5 := Lib.hid (B1.out.gr k2)
    have Hb := Lib.hid B1.out.lt
    have Ho := Lib.hid ho
    have G2 := Lib.hid (G1.out.trans k2)
    have q0 := B5.out.cellv 0
    have q1 := B5.out.cellv 1
    have q2 := B5.out.cellv 2
    have z0 := B5.out.frozen 0
    have z1 := B5.out.frozen 1
    have z2 := B5.out.frozen 2
    clear ho g k2
    go_wp2
    refine bodyPost_ret (v := .agg #[.int .i64 W, .int .i64 H, .slice a2 (W * H) c2]) (by simp [results, Try.results61, go_sem, *]) rfl ⟨⟨_, rfl, ?_⟩, ?_⟩
    · have h := Ho.out.base (B' := u1.heap.size) (by simp)
      have hb := Hb.out
      exact FOwn.base (B := u1.heap.size) (by repeat (with_reducible first | assumption | refine FOwn.setOther ?_ _ (by simp <;> omega))) (by have := G1.out.size; omega)
    · have h := G2.out
      exact (by repeat (with_reducible first | assumption | refine Gr.setCell ?_ (by simp <;> omega) _))
  | succ k ih =>
    intro W H D b1 b2 ca cb a b ls rs w m1 m2 hW0 hH0 hW hH hA hD0 hD hl hm hk
    have HC := fun (u : World) (g : Gr w u) => S_l03Compare W H D b1 b2 ca cb a b ls rs u (m1.gr g) (m2.gr g) hW0 hH0 hW hH hD hl hm
    have HH1 := fun (u : World) (g : Gr w u) => S_l02Halve W H b1 ca a ls u (m1.gr g) hW0 hH0 hW hH hl
    have HH2 := fun (u : World) (g : Gr w u) => S_l02Halve W H b2 cb b rs u (m2.gr g) hW0 hH0 hW hH hm
    have hUV := half_ok hW0 hH0 hA
    obtain ⟨la, hla⟩ : ∃ la, la = gHalf ls W H := ⟨_, rfl⟩
    obtain ⟨lb, hlb⟩ : ∃ lb, lb = gHalf rs W H := ⟨_, rfl⟩
    rw [show grid ((W + 1) / 2) (gHalfAt ls W H) ((W + 1) / 2 * ((H + 1) / 2)) = la from hla.symm] at HH1
    rw [show grid ((W + 1) / 2) (gHalfAt rs W H) ((W + 1) / 2 * ((H + 1) / 2)) = lb from hlb.symm] at HH2
    have hal : la.length = (W + 1) / 2 * ((H + 1) / 2) := by rw [hla]; unfold gHalf; simp
    have hbl : lb.length = (W + 1) / 2 * ((H + 1) / 2) := by rw [hlb]; unfold gHalf; simp
    obtain ⟨e5, e6⟩ := half_div D (by omega)
    obtain ⟨cs, hcs⟩ : ∃ cs, cs = gCost ls rs W H D := ⟨_, rfl⟩
    have hcl : cs.length = W * H * D := by rw [hcs]; unfold gCost; simp
    have hc2 : cs.length ≤ 2048 := by rw [hcl]; exact Nat.mul_le_mul hA hD
    have hcp : 0 < cs.length := by rw [hcl]; exact Nat.mul_pos (Nat.mul_pos hW0 hH0) hD0
    rw [show lst (W * H * D) (gV3 W D (gSq ls rs W H)) = cs from hcs.symm] at HC
    obtain ⟨ms, hms⟩ : ∃ ms, ms = gCoarse k ((W + 1) / 2) ((H + 1) / 2) ((D + 1) / 2) la lb := ⟨_, rfl⟩
    have hml : ms.length = (W + 1) / 2 * ((H + 1) / 2) := by rw [hms]; exact gCoarse_length _ _ _ _ _ _
    obtain ⟨ts, hts⟩ : ∃ ts, ts = gTwice ms ((W + 1) / 2) ((H + 1) / 2) W H := ⟨_, rfl⟩
    have htl : ts.length = W * H := by rw [hts]; unfold gTwice; simp
    rw [show gCoarse (k + 1) W H D ls rs = lst (W * H) (gNearAt cs ts D 1) by rw [hts, hms, hla, hlb, hcs]; rfl]
    obtain ⟨L, hL⟩ : ∃ L : Int, L = ((k + 1 + 1 : Nat) : Int) := ⟨_, rfl⟩
    rw [← hL]
    have hIH := fun (u : World) (b1' b2' c1' c2' : Nat) (a1' a2' : Option Addr) (n1 : MP u b1' ((W + 1) / 2 : Nat) ((H + 1) / 2 : Nat) a1' la.length c1' la) (n2 : MP u b2' ((W + 1) / 2 : Nat) ((H + 1) / 2 : Nat) a2' lb.length c2' lb) =>
      ih ((W + 1) / 2) ((H + 1) / 2) ((D + 1) / 2) b1' b2' c1' c2' a1' a2' la lb u n1 n2 (by omega) (by omega) (by omega) (by omega) hUV (by omega) (by omega) hal hbl (by omega)
    rw [← hms, show ((k + 1 : Nat) : Int) = L - 1 by omega] at hIH
    have hDb := fun (u : World) (b' c' : Nat) (a' : Option Addr) (n : MP u b' ((W + 1) / 2 : Nat) ((H + 1) / 2 : Nat) a' ms.length c' ms) => S_l05Double ((W + 1) / 2) ((H + 1) / 2) W H b' c' a' ms u n (by omega) (by omega) (by omega) (by omega) hW hH hml
    rw [show grid W (gDouble ms ((W + 1) / 2) ((H + 1) / 2)) (W * H) = ts from hts.symm] at hDb
    have HWi := Lib.hid (fun (u : World) (bv b2' bx ox c' c'' : Nat) (a'' : Option Addr) (mv : MV u bv W H D (some ⟨bx, ox, none⟩) cs.length c' cs) (n : MP u b2' W H a'' ts.length c'' ts) => S_l05Winners W H D bv b2' bx ox c' c'' a'' cs ts 1 u mv n hW0 hH0 hW hH hD0 hD hcl htl (by decide) (by decide))
    obtain ⟨U, hU⟩ : ∃ U, U = (W + 1) / 2 := ⟨_, rfl⟩
    obtain ⟨V, hV⟩ : ∃ V, V = (H + 1) / 2 := ⟨_, rfl⟩
    obtain ⟨E, hE⟩ : ∃ E, E = (D + 1) / 2 := ⟨_, rfl⟩
    rw [← hU, ← hV] at HH1 HH2 hIH hDb
    rw [← hE] at hIH e5 e6
    have hE8 : E ≤ 8 := by omega
    have hU24 : U ≤ 24 := by omega
    have hV24 : V ≤ 24 := by omega
    have hL1 : ¬ L = 1 := by omega
    have hL2 : 2 ≤ L := by omega
    have hL3 : L ≤ 5 := by omega
    have HC := Lib.hid HC
    have HH1 := Lib.hid HH1
    have HH2 := Lib.hid HH2
    have HIH := Lib.hid hIH
    have HDb := Lib.hid hDb
    have M1 := Lib.hid m1
    have Hcp := Lib.hid hcp
    clear hla hlb hcs hms hts hcl hc2 hml htl hal hbl hU hV hE hL hIH hDb ih hUV m1 m2 hl hm hA hk hcp
    go_enter Try.func61, Try.ntmps61
    go_wp2_with fail
    refine (HC.out _ (by (try show Gr _ _); repeat (with_reducible first | exact Gr.refl _ | refine Gr.drewN ?_ _ | refine Gr.grew ?_ _ _ | refine Gr.alloc ?_ _ | refine Gr.drew ?_))).mono ?_
    rintro e u1 ⟨⟨v1, rfl, ho⟩, g⟩
    obtain ⟨a1, c1, rfl, F1, -⟩ := ho.sl' cs.length rfl
    obtain ⟨bx, ox, rfl⟩ := F1.ptr Hcp.out
    have B1 := Lib.hid (Blk.gr (show Blk _ w.heap.size [.int .i64 0, .int .i64 0, .slice none 0 0] 30 from (by repeat (with_reducible first | assumption | exact Blk.atNew (by simp) | refine Blk.alloc ?_ _ | refine Blk.grew ?_ _ _ | refine Blk.drewN ?_ _ | refine Blk.drew ?_))) g)
    have G1 := Lib.hid (Gr.trans (show Gr w _ from (by (try show Gr _ _); repeat (with_reducible first | exact Gr.refl _ | refine Gr.drewN ?_ _ | refine Gr.grew ?_ _ _ | refine Gr.alloc ?_ _ | refine Gr.drew ?_))) g)
    have F1 := Lib.hid F1
    clear ho g
    go_wp2_with fail
    refine (HH1.out _ (G1.out.trans (by (try show Gr _ _); repeat (with_reducible first | exact Gr.refl _ | refine Gr.drewN ?_ _ | refine Gr.grew ?_ _ _ | refine Gr.alloc ?_ _ | refine Gr.drew ?_)))).mono ?_
    rintro e u2 ⟨⟨v2, rfl, ho⟩, g⟩
    obtain ⟨a2, c2, rfl, F2, -⟩ := ho.sl' la.length rfl
    have BV := Lib.hid (Blk.gr (show Blk _ u1.heap.size [.int .i64 W, .int .i64 H, .int .i64 D, .slice (some ⟨bx, ox, none⟩) cs.length c1] 44 from (by repeat (with_reducible first | assumption | exact Blk.atNew (by simp) | refine Blk.alloc ?_ _ | refine Blk.grew ?_ _ _ | refine Blk.drewN ?_ _ | refine Blk.drew ?_))) g)
    have k2 := Gr.trans (show Gr u1 _ from (by (try show Gr _ _); repeat (with_reducible first | exact Gr.refl _ | refine Gr.drewN ?_ _ | refine Gr.grew ?_ _ _ | refine Gr.alloc ?_ _ | refine Gr.drew ?_))) g
    replace B1 := Lib.hid (B1.out.gr k2)
    replace F1 := Lib.hid (F1.out.keep k2.kp)
    have G2 := Lib.hid (G1.out.trans k2)
    have F2 := Lib.hid F2
    clear ho g k2
    go_wp2_with fail
    refine (HH2.out _ (G2.out.trans (by (try show Gr _ _); repeat (with_reducible first | exact Gr.refl _ | refine Gr.drewN ?_ _ | refine Gr.grew ?_ _ _ | refine Gr.alloc ?_ _ | refine Gr.drew ?_)))).mono ?_
    rintro e u3 ⟨⟨v3, rfl, ho⟩, g⟩
    obtain ⟨a3, c3, rfl, F3, -⟩ := ho.sl' lb.length rfl
    have BA := Lib.hid (Blk.gr (show Blk _ u2.heap.size [.int .i64 U, .int .i64 V, .slice a2 la.length c2] 53 from (by repeat (with_reducible first | assumption | exact Blk.atNew (by simp) | refine Blk.alloc ?_ _ | refine Blk.grew ?_ _ _ | refine Blk.drewN ?_ _ | refine Blk.drew ?_))) g)
    have k3 := Gr.trans (show Gr u2 _ from (by (try show Gr _ _); repeat (with_reducible first | exact Gr.refl _ | refine Gr.drewN ?_ _ | refine Gr.grew ?_ _ _ | refine Gr.alloc ?_ _ | refine Gr.drew ?_))) g
    replace B1 := Lib.hid (B1.out.gr k3)
    replace F1 := Lib.hid (F1.out.keep k3.kp)
    replace BV := Lib.hid (BV.out.gr k3)
    replace F2 := Lib.hid (F2.out.keep k3.kp)
    have G3 := Lib.hid (G2.out.trans k3)
    have F3 := Lib.hid F3
    clear ho g k3
    go_wp2_with fail
    refine (HIH.out _ u2.heap.size u3.heap.size _ _ _ _ (MP.ofBlk (BA.out.gr (by (try show Gr _ _); repeat (with_reducible first | exact Gr.refl _ | refine Gr.drewN ?_ _ | refine Gr.grew ?_ _ _ | refine Gr.alloc ?_ _ | refine Gr.drew ?_))) (F2.out.keep (Gr.kp (by (try show Gr _ _); repeat (with_reducible first | exact Gr.refl _ | refine Gr.drewN ?_ _ | refine Gr.grew ?_ _ _ | refine Gr.alloc ?_ _ | refine Gr.drew ?_))))) (MP.ofBlk (show Blk _ u3.heap.size [.int .i64 U, .int .i64 V, .slice a3 lb.length c3] 53 from (by repeat (with_reducible first | assumption | exact Blk.atNew (by simp) | refine Blk.alloc ?_ _ | refine Blk.grew ?_ _ _ | refine Blk.drewN ?_ _ | refine Blk.drew ?_))) (F3.out.keep (Gr.kp (by (try show Gr _ _); repeat (with_reducible first | exact Gr.refl _ | refine Gr.drewN ?_ _ | refine Gr.grew ?_ _ _ | refine Gr.alloc ?_ _ | refine Gr.drew ?_)))))).mono ?_
    rintro e u4 ⟨⟨v4, rfl, ho⟩, g⟩
    obtain ⟨a4, c4, rfl, F4, -⟩ := ho.sl' ms.length rfl
    have k4 := Gr.trans (show Gr u3 _ from (by (try show Gr _ _); repeat (with_reducible first | exact Gr.refl _ | refine Gr.drewN ?_ _ | refine Gr.grew ?_ _ _ | refine Gr.alloc ?_ _ | refine Gr.drew ?_))) g
    replace B1 := Lib.hid (B1.out.gr k4)
    replace F1 := Lib.hid (F1.out.keep k4.kp)
    replace BV := Lib.hid (BV.out.gr k4)
    have G4 := Lib.hid (G3.out.trans k4)
    have F4 := Lib.hid F4
    clear ho g k4 BA F2 F3
    go_upto_region 7 with fail
    obtain ⟨u5, hu5⟩ : ∃ u5, u5 = u4.alloc (.cells #[.int .i64 U, .int .i64 V, .slice a4 ms.length c4] 30) := ⟨_, rfl⟩
    rw [← hu5]
    have g5 : Gr u4 u5 := by rw [hu5]; exact (by (try show Gr _ _); repeat (with_reducible first | exact Gr.refl _ | refine Gr.drewN ?_ _ | refine Gr.grew ?_ _ _ | refine Gr.alloc ?_ _ | refine Gr.drew ?_))
    have BM := Lib.hid (show Blk u5 u4.heap.size [.int .i64 U, .int .i64 V, .slice a4 ms.length c4] 30 by rw [hu5]; exact (by repeat (with_reducible first | assumption | exact Blk.atNew (by simp) | refine Blk.alloc ?_ _ | refine Blk.grew ?_ _ _ | refine Blk.drewN ?_ _ | refine Blk.drew ?_)))
    have hz5 : u4.heap.size < u5.heap.size := BM.out.lt
    have F5 := Lib.hid (F4.out.keep g5.kp)
    have y0 := (M1.out.gr (G4.out.trans g5)).c0
    have y1 := (M1.out.gr (G4.out.trans g5)).c1
    have K5 := Lib.hid g5
    have HD5 := Lib.hid (fun (u : World) (g : Gr u5 u) => HDb.out u u4.heap.size c4 a4 (MP.ofBlk (BM.out.gr g) (F5.out.keep g.kp)))
    clear hu5 F4 g5
    go_wp2
    apply region_facts 10 [8, 9] (fun k v w' => (k = 8 → ∃ v', v = .agg #[.int .i64 W, .int .i64 H, v'] ∧ FOwn w' u5.heap.size 25 v' ts) ∧ (k = 9 → ∃ b, v = .pointer (some ⟨b, 0, none⟩) ∧ u5.heap.size ≤ b ∧ Blk w' b [.int .i64 0, .int .i64 0, .slice none 0 0] 30))
    case hm => kernel_rfl
    case hB => kernel_rfl
    case hR => rfl
    case hP => (intro k hk v w1 w2 hg hv; exact ⟨fun h => (by obtain ⟨v', e, ho⟩ := hv.1 h; exact ⟨v', e, ho.gr hg⟩), fun h => (by obtain ⟨b, e, hl, hb⟩ := hv.2 h; exact ⟨b, e, hl, hb.gr hg⟩)⟩)
    simp only [List.take_succ_cons, List.take_zero, List.drop_succ_cons, List.drop_zero]
    repeat (first
      | ((with_reducible apply wpF_call (f := 102) (S := fun v => ∃ a', v = .agg #[.int .i64 W, .int .i64 H, a'])); (case hw => rfl); (case hc => exact Try.call102); (case hv => ((conv => lhs; simp [Act.eval]); try rfl)); (case hS => (intro os m _; refine (HD5.out _ ⟨os, m, rfl⟩).mono ?_; rintro e w' ⟨⟨v', rfl, ho⟩, g⟩; exact ⟨_, rfl, g, fun _ => ⟨fun _ => ⟨v', rfl, ho.base (by simp)⟩, fun h => absurd h (by decide)⟩, v', rfl⟩)); (case hne => exact ⟨_, .slice none 0 0, rfl⟩); (rintro v ⟨vq, rfl⟩; simp only [Act.put, List.setIfInBounds_toArray, List.set_cons_succ, List.set_cons_zero]))
      | ((with_reducible apply wpF_new (c := #[.int .i64 0, .int .i64 0, .slice none 0 0]) (e := 30) (fun b => .pointer (some ⟨b, 0, none⟩))); (case hw => rfl); (case hx => (intro w; simp [execOp, go_sem]; done)); (case hF => (intro w' b hb hc _; exact ⟨fun h => absurd h (by decide), fun _ => ⟨b, rfl, by simpa using hb, ⟨hc⟩⟩⟩)); (intro bn hb; simp only [Act.put, List.setIfInBounds_toArray, List.set_cons_succ, List.set_cons_zero]))
      | (apply wpF_skip rfl (by decide); simp only [Act.put, List.setIfInBounds_toArray, List.set_cons_succ, List.set_cons_zero])
      | (apply wpF_nilCheck rfl (by decide) rfl; simp only [Act.put, List.setIfInBounds_toArray, List.set_cons_succ, List.set_cons_zero])
      | ((with_reducible apply wpF_fop); (case hw => rfl); (case hT => decide); (case hop => rfl); (case hx => rfl); (case hy => rfl); (case hA => (first | assumption | exact FE.ofInt _ _ | exact FE.lit (by decide +kernel))); (case hB => (first | assumption | exact FE.ofInt _ _ | exact FE.lit (by decide +kernel))); (intro r hr; simp only [Act.put, List.setIfInBounds_toArray, List.set_cons_succ, List.set_cons_zero]))
      | ((with_reducible apply wpF_fneg); (case hw => rfl); (case hT => decide); (case hx => rfl); (case hA => (first | assumption | exact FE.ofInt _ _ | exact FE.lit (by decide +kernel))); (intro r hr; simp only [Act.put, List.setIfInBounds_toArray, List.set_cons_succ, List.set_cons_zero]))
      | ((with_reducible apply wpF_fcmp); (case hw => rfl); (case hT => decide); (case hop => rfl); (case hx => rfl); (case hy => rfl); (case hA => (first | assumption | exact FE.ofInt _ _ | exact FE.lit (by decide +kernel))); (case hB => (first | assumption | exact FE.ofInt _ _ | exact FE.lit (by decide +kernel))); (case hb => (first | assumption | rfl)); simp only [Act.put, List.setIfInBounds_toArray, List.set_cons_succ, List.set_cons_zero])
      | (apply wpF_q rfl (by decide) rfl; intro K hK; go_big_quiet_op; go_big_quiet_on))
    with_reducible apply wpF_nil
    intro os m hf
    obtain ⟨v', ev, ho⟩ := hf.1.1 rfl
    obtain ⟨b', eb, hl, hb1⟩ := hf.2.1.2 rfl
    simp at ev eb
    subst ev eb
    obtain ⟨u, hu⟩ : ∃ u, u = World.grew u5 os m := ⟨_, rfl⟩
    rw [← hu] at ho hb1 ⊢
    have k6 : Gr u4 u := by rw [hu]; exact K5.out.trans ⟨os, m, rfl⟩
    clear hf hu hb
    obtain ⟨a6, c6, rfl, -, -⟩ := ho.sl' ts.length rfl
    have q0 := hb1.cellv 0
    have q1 := hb1.cellv 1
    have q2 := hb1.cellv 2
    have z0 := hb1.frozen 0
    have z1 := hb1.frozen 1
    have z2 := hb1.frozen 2
    have Hb := Lib.hid hb1
    have Ho := Lib.hid ho
    have K6 := Lib.hid k6
    have HL := Lib.hid hl
    clear hb1 ho k6 hl y0 y1
    go_upto_region 8 with fail
    obtain ⟨u7, hu7⟩ : ∃ u7, u7 = ((u.setCell ⟨bn, 0, none⟩ (.int .i64 W)).setCell ⟨bn, 1, none⟩ (.int .i64 H)).setCell ⟨bn, 2, none⟩ (.slice a6 ts.length c6) := ⟨_, rfl⟩
    rw [← hu7]
    have hl := HL.out
    have BT : Blk u7 bn [.int .i64 W, .int .i64 H, .slice a6 ts.length c6] 30 := by rw [hu7]; exact ((Hb.out.set (i := 0) _).set (i := 1) _).set (i := 2) _
    have k7 : Gr u4 u7 := by rw [hu7]; exact ((K6.out.setCell (by show u4.heap.size ≤ bn; omega) _).setCell (by show u4.heap.size ≤ bn; omega) _).setCell (by show u4.heap.size ≤ bn; omega) _
    have ho7 : FOwn u7 u5.heap.size 25 (.slice a6 ts.length c6) ts := by
      rw [hu7]
      have h1 := Ho.out.setBlk (i := 0) (u := .int .i64 W) Hb.out (by decide)
      have h2 := h1.setBlk (i := 1) (u := .int .i64 H) (Hb.out.set (i := 0) _) (by decide)
      exact h2.setBlk (i := 2) ((Hb.out.set (i := 0) _).set (i := 1) _) (by decide)
    obtain ⟨a6', c6', e7, F7, -⟩ := ho7.sl' ts.length rfl
    obtain ⟨rfl, rfl⟩ : a6 = a6' ∧ c6 = c6' := by simpa using e7
    have B7 := Lib.hid (B1.out.gr k7)
    have BV7 := Lib.hid (BV.out.gr k7)
    have F17 := Lib.hid (F1.out.keep k7.kp)
    have BT7 := Lib.hid BT
    have F77 := Lib.hid F7
    have G7 := Lib.hid (G4.out.trans k7)
    clear hu7 Hb K6 Ho q0 q1 q2 z0 z1 z2 BT ho7 e7 F7 k7 hl hz5 K5 B1 BV F1
    go_wp2_with fail
    refine (HWi.out _ u1.heap.size bn _ _ _ _ _ (MV.ofBlk BV7.out F17.out) (MP.ofBlk BT7.out F77.out)).mono ?_
    rintro e u8 ⟨⟨v8, rfl, ho⟩, g⟩
    obtain ⟨a8, c8, rfl, -, -⟩ := ho.sl' (W * H) (by simp)
    have B5 := Lib.hid (B7.out.gr g)
    have Hb := Lib.hid B7.out.lt
    have Ho := Lib.hid ho
    have G8 := Lib.hid (G7.out.trans g)
    have q0 := B5.out.cellv 0
    have q1 := B5.out.cellv 1
    have q2 := B5.out.cellv 2
    have z0 := B5.out.frozen 0
    have z1 := B5.out.frozen 1
    have z2 := B5.out.frozen 2
    clear ho g
    go_wp2
    refine bodyPost_ret (v := .agg #[.int .i64 W, .int .i64 H, .slice a8 (W * H) c8]) (by simp [results, Try.results61, go_sem, *]) rfl ⟨⟨_, rfl, ?_⟩, ?_⟩
    · have h := Ho.out
      have hb := Hb.out
      exact FOwn.base (B := u7.heap.size) (by repeat (with_reducible first | assumption | refine FOwn.setOther ?_ _ (by simp <;> omega))) (by have := G7.out.size; omega)
    · have h := G8.out
      exact (by repeat (with_reducible first | assumption | refine Gr.setCell ?_ (by simp <;> omega) _))
end Go.Proofs.Ytomlfdkcgaogcaa
