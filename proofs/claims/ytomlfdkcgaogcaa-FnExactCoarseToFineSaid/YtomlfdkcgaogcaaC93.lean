/- Contracts: CoarseToFine, the program. MAXREC -/
import Derived.Test.YtomlfdkcgaogcaaProg
import Derived.Test.YtomlfdkcgaogcaaC92
import Derived.Deep.DeepCutAuto
import Derived.Deep.RegionHeld3
namespace Go.Proofs.Ytomlfdkcgaogcaa
open Go.RowKit Go.Fx Go.Soft
set_option maxRecDepth 20000 in
set_option maxHeartbeats 8000000 in
theorem I_Ctf (k : Nat) : ∀ (W H D ca cb : Nat) (a b : Option Addr) (ls rs : List Nat) (w : World), FSl w a ls.length ls → FSl w b rs.length rs → 1 ≤ W → 1 ≤ H → W ≤ 24 → H ≤ 24 → W * H ≤ 256 → 1 ≤ D → D ≤ 8 → ls.length = W * H → rs.length = W * H → k ≤ 3 →
    Calls Try.prog 30 #[.agg #[.int .i64 W, .int .i64 H, .slice a ls.length ca], .agg #[.int .i64 W, .int .i64 H, .slice b rs.length cb], .int .i64 D, .int .i64 ((k + 1 : Nat) : Int)] w (PostP w W H true (gCoarse k W H D ls rs)) := by
  induction k with
  | zero =>
    intro W H D ca cb a b ls rs w fx fy hW0 hH0 hW hH hA hD0 hD hl hm hk
    have hS := gSize_mk hW0 hW hH0 hH hA
    have hI : gIn (D : Int) 1 8 = true := by unfold gIn; simp; omega
    have hn' : ls.length ≤ maxLen := by unfold maxLen; omega
    have hm' : rs.length ≤ maxLen := by unfold maxLen; omega
    have hT : gTwo W H W H ls.length rs.length = true := by simp [gTwo, gPic_mk hS hl, gPic_mk hS hm]
    have HQ := fun (u : World) (f1 : FSl u a ls.length ls) (f2 : FSl u b rs.length rs) => I_SquareVolume_ok W H D ca cb a b ls rs u f1 f2 hn' hm' hS hT hI hl hm
    obtain ⟨cs, hcs⟩ : ∃ cs, cs = gCost ls rs W H D := ⟨_, rfl⟩
    have hcl : cs.length = W * H * D := by rw [hcs]; unfold gCost; simp
    rw [show lst (W * H * D) (gV3 W D (gSq ls rs W H)) = cs from hcs.symm, ← hcl] at HQ
    have HWn := Lib.hid (fun (a' : Option Addr) (c' : Nat) (u : World) (f : FSl u a' cs.length cs) (hc : cs.length ≤ c') => I_WinnersOf_ok W H D c' a' cs u f hc (gVol_mk hS hI hcl))
    rw [show gCoarse 0 W H D ls rs = lst (W * H) (gWinAt cs D) by rw [hcs]; rfl, show ((0 + 1 : Nat) : Int) = 1 from rfl]
    have HQ := Lib.hid HQ
    have Fx := Lib.hid fx
    have Fy := Lib.hid fy
    have HL := Lib.hid (show gIn 1 1 4 = true by decide)
    clear hcs hcl hl hm hA fx fy hS hI hT hn' hm'
    go_enter Try.func30, Try.ntmps30
    go_wp2_with fail
    refine (HQ.out _ (Fx.out.keep (by (repeat (with_reducible first | exact Kp.refl _ | exact kp_same | exact kp_app1 | exact kp_app2 | exact kp_app3 | refine Kp.grew ?_ _ _ | refine Kp.drewN ?_ _ | refine Kp.drew ?_ | refine Kp.alloc ?_ _)))) (Fy.out.keep (by (repeat (with_reducible first | exact Kp.refl _ | exact kp_same | exact kp_app1 | exact kp_app2 | exact kp_app3 | refine Kp.grew ?_ _ _ | refine Kp.drewN ?_ _ | refine Kp.drew ?_ | refine Kp.alloc ?_ _))))).mono ?_
    rintro e u1 ⟨⟨a1, c1, rfl, ho⟩, g⟩
    have hcap := Lib.hid ho.cap
    obtain ⟨a1', c1', e1, F1, -⟩ := ho.sl' cs.length rfl
    obtain ⟨rfl, rfl⟩ : a1 = a1' ∧ c1 = c1' := by simpa using e1
    have B1 := Lib.hid (Blk.gr (show Blk _ (w.heap.size + 1 + 1) [.int .i64 0, .int .i64 0, .slice none 0 0] 30 from (by repeat (with_reducible first | assumption | exact Blk.atNew (by simp) | refine Blk.alloc ?_ _ | refine Blk.grew ?_ _ _ | refine Blk.drewN ?_ _ | refine Blk.drew ?_))) g)
    have G1 := Lib.hid (Gr.trans (show Gr w _ from (by (try show Gr _ _); repeat (with_reducible first | exact Gr.refl _ | refine Gr.drewN ?_ _ | refine Gr.grew ?_ _ _ | refine Gr.alloc ?_ _ | refine Gr.drew ?_))) g)
    have F1 := Lib.hid F1
    clear ho g e1
    go_wp2_with (first | (go_at_call 63; with_reducible refine (I_in _ _ _ _).mono ?_; rintro e w' ⟨rfl, hw⟩; (obtain rfl := hw.symm; rw [HL.out])))
    refine (HWn.out _ _ _ (F1.out.keep (Gr.kp (by (try show Gr _ _); repeat (with_reducible first | exact Gr.refl _ | refine Gr.drewN ?_ _ | refine Gr.grew ?_ _ _ | refine Gr.alloc ?_ _ | refine Gr.drew ?_)))) hcap.out).mono ?_
    rintro e u2 ⟨⟨a2, c2, rfl, ho⟩, g⟩
    have k2 := Gr.trans (show Gr u1 _ from (by (try show Gr _ _); repeat (with_reducible first | exact Gr.refl _ | refine Gr.drewN ?_ _ | refine Gr.grew ?_ _ _ | refine Gr.alloc ?_ _ | refine Gr.drew ?_))) g
    have B5 := Lib.hid (B1.out.gr k2)
    have Hb := Lib.hid B1.out.lt
    have Ho := Lib.hid ho
    have G2 := Lib.hid (G1.out.trans k2)
    have q0 := B5.out.cellv 0
    have q1 := B5.out.cellv 1
    have q2 := B5.out.cellv 2
    have z0 := B5.out.frozen 0
    have z1 := B5.out.frozen 1
    have z2 := B5.out.frozen 2
    clear ho g k2
    go_wp2
    refine bodyPost_ret (v := .tuple #[.agg #[.int .i64 W, .int .i64 H, .slice a2 (W * H) c2], .bool true]) (by simp [results, Try.results30, go_sem, *]) rfl ⟨⟨_, rfl, ?_⟩, ?_⟩
    · have h := Ho.out.base (B' := u1.heap.size) (by simp)
      have hb := Hb.out
      exact FOwn.base (B := u1.heap.size) (by repeat (with_reducible first | assumption | refine FOwn.setOther ?_ _ (by simp <;> omega))) (by have := G1.out.size; omega)
    · have h := G2.out
      exact (by repeat (with_reducible first | assumption | refine Gr.setCell ?_ (by simp <;> omega) _))
  | succ k ih =>
    intro W H D ca cb a b ls rs w fx fy hW0 hH0 hW hH hA hD0 hD hl hm hk
    have hS := gSize_mk hW0 hW hH0 hH hA
    have hI : gIn (D : Int) 1 8 = true := by unfold gIn; simp; omega
    have hn' : ls.length ≤ maxLen := by unfold maxLen; omega
    have hm' : rs.length ≤ maxLen := by unfold maxLen; omega
    have hT : gTwo W H W H ls.length rs.length = true := by simp [gTwo, gPic_mk hS hl, gPic_mk hS hm]
    have HQ := fun (u : World) (f1 : FSl u a ls.length ls) (f2 : FSl u b rs.length rs) => I_SquareVolume_ok W H D ca cb a b ls rs u f1 f2 hn' hm' hS hT hI hl hm
    have HH1 := fun (u : World) (f : FSl u a ls.length ls) => I_halved W H ca a ls u f hW0 hH0 hW hH hl
    have HH2 := fun (u : World) (f : FSl u b rs.length rs) => I_halved W H cb b rs u f hW0 hH0 hW hH hm
    have hUV := half_ok hW0 hH0 hA
    have hSh := gSize_mk (W := (W + 1) / 2) (H := (H + 1) / 2) (by omega) (by omega) (by omega) (by omega) hUV
    obtain ⟨la, hla⟩ : ∃ la, la = gHalf ls W H := ⟨_, rfl⟩
    obtain ⟨lb, hlb⟩ : ∃ lb, lb = gHalf rs W H := ⟨_, rfl⟩
    rw [show grid ((W + 1) / 2) (gHalfAt ls W H) ((W + 1) / 2 * ((H + 1) / 2)) = la from hla.symm] at HH1
    rw [show grid ((W + 1) / 2) (gHalfAt rs W H) ((W + 1) / 2 * ((H + 1) / 2)) = lb from hlb.symm] at HH2
    have hal : la.length = (W + 1) / 2 * ((H + 1) / 2) := by rw [hla]; unfold gHalf; simp
    have hbl : lb.length = (W + 1) / 2 * ((H + 1) / 2) := by rw [hlb]; unfold gHalf; simp
    obtain ⟨cs, hcs⟩ : ∃ cs, cs = gCost ls rs W H D := ⟨_, rfl⟩
    have hcl : cs.length = W * H * D := by rw [hcs]; unfold gCost; simp
    have hc2 : cs.length ≤ 2048 := by rw [hcl]; exact Nat.mul_le_mul hA hD
    rw [show lst (W * H * D) (gV3 W D (gSq ls rs W H)) = cs from hcs.symm, ← hcl] at HQ
    obtain ⟨ms, hms⟩ : ∃ ms, ms = gCoarse k ((W + 1) / 2) ((H + 1) / 2) ((D + 1) / 2) la lb := ⟨_, rfl⟩
    have hml : ms.length = (W + 1) / 2 * ((H + 1) / 2) := by rw [hms]; exact gCoarse_length _ _ _ _ _ _
    obtain ⟨ts, hts⟩ : ∃ ts, ts = gTwice ms ((W + 1) / 2) ((H + 1) / 2) W H := ⟨_, rfl⟩
    have htl : ts.length = W * H := by rw [hts]; unfold gTwice; simp
    rw [show gCoarse (k + 1) W H D ls rs = lst ts.length (gNearAt cs ts D 1) by rw [htl, hts, hms, hla, hlb, hcs]; rfl]
    obtain ⟨L, hL⟩ : ∃ L : Int, L = ((k + 1 + 1 : Nat) : Int) := ⟨_, rfl⟩
    rw [← hL]
    have HIH := fun (u : World) (c1' c2' : Nat) (a1' a2' : Option Addr) (f1 : FSl u a1' la.length la) (f2 : FSl u a2' lb.length lb) =>
      ih ((W + 1) / 2) ((H + 1) / 2) ((D + 1) / 2) c1' c2' a1' a2' la lb u f1 f2 (by omega) (by omega) (by omega) (by omega) hUV (by omega) (by omega) hal hbl (by omega)
    rw [← hms, show ((k + 1 : Nat) : Int) = L - 1 by omega] at HIH
    have HDb := fun (u : World) (c' : Nat) (a' : Option Addr) (f : FSl u a' ms.length ms) => I_DoubleMap ((W + 1) / 2 : Nat) ((H + 1) / 2 : Nat) W H a' c' ms u f (by omega)
    rw [show (gPic (((W + 1) / 2 : Nat) : Int) (((H + 1) / 2 : Nat) : Int) ms.length && gSize W H) = true by rw [gPic_mk hSh hml, hS]; rfl, show gVals true ((W : Int) * (H : Int)).toNat (gDoubleAt ms (((W + 1) / 2 : Nat) : Int) (((H + 1) / 2 : Nat) : Int) W) = ts by
      rw [hts, show ((W : Int) * (H : Int)).toNat = W * H by rw [← Int.natCast_mul]; exact Int.toNat_natCast _]
      exact lst_congr fun i _ => by unfold gDoubleAt; rw [Int.toNat_natCast, Int.toNat_natCast, Int.toNat_natCast], show gW true (W : Int) = (W : Int) from rfl, show gW true (H : Int) = (H : Int) from rfl] at HDb
    have HWi := fun (u : World) (c' c'' : Nat) (a' a'' : Option Addr) (f : FSl u a' cs.length cs) (hc : cs.length ≤ c') (f2 : FSl u a'' ts.length ts) => I_WinnersNear W H D W H 1 a' a'' c' c'' cs ts u f hc f2 (by omega) (by omega)
    rw [show gNearOk W H D W H cs.length ts.length 1 = true by simp [gNearOk, gVol_mk hS hI hcl, gPic_mk hS htl, gIn], show gW true (W : Int) = (W : Int) from rfl, show gW true (H : Int) = (H : Int) from rfl, show gVals true ts.length (gNearAt cs ts (D : Int) 1) = lst ts.length (gNearAt cs ts (D : Int) 1) from rfl] at HWi
    have HU := Lib.hid (fun (u : World) => I_halfUp D u (by omega))
    obtain ⟨U, hU⟩ : ∃ U, U = (W + 1) / 2 := ⟨_, rfl⟩
    obtain ⟨V, hV⟩ : ∃ V, V = (H + 1) / 2 := ⟨_, rfl⟩
    obtain ⟨E, hE⟩ : ∃ E, E = (D + 1) / 2 := ⟨_, rfl⟩
    rw [← hU, ← hV] at HH1 HH2 HIH HDb
    rw [← hE] at HIH HU
    have hL1 : ¬ L = 1 := by omega
    have hL2 : 2 ≤ L := by omega
    have hL3 : L ≤ 4 := by omega
    have EW := Lib.hid (show IntKind.i64.wrap (L - 1) = L - 1 from IntWalk.i64_in _ (by omega))
    have HQ := Lib.hid HQ
    have HH1 := Lib.hid HH1
    have HH2 := Lib.hid HH2
    have HIH := Lib.hid HIH
    have HDb := Lib.hid HDb
    have HWi := Lib.hid HWi
    have Fx := Lib.hid fx
    have Fy := Lib.hid fy
    have HL := Lib.hid (show gIn L 1 4 = true by unfold gIn; simp; omega)
    clear hla hlb hcs hms hts hcl hc2 hml htl hal hbl hU hV hE hL ih hUV hl hm hA hk fx fy hS hSh hI hT hn' hm'
    go_enter Try.func30, Try.ntmps30
    go_wp2_with fail
    refine (HQ.out _ (Fx.out.keep (by (repeat (with_reducible first | exact Kp.refl _ | exact kp_same | exact kp_app1 | exact kp_app2 | exact kp_app3 | refine Kp.grew ?_ _ _ | refine Kp.drewN ?_ _ | refine Kp.drew ?_ | refine Kp.alloc ?_ _)))) (Fy.out.keep (by (repeat (with_reducible first | exact Kp.refl _ | exact kp_same | exact kp_app1 | exact kp_app2 | exact kp_app3 | refine Kp.grew ?_ _ _ | refine Kp.drewN ?_ _ | refine Kp.drew ?_ | refine Kp.alloc ?_ _))))).mono ?_
    rintro e u1 ⟨⟨a1, c1, rfl, ho⟩, g⟩
    have hcap := Lib.hid ho.cap
    obtain ⟨a1', c1', e1, F1, -⟩ := ho.sl' cs.length rfl
    obtain ⟨rfl, rfl⟩ : a1 = a1' ∧ c1 = c1' := by simpa using e1
    have B4 := Lib.hid (Blk.gr (show Blk _ w.heap.size [.int .i64 W, .int .i64 H, .slice a ls.length ca] 53 from (by repeat (with_reducible first | assumption | exact Blk.atNew (by simp) | refine Blk.alloc ?_ _ | refine Blk.grew ?_ _ _ | refine Blk.drewN ?_ _ | refine Blk.drew ?_))) g)
    have B5 := Lib.hid (Blk.gr (show Blk _ (w.heap.size + 1) [.int .i64 W, .int .i64 H, .slice b rs.length cb] 53 from (by repeat (with_reducible first | assumption | exact Blk.atNew (by simp) | refine Blk.alloc ?_ _ | refine Blk.grew ?_ _ _ | refine Blk.drewN ?_ _ | refine Blk.drew ?_))) g)
    have B1 := Lib.hid (Blk.gr (show Blk _ (w.heap.size + 1 + 1) [.int .i64 0, .int .i64 0, .slice none 0 0] 30 from (by repeat (with_reducible first | assumption | exact Blk.atNew (by simp) | refine Blk.alloc ?_ _ | refine Blk.grew ?_ _ _ | refine Blk.drewN ?_ _ | refine Blk.drew ?_))) g)
    have G1 := Lib.hid (Gr.trans (show Gr w _ from (by (try show Gr _ _); repeat (with_reducible first | exact Gr.refl _ | refine Gr.drewN ?_ _ | refine Gr.grew ?_ _ _ | refine Gr.alloc ?_ _ | refine Gr.drew ?_))) g)
    have F1 := Lib.hid F1
    clear ho g e1
    go_upto_region 6 with (first | (go_at_call 63; with_reducible refine (I_in _ _ _ _).mono ?_; rintro e w' ⟨rfl, hw⟩; (obtain rfl := hw.symm; rw [HL.out])))
    obtain ⟨u9, hu9⟩ : ∃ u9, u9 = u1.alloc (.cells #[.int .i64 W, .int .i64 H, .int .i64 D, .slice a1 cs.length c1] 44) := ⟨_, rfl⟩
    rw [← hu9]
    have g9 : Gr u1 u9 := by rw [hu9]; exact (by (try show Gr _ _); repeat (with_reducible first | exact Gr.refl _ | refine Gr.drewN ?_ _ | refine Gr.grew ?_ _ _ | refine Gr.alloc ?_ _ | refine Gr.drew ?_))
    have BV := Lib.hid (show Blk u9 u1.heap.size [.int .i64 W, .int .i64 H, .int .i64 D, .slice a1 cs.length c1] 44 by rw [hu9]; exact (by repeat (with_reducible first | assumption | exact Blk.atNew (by simp) | refine Blk.alloc ?_ _ | refine Blk.grew ?_ _ _ | refine Blk.drewN ?_ _ | refine Blk.drew ?_)))
    have hz9 : u1.heap.size < u9.heap.size := BV.out.lt
    replace B4 := Lib.hid (B4.out.gr g9)
    replace B5 := Lib.hid (B5.out.gr g9)
    replace B1 := Lib.hid (B1.out.gr g9)
    replace F1 := Lib.hid (F1.out.keep g9.kp)
    have G9 := Lib.hid (G1.out.trans g9)
    have Fx9 := Lib.hid (Fx.out.keep (G1.out.trans g9).kp)
    have Fy9 := Lib.hid (Fy.out.keep (G1.out.trans g9).kp)
    clear hu9 g9
    have x0 := B4.out.cellv 0
    have x1 := B4.out.cellv 1
    have x2 := B4.out.cellv 2
    have x3 := B5.out.cellv 0
    have x4 := B5.out.cellv 1
    have x5 := B5.out.cellv 2
    go_cut [11, 12] (fun v11 v12 wq => v11 = .bool true ∧ ∃ bt am cm, v12 = .pointer (some ⟨bt, 0, none⟩) ∧ u9.heap.size ≤ bt ∧ Blk wq bt [.int .i64 U, .int .i64 V, .slice am ms.length cm] 30 ∧ FOwn wq 0 25 (.slice am ms.length cm) ms ∧ Gr u9 wq)
    case first =>
      go_region_held3 (fun w' => w'.cell? ⟨w.heap.size, 0, none⟩ = some (.int .i64 W) ∧ w'.cell? ⟨w.heap.size, 1, none⟩ = some (.int .i64 H) ∧ w'.cell? ⟨w.heap.size, 2, none⟩ = some (.slice a ls.length ca) ∧ w'.cell? ⟨w.heap.size + 1, 0, none⟩ = some (.int .i64 W) ∧ w'.cell? ⟨w.heap.size + 1, 1, none⟩ = some (.int .i64 H) ∧ w'.cell? ⟨w.heap.size + 1, 2, none⟩ = some (.slice b rs.length cb))
      (first | (simp (maxDischargeDepth := 12) [go_sem]; done) | (simp (maxDischargeDepth := 12) [go_sem, *]; done)) (first
      | (go_at_call 64; (with_reducible refine (HH1.out _ (Fx9.out.keep (Gr.kp (by (try show Gr _ _); repeat (with_reducible first | exact Gr.refl _ | refine Gr.drewN ?_ _ | refine Gr.grew ?_ _ _ | refine Gr.alloc ?_ _ | refine Gr.drew ?_))))).mono ?_); rintro e u2 ⟨⟨v2, rfl, ho⟩, g⟩; obtain ⟨a2, c2, rfl, F2, -⟩ := ho.sl' la.length rfl; (try have BX := Lib.hid (Blk.gr (Blk.atNew (by simp) : Blk _ u9.heap.size [.int .i64 0, .int .i64 0, .slice none 0 0] 30) g)); have k2 := Gr.trans (show Gr u9 _ from (by (try show Gr _ _); repeat (with_reducible first | exact Gr.refl _ | refine Gr.drewN ?_ _ | refine Gr.grew ?_ _ _ | refine Gr.alloc ?_ _ | refine Gr.drew ?_))) g; have s2 := k2.size; have F2 := Lib.hid F2; have K2 := Lib.hid k2; have y0 := (B4.out.gr k2).cellv 0; have y1 := (B4.out.gr k2).cellv 1; have y2 := (B4.out.gr k2).cellv 2; have y3 := (B5.out.gr k2).cellv 0; have y4 := (B5.out.gr k2).cellv 1; have y5 := (B5.out.gr k2).cellv 2; clear ho g k2)
      | (go_at_call 64; (with_reducible refine (HH2.out _ (Fy9.out.keep (Gr.kp (K2.out.trans (by (try show Gr _ _); repeat (with_reducible first | exact Gr.refl _ | refine Gr.drewN ?_ _ | refine Gr.grew ?_ _ _ | refine Gr.alloc ?_ _ | refine Gr.drew ?_)))))).mono ?_); rintro e u3 ⟨⟨v3, rfl, ho⟩, g⟩; obtain ⟨a3, c3, rfl, F3, -⟩ := ho.sl' lb.length rfl; (first | (replace BX := Lib.hid (BX.out.gr (Gr.trans (show Gr u2 _ from (by (try show Gr _ _); repeat (with_reducible first | exact Gr.refl _ | refine Gr.drewN ?_ _ | refine Gr.grew ?_ _ _ | refine Gr.alloc ?_ _ | refine Gr.drew ?_))) g))) | (have BX := Lib.hid (Blk.gr (Blk.atNew (by simp) : Blk _ u2.heap.size [.int .i64 0, .int .i64 0, .slice none 0 0] 30) g)) | skip); have k3 := Gr.trans (show Gr u2 _ from (by (try show Gr _ _); repeat (with_reducible first | exact Gr.refl _ | refine Gr.drewN ?_ _ | refine Gr.grew ?_ _ _ | refine Gr.alloc ?_ _ | refine Gr.drew ?_))) g; have F3 := Lib.hid F3; have F2' := Lib.hid (F2.out.keep k3.kp); have K3 := Lib.hid (K2.out.trans k3); have s3 := k3.size; have y0 := (B4.out.gr K3.out).cellv 0; have y1 := (B4.out.gr K3.out).cellv 1; have y2 := (B4.out.gr K3.out).cellv 2; have y3 := (B5.out.gr K3.out).cellv 0; have y4 := (B5.out.gr K3.out).cellv 1; have y5 := (B5.out.gr K3.out).cellv 2; clear ho g k3)
      | (go_at_call 65; (with_reducible refine (HU.out _).mono ?_); rintro e w' ⟨rfl, hw⟩; obtain rfl := hw.symm)
      | (go_at_call 30; (try rw [EW.out]); (with_reducible refine (HIH.out _ _ _ _ _ (F2'.out.keep (Gr.kp (by (try show Gr _ _); repeat (with_reducible first | exact Gr.refl _ | refine Gr.drewN ?_ _ | refine Gr.grew ?_ _ _ | refine Gr.alloc ?_ _ | refine Gr.drew ?_)))) (F3.out.keep (Gr.kp (by (try show Gr _ _); repeat (with_reducible first | exact Gr.refl _ | refine Gr.drewN ?_ _ | refine Gr.grew ?_ _ _ | refine Gr.alloc ?_ _ | refine Gr.drew ?_))))).mono ?_); rintro e u4 ⟨⟨v4, rfl, ho⟩, g⟩; obtain ⟨a4, c4, rfl, F4, -⟩ := ho.sl' ms.length rfl; (first | (replace BX := Lib.hid (BX.out.gr (Gr.trans (show Gr u3 _ from (by (try show Gr _ _); repeat (with_reducible first | exact Gr.refl _ | refine Gr.drewN ?_ _ | refine Gr.grew ?_ _ _ | refine Gr.alloc ?_ _ | refine Gr.drew ?_))) g))) | (have BX := Lib.hid (Blk.gr (Blk.atNew (by simp) : Blk _ u3.heap.size [.int .i64 0, .int .i64 0, .slice none 0 0] 30) g)) | skip); have k4 := Gr.trans (show Gr u3 _ from (by (try show Gr _ _); repeat (with_reducible first | exact Gr.refl _ | refine Gr.drewN ?_ _ | refine Gr.grew ?_ _ _ | refine Gr.alloc ?_ _ | refine Gr.drew ?_))) g; have K4 := Lib.hid (K3.out.trans k4); have s4 := k4.size; have lt4 : w.heap.size < u9.heap.size := B4.out.lt; have lt5 : w.heap.size + 1 < u9.heap.size := B5.out.lt; have n0a : ¬ w.heap.size = u9.heap.size := (by omega); have n0b : ¬ w.heap.size + 1 = u9.heap.size := (by omega); have n0c : ¬ u9.heap.size = w.heap.size := (by omega); have n0d : ¬ u9.heap.size = w.heap.size + 1 := (by omega); have n1a : ¬ w.heap.size = u2.heap.size := (by omega); have n1b : ¬ w.heap.size + 1 = u2.heap.size := (by omega); have n1c : ¬ u2.heap.size = w.heap.size := (by omega); have n1d : ¬ u2.heap.size = w.heap.size + 1 := (by omega); have n2a : ¬ w.heap.size = u3.heap.size := (by omega); have n2b : ¬ w.heap.size + 1 = u3.heap.size := (by omega); have n2c : ¬ u3.heap.size = w.heap.size := (by omega); have n2d : ¬ u3.heap.size = w.heap.size + 1 := (by omega); have Ho4 := Lib.hid (ho.base (Nat.zero_le _)); have y0 := (B4.out.gr K4.out).cellv 0; have y1 := (B4.out.gr K4.out).cellv 1; have y2 := (B4.out.gr K4.out).cellv 2; have y3 := (B5.out.gr K4.out).cellv 0; have y4 := (B5.out.gr K4.out).cellv 1; have y5 := (B5.out.gr K4.out).cellv 2; (try (have j0 := BX.out.cellv 0; have j1 := BX.out.cellv 1; have j2 := BX.out.cellv 2; have z0 := BX.out.frozen 0; have z1 := BX.out.frozen 1; have z2 := BX.out.frozen 2)); clear ho g k4))
      all_goals
        go_wp2
        go_meet
        refine ⟨rfl, _, a4, c4, rfl, ?_, ?_, ?_, ?_⟩
        · first | exact Nat.le_refl _ | omega
        · first | exact Blk.atNew (by simp) | exact ((BX.out.set (i := 0) _).set (i := 1) _).set (i := 2) _
        · first | exact Ho4.out.gr ((Gr.refl _).alloc _) | exact ((Ho4.out.setBlk (i := 0) (u := .int .i64 U) BX.out (by decide)).setBlk (i := 1) (u := .int .i64 V) (BX.out.set (i := 0) _) (by decide)).setBlk (i := 2) ((BX.out.set (i := 0) _).set (i := 1) _) (by decide)
        · first | exact K4.out.alloc _ | (refine ((K4.out.setCell ?_ _).setCell ?_ _).setCell ?_ _ <;> first | exact Nat.le_refl _ | (dsimp only; omega))
    case rest =>
      obtain ⟨rfl, bt, am, cm, rfl, hbt, bm, fo, gq⟩ := hcut
      obtain ⟨am', cm', e1, Fm, -⟩ := fo.sl' ms.length rfl
      obtain ⟨rfl, rfl⟩ : am = am' ∧ cm = cm' := by simpa using e1
      have BM := Lib.hid bm
      have Fm := Lib.hid Fm
      have GQ := Lib.hid gq
      have p0 := bm.cellv 0
      have p1 := bm.cellv 1
      have p2 := bm.cellv 2
      have y0 := (B4.out.gr gq).cellv 0
      have y1 := (B4.out.gr gq).cellv 1
      clear bm fo gq e1 x0 x1 x2 x3 x4 x5
      go_wp2_with fail
      refine (HDb.out _ _ _ Fm.out).mono ?_
      rintro e u5 ⟨⟨v5, rfl, ho⟩, g⟩
      obtain ⟨a5, c5, rfl, -, -⟩ := ho.sl' ts.length rfl
      replace BM := Lib.hid (BM.out.gr g)
      have k5 := GQ.out.trans g
      have q0 := BM.out.cellv 0
      have q1 := BM.out.cellv 1
      have q2 := BM.out.cellv 2
      have z0 := BM.out.frozen 0
      have z1 := BM.out.frozen 1
      have z2 := BM.out.frozen 2
      have Ho5 := Lib.hid ho
      have K5 := Lib.hid k5
      clear ho g k5 p0 p1 p2 y0 y1
      go_upto_region 10 with fail
      obtain ⟨u6, hu6⟩ : ∃ u6, u6 = ((u5.setCell ⟨bt, 0, none⟩ (.int .i64 W)).setCell ⟨bt, 1, none⟩ (.int .i64 H)).setCell ⟨bt, 2, none⟩ (.slice a5 ts.length c5) := ⟨_, rfl⟩
      rw [← hu6]
      have BT : Blk u6 bt [.int .i64 W, .int .i64 H, .slice a5 ts.length c5] 30 := by rw [hu6]; exact ((BM.out.set (i := 0) _).set (i := 1) _).set (i := 2) _
      have k6 : Gr u9 u6 := by rw [hu6]; exact ((K5.out.setCell hbt _).setCell hbt _).setCell hbt _
      have ho6 : FOwn u6 0 25 (.slice a5 ts.length c5) ts := by
        rw [hu6]
        have h1 := (Ho5.out.base (Nat.zero_le _)).setBlk (i := 0) (u := .int .i64 W) BM.out (by decide)
        have h2 := h1.setBlk (i := 1) (u := .int .i64 H) (BM.out.set (i := 0) _) (by decide)
        exact h2.setBlk (i := 2) ((BM.out.set (i := 0) _).set (i := 1) _) (by decide)
      obtain ⟨a5', c5', e7, F7, -⟩ := ho6.sl' ts.length rfl
      obtain ⟨rfl, rfl⟩ : a5 = a5' ∧ c5 = c5' := by simpa using e7
      have B16 := Lib.hid (B1.out.gr k6)
      have BV6 := Lib.hid (BV.out.gr k6)
      have F16 := Lib.hid (F1.out.keep k6.kp)
      have F77 := Lib.hid F7
      have G6 := Lib.hid (G9.out.trans k6)
      have p0 := BT.cellv 0
      have p1 := BT.cellv 1
      have p2 := BT.cellv 2
      have r0 := BV6.out.cellv 0
      have r1 := BV6.out.cellv 1
      have r2 := BV6.out.cellv 2
      have r3 := BV6.out.cellv 3
      clear hu6 BM K5 Ho5 q0 q1 q2 z0 z1 z2 BT ho6 e7 F7 k6 B1 BV F1 B4 B5
      go_wp2_with fail
      refine (HWi.out _ _ _ _ _ F16.out hcap.out F77.out).mono ?_
      rintro e u8 ⟨⟨v8, rfl, ho⟩, g⟩
      obtain ⟨a8, c8, rfl, -, -⟩ := ho.sl' ts.length (by simp)
      have B8 := Lib.hid (B16.out.gr g)
      have Hb := Lib.hid B16.out.lt
      have Ho := Lib.hid ho
      have G8 := Lib.hid (G6.out.trans g)
      have q0 := B8.out.cellv 0
      have q1 := B8.out.cellv 1
      have q2 := B8.out.cellv 2
      have z0 := B8.out.frozen 0
      have z1 := B8.out.frozen 1
      have z2 := B8.out.frozen 2
      clear ho g p0 p1 p2 r0 r1 r2 r3
      go_wp2
      refine bodyPost_ret (v := .tuple #[.agg #[.int .i64 W, .int .i64 H, .slice a8 ts.length c8], .bool true]) (by simp [results, Try.results30, go_sem, *]) rfl ⟨⟨_, rfl, ?_⟩, ?_⟩
      · have h := Ho.out
        have hb := Hb.out
        exact FOwn.base (B := u6.heap.size) (by repeat (with_reducible first | assumption | refine FOwn.setOther ?_ _ (by simp <;> omega))) (by have := G6.out.size; omega)
      · have h := G8.out
        exact (by repeat (with_reducible first | assumption | refine Gr.setCell ?_ (by simp <;> omega) _))
end Go.Proofs.Ytomlfdkcgaogcaa
