/- Contracts: DropPatches. MAXREC -/
import Derived.Test.YtomlfdkcgaogcaaProg
import Derived.Test.YtomlfdkcgaogcaaC80
namespace Go.Fx
open Go Go.Soft Go.RowKit
theorem gAdd_below {h : Int → Int → Bool} {num c m : Int} (hm : num < m) : ∀ (js : List Int) (s : List Int × List Int), (∀ v ∈ s.1, v < m) → ∀ v ∈ (gAdd h num c js s).1, v < m
  | [], _, p => p
  | j :: js, s, p => by
    unfold gAdd
    refine gAdd_below hm js _ ?_
    split
    · intro v hv
      rcases List.mem_or_eq_of_mem_set hv with h | rfl
      · exact p v h
      · exact hm
    · exact p
theorem gFlood_below {h : Int → Int → Bool} {nb : Int → List Int} {num m : Int} (hm : num < m) : ∀ (f k : Nat) (s : List Int × List Int), (∀ v ∈ s.1, v < m) → ∀ v ∈ (gFlood h nb num f k s).1, v < m
  | 0, _, _, p => p
  | f + 1, k, s, p => by
    unfold gFlood
    split
    · exact gFlood_below hm f _ _ (gAdd_below hm _ _ p)
    · exact p
theorem gPat_below {hole : Nat → Bool} {h : Int → Int → Bool} {nb : Int → List Int} {n : Nat} : ∀ k, ∀ v ∈ (gPat hole h nb n k).1, v < ((gPat hole h nb n k).2.length : Int)
  | 0 => by
    intro v hv
    unfold gPat at hv ⊢
    have := List.eq_of_mem_replicate hv
    simp; omega
  | k + 1 => by
    have ih := gPat_below (hole := hole) (h := h) (nb := nb) (n := n) k
    unfold gPat
    simp only
    split
    · exact ih
    · refine gFlood_below (by simp; omega) _ _ _ ?_
      intro v hv
      rcases List.mem_or_eq_of_mem_set hv with h | rfl
      · have := ih v h
        simp; omega
      · simp; omega
/-- A cell of a patch of less than L cells is a hole. -/
def gDropAt (O S : List Int) (L : Int) (x i : Nat) : Nat := if 0 ≤ O.getD i 0 ∧ S.getD (O.getD i 0).toNat 0 < L then 3212836864 else x
end Go.Fx
namespace Go.Proofs.Ytomlfdkcgaogcaa
open Go.RowKit Go.Fx Go.Soft
theorem gPats_facts {W H n : Nat} (N : Nat) (xs : List Nat) (hl : n = W * H) : (gPats W H N xs (W * H)).1.length = n ∧ ∀ i, i < n → (gPats W H N xs (W * H)).1.getD i 0 < ((gPats W H N xs (W * H)).2.length : Int) := by
  subst hl
  have h := gPat_len (hole := fun i => gHole (xs.getD i 0)) (h := gHg xs N) (nb := gNb W H) (n := W * H) (fun c h0 h1 j hj => gNb_in h0 h1 hj) (W * H) (Nat.le_refl _)
  refine ⟨by unfold gPats; exact h.1, fun i hi => ?_⟩
  unfold gPats
  refine gPat_below (W * H) _ ?_
  rw [List.getD_eq_getElem?_getD, List.getElem?_eq_getElem (by rw [h.1]; exact hi)]
  exact List.getElem_mem _
theorem gPatch_at {W H : Nat} (N : Nat) (xs : List Nat) (h : gPic W H xs.length = true) : gPatchL W H N xs = (gPats W H N xs (W * H)).1 ∧ gPatchI W H N xs = (gPats W H N xs (W * H)).2 := by
  unfold gPatchL gPatchI
  rw [h]
  simp
set_option maxRecDepth 20000 in
set_option maxHeartbeats 2000000 in
theorem S_DropPatches (W H : Int) (a : Option Addr) (ca near N : Nat) (L : Int) (xs : List Nat) (w : World) (fx : FSl w a xs.length xs) (hn : xs.length ≤ 1048576) (hN : FE .f32 near N) :
    Calls Try.prog 18 #[.agg #[.int .i64 W, .int .i64 H, .slice a xs.length ca], .float .f32 near, .int .i64 L] w
      (PostP w (gW (gPic W H xs.length) W) (gW (gPic W H xs.length) H) (gPic W H xs.length) (gVals (gPic W H xs.length) xs.length fun i => gDropAt (gPatchL W H N xs) (gPatchI W H N xs) L (xs.getD i 0) i)) := by
  have hn' : xs.length ≤ maxLen := by unfold maxLen; omega
  have Fx := Lib.hid fx
  clear fx
  cases hT : gPic W H xs.length
  · go_enter Try.func18, Try.ntmps18
    go_wp2_with (first
      | (go_at_call 39; with_reducible refine (S_l03IsMap W H a _ ca _ _ _ hn' (by first | (simp (maxDischargeDepth := 12) [go_sem]; done) | (simp (maxDischargeDepth := 12) [go_sem, *]; done)) (by first | (simp (maxDischargeDepth := 12) [go_sem]; done) | (simp (maxDischargeDepth := 12) [go_sem, *]; done)) (by first | (simp (maxDischargeDepth := 12) [go_sem]; done) | (simp (maxDischargeDepth := 12) [go_sem, *]; done))).mono ?_; rintro e w' ⟨rfl, n, rfl⟩; rw [hT]))
    exact bodyPost_ret (v := .tuple #[.agg #[.int .i64 0, .int .i64 0, .slice none 0 0], .bool false]) (by simp [results, Try.results18, go_sem]) rfl ⟨⟨_, rfl, FOwn.nil _ _ _⟩, (by (try show Gr _ _); repeat (with_reducible first | exact Gr.refl _ | refine Gr.drewN ?_ _ | refine Gr.grew ?_ _ _ | refine Gr.alloc ?_ _ | refine Gr.drew ?_))⟩
  · have hp1 := (gPic_true hT).2
    obtain ⟨s1, s2, s3, s4, s5, s6⟩ := gSize_true (gPic_true hT).1
    obtain ⟨W, rfl⟩ := Int.eq_ofNat_of_zero_le (show 0 ≤ W by omega)
    obtain ⟨H, rfl⟩ := Int.eq_ofNat_of_zero_le (show 0 ≤ H by omega)
    have hl : xs.length = W * H := by exact_mod_cast hp1
    have hpos : 0 < xs.length := by omega
    have HC := Lib.hid (fun (b : Nat) (u : World) m => S_l05Patches W H b ca near N a xs u m (by omega) (by omega) (by omega) hl hN)
    obtain ⟨f1, f2⟩ := gPats_facts (W := W) (H := H) N xs hl
    obtain ⟨O, hO⟩ : ∃ O, O = (gPats W H N xs (W * H)).1 := ⟨_, rfl⟩
    obtain ⟨S, hS⟩ : ∃ S, S = (gPats W H N xs (W * H)).2 := ⟨_, rfl⟩
    rw [(gPatch_at N xs hT).1, (gPatch_at N xs hT).2]
    rw [← hO] at HC f1 f2 ⊢
    rw [← hS] at HC f2 ⊢
    have F1 := Lib.hid f1
    have F2 := Lib.hid f2
    have hn5 : xs.length ≤ 576 := (by rw [hl]; exact Nat.mul_le_mul (show W ≤ 24 by omega) (show H ≤ 24 by omega) : xs.length ≤ 24 * 24)
    clear hO hS hp1 hl s5 s6 f1 f2
    go_enter Try.func18, Try.ntmps18
    go_wp2_with (first
      | (go_at_call 39; with_reducible refine (S_l03IsMap W H a _ ca _ _ _ hn' (by first | (simp (maxDischargeDepth := 12) [go_sem]; done) | (simp (maxDischargeDepth := 12) [go_sem, *]; done)) (by first | (simp (maxDischargeDepth := 12) [go_sem]; done) | (simp (maxDischargeDepth := 12) [go_sem, *]; done)) (by first | (simp (maxDischargeDepth := 12) [go_sem]; done) | (simp (maxDischargeDepth := 12) [go_sem, *]; done))).mono ?_; rintro e w' ⟨rfl, n, rfl⟩; rw [hT])
      | (go_at_call 46; refine (S_l05Own W H _ ca _ xs _ ⟨(by first | (simp (maxDischargeDepth := 12) [go_sem]; done) | (simp (maxDischargeDepth := 12) [go_sem, *]; done)), (by first | (simp (maxDischargeDepth := 12) [go_sem]; done) | (simp (maxDischargeDepth := 12) [go_sem, *]; done)), (by first | (simp (maxDischargeDepth := 12) [go_sem]; done) | (simp (maxDischargeDepth := 12) [go_sem, *]; done)), Fx.out.keep (by (repeat (with_reducible first | exact Kp.refl _ | exact kp_same | exact kp_app1 | exact kp_app2 | exact kp_app3 | refine Kp.grew ?_ _ _ | refine Kp.drewN ?_ _ | refine Kp.drew ?_ | refine Kp.alloc ?_ _)))⟩ hpos hn).mono ?_; rintro e w1 ⟨⟨v0, rfl, ho0⟩, os0, m0, rfl⟩; obtain ⟨g, cg, rfl, -⟩ := ho0.ptr hpos; have Ho0 := Lib.hid ho0; clear ho0)
      | (go_at_call 40; refine (HC.out w.heap.size _ ⟨(by first | (simp (maxDischargeDepth := 12) [go_sem]; done) | (simp (maxDischargeDepth := 12) [go_sem, *]; done)), (by first | (simp (maxDischargeDepth := 12) [go_sem]; done) | (simp (maxDischargeDepth := 12) [go_sem, *]; done)), (by first | (simp (maxDischargeDepth := 12) [go_sem]; done) | (simp (maxDischargeDepth := 12) [go_sem, *]; done)), Fx.out.keep (by (repeat (with_reducible first | exact Kp.refl _ | exact kp_same | exact kp_app1 | exact kp_app2 | exact kp_app3 | refine Kp.grew ?_ _ _ | refine Kp.drewN ?_ _ | refine Kp.drew ?_ | refine Kp.alloc ?_ _)))⟩).mono ?_; rintro e w1 ⟨⟨v, u, rfl, h1, h2⟩, hg1⟩; have hgl := (Ho0.out.block rfl).2; obtain ⟨av, cv, rfl, iv, -⟩ := IOwn.sl' h1.own xs.length F1.out; obtain ⟨au, cu, rfl, iu, -⟩ := IOwn.sl h2.own; have B0 := Lib.hid (Blk.gr (show Blk _ w.heap.size [.int .i64 W, .int .i64 H, .slice a xs.length ca] 30 from (by repeat (with_reducible first | assumption | exact Blk.atNew (by simp) | refine Blk.alloc ?_ _ | refine Blk.grew ?_ _ _ | refine Blk.drewN ?_ _ | refine Blk.drew ?_))) hg1); have B1 := Lib.hid (Blk.gr (show Blk _ (w.heap.size + 1) [.int .i64 0, .int .i64 0, .slice none 0 0] 30 from (by repeat (with_reducible first | assumption | exact Blk.atNew (by simp) | refine Blk.alloc ?_ _ | refine Blk.grew ?_ _ _ | refine Blk.drewN ?_ _ | refine Blk.drew ?_))) hg1); have B2 := Lib.hid (Blk.gr (show Blk _ (w.heap.size + 1 + 1 + os0.size) [.int .i64 W, .int .i64 H, .slice (some ⟨g, 0, none⟩) xs.length cg] 30 from (by repeat (with_reducible first | assumption | exact Blk.atNew (by simp) | refine Blk.alloc ?_ _ | refine Blk.grew ?_ _ _ | refine Blk.drewN ?_ _ | refine Blk.drew ?_))) hg1); have HF := Lib.hid (FOwn.gr (by have h2 := Ho0.out.base (B' := w.heap.size + 1 + 1) (by simp <;> omega); (try simp only [grew_drewN] at h2); exact h2.gr (by (try show Gr _ _); repeat (with_reducible first | exact Gr.refl _ | refine Gr.drewN ?_ _ | refine Gr.grew ?_ _ _ | refine Gr.alloc ?_ _ | refine Gr.drew ?_))) hg1); have HG := Lib.hid (Gr.trans (show Gr w _ from (by (try show Gr _ _); repeat (with_reducible first | exact Gr.refl _ | refine Gr.drewN ?_ _ | refine Gr.grew ?_ _ _ | refine Gr.alloc ?_ _ | refine Gr.drew ?_))) hg1); have Z1 := Gr.size hg1; simp at hgl Z1 h1 h2; have I1 := Lib.hid (IOwn.base (B' := w.heap.size + 1 + 1 + os0.size + 1) h1.own (by omega)); have I2 := Lib.hid (IOwn.base (B' := w.heap.size + 1 + 1 + os0.size + 1) h2.own (by omega)); clear h1 h2 hg1 iv iu Z1))
    go_loopw [23] (fun i wr => ∃ k : Nat, k ≤ xs.length ∧ i = .int .i64 k ∧ Blk wr w.heap.size [.int .i64 W, .int .i64 H, .slice a xs.length ca] 30 ∧ Blk wr (w.heap.size + 1) [.int .i64 0, .int .i64 0, .slice none 0 0] 30 ∧
      Blk wr (w.heap.size + 1 + 1 + os0.size) [.int .i64 W, .int .i64 H, .slice (some ⟨g, 0, none⟩) xs.length cg] 30 ∧ FOwn wr (w.heap.size + 1 + 1) 25 (.slice (some ⟨g, 0, none⟩) xs.length cg) (upto xs.length k (fun i => gDropAt O S L (xs.getD i 0) i) (fun i => xs.getD i 0)) ∧
      IOwn wr (w.heap.size + 1 + 1 + os0.size + 1) 2 (.slice av xs.length cv) O ∧ IOwn wr (w.heap.size + 1 + 1 + os0.size + 1) 2 (.slice au S.length cu) S ∧ Gr w wr) (fun i _ => xs.length - (intOf i).toNat)
    case atStart => exact ⟨0, Nat.zero_le _, rfl, B0.out.gr (by (try show Gr _ _); repeat (with_reducible first | exact Gr.refl _ | refine Gr.drewN ?_ _ | refine Gr.grew ?_ _ _ | refine Gr.alloc ?_ _ | refine Gr.drew ?_)), B1.out.gr (by (try show Gr _ _); repeat (with_reducible first | exact Gr.refl _ | refine Gr.drewN ?_ _ | refine Gr.grew ?_ _ _ | refine Gr.alloc ?_ _ | refine Gr.drew ?_)), B2.out.gr (by (try show Gr _ _); repeat (with_reducible first | exact Gr.refl _ | refine Gr.drewN ?_ _ | refine Gr.grew ?_ _ _ | refine Gr.alloc ?_ _ | refine Gr.drew ?_)), (by rw [upto_zero, lst_of]; exact HF.out.gr (by (try show Gr _ _); repeat (with_reducible first | exact Gr.refl _ | refine Gr.drewN ?_ _ | refine Gr.grew ?_ _ _ | refine Gr.alloc ?_ _ | refine Gr.drew ?_))), I1.out.gr (by (try show Gr _ _); repeat (with_reducible first | exact Gr.refl _ | refine Gr.drewN ?_ _ | refine Gr.grew ?_ _ _ | refine Gr.alloc ?_ _ | refine Gr.drew ?_)), I2.out.gr (by (try show Gr _ _); repeat (with_reducible first | exact Gr.refl _ | refine Gr.drewN ?_ _ | refine Gr.grew ?_ _ _ | refine Gr.alloc ?_ _ | refine Gr.drew ?_)), HG.out.trans (by (try show Gr _ _); repeat (with_reducible first | exact Gr.refl _ | refine Gr.drewN ?_ _ | refine Gr.grew ?_ _ _ | refine Gr.alloc ?_ _ | refine Gr.drew ?_))⟩
    case round =>
      clear B0 B1 B2 HF I1 I2 HG Ho0
      obtain ⟨k, hk, rfl, b0, b1, b2, ho, i1, i2, hg⟩ := hrel
      by_cases hlt : k < xs.length
      · obtain ⟨ro, hco, -⟩ := ho.get k (by simp; exact hlt)
        have hz := ho.free k
        have o2 := b2.cellv 2
        have hgb : g ≠ w.heap.size + 1 + 1 + os0.size := by omega
        have hg3 : w.heap.size + 1 + 1 ≤ g := (ho.block rfl).1
        obtain ⟨av', cv', ev, iv, -⟩ := IOwn.sl' i1 xs.length F1.out
        obtain ⟨au', cu', eu, iu, -⟩ := IOwn.sl i2
        obtain ⟨rfl, rfl⟩ : av = av' ∧ cv = cv' := by simpa using ev
        obtain ⟨rfl, rfl⟩ : au = au' ∧ cu = cu' := by simpa using eu
        clear ev eu
        have hOl := F1.out
        have hP := F2.out k hlt
        obtain ⟨bv, ov, rfl⟩ := iv.ptr (by omega)
        have g1 := iv.get k (by omega)
        obtain ⟨p, hp⟩ : ∃ p, p = O.getD k 0 := ⟨_, rfl⟩
        rw [← hp] at g1 hP
        have Hgb := Lib.hid hgb
        have Hg3 := Lib.hid hg3
        have B0 := Lib.hid b0
        have B1 := Lib.hid b1
        have B2 := Lib.hid b2
        have Ho := Lib.hid ho
        have I1 := Lib.hid i1
        have I2 := Lib.hid i2
        have Hg := Lib.hid hg
        have IU := Lib.hid iu
        have Hgl := Lib.hid hgl
        clear b0 b1 b2 ho i1 i2 hg hgb hg3 iv iu hOl hgl
        have KEEP : gDropAt O S L (xs.getD k 0) k = xs.getD k 0 → upto xs.length (k + 1) (fun i => gDropAt O S L (xs.getD i 0) i) (fun i => xs.getD i 0) = upto xs.length k (fun i => gDropAt O S L (xs.getD i 0) i) (fun i => xs.getD i 0) := fun h => upto_keep (n := xs.length) (k := k) (G := fun i => gDropAt O S L (xs.getD i 0) i) (O := fun i => xs.getD i 0) h.symm |>.symm
        have KEEP := Lib.hid KEEP
        by_cases h0 : 0 ≤ p
        · obtain ⟨pn, rfl⟩ := Int.eq_ofNat_of_zero_le h0
          have hpn : pn < S.length := by omega
          obtain ⟨bu, ou, rfl⟩ := IU.out.ptr (by omega)
          have g2 := IU.out.get pn hpn
          obtain ⟨s, hs⟩ : ∃ s, s = S.getD pn 0 := ⟨_, rfl⟩
          rw [← hs] at g2
          by_cases h1 : s < L
          · have eG := Lib.hid (show gDropAt O S L (xs.getD k 0) k = 3212836864 by unfold gDropAt; rw [if_pos]; rw [← hp]; exact ⟨h0, by rw [Int.toNat_natCast, ← hs]; exact h1⟩)
            clear hp hs h0 hP
            go_wp2
            go_roundw
            case rel =>
              have hx := Hg3.out
              have hl := Hgl.out
              refine ⟨k + 1, by omega, by go_num, B0.out.setOther _ (by simp; omega), B1.out.setOther _ (by simp; omega), B2.out.setOther _ Hgb.out, ?_, IOwn.setOther (p := ⟨g, k, none⟩) I1.out _ (IOwn.notBlk I1.out (show g < _ by omega)), IOwn.setOther (p := ⟨g, k, none⟩) I2.out _ (IOwn.notBlk I2.out (show g < _ by omega)), Hg.out.setCell (by simp; omega) _⟩
              rw [← upto_set (G := fun i => gDropAt O S L (xs.getD i 0) i) (O := fun i => xs.getD i 0) hlt]
              have h := Ho.out.store (k := k) (r := 3212836864) (x := 3212836864) (FE.lit (by decide +kernel))
              show FOwn _ _ _ _ (List.set _ k (gDropAt O S L (xs.getD k 0) k))
              rw [eG.out]
              exact h
            case measure => simp [intOf]; omega
          · have eG := Lib.hid (KEEP.out (show gDropAt O S L (xs.getD k 0) k = xs.getD k 0 by unfold gDropAt; rw [if_neg]; rw [← hp]; exact fun h => h1 (by have := h.2; rwa [Int.toNat_natCast, ← hs] at this)))
            clear hp hs h0 hP
            go_wp2
            go_roundw
            case rel => exact ⟨k + 1, by omega, by go_num, B0.out.gr (by (try show Gr _ _); repeat (with_reducible first | exact Gr.refl _ | refine Gr.drewN ?_ _ | refine Gr.grew ?_ _ _ | refine Gr.alloc ?_ _ | refine Gr.drew ?_)), B1.out.gr (by (try show Gr _ _); repeat (with_reducible first | exact Gr.refl _ | refine Gr.drewN ?_ _ | refine Gr.grew ?_ _ _ | refine Gr.alloc ?_ _ | refine Gr.drew ?_)), B2.out.gr (by (try show Gr _ _); repeat (with_reducible first | exact Gr.refl _ | refine Gr.drewN ?_ _ | refine Gr.grew ?_ _ _ | refine Gr.alloc ?_ _ | refine Gr.drew ?_)), by rw [eG.out]; exact Ho.out.gr (by (try show Gr _ _); repeat (with_reducible first | exact Gr.refl _ | refine Gr.drewN ?_ _ | refine Gr.grew ?_ _ _ | refine Gr.alloc ?_ _ | refine Gr.drew ?_)), I1.out.gr (by (try show Gr _ _); repeat (with_reducible first | exact Gr.refl _ | refine Gr.drewN ?_ _ | refine Gr.grew ?_ _ _ | refine Gr.alloc ?_ _ | refine Gr.drew ?_)), I2.out.gr (by (try show Gr _ _); repeat (with_reducible first | exact Gr.refl _ | refine Gr.drewN ?_ _ | refine Gr.grew ?_ _ _ | refine Gr.alloc ?_ _ | refine Gr.drew ?_)), Hg.out.trans (by (try show Gr _ _); repeat (with_reducible first | exact Gr.refl _ | refine Gr.drewN ?_ _ | refine Gr.grew ?_ _ _ | refine Gr.alloc ?_ _ | refine Gr.drew ?_))⟩
            case measure => simp [intOf]; omega
        · have h0' : p < 0 := by omega
          have eG := Lib.hid (KEEP.out (show gDropAt O S L (xs.getD k 0) k = xs.getD k 0 by unfold gDropAt; rw [if_neg]; rw [← hp]; exact fun h => h0 h.1))
          clear hp
          go_wp2
          go_roundw
          case rel => exact ⟨k + 1, by omega, by go_num, B0.out.gr (by (try show Gr _ _); repeat (with_reducible first | exact Gr.refl _ | refine Gr.drewN ?_ _ | refine Gr.grew ?_ _ _ | refine Gr.alloc ?_ _ | refine Gr.drew ?_)), B1.out.gr (by (try show Gr _ _); repeat (with_reducible first | exact Gr.refl _ | refine Gr.drewN ?_ _ | refine Gr.grew ?_ _ _ | refine Gr.alloc ?_ _ | refine Gr.drew ?_)), B2.out.gr (by (try show Gr _ _); repeat (with_reducible first | exact Gr.refl _ | refine Gr.drewN ?_ _ | refine Gr.grew ?_ _ _ | refine Gr.alloc ?_ _ | refine Gr.drew ?_)), by rw [eG.out]; exact Ho.out.gr (by (try show Gr _ _); repeat (with_reducible first | exact Gr.refl _ | refine Gr.drewN ?_ _ | refine Gr.grew ?_ _ _ | refine Gr.alloc ?_ _ | refine Gr.drew ?_)), I1.out.gr (by (try show Gr _ _); repeat (with_reducible first | exact Gr.refl _ | refine Gr.drewN ?_ _ | refine Gr.grew ?_ _ _ | refine Gr.alloc ?_ _ | refine Gr.drew ?_)), I2.out.gr (by (try show Gr _ _); repeat (with_reducible first | exact Gr.refl _ | refine Gr.drewN ?_ _ | refine Gr.grew ?_ _ _ | refine Gr.alloc ?_ _ | refine Gr.drew ?_)), Hg.out.trans (by (try show Gr _ _); repeat (with_reducible first | exact Gr.refl _ | refine Gr.drewN ?_ _ | refine Gr.grew ?_ _ _ | refine Gr.alloc ?_ _ | refine Gr.drew ?_))⟩
          case measure => simp [intOf]; omega
      · obtain rfl : k = xs.length := by omega
        have p0 := b2.cellv 0
        have p1 := b2.cellv 1
        have p2 := b2.cellv 2
        have q0 := b1.cellv 0
        have q1 := b1.cellv 1
        have q2 := b1.cellv 2
        have z0 := b1.frozen 0
        have z1 := b1.frozen 1
        have z2 := b1.frozen 2
        have Ho := Lib.hid ho
        have Hg := Lib.hid hg
        clear b0 b1 b2 ho i1 i2 hg
        go_wp2
        refine bodyPost_ret (v := .tuple #[.agg #[.int .i64 W, .int .i64 H, .slice (some ⟨g, 0, none⟩) xs.length cg], .bool true]) (by simp [results, Try.results18, go_sem, *]) rfl ⟨⟨_, rfl, ?_⟩, ?_⟩
        · have h := Ho.out
          rw [upto_all] at h
          show FOwn _ _ _ _ (lst xs.length _)
          exact FOwn.base (B := w.heap.size + 1 + 1) (by repeat (with_reducible first | assumption | refine FOwn.setOther ?_ _ (by simp <;> omega))) (by omega)
        · have h := Hg.out
          exact (by repeat (with_reducible first | assumption | refine Gr.setCell ?_ (by simp <;> omega) _))
set_option maxRecDepth 20000 in
set_option maxHeartbeats 1000000 in
theorem I_DropPatches_1 (W H x y b1 bO bS bL ca cO cS : Nat) (L : Int) (a aO aS : Option Addr) (O S : List Int) (xs : List Nat) (w : World) (m1 : MP w b1 W H a xs.length ca xs)
    (c1 : w.cell? ⟨bO, 0, none⟩ = some (.slice aO xs.length cO)) (c2 : w.cell? ⟨bS, 0, none⟩ = some (.slice aS S.length cS)) (c3 : w.cell? ⟨bL, 0, none⟩ = some (.int .i64 L)) (f1 : ISl w aO xs.length O) (f2 : ISl w aS S.length S)
    (hW : W ≤ 24) (hH : H ≤ 24) (hx : x < W) (hy : y < H) (hl : xs.length = W * H) (hO : O.length = xs.length) (hS : ∀ i, i < xs.length → O.getD i 0 < (S.length : Int)) :
    Calls Try.prog 48 #[.int .i64 x, .int .i64 y, .pointer (some ⟨bO, 0, none⟩), .pointer (some ⟨b1, 0, none⟩), .pointer (some ⟨bS, 0, none⟩), .pointer (some ⟨bL, 0, none⟩)] w fun e w' =>
      (∃ r, e = .returned (.float .f32 r) ∧ FE .f32 r (gDropAt O S L (xs.getD (x + W * y) 0) (x + W * y))) ∧ Gr w w' := by
  obtain ⟨e1, e2⟩ := wrap_cell (W := W) (x := x) (y := y) (by omega) hW (by omega)
  have hq : x + W * y < xs.length := by rw [hl]; exact cell_lt hx hy
  have h24 : xs.length ≤ 576 := by rw [hl]; exact Nat.mul_le_mul hW hH
  have c0 := m1.c0
  have M1 := Lib.hid m1
  have Hl := Lib.hid hl
  obtain ⟨bv, ov, rfl⟩ := f1.ptr (by omega)
  have g1 := f1.get (x + W * y) (by omega)
  have hP := hS _ hq
  obtain ⟨p, hp⟩ : ∃ p, p = O.getD (x + W * y) 0 := ⟨_, rfl⟩
  rw [← hp] at g1 hP
  have FC := Lib.hid f2
  clear m1 hl f1 f2 hS hO
  by_cases h0 : 0 ≤ p
  · obtain ⟨pn, rfl⟩ := Int.eq_ofNat_of_zero_le h0
    have hpn : pn < S.length := by omega
    obtain ⟨bu, ou, rfl⟩ := FC.out.ptr (by omega)
    have g2 := FC.out.get pn hpn
    obtain ⟨s, hs⟩ : ∃ s, s = S.getD pn 0 := ⟨_, rfl⟩
    rw [← hs] at g2
    by_cases h1 : s < L
    · have eG := Lib.hid (show gDropAt O S L (xs.getD (x + W * y) 0) (x + W * y) = 3212836864 by unfold gDropAt; rw [if_pos]; rw [← hp]; exact ⟨h0, by rw [Int.toNat_natCast, ← hs]; exact h1⟩)
      clear hp hs
      go_enter Try.func48, Try.ntmps48
      go_upto_region 2 with fail
      apply region_drew 9
      case hm => kernel_rfl
      case hB => kernel_rfl
      simp only [List.take_succ_cons, List.take_zero, List.drop_succ_cons, List.drop_zero]
      repeat (first
        | (apply wpSoft_skip rfl; simp only [Act.put, List.setIfInBounds_toArray, List.set_cons_succ, List.set_cons_zero])
        | (apply wpSoft_nilCheck rfl rfl; simp only [Act.put, List.setIfInBounds_toArray, List.set_cons_succ, List.set_cons_zero])
        | ((with_reducible apply wpSoft_fop); (case hw => rfl); (case hD => exact closed_drew); (case hop => rfl); (case hx => rfl); (case hy => rfl); (case hA => (first | assumption | exact FE.ofInt _ _ | exact FE.lit (by decide +kernel))); (case hB => (first | assumption | exact FE.ofInt _ _ | exact FE.lit (by decide +kernel))); (intro r hr; simp only [Act.put, List.setIfInBounds_toArray, List.set_cons_succ, List.set_cons_zero]))

        | ((with_reducible apply wpSoft_widen); (case hw => rfl); (case hD => exact closed_drew); (case hs => exact Try.underlying25); (case hd => exact Try.underlying61); (case hx => rfl); (case hA => (first | assumption | exact FE.ofInt _ _ | exact FE.lit (by decide +kernel))); (intro r hr; simp only [Act.put, List.setIfInBounds_toArray, List.set_cons_succ, List.set_cons_zero]))
        | ((with_reducible apply wpSoft_fneg); (case hw => rfl); (case hx => rfl); (case hA => (first | assumption | exact FE.ofInt _ _ | exact FE.lit (by decide +kernel))); (intro r hr; simp only [Act.put, List.setIfInBounds_toArray, List.set_cons_succ, List.set_cons_zero]))
        | ((with_reducible apply wpSoft_fcmp); (case hw => rfl); (case hop => rfl); (case hx => rfl); (case hy => rfl); (case hA => (first | assumption | exact FE.ofInt _ _ | exact FE.lit (by decide +kernel))); (case hB => (first | assumption | exact FE.ofInt _ _ | exact FE.lit (by decide +kernel))); (case hb => (first | assumption | rfl)); simp only [Act.put, List.setIfInBounds_toArray, List.set_cons_succ, List.set_cons_zero])
        | (apply wpSoft_q rfl rfl; intro K hK; go_big_quiet_op; go_big_quiet_on))
      with_reducible apply wpSoft_nil
      intro m
      go_wp2
      go_ret
      exact ⟨⟨_, rfl, by rw [eG.out]; exact FE.lit (by decide +kernel)⟩, (by (try show Gr _ _); repeat (with_reducible first | exact Gr.refl _ | refine Gr.drewN ?_ _ | refine Gr.grew ?_ _ _ | refine Gr.alloc ?_ _ | refine Gr.drew ?_))⟩
    · have eG := Lib.hid (show gDropAt O S L (xs.getD (x + W * y) 0) (x + W * y) = xs.getD (x + W * y) 0 by unfold gDropAt; rw [if_neg]; rw [← hp]; exact fun h => h1 (by have := h.2; rwa [Int.toNat_natCast, ← hs] at this))
      clear hp hs
      go_enter Try.func48, Try.ntmps48
      go_upto_region 2 with fail
      apply region_drew 9
      case hm => kernel_rfl
      case hB => kernel_rfl
      simp only [List.take_succ_cons, List.take_zero, List.drop_succ_cons, List.drop_zero]
      repeat (first
        | (apply wpSoft_skip rfl; simp only [Act.put, List.setIfInBounds_toArray, List.set_cons_succ, List.set_cons_zero])
        | (apply wpSoft_nilCheck rfl rfl; simp only [Act.put, List.setIfInBounds_toArray, List.set_cons_succ, List.set_cons_zero])
        | ((with_reducible apply wpSoft_fop); (case hw => rfl); (case hD => exact closed_drew); (case hop => rfl); (case hx => rfl); (case hy => rfl); (case hA => (first | assumption | exact FE.ofInt _ _ | exact FE.lit (by decide +kernel))); (case hB => (first | assumption | exact FE.ofInt _ _ | exact FE.lit (by decide +kernel))); (intro r hr; simp only [Act.put, List.setIfInBounds_toArray, List.set_cons_succ, List.set_cons_zero]))

        | ((with_reducible apply wpSoft_widen); (case hw => rfl); (case hD => exact closed_drew); (case hs => exact Try.underlying25); (case hd => exact Try.underlying61); (case hx => rfl); (case hA => (first | assumption | exact FE.ofInt _ _ | exact FE.lit (by decide +kernel))); (intro r hr; simp only [Act.put, List.setIfInBounds_toArray, List.set_cons_succ, List.set_cons_zero]))
        | ((with_reducible apply wpSoft_fneg); (case hw => rfl); (case hx => rfl); (case hA => (first | assumption | exact FE.ofInt _ _ | exact FE.lit (by decide +kernel))); (intro r hr; simp only [Act.put, List.setIfInBounds_toArray, List.set_cons_succ, List.set_cons_zero]))
        | ((with_reducible apply wpSoft_fcmp); (case hw => rfl); (case hop => rfl); (case hx => rfl); (case hy => rfl); (case hA => (first | assumption | exact FE.ofInt _ _ | exact FE.lit (by decide +kernel))); (case hB => (first | assumption | exact FE.ofInt _ _ | exact FE.lit (by decide +kernel))); (case hb => (first | assumption | rfl)); simp only [Act.put, List.setIfInBounds_toArray, List.set_cons_succ, List.set_cons_zero])
        | (apply wpSoft_q rfl rfl; intro K hK; go_big_quiet_op; go_big_quiet_on))
      with_reducible apply wpSoft_nil
      intro m
      go_wp2_with (first
      | (go_at_call 49; with_reducible refine (I_Map_at W H x y b1 _ _ xs _ (M1.out.gr (by (try show Gr _ _); repeat (with_reducible first | exact Gr.refl _ | refine Gr.drewN ?_ _ | refine Gr.grew ?_ _ _ | refine Gr.alloc ?_ _ | refine Gr.drew ?_))) hW hH hx hy Hl.out).mono ?_; rintro e w' ⟨r, rfl, hr, n, rfl⟩))
      go_ret
      exact ⟨⟨_, rfl, by rw [eG.out]; exact hr⟩, (by (try show Gr _ _); repeat (with_reducible first | exact Gr.refl _ | refine Gr.drewN ?_ _ | refine Gr.grew ?_ _ _ | refine Gr.alloc ?_ _ | refine Gr.drew ?_))⟩
  · have h0' : p < 0 := by omega
    have eG := Lib.hid (show gDropAt O S L (xs.getD (x + W * y) 0) (x + W * y) = xs.getD (x + W * y) 0 by unfold gDropAt; rw [if_neg]; rw [← hp]; exact fun h => h0 h.1)
    clear hp
    go_enter Try.func48, Try.ntmps48
    go_upto_region 2 with fail
    apply region_drew 8
    case hm => kernel_rfl
    case hB => kernel_rfl
    simp only [List.take_succ_cons, List.take_zero, List.drop_succ_cons, List.drop_zero]
    repeat (first
      | (apply wpSoft_skip rfl; simp only [Act.put, List.setIfInBounds_toArray, List.set_cons_succ, List.set_cons_zero])
      | (apply wpSoft_nilCheck rfl rfl; simp only [Act.put, List.setIfInBounds_toArray, List.set_cons_succ, List.set_cons_zero])
      | ((with_reducible apply wpSoft_fop); (case hw => rfl); (case hD => exact closed_drew); (case hop => rfl); (case hx => rfl); (case hy => rfl); (case hA => (first | assumption | exact FE.ofInt _ _ | exact FE.lit (by decide +kernel))); (case hB => (first | assumption | exact FE.ofInt _ _ | exact FE.lit (by decide +kernel))); (intro r hr; simp only [Act.put, List.setIfInBounds_toArray, List.set_cons_succ, List.set_cons_zero]))

      | ((with_reducible apply wpSoft_widen); (case hw => rfl); (case hD => exact closed_drew); (case hs => exact Try.underlying25); (case hd => exact Try.underlying61); (case hx => rfl); (case hA => (first | assumption | exact FE.ofInt _ _ | exact FE.lit (by decide +kernel))); (intro r hr; simp only [Act.put, List.setIfInBounds_toArray, List.set_cons_succ, List.set_cons_zero]))
      | ((with_reducible apply wpSoft_fneg); (case hw => rfl); (case hx => rfl); (case hA => (first | assumption | exact FE.ofInt _ _ | exact FE.lit (by decide +kernel))); (intro r hr; simp only [Act.put, List.setIfInBounds_toArray, List.set_cons_succ, List.set_cons_zero]))
      | ((with_reducible apply wpSoft_fcmp); (case hw => rfl); (case hop => rfl); (case hx => rfl); (case hy => rfl); (case hA => (first | assumption | exact FE.ofInt _ _ | exact FE.lit (by decide +kernel))); (case hB => (first | assumption | exact FE.ofInt _ _ | exact FE.lit (by decide +kernel))); (case hb => (first | assumption | rfl)); simp only [Act.put, List.setIfInBounds_toArray, List.set_cons_succ, List.set_cons_zero])
      | (apply wpSoft_q rfl rfl; intro K hK; go_big_quiet_op; go_big_quiet_on))
    with_reducible apply wpSoft_nil
    intro m
    go_wp2_with (first
      | (go_at_call 49; with_reducible refine (I_Map_at W H x y b1 _ _ xs _ (M1.out.gr (by (try show Gr _ _); repeat (with_reducible first | exact Gr.refl _ | refine Gr.drewN ?_ _ | refine Gr.grew ?_ _ _ | refine Gr.alloc ?_ _ | refine Gr.drew ?_))) hW hH hx hy Hl.out).mono ?_; rintro e w' ⟨r, rfl, hr, n, rfl⟩))
    go_ret
    exact ⟨⟨_, rfl, by rw [eG.out]; exact hr⟩, (by (try show Gr _ _); repeat (with_reducible first | exact Gr.refl _ | refine Gr.drewN ?_ _ | refine Gr.grew ?_ _ _ | refine Gr.alloc ?_ _ | refine Gr.drew ?_))⟩
theorem tells_DropPatches (W H b1 bO bS bL ca cO cS : Nat) (L : Int) (a aO aS : Option Addr) (O S : List Int) (xs : List Nat) (w : World) (m1 : MP w b1 W H a xs.length ca xs)
    (c1 : w.cell? ⟨bO, 0, none⟩ = some (.slice aO xs.length cO)) (c2 : w.cell? ⟨bS, 0, none⟩ = some (.slice aS S.length cS)) (c3 : w.cell? ⟨bL, 0, none⟩ = some (.int .i64 L)) (f1 : ISl w aO xs.length O) (f2 : ISl w aS S.length S)
    (hW : W ≤ 24) (hH : H ≤ 24) (hl : xs.length = W * H) (hO : O.length = xs.length) (hS : ∀ i, i < xs.length → O.getD i 0 < (S.length : Int)) :
    Tells w 48 #[.pointer (some ⟨bO, 0, none⟩), .pointer (some ⟨b1, 0, none⟩), .pointer (some ⟨bS, 0, none⟩), .pointer (some ⟨bL, 0, none⟩)] W H (fun x y => gDropAt O S L (xs.getD (x + W * y) 0) (x + W * y)) :=
  ⟨Try.call48, fun x y hx hy w1 g => I_DropPatches_1 W H x y b1 bO bS bL ca cO cS L a aO aS O S xs w1 (m1.gr g) (g.cell c1) (g.cell c2) (g.cell c3) (f1.keep g.kp) (f2.keep g.kp) hW hH hx hy hl hO hS⟩
set_option maxRecDepth 20000 in
set_option maxHeartbeats 2000000 in
theorem I_DropPatches (W H : Int) (a : Option Addr) (ca near N : Nat) (L : Int) (xs : List Nat) (w : World) (fx : FSl w a xs.length xs) (hn : xs.length ≤ 1048576) (hN : FE .f32 near N) :
    Calls Try.prog 19 #[.agg #[.int .i64 W, .int .i64 H, .slice a xs.length ca], .float .f32 near, .int .i64 L] w
      (PostP w (gW (gPic W H xs.length) W) (gW (gPic W H xs.length) H) (gPic W H xs.length) (gVals (gPic W H xs.length) xs.length fun i => gDropAt (gPatchL W H N xs) (gPatchI W H N xs) L (xs.getD i 0) i)) := by
  have hn' : xs.length ≤ maxLen := by unfold maxLen; omega
  have Fx := Lib.hid fx
  clear fx
  cases hT : gPic W H xs.length
  · go_enter Try.func19, Try.ntmps19
    go_wp2_with (first
      | (go_at_call 42; with_reducible refine (I_ValidMap _ _ _ _ _ _ hn').mono ?_; rintro e w' ⟨rfl, os, m, rfl⟩; rw [hT]))
    exact bodyPost_ret (v := .tuple #[.agg #[.int .i64 0, .int .i64 0, .slice none 0 0], .bool false]) (by simp [results, Try.results19, go_sem]) rfl ⟨⟨_, rfl, FOwn.nil _ _ _⟩, (by (try show Gr _ _); repeat (with_reducible first | exact Gr.refl _ | refine Gr.drewN ?_ _ | refine Gr.grew ?_ _ _ | refine Gr.alloc ?_ _ | refine Gr.drew ?_))⟩
  · have hp1 := (gPic_true hT).2
    obtain ⟨s1, s2, s3, s4, s5, s6⟩ := gSize_true (gPic_true hT).1
    obtain ⟨W, rfl⟩ := Int.eq_ofNat_of_zero_le (show 0 ≤ W by omega)
    obtain ⟨H, rfl⟩ := Int.eq_ofNat_of_zero_le (show 0 ≤ H by omega)
    have hl : xs.length = W * H := by exact_mod_cast hp1
    have hpos : 0 < xs.length := by omega
    have HC := Lib.hid (fun (b : Nat) (u : World) m => I_Map_patches W H b ca near N a xs u m (by omega) (by omega) (by omega) (by omega) hl hN)
    obtain ⟨f1, f2⟩ := gPats_facts (W := W) (H := H) N xs hl
    obtain ⟨O, hO⟩ : ∃ O, O = (gPats W H N xs (W * H)).1 := ⟨_, rfl⟩
    obtain ⟨S, hS⟩ : ∃ S, S = (gPats W H N xs (W * H)).2 := ⟨_, rfl⟩
    rw [(gPatch_at N xs hT).1, (gPatch_at N xs hT).2]
    rw [← hO] at HC f1 f2 ⊢
    rw [← hS] at HC f2 ⊢
    have F1 := Lib.hid f1
    have F2 := Lib.hid f2
    have Hl := Lib.hid hl
    have HT := Lib.hid hT
    have EG : Hid (grid W (fun x y => gDropAt O S L (xs.getD (x + W * y) 0) (x + W * y)) xs.length = lst xs.length (fun i => gDropAt O S L (xs.getD i 0) i)) := by
      exact lst_congr fun i _ => by simp only [Nat.mod_add_div]
    clear hO hS hp1 hl s5 s6 f1 f2
    go_enter Try.func19, Try.ntmps19
    go_wp2_with (first
      | (go_at_call 42; with_reducible refine (I_ValidMap _ _ _ _ _ _ hn').mono ?_; rintro e w' ⟨rfl, os, m, rfl⟩; rw [HT.out])
      | (go_at_call 43; refine (HC.out w.heap.size _ ⟨(by first | (simp (maxDischargeDepth := 12) [go_sem]; done) | (simp (maxDischargeDepth := 12) [go_sem, *]; done)), (by first | (simp (maxDischargeDepth := 12) [go_sem]; done) | (simp (maxDischargeDepth := 12) [go_sem, *]; done)), (by first | (simp (maxDischargeDepth := 12) [go_sem]; done) | (simp (maxDischargeDepth := 12) [go_sem, *]; done)), Fx.out.keep (by (repeat (with_reducible first | exact Kp.refl _ | exact kp_same | exact kp_app1 | exact kp_app2 | exact kp_app3 | refine Kp.grew ?_ _ _ | refine Kp.drewN ?_ _ | refine Kp.drew ?_ | refine Kp.alloc ?_ _)))⟩).mono ?_; rintro e w1 ⟨⟨v, u, lo, rfl, y1, y2, h1, h2⟩, hg1⟩; obtain ⟨av, cv, rfl, iv, -⟩ := IOwn.sl' h1.own xs.length F1.out; obtain ⟨au, cu, rfl, iu, -⟩ := IOwn.sl h2.own; have B0 := Lib.hid (Blk.gr (show Blk _ w.heap.size [.int .i64 W, .int .i64 H, .slice a xs.length ca] 30 from (by repeat (with_reducible first | assumption | exact Blk.atNew (by simp) | refine Blk.alloc ?_ _ | refine Blk.grew ?_ _ _ | refine Blk.drewN ?_ _ | refine Blk.drew ?_))) hg1); have B1 := Lib.hid (Blk.gr (show Blk _ (w.heap.size + 1) [.int .i64 L] 2 from (by repeat (with_reducible first | assumption | exact Blk.atNew (by simp) | refine Blk.alloc ?_ _ | refine Blk.grew ?_ _ _ | refine Blk.drewN ?_ _ | refine Blk.drew ?_))) hg1); have B2 := Lib.hid (Blk.gr (show Blk _ (w.heap.size + 1 + 1) [.int .i64 0, .int .i64 0, .slice none 0 0] 30 from (by repeat (with_reducible first | assumption | exact Blk.atNew (by simp) | refine Blk.alloc ?_ _ | refine Blk.grew ?_ _ _ | refine Blk.drewN ?_ _ | refine Blk.drew ?_))) hg1); have G := Lib.hid (Gr.trans (show Gr w _ from (by (try show Gr _ _); repeat (with_reducible first | exact Gr.refl _ | refine Gr.drewN ?_ _ | refine Gr.grew ?_ _ _ | refine Gr.alloc ?_ _ | refine Gr.drew ?_))) hg1); have I1 := Lib.hid iv; have I2 := Lib.hid iu; have p0 := B0.out.cellv 0; have p1 := B0.out.cellv 1; have p2 := B0.out.cellv 2; have lt0 := B0.out.lt; clear h1 h2 hg1 iv iu y1 y2))
    have NB1 := Blk.atNew (w := w1) (b := w1.heap.size) (cs := [.slice av xs.length cv]) (t := 27) rfl
    have NB2 := Blk.atNew (w := w1.alloc (.cells #[.slice av xs.length cv] 27)) (b := w1.heap.size + 1) (cs := [.slice au S.length cu]) (t := 27) (by simp)
    have g9 : Gr w1 ((w1.alloc (.cells #[.slice av xs.length cv] 27)).alloc (.cells #[.slice au S.length cu] 27)) := (by (try show Gr _ _); repeat (with_reducible first | exact Gr.refl _ | refine Gr.drewN ?_ _ | refine Gr.grew ?_ _ _ | refine Gr.alloc ?_ _ | refine Gr.drew ?_))
    replace B0 := Lib.hid (B0.out.gr g9)
    replace B1 := Lib.hid (B1.out.gr g9)
    replace B2 := Lib.hid (B2.out.gr g9)
    have G0 := Lib.hid (G.out.size)
    replace G := Lib.hid (G.out.trans g9)
    have GZ := Lib.hid g9.size
    replace I1 := Lib.hid (I1.out.keep g9.kp)
    replace I2 := Lib.hid (I2.out.keep g9.kp)
    have N1 := Lib.hid (NB1.gr (Gr.alloc (Gr.refl _) (.cells #[.slice au S.length cu] 27)))
    have N2 := Lib.hid NB2
    clear NB1 NB2 g9 p0 p1 p2 lt0
    generalize ((w1.alloc (.cells #[.slice av xs.length cv] 27)).alloc (.cells #[.slice au S.length cu] 27)) = u9 at *
    refine (I_remap_ok W H a ca xs 48 _ (fun x y => gDropAt O S L (xs.getD (x + W * y) 0) (x + W * y)) _ (Fx.out.keep G.out.kp) hn' HT.out (tells_DropPatches W H _ _ _ _ ca cv cu L a av au O S xs _ ⟨B0.out.cellv 0, B0.out.cellv 1, B0.out.cellv 2, Fx.out.keep G.out.kp⟩ (N1.out.cellv 0) (N2.out.cellv 0) (B1.out.cellv 0) I1.out I2.out (by omega) (by omega) Hl.out F1.out F2.out)).mono ?_
    rintro e un ⟨⟨v0, rfl, ho⟩, g⟩
    rw [EG.out] at ho
    obtain ⟨a1, c1, rfl, -, -⟩ := ho.sl' xs.length (by simp)
    have Hb := Lib.hid B2.out.lt
    replace B2 := Lib.hid (B2.out.gr g)
    have Ho := Lib.hid ho
    have G1 := Lib.hid (G.out.trans g)
    clear ho g G N1 N2
    have q0 := B2.out.cellv 0
    have q1 := B2.out.cellv 1
    have q2 := B2.out.cellv 2
    have z0 := B2.out.frozen 0
    have z1 := B2.out.frozen 1
    have z2 := B2.out.frozen 2
    go_wp2
    refine bodyPost_ret (v := .tuple #[.agg #[.int .i64 W, .int .i64 H, .slice a1 xs.length c1], .bool true]) (by simp [results, Try.results19, go_sem, gW, *]) rfl ⟨⟨_, rfl, ?_⟩, ?_⟩
    · have h := Ho.out
      have hb := Hb.out
      have h0 := Nat.le_trans G0.out GZ.out
      show FOwn _ _ _ _ (lst xs.length _)
      exact FOwn.base (B := u9.heap.size) (by repeat (with_reducible first | assumption | refine FOwn.setOther ?_ _ (by simp <;> omega))) h0
    · have h := G1.out
      exact (by repeat (with_reducible first | assumption | refine Gr.setCell ?_ (by simp <;> omega) _))
end Go.Proofs.Ytomlfdkcgaogcaa
