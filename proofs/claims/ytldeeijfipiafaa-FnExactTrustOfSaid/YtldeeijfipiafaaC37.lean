/- Contracts: TrustOf. MAXREC -/
import Derived.Test.YtldeeijfipiafaaProg
import Derived.Test.YtldeeijfipiafaaC36
namespace Go.Proofs.Ytldeeijfipiafaa
open Go.RowKit Go.Fx Go.Soft
theorem gTrust_ways2 (c : Nat → Nat) (D : Nat) :
    (fcmp .eql .f32 (gMarg c D) 2139095040 = true ∧ gTrust c D = 1065353216) ∨
    (∃ f : Nat, f < D ∧ gWin c (-1) D = f ∧ fcmp .eql .f32 (gMarg c D) 2139095040 = false ∧
      ((gNaN (fop .quo .f32 (gMarg c D) (fop .add .f32 (gMarg c D) (c f))) = true ∧ gTrust c D = 0) ∨
       (gNaN (fop .quo .f32 (gMarg c D) (fop .add .f32 (gMarg c D) (c f))) = false ∧ gTrust c D = fop .quo .f32 (gMarg c D) (fop .add .f32 (gMarg c D) (c f))))) := by
  have hinf : fcmp .eql .f32 2139095040 2139095040 = true := by decide +kernel
  have key : fcmp .eql .f32 (gMarg c D) 2139095040 = false → ∃ f : Nat, f < D ∧ gWin c (-1) D = f ∧ gShare c D = fop .quo .f32 (gMarg c D) (fop .add .f32 (gMarg c D) (c f)) := by
    intro h
    rcases gMarg_ways c D with ⟨h1, hM⟩ | ⟨f, hf, h1, h2, hM⟩ | ⟨f, s, hf, hs, h1, h2, hM⟩
    · rw [hM, hinf] at h; cases h
    · rw [hM, hinf] at h; cases h
    · refine ⟨f, hf, h1, ?_⟩
      unfold gShare gLeast
      rw [h1, if_neg (by omega), Int.toNat_natCast]
  rcases gTrust_ways c D with h | ⟨h1, h2, h3⟩ | ⟨h1, h2, h3⟩
  · exact .inl h
  · obtain ⟨f, hf, hw, hs⟩ := key h1
    rw [hs] at h2
    exact .inr ⟨f, hf, hw, h1, .inl ⟨h2, h3⟩⟩
  · obtain ⟨f, hf, hw, hs⟩ := key h1
    rw [hs] at h2 h3
    exact .inr ⟨f, hf, hw, h1, .inr ⟨h2, h3⟩⟩
def gTrustAt (xs : List Nat) (D : Int) (i : Nat) : Nat := gTrust (fun j => xs.getD (i * D.toNat + j) 0) D.toNat
def tTrust (ys : List Nat) : Nat := gTrust (fun j => ys.getD j 0) ys.length
theorem gCell_trust (xs : List Nat) (D : Int) : gCellAt tTrust xs D = gTrustAt xs D := by
  funext i
  unfold gCellAt tTrust gTrustAt
  rw [lst_length]
  apply gTrust_congr
  intro j hj
  rw [List.getD_eq_getElem?_getD, List.getElem?_eq_getElem (by simpa using hj)]
  simp [lst]
set_option maxRecDepth 20000 in
set_option maxHeartbeats 800000 in
theorem S_TrustOf (W H D : Int) (a : Option Addr) (ca : Nat) (xs : List Nat) (w : World) (fx : FSl w a xs.length xs) (hn : xs.length ≤ 1048576) :
    Calls Try.prog 26 #[.agg #[.int .i64 W, .int .i64 H, .int .i64 D, .slice a xs.length ca]] w
      (PostP w (gW (gVol W H D xs.length) W) (gW (gVol W H D xs.length) H) (gVol W H D xs.length) (gVals (gVol W H D xs.length) ((W * H).toNat) (gTrustAt xs D))) := by
  have Fx := Lib.hid fx
  clear fx
  have hn' : xs.length ≤ maxLen := by unfold maxLen; omega
  cases hT : gVol W H D xs.length
  · go_enter Try.func26, Try.ntmps26
    go_wp2_with (first
      | (go_at_call 67; with_reducible refine (S_l03Is W H D a _ ca _ _ hn' (by first | (simp (maxDischargeDepth := 12) [go_sem]; done) | (simp (maxDischargeDepth := 12) [go_sem, *]; done)) (by first | (simp (maxDischargeDepth := 12) [go_sem]; done) | (simp (maxDischargeDepth := 12) [go_sem, *]; done)) (by first | (simp (maxDischargeDepth := 12) [go_sem]; done) | (simp (maxDischargeDepth := 12) [go_sem, *]; done)) (by first | (simp (maxDischargeDepth := 12) [go_sem]; done) | (simp (maxDischargeDepth := 12) [go_sem, *]; done))).mono ?_; rintro e w' ⟨rfl, n, rfl⟩; rw [hT]))
    exact bodyPost_ret (v := .tuple #[.agg #[.int .i64 0, .int .i64 0, .slice none 0 0], .bool false]) (by simp [results, Try.results26, go_sem]) rfl ⟨⟨_, rfl, FOwn.nil _ _ _⟩, (by (try show Gr _ _); repeat (with_reducible first | exact Gr.refl _ | refine Gr.drewN ?_ _ | refine Gr.grew ?_ _ _ | refine Gr.alloc ?_ _ | refine Gr.drew ?_))⟩
  · obtain ⟨hS, d1, d2, hp, hp2⟩ := gVol_true hT
    obtain ⟨s1, s2, s3, s4, s5, s6⟩ := gSize_true hS
    obtain ⟨W, rfl⟩ := Int.eq_ofNat_of_zero_le (show 0 ≤ W by omega)
    obtain ⟨H, rfl⟩ := Int.eq_ofNat_of_zero_le (show 0 ≤ H by omega)
    obtain ⟨D, rfl⟩ := Int.eq_ofNat_of_zero_le (show 0 ≤ D by omega)
    have e1 := Lib.hid (show xs.length = W * H * D by exact_mod_cast hp)
    have eN : ((W : Int) * (H : Int)).toNat = W * H := by rw [← Int.natCast_mul]; exact Int.toNat_natCast _
    have hWH : 0 < W * H := Nat.mul_pos (by omega) (by omega)
    have hWH6 : W * H ≤ 576 := Nat.mul_le_mul (show W ≤ 24 by omega) (show H ≤ 24 by omega)
    have hpos : 0 < xs.length := by rw [e1.out]; exact Nat.mul_pos hWH (by omega)
    obtain ⟨bx, ox, rfl⟩ := Fx.out.ptr hpos
    have f0 : FE .f32 1065353216 1065353216 := FE.lit (by decide +kernel)
    rw [eN]
    clear eN hp s5 s6 hS
    go_enter Try.func26, Try.ntmps26
    go_wp2_with (first
      | (go_at_call 67; with_reducible refine (S_l03Is W H D (some ⟨bx, ox, none⟩) _ ca _ _ hn' (by first | (simp (maxDischargeDepth := 12) [go_sem]; done) | (simp (maxDischargeDepth := 12) [go_sem, *]; done)) (by first | (simp (maxDischargeDepth := 12) [go_sem]; done) | (simp (maxDischargeDepth := 12) [go_sem, *]; done)) (by first | (simp (maxDischargeDepth := 12) [go_sem]; done) | (simp (maxDischargeDepth := 12) [go_sem, *]; done)) (by first | (simp (maxDischargeDepth := 12) [go_sem]; done) | (simp (maxDischargeDepth := 12) [go_sem, *]; done))).mono ?_; rintro e w' ⟨rfl, n, rfl⟩; rw [hT])
      | (go_at_call 81; refine (S_l03Flat W H (W * H) _ _ _ f0 (by omega) (by omega) rfl).mono ?_; rintro e w1 ⟨⟨v0, rfl, ho0⟩, os0, m0, rfl⟩; obtain ⟨g, cg, hv, -⟩ := ho0.ptr (by rw [lst_length]; exact hWH); rw [lst_length] at hv; subst hv; have Ho0 := Lib.hid ho0; clear ho0))
    go_loopw [5, 21] (fun s5 i wr => ∃ k : Nat, k ≤ W * H ∧ i = .int .i64 k ∧ Blk wr (w.heap.size) [.int .i64 W, .int .i64 H, .int .i64 D, .slice (some ⟨bx, ox, none⟩) xs.length ca] 32 ∧ Blk wr (w.heap.size + 1) [.int .i64 0, .int .i64 0, .slice none 0 0] 29 ∧ Blk wr (w.heap.size + 1 + 1 + os0.size) [.int .i64 W, .int .i64 H, .slice (some ⟨g, 0, none⟩) (W * H) cg] 29 ∧ FOwn wr (w.heap.size + 1 + 1) 42 (.slice (some ⟨g, 0, none⟩) (W * H) cg) (upto (W * H) k (gTrustAt xs D) (fun _ => 1065353216)) ∧ Gr w wr) (fun _ i _ => W * H - (intOf i).toNat)
    case atStart => exact ⟨0, Nat.zero_le _, rfl, (by repeat (with_reducible first | assumption | exact Blk.atNew (by simp) | refine Blk.alloc ?_ _ | refine Blk.grew ?_ _ _ | refine Blk.drewN ?_ _ | refine Blk.drew ?_)), (by repeat (with_reducible first | assumption | exact Blk.atNew (by simp) | refine Blk.alloc ?_ _ | refine Blk.grew ?_ _ _ | refine Blk.drewN ?_ _ | refine Blk.drew ?_)), (by repeat (with_reducible first | assumption | exact Blk.atNew (by simp) | refine Blk.alloc ?_ _ | refine Blk.grew ?_ _ _ | refine Blk.drewN ?_ _ | refine Blk.drew ?_)), (by have h2 := Ho0.out.base (B' := w.heap.size + 1 + 1) (by simp <;> omega); (try simp only [grew_drewN] at h2); rw [upto_zero]; skip; exact h2.gr (by (try show Gr _ _); repeat (with_reducible first | exact Gr.refl _ | refine Gr.drewN ?_ _ | refine Gr.grew ?_ _ _ | refine Gr.alloc ?_ _ | refine Gr.drew ?_))), (by (try show Gr _ _); repeat (with_reducible first | exact Gr.refl _ | refine Gr.drewN ?_ _ | refine Gr.grew ?_ _ _ | refine Gr.alloc ?_ _ | refine Gr.drew ?_))⟩
    case round =>
      clear Ho0
      obtain ⟨k, hk, rfl, b0, b1, bO, ho, hg⟩ := hrel
      by_cases hlt : k < W * H
      · obtain ⟨ro, hco, -⟩ := ho.get k (by simp; exact hlt)
        have hz := ho.free k
        have o2 := bO.cellv 2
        have hgb : g ≠ w.heap.size + 1 + 1 + os0.size := by
          intro e
          exact ho.okb (.inr (bO.okb (e := 42) (by decide))) (by simp [Value.ownBlock, e])
        have hg3 : w.heap.size + 1 + 1 ≤ g := (ho.block rfl).1
        have MM := Lib.hid (MV.mk (b0.cellv 0) (b0.cellv 1) (b0.cellv 2) (b0.cellv 3) (Fx.out.keep hg.kp))
        have Hgb := Lib.hid hgb
        have Hg3 := Lib.hid hg3
        have B0 := Lib.hid b0
        have B1 := Lib.hid b1
        have BO := Lib.hid bO
        have Ho := Lib.hid ho
        have Hg := Lib.hid hg
        clear b0 b1 bO ho hg hgb hg3
        have HMg := Lib.hid (fun (u : World) (hu : ∃ n, u = wr.drewN n) => S_l03Margin W H D k _ _ ca xs u (by obtain ⟨n, rfl⟩ := hu; exact MM.out.gr (gr_drewN wr n)) (by omega) (by omega) hlt e1.out (by omega))
        have HWn := Lib.hid (fun (u : World) (hu : ∃ n, u = wr.drewN n) => S_l03Winner W H D k _ _ ca xs (-1) u (by obtain ⟨n, rfl⟩ := hu; exact MM.out.gr (gr_drewN wr n)) (by omega) (by omega) hlt e1.out (by omega))
        have hR : k * D + D ≤ xs.length := by
          have : (k + 1) * D ≤ W * H * D := Nat.mul_le_mul_right D hlt
          rw [Nat.add_mul, Nat.one_mul] at this
          have := e1.out
          omega
        have e4 : IntKind.i64.wrap ((k : Int) * (D : Int)) = ((k * D : Nat) : Int) := by rw [← Int.natCast_mul]; exact IntWalk.i64_in _ (by omega)
        have d2 := MM.out.c2
        have d3 := MM.out.c3
        have hq := gTrust_ways2 (fun j => xs.getD (k * D + j) 0) D
        obtain ⟨T, hT⟩ : ∃ T, T = gTrust (fun j => xs.getD (k * D + j) 0) D := ⟨_, rfl⟩
        rw [← hT] at hq
        have EV := Lib.hid (show gTrustAt xs (D : Int) k = T by rw [hT]; unfold gTrustAt; rw [Int.toNat_natCast])
        clear hT
        generalize k * D = L at *
        generalize gMarg (fun j => xs.getD (L + j) 0) D = M at *
        generalize gWin (fun j => xs.getD (L + j) 0) (-1) D = g at *
        rcases hq with ⟨t1, rfl⟩ | ⟨f, hf, rfl, t1, ht⟩
        · go_wp2_with (first
      | (go_at_call 82; with_reducible refine (HMg.out _ (by with_reducible first | exact ⟨_, rfl⟩ | exact drew_self _)).mono ?_; rintro e w' ⟨r1, rfl, hr1, n, rfl⟩)
      | (go_at_call 83; refine (S_l03Infinity _).mono ?_; rintro e w' ⟨rfl, n, rfl⟩)
      | ((with_reducible apply wpList_fop); (case hw => rfl); (case hop => rfl); (case hx => rfl); (case hy => rfl); (case hA => (first | assumption | exact FE.ofInt _ _ | exact FE.lit (by decide +kernel))); (case hB => (first | assumption | exact FE.ofInt _ _ | exact FE.lit (by decide +kernel))); intro r n hr)
      | ((with_reducible apply wpList_fcmp); (case hw => rfl); (case hop => rfl); (case hx => rfl); (case hy => rfl); (case hA => (first | assumption | exact FE.ofInt _ _ | exact FE.lit (by decide +kernel))); (case hB => (first | assumption | exact FE.ofInt _ _ | exact FE.lit (by decide +kernel))); (case hb => (first | assumption | rfl)))
      | ((with_reducible apply wpList_widen); (case hw => rfl); (case hs => exact Try.underlying42); (case hd => exact Try.underlying84); (case hx => rfl); (case hA => (first | assumption | exact FE.ofInt _ _ | exact FE.lit (by decide +kernel))); intro r n hr)
      | ((with_reducible apply wpList_fneg); (case hw => rfl); (case hx => rfl); (case hA => (first | assumption | exact FE.ofInt _ _ | exact FE.lit (by decide +kernel))); intro r hr))
          go_roundw
          case rel => exact ⟨k + 1, by omega, by go_num, B0.out.gr (by (try show Gr _ _); repeat (with_reducible first | exact Gr.refl _ | refine Gr.drewN ?_ _ | refine Gr.grew ?_ _ _ | refine Gr.alloc ?_ _ | refine Gr.drew ?_)), B1.out.gr (by (try show Gr _ _); repeat (with_reducible first | exact Gr.refl _ | refine Gr.drewN ?_ _ | refine Gr.grew ?_ _ _ | refine Gr.alloc ?_ _ | refine Gr.drew ?_)), BO.out.gr (by (try show Gr _ _); repeat (with_reducible first | exact Gr.refl _ | refine Gr.drewN ?_ _ | refine Gr.grew ?_ _ _ | refine Gr.alloc ?_ _ | refine Gr.drew ?_)), (by rw [← upto_keep (n := W * H) (k := k) (G := gTrustAt xs D) (O := fun _ => 1065353216) (EV.out).symm]; exact Ho.out.gr (by (try show Gr _ _); repeat (with_reducible first | exact Gr.refl _ | refine Gr.drewN ?_ _ | refine Gr.grew ?_ _ _ | refine Gr.alloc ?_ _ | refine Gr.drew ?_))), Hg.out.trans (by (try show Gr _ _); repeat (with_reducible first | exact Gr.refl _ | refine Gr.drewN ?_ _ | refine Gr.grew ?_ _ _ | refine Gr.alloc ?_ _ | refine Gr.drew ?_))⟩
          case measure => simp [intOf]; omega
        · obtain ⟨rc, hcc, hfc⟩ := MM.out.fs.get (L + f) (by omega)
          change (gNaN (fop .quo .f32 M (fop .add .f32 M (xs.getD (L + f) 0))) = true ∧ T = 0) ∨ (gNaN (fop .quo .f32 M (fop .add .f32 M (xs.getD (L + f) 0))) = false ∧ T = fop .quo .f32 M (fop .add .f32 M (xs.getD (L + f) 0))) at ht
          generalize xs.getD (L + f) 0 = vf at *
          unfold gNaN at ht
          rcases ht with ⟨t2, rfl⟩ | ⟨t2, rfl⟩
          · go_wp2_with (first
      | (go_at_call 82; with_reducible refine (HMg.out _ (by with_reducible first | exact ⟨_, rfl⟩ | exact drew_self _)).mono ?_; rintro e w' ⟨r1, rfl, hr1, n, rfl⟩)
      | (go_at_call 83; refine (S_l03Infinity _).mono ?_; rintro e w' ⟨rfl, n, rfl⟩)
      | (go_at_call 84; with_reducible refine (HWn.out _ (by with_reducible first | exact ⟨_, rfl⟩ | exact drew_self _)).mono ?_; rintro e w' ⟨rfl, n, rfl⟩)
      | ((with_reducible apply wpList_fop); (case hw => rfl); (case hop => rfl); (case hx => rfl); (case hy => rfl); (case hA => (first | assumption | exact FE.ofInt _ _ | exact FE.lit (by decide +kernel))); (case hB => (first | assumption | exact FE.ofInt _ _ | exact FE.lit (by decide +kernel))); intro r n hr)
      | ((with_reducible apply wpList_fcmp); (case hw => rfl); (case hop => rfl); (case hx => rfl); (case hy => rfl); (case hA => (first | assumption | exact FE.ofInt _ _ | exact FE.lit (by decide +kernel))); (case hB => (first | assumption | exact FE.ofInt _ _ | exact FE.lit (by decide +kernel))); (case hb => (first | assumption | rfl)))
      | ((with_reducible apply wpList_widen); (case hw => rfl); (case hs => exact Try.underlying42); (case hd => exact Try.underlying84); (case hx => rfl); (case hA => (first | assumption | exact FE.ofInt _ _ | exact FE.lit (by decide +kernel))); intro r n hr)
      | ((with_reducible apply wpList_fneg); (case hw => rfl); (case hx => rfl); (case hA => (first | assumption | exact FE.ofInt _ _ | exact FE.lit (by decide +kernel))); intro r hr))
            go_roundw
            case rel =>
              have hx := Hg3.out
              refine ⟨k + 1, by omega, by go_num, B0.out.setG (by (try show Gr _ _); repeat (with_reducible first | exact Gr.refl _ | refine Gr.drewN ?_ _ | refine Gr.grew ?_ _ _ | refine Gr.alloc ?_ _ | refine Gr.drew ?_)) (by simp; omega), B1.out.setG (by (try show Gr _ _); repeat (with_reducible first | exact Gr.refl _ | refine Gr.drewN ?_ _ | refine Gr.grew ?_ _ _ | refine Gr.alloc ?_ _ | refine Gr.drew ?_)) (by simp; omega), BO.out.setG (by (try show Gr _ _); repeat (with_reducible first | exact Gr.refl _ | refine Gr.drewN ?_ _ | refine Gr.grew ?_ _ _ | refine Gr.alloc ?_ _ | refine Gr.drew ?_)) Hgb.out, ?_, Hg.out.setG (by (try show Gr _ _); repeat (with_reducible first | exact Gr.refl _ | refine Gr.drewN ?_ _ | refine Gr.grew ?_ _ _ | refine Gr.alloc ?_ _ | refine Gr.drew ?_)) (by simp; omega)⟩
              rw [← upto_set (G := gTrustAt xs D) (O := fun _ => 1065353216) hlt]
              refine FOwn.gr ?_ (by (try show Gr _ _); repeat (with_reducible first | exact Gr.refl _ | refine Gr.drewN ?_ _ | refine Gr.grew ?_ _ _ | refine Gr.alloc ?_ _ | refine Gr.drew ?_))
              rw [EV.out]
              exact Ho.out.store (k := k) (by first | assumption | exact FE.ofInt _ _ | exact FE.lit (by decide +kernel))
            case measure => simp [intOf]; omega
          · go_wp2_with (first
      | (go_at_call 82; with_reducible refine (HMg.out _ (by with_reducible first | exact ⟨_, rfl⟩ | exact drew_self _)).mono ?_; rintro e w' ⟨r1, rfl, hr1, n, rfl⟩)
      | (go_at_call 83; refine (S_l03Infinity _).mono ?_; rintro e w' ⟨rfl, n, rfl⟩)
      | (go_at_call 84; with_reducible refine (HWn.out _ (by with_reducible first | exact ⟨_, rfl⟩ | exact drew_self _)).mono ?_; rintro e w' ⟨rfl, n, rfl⟩)
      | ((with_reducible apply wpList_fop); (case hw => rfl); (case hop => rfl); (case hx => rfl); (case hy => rfl); (case hA => (first | assumption | exact FE.ofInt _ _ | exact FE.lit (by decide +kernel))); (case hB => (first | assumption | exact FE.ofInt _ _ | exact FE.lit (by decide +kernel))); intro r n hr)
      | ((with_reducible apply wpList_fcmp); (case hw => rfl); (case hop => rfl); (case hx => rfl); (case hy => rfl); (case hA => (first | assumption | exact FE.ofInt _ _ | exact FE.lit (by decide +kernel))); (case hB => (first | assumption | exact FE.ofInt _ _ | exact FE.lit (by decide +kernel))); (case hb => (first | assumption | rfl)))
      | ((with_reducible apply wpList_widen); (case hw => rfl); (case hs => exact Try.underlying42); (case hd => exact Try.underlying84); (case hx => rfl); (case hA => (first | assumption | exact FE.ofInt _ _ | exact FE.lit (by decide +kernel))); intro r n hr)
      | ((with_reducible apply wpList_fneg); (case hw => rfl); (case hx => rfl); (case hA => (first | assumption | exact FE.ofInt _ _ | exact FE.lit (by decide +kernel))); intro r hr))
            go_roundw
            case rel =>
              have hx := Hg3.out
              refine ⟨k + 1, by omega, by go_num, B0.out.setG (by (try show Gr _ _); repeat (with_reducible first | exact Gr.refl _ | refine Gr.drewN ?_ _ | refine Gr.grew ?_ _ _ | refine Gr.alloc ?_ _ | refine Gr.drew ?_)) (by simp; omega), B1.out.setG (by (try show Gr _ _); repeat (with_reducible first | exact Gr.refl _ | refine Gr.drewN ?_ _ | refine Gr.grew ?_ _ _ | refine Gr.alloc ?_ _ | refine Gr.drew ?_)) (by simp; omega), BO.out.setG (by (try show Gr _ _); repeat (with_reducible first | exact Gr.refl _ | refine Gr.drewN ?_ _ | refine Gr.grew ?_ _ _ | refine Gr.alloc ?_ _ | refine Gr.drew ?_)) Hgb.out, ?_, Hg.out.setG (by (try show Gr _ _); repeat (with_reducible first | exact Gr.refl _ | refine Gr.drewN ?_ _ | refine Gr.grew ?_ _ _ | refine Gr.alloc ?_ _ | refine Gr.drew ?_)) (by simp; omega)⟩
              rw [← upto_set (G := gTrustAt xs D) (O := fun _ => 1065353216) hlt]
              refine FOwn.gr ?_ (by (try show Gr _ _); repeat (with_reducible first | exact Gr.refl _ | refine Gr.drewN ?_ _ | refine Gr.grew ?_ _ _ | refine Gr.alloc ?_ _ | refine Gr.drew ?_))
              rw [EV.out]
              exact Ho.out.store (k := k) (by first | assumption | exact FE.ofInt _ _ | exact FE.lit (by decide +kernel))
            case measure => simp [intOf]; omega
      · obtain rfl : k = W * H := by omega
        have p0 := bO.cellv 0
        have p1 := bO.cellv 1
        have p2 := bO.cellv 2
        have q0 := b1.cellv 0
        have q1 := b1.cellv 1
        have q2 := b1.cellv 2
        have z0 := b1.frozen 0
        have z1 := b1.frozen 1
        have z2 := b1.frozen 2
        have Ho := Lib.hid ho
        have Hg := Lib.hid hg
        clear b0 b1 bO ho hg
        go_wp2
        refine bodyPost_ret (v := .tuple #[.agg #[.int .i64 W, .int .i64 H, .slice (some ⟨g, 0, none⟩) (W * H) cg], .bool true]) (by simp [results, Try.results26, go_sem, *]) rfl ⟨⟨_, rfl, ?_⟩, ?_⟩
        · have h := Ho.out
          rw [upto_all] at h
          show FOwn _ _ _ _ (lst (W * H) _)
          exact FOwn.base (B := w.heap.size + 1 + 1) (by repeat (with_reducible first | assumption | refine FOwn.setOther ?_ _ (by simp <;> omega))) (by omega)
        · have h := Hg.out
          exact (by repeat (with_reducible first | assumption | refine Gr.setCell ?_ (by simp <;> omega) _))
set_option maxRecDepth 20000 in
set_option maxHeartbeats 600000 in
theorem I_TrustOf (W H D : Int) (a : Option Addr) (ca : Nat) (xs : List Nat) (w : World) (fx : FSl w a xs.length xs) (hca : xs.length ≤ ca) (hn : xs.length ≤ 1048576) :
    Calls Try.prog 27 #[.agg #[.int .i64 W, .int .i64 H, .int .i64 D, .slice a xs.length ca]] w
      (PostP w (gW (gVol W H D xs.length) W) (gW (gVol W H D xs.length) H) (gVol W H D xs.length) (gVals (gVol W H D xs.length) (W * H).toNat (gTrustAt xs D))) := by
  rw [← gCell_trust]
  obtain ⟨L, hL⟩ : ∃ L, L = gVals (gVol W H D xs.length) (W * H).toNat (gCellAt tTrust xs D) := ⟨_, rfl⟩
  have HR := Lib.hid (fun (u : World) (fx : FSl u a xs.length xs) =>
    I_cellMap W H D a ca xs 86 #[] tTrust u fx hca hn ⟨Try.call86, fun a c ys w1 g hs h1 h8 => (I_TrustOf_1 a c ys w1 hs h1 (by omega)).mono fun e w' ⟨r, he, hr, n, hw⟩ => ⟨⟨r, he, hr⟩, gr_of_drew hw⟩⟩)
  rw [← hL] at HR ⊢
  have Fx := Lib.hid fx
  clear hL fx
  cases hP : gVol W H D xs.length
  all_goals
    rw [hP] at HR
    go_enter Try.func27, Try.ntmps27
    go_wp2_with fail
    refine (HR.out _ (Fx.out.keep (by (repeat (with_reducible first | exact Kp.refl _ | exact kp_same | exact kp_app1 | exact kp_app2 | exact kp_app3 | refine Kp.grew ?_ _ _ | refine Kp.drewN ?_ _ | refine Kp.drew ?_ | refine Kp.alloc ?_ _))))).mono ?_
    rintro e u1 ⟨⟨v0, rfl, ho⟩, g⟩
    have k : Gr w u1 := Gr.trans (by (try show Gr _ _); repeat (with_reducible first | exact Gr.refl _ | refine Gr.drewN ?_ _ | refine Gr.grew ?_ _ _ | refine Gr.alloc ?_ _ | refine Gr.drew ?_)) g
    have B6 := Lib.hid (Blk.gr (show Blk _ (w.heap.size + 1) [.int .i64 0, .int .i64 0, .slice none 0 0] 29 from (by repeat (with_reducible first | assumption | exact Blk.atNew (by simp) | refine Blk.alloc ?_ _ | refine Blk.grew ?_ _ _ | refine Blk.drewN ?_ _ | refine Blk.drew ?_))) g)
    obtain ⟨a1, c1, rfl, -, -⟩ := ho.sl
    have Ho := Lib.hid ho
    have G := Lib.hid k
    clear ho g k
    have q0 := B6.out.cellv 0
    have q1 := B6.out.cellv 1
    have q2 := B6.out.cellv 2
    have z0 := B6.out.frozen 0
    have z1 := B6.out.frozen 1
    have z2 := B6.out.frozen 2
    go_wp2
    refine bodyPost_ret (v := .tuple #[.agg #[.int .i64 _, .int .i64 _, .slice a1 _ c1], .bool _]) (by simp [results, Try.results27, go_sem, *]; rfl) rfl ⟨⟨_, rfl, ?_⟩, ?_⟩
    · have h := Ho.out.base (B' := w.heap.size + 1 + 1) (by simp)
      exact FOwn.base (B := w.heap.size + 1 + 1) (by repeat (with_reducible first | assumption | refine FOwn.setOther ?_ _ (by simp <;> omega))) (by omega)
    · have h := G.out
      exact (by repeat (with_reducible first | assumption | refine Gr.setCell ?_ (by simp <;> omega) _))
end Go.Proofs.Ytldeeijfipiafaa
