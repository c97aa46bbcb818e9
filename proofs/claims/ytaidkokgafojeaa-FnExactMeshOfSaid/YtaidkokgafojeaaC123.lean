/- Contracts: MeshOf, the reference. MAXREC -/
import Derived.Test.YtaidkokgafojeaaProg
import Derived.Test.YtaidkokgafojeaaC73
import Derived.Test.YtaidkokgafojeaaTr
import Derived.Test.YtaidkokgafojeaaMf
import Derived.Test.YtaidkokgafojeaaMg
import Derived.Deep.DeepCutAuto
import Derived.Deep.LoopGhost
namespace Go.Proofs.Ytaidkokgafojeaa
open Go.RowKit Go.Fx Go.Soft
theorem info_int64S : (Try.prog.info? 71).map (fun i => (i.zero, i.size, i.bytes)) = some (some (.slice none 0 0), 1, 24) := by kernel_rfl
/-- What a function that hands back vectors, rows of three and whether there are any leaves. -/
def PostVT (w : World) (ok : Bool) (n : Nat) (L : List Nat) (ts : List (List Int)) (e : Ending) (w' : World) : Prop :=
  (∃ v u, e = .returned (.tuple #[v, u, .bool ok]) ∧ VOwn w' w.heap.size 137 v n L ∧ TriOwn w' w.heap.size w'.heap.size 71 2 u ts) ∧ Gr w w'
set_option maxRecDepth 20000 in
set_option maxHeartbeats 8000000 in
theorem S_MeshOf (f b mx my F B X Y most M : Nat) (W H : Int) (a : Option Addr) (ca : Nat) (xs : List Nat) (w : World) (hf : FE .f32 f F) (hb : FE .f32 b B) (hx : FE .f32 mx X) (hy : FE .f32 my Y) (hM : FE .f32 most M) (fx : FSl w a xs.length xs) (hn : xs.length ≤ 1048576) :
    Calls Try.prog 53 #[.agg #[.float .f32 f, .float .f32 b, .float .f32 mx, .float .f32 my], .agg #[.int .i64 W, .int .i64 H, .slice a xs.length ca], .float .f32 most] w
      (PostVT w (gPtsOk F B X Y W H xs.length) (if gPtsOk F B X Y W H xs.length then (gPtsI F B xs xs.length).length else 0) (if gPtsOk F B X Y W H xs.length then gPtsV F B X Y W.toNat xs xs.length else []) (if gPtsOk F B X Y W H xs.length then gMesh (gPtsI F B xs xs.length) (gPtsV F B X Y W.toNat xs xs.length) W.toNat H.toNat M xs.length else [])) := by
  have hn' : xs.length ≤ maxLen := by unfold maxLen; omega
  have Fx := Lib.hid fx
  clear fx
  unfold gPtsOk
  cases hC : gCam F B X Y
  · go_enter Try.func53, Try.ntmps53
    go_wp2_with (first
      | (go_at_call 107; with_reducible refine (S_l06Is _ _ _ _ _ _ _ _ _ _ _ hf hb hx hy (by first | (simp (maxDischargeDepth := 12) [go_sem]; done) | (simp (maxDischargeDepth := 12) [go_sem, *]; done)) (by first | (simp (maxDischargeDepth := 12) [go_sem]; done) | (simp (maxDischargeDepth := 12) [go_sem, *]; done)) (by first | (simp (maxDischargeDepth := 12) [go_sem]; done) | (simp (maxDischargeDepth := 12) [go_sem, *]; done)) (by first | (simp (maxDischargeDepth := 12) [go_sem]; done) | (simp (maxDischargeDepth := 12) [go_sem, *]; done))).mono ?_; rintro e w' ⟨rfl, n, rfl⟩; rw [hC]))
    exact bodyPost_ret (v := .tuple #[.slice none 0 0, .slice none 0 0, .bool false]) (by simp [results, Try.results53, go_sem]) rfl ⟨⟨_, _, rfl, VOwn.nil _ _ _, TriOwn.nil _ _ _ _ _⟩, (by (try show Gr _ _); repeat (with_reducible first | exact Gr.refl _ | refine Gr.drewN ?_ _ | refine Gr.grew ?_ _ _ | refine Gr.alloc ?_ _ | refine Gr.drew ?_))⟩
  cases hP : gPic W H xs.length
  · go_enter Try.func53, Try.ntmps53
    go_wp2_with (first
      | (go_at_call 107; with_reducible refine (S_l06Is _ _ _ _ _ _ _ _ _ _ _ hf hb hx hy (by first | (simp (maxDischargeDepth := 12) [go_sem]; done) | (simp (maxDischargeDepth := 12) [go_sem, *]; done)) (by first | (simp (maxDischargeDepth := 12) [go_sem]; done) | (simp (maxDischargeDepth := 12) [go_sem, *]; done)) (by first | (simp (maxDischargeDepth := 12) [go_sem]; done) | (simp (maxDischargeDepth := 12) [go_sem, *]; done)) (by first | (simp (maxDischargeDepth := 12) [go_sem]; done) | (simp (maxDischargeDepth := 12) [go_sem, *]; done))).mono ?_; rintro e w' ⟨rfl, n, rfl⟩; rw [hC])
      | (go_at_call 88; with_reducible refine (S_l03IsMap W H a _ ca _ _ _ hn' (by first | (simp (maxDischargeDepth := 12) [go_sem]; done) | (simp (maxDischargeDepth := 12) [go_sem, *]; done)) (by first | (simp (maxDischargeDepth := 12) [go_sem]; done) | (simp (maxDischargeDepth := 12) [go_sem, *]; done)) (by first | (simp (maxDischargeDepth := 12) [go_sem]; done) | (simp (maxDischargeDepth := 12) [go_sem, *]; done))).mono ?_; rintro e w' ⟨rfl, n, rfl⟩; rw [hP]))
    exact bodyPost_ret (v := .tuple #[.slice none 0 0, .slice none 0 0, .bool false]) (by simp [results, Try.results53, go_sem]) rfl ⟨⟨_, _, rfl, VOwn.nil _ _ _, TriOwn.nil _ _ _ _ _⟩, (by (try show Gr _ _); repeat (with_reducible first | exact Gr.refl _ | refine Gr.drewN ?_ _ | refine Gr.grew ?_ _ _ | refine Gr.alloc ?_ _ | refine Gr.drew ?_))⟩
  · obtain ⟨W', H', rfl, rfl, h1, h2, h3, h4, h5, h6⟩ := gPic_nat hP
    have LP := Lib.hid (fun w1 (g : Gr w w1) c0 c1 c2 c3 d0 d2 => S_l06Points f b mx my F B X Y w.heap.size (w.heap.size + 1) W' H' xs.length ca a xs w1 hf hb hx hy c0 c1 c2 c3 d0 d2 (Fx.out.keep g.kp) h3 h1 h2 h5)
    obtain ⟨i0, hi, hz0, hz1, hz2⟩ := info_parts info_int64S
    simp only [Bool.and_self, if_true, Int.toNat_natCast]
    have hdeep := gPtsV_deep F B X Y W' xs xs.length
    obtain ⟨V, hV⟩ : ∃ V, V = gPtsV F B X Y W' xs xs.length := ⟨_, rfl⟩
    obtain ⟨I, hI⟩ : ∃ I, I = gPtsI F B xs xs.length := ⟨_, rfl⟩
    have hIl : I.length ≤ xs.length := by rw [hI]; exact gPtsI_length F B xs _
    rw [← hV, ← hI] at LP hdeep ⊢
    have HD := Lib.hid hdeep
    obtain ⟨nL, hnn⟩ : ∃ nL, nL = xs.length := ⟨_, rfl⟩
    have hn5 : nL ≤ 576 := by rw [hnn, h5]; exact Nat.mul_le_mul h1 h2
    have HN := Lib.hid hnn
    have H5 := Lib.hid h5
    clear hV hI h5 h6 hdeep
    go_enter Try.func53, Try.ntmps53
    go_wp2_with (first | (go_at_call 107; with_reducible refine (S_l06Is _ _ _ _ _ _ _ _ _ _ _ hf hb hx hy (by first | (simp (maxDischargeDepth := 12) [go_sem]; done) | (simp (maxDischargeDepth := 12) [go_sem, *]; done)) (by first | (simp (maxDischargeDepth := 12) [go_sem]; done) | (simp (maxDischargeDepth := 12) [go_sem, *]; done)) (by first | (simp (maxDischargeDepth := 12) [go_sem]; done) | (simp (maxDischargeDepth := 12) [go_sem, *]; done)) (by first | (simp (maxDischargeDepth := 12) [go_sem]; done) | (simp (maxDischargeDepth := 12) [go_sem, *]; done))).mono ?_; rintro e w' ⟨rfl, nq, rfl⟩; rw [hC]) | (go_at_call 88; with_reducible refine (S_l03IsMap W' H' a _ ca _ _ _ hn' (by first | (simp (maxDischargeDepth := 12) [go_sem]; done) | (simp (maxDischargeDepth := 12) [go_sem, *]; done)) (by first | (simp (maxDischargeDepth := 12) [go_sem]; done) | (simp (maxDischargeDepth := 12) [go_sem, *]; done)) (by first | (simp (maxDischargeDepth := 12) [go_sem]; done) | (simp (maxDischargeDepth := 12) [go_sem, *]; done))).mono ?_; rintro e w' ⟨rfl, nq, rfl⟩; rw [hP]))
    refine (LP.out _ (by (try show Gr _ _); repeat (with_reducible first | exact Gr.refl _ | refine Gr.drewN ?_ _ | refine Gr.grew ?_ _ _ | refine Gr.alloc ?_ _ | refine Gr.drew ?_)) (by first | (simp (maxDischargeDepth := 12) [go_sem]; done) | (simp (maxDischargeDepth := 12) [go_sem, *]; done)) (by first | (simp (maxDischargeDepth := 12) [go_sem]; done) | (simp (maxDischargeDepth := 12) [go_sem, *]; done)) (by first | (simp (maxDischargeDepth := 12) [go_sem]; done) | (simp (maxDischargeDepth := 12) [go_sem, *]; done)) (by first | (simp (maxDischargeDepth := 12) [go_sem]; done) | (simp (maxDischargeDepth := 12) [go_sem, *]; done)) (by first | (simp (maxDischargeDepth := 12) [go_sem]; done) | (simp (maxDischargeDepth := 12) [go_sem, *]; done)) (by first | (simp (maxDischargeDepth := 12) [go_sem]; done) | (simp (maxDischargeDepth := 12) [go_sem, *]; done))).mono ?_
    rintro e w1 ⟨⟨v, u, rfl, ho, hu⟩, g⟩
    have G1 := Lib.hid (Gr.trans (show Gr w _ from (by (try show Gr _ _); repeat (with_reducible first | exact Gr.refl _ | refine Gr.drewN ?_ _ | refine Gr.grew ?_ _ _ | refine Gr.alloc ?_ _ | refine Gr.drew ?_))) g)
    have B1 := Lib.hid (Blk.gr (show Blk _ (w.heap.size + 1) [.int .i64 W', .int .i64 H', .slice a xs.length ca] 24 from (by repeat (with_reducible first | assumption | exact Blk.atNew (by simp) | refine Blk.alloc ?_ _ | refine Blk.grew ?_ _ _ | refine Blk.drewN ?_ _ | refine Blk.drew ?_))) g)
    have HO := Lib.hid (ho.base (B' := w.heap.size) (by simp <;> omega))
    have HU := Lib.hid (hu.base (B' := w.heap.size) (by simp <;> omega))
    have hs1 := G1.out.size
    obtain ⟨av, cv, rfl⟩ := ho.form
    obtain ⟨au, cu, rfl⟩ := hu.form
    clear ho hu g
    go_wp2
    go_loopg [11, 12] nL (fun g1 s t wr => ∃ k : Nat, t = .int .i64 k ∧ k ≤ nL ∧ g1 = nL - k ∧ TriOwn wr w1.heap.size wr.heap.size 71 2 s (gMesh I V W' H' M k) ∧ Gr w1 wr)
    case atStart => exact ⟨0, rfl, Nat.zero_le _, by omega, TriOwn.empty (by repeat (with_reducible first | assumption | exact Blk.atNew (by simp) | refine Blk.alloc ?_ _ | refine Blk.grew ?_ _ _ | refine Blk.drewN ?_ _ | refine Blk.drew ?_)) (Nat.le_refl _), (by (try show Gr _ _); repeat (with_reducible first | exact Gr.refl _ | refine Gr.drewN ?_ _ | refine Gr.grew ?_ _ _ | refine Gr.alloc ?_ _ | refine Gr.drew ?_))⟩
    case round =>
      obtain ⟨k, rfl, hk, rfl, ht, hg⟩ := hrel
      obtain ⟨at', ct, rfl⟩ := ht.form
      have Bk := B1.out.gr hg
      have m0 := Bk.cellv 0
      have m1 := Bk.cellv 1
      have m2 := Bk.cellv 2
      have Ht := Lib.hid ht
      have Hg := Lib.hid hg
      clear ht hg Bk
      by_cases hlt : k < nL
      · have hkx : k < xs.length := by have := HN.out; omega
        obtain ⟨x, hxx⟩ : ∃ x, x = k % W' := ⟨_, rfl⟩
        obtain ⟨y, hyy⟩ : ∃ y, y = k / W' := ⟨_, rfl⟩
        have hxW : x < W' := by rw [hxx]; exact Nat.mod_lt _ (by omega)
        have hyH : y < H' := by rw [hyy]; exact Nat.div_lt_of_lt_mul (by rw [← H5.out]; exact hkx)
        have e3 : (k : Int).tmod (W' : Int) = (x : Int) := by rw [Int.tmod_eq_emod_of_nonneg (by omega), hxx]; exact (Int.natCast_emod k W').symm
        have e4 : (k : Int).tdiv (W' : Int) = (y : Int) := by rw [Int.tdiv_eq_ediv_of_nonneg (by omega), hyy]; exact (Int.natCast_ediv k W').symm
        have W0 : ¬ (W' : Int) = 0 := by omega
        have W1 : ¬ W' = 0 := by omega
        have e6 : IntKind.i64.wrap (y : Int) = (y : Int) := IntWalk.i64_in _ (by omega)
        have wW : IntKind.i64.wrap ((W' : Int) - 1) = (W' : Int) - 1 := IntWalk.i64_in _ (by omega)
        have wH : IntKind.i64.wrap ((H' : Int) - 1) = (H' : Int) - 1 := IntWalk.i64_in _ (by omega)
        have EX := Lib.hid (⟨hxx, hyy⟩ : _ ∧ _)
        clear hxx hyy
        by_cases hxe : x + 1 = W'
        · have b1 : ((x : Int) == (W' : Int) - 1) = true := by simp; omega
          have ES := Lib.hid (gMesh_skip (I := I) (V := V) (M := M) (W := W') (H := H') (i := k) (Or.inl (by rw [← EX.out.1]; exact hxe)))
          clear hxe
          go_wp2
          apply region_drew 17
          case hm => kernel_rfl
          case hB => kernel_rfl
          simp only [List.take_succ_cons, List.take_zero, List.drop_succ_cons, List.drop_zero]
          repeat (first
            | (simp only [b1])
            | (apply wpSoft_skip rfl; simp only [Act.put, List.setIfInBounds_toArray, List.set_cons_succ, List.set_cons_zero])
            | (apply wpSoft_nilCheck rfl rfl; simp only [Act.put, List.setIfInBounds_toArray, List.set_cons_succ, List.set_cons_zero])
            | ((with_reducible apply wpSoft_fop); (case hw => rfl); (case hD => exact closed_drew); (case hop => rfl); (case hx => rfl); (case hy => rfl); (case hA => (first | assumption | exact FE.ofInt _ _ | exact FE.lit (by decide +kernel))); (case hB => (first | assumption | exact FE.ofInt _ _ | exact FE.lit (by decide +kernel))); (intro r hr; simp only [Act.put, List.setIfInBounds_toArray, List.set_cons_succ, List.set_cons_zero]))

            | ((with_reducible apply wpSoft_widen); (case hw => rfl); (case hD => exact closed_drew); (case hs => exact Try.underlying65); (case hd => exact Try.underlying147); (case hx => rfl); (case hA => (first | assumption | exact FE.ofInt _ _ | exact FE.lit (by decide +kernel))); (intro r hr; simp only [Act.put, List.setIfInBounds_toArray, List.set_cons_succ, List.set_cons_zero]))
            | ((with_reducible apply wpSoft_fneg); (case hw => rfl); (case hx => rfl); (case hA => (first | assumption | exact FE.ofInt _ _ | exact FE.lit (by decide +kernel))); (intro r hr; simp only [Act.put, List.setIfInBounds_toArray, List.set_cons_succ, List.set_cons_zero]))
            | ((with_reducible apply wpSoft_fcmp); (case hw => rfl); (case hop => rfl); (case hx => rfl); (case hy => rfl); (case hA => (first | assumption | exact FE.ofInt _ _ | exact FE.lit (by decide +kernel))); (case hB => (first | assumption | exact FE.ofInt _ _ | exact FE.lit (by decide +kernel))); (case hb => (first | assumption | rfl)); simp only [Act.put, List.setIfInBounds_toArray, List.set_cons_succ, List.set_cons_zero])
            | (apply wpSoft_q rfl rfl; intro K hK; go_big_quiet_op; go_big_quiet_on))
          with_reducible apply wpSoft_nil
          intro m
          go_wp2
          go_roundg (nL - (k + 1))
          case measure => omega
          case rel => exact ⟨k + 1, by go_num, by omega, rfl, by rw [ES.out]; exact (Ht.out.gr (by (try show Gr _ _); repeat (with_reducible first | exact Gr.refl _ | refine Gr.drewN ?_ _ | refine Gr.grew ?_ _ _ | refine Gr.alloc ?_ _ | refine Gr.drew ?_))).mono (Nat.le_refl _) (by simp), Hg.out.trans (by (try show Gr _ _); repeat (with_reducible first | exact Gr.refl _ | refine Gr.drewN ?_ _ | refine Gr.grew ?_ _ _ | refine Gr.alloc ?_ _ | refine Gr.drew ?_))⟩
        · have b1 : ((x : Int) == (W' : Int) - 1) = false := by simp; omega
          by_cases hye : y + 1 = H'
          · have b2 : ((y : Int) == (H' : Int) - 1) = true := by simp; omega
            have ES := Lib.hid (gMesh_skip (I := I) (V := V) (M := M) (W := W') (H := H') (i := k) (Or.inr (by rw [← EX.out.2]; exact hye)))
            clear hye
            go_wp2
            apply region_drew 17
            case hm => kernel_rfl
            case hB => kernel_rfl
            simp only [List.take_succ_cons, List.take_zero, List.drop_succ_cons, List.drop_zero]
            repeat (first
              | (simp only [b1])
              | (simp only [b2])
              | (apply wpSoft_skip rfl; simp only [Act.put, List.setIfInBounds_toArray, List.set_cons_succ, List.set_cons_zero])
              | (apply wpSoft_nilCheck rfl rfl; simp only [Act.put, List.setIfInBounds_toArray, List.set_cons_succ, List.set_cons_zero])
              | ((with_reducible apply wpSoft_fop); (case hw => rfl); (case hD => exact closed_drew); (case hop => rfl); (case hx => rfl); (case hy => rfl); (case hA => (first | assumption | exact FE.ofInt _ _ | exact FE.lit (by decide +kernel))); (case hB => (first | assumption | exact FE.ofInt _ _ | exact FE.lit (by decide +kernel))); (intro r hr; simp only [Act.put, List.setIfInBounds_toArray, List.set_cons_succ, List.set_cons_zero]))

              | ((with_reducible apply wpSoft_widen); (case hw => rfl); (case hD => exact closed_drew); (case hs => exact Try.underlying65); (case hd => exact Try.underlying147); (case hx => rfl); (case hA => (first | assumption | exact FE.ofInt _ _ | exact FE.lit (by decide +kernel))); (intro r hr; simp only [Act.put, List.setIfInBounds_toArray, List.set_cons_succ, List.set_cons_zero]))
              | ((with_reducible apply wpSoft_fneg); (case hw => rfl); (case hx => rfl); (case hA => (first | assumption | exact FE.ofInt _ _ | exact FE.lit (by decide +kernel))); (intro r hr; simp only [Act.put, List.setIfInBounds_toArray, List.set_cons_succ, List.set_cons_zero]))
              | ((with_reducible apply wpSoft_fcmp); (case hw => rfl); (case hop => rfl); (case hx => rfl); (case hy => rfl); (case hA => (first | assumption | exact FE.ofInt _ _ | exact FE.lit (by decide +kernel))); (case hB => (first | assumption | exact FE.ofInt _ _ | exact FE.lit (by decide +kernel))); (case hb => (first | assumption | rfl)); simp only [Act.put, List.setIfInBounds_toArray, List.set_cons_succ, List.set_cons_zero])
              | (apply wpSoft_q rfl rfl; intro K hK; go_big_quiet_op; go_big_quiet_on))
            with_reducible apply wpSoft_nil
            intro m
            go_wp2
            go_roundg (nL - (k + 1))
            case measure => omega
            case rel => exact ⟨k + 1, by go_num, by omega, rfl, by rw [ES.out]; exact (Ht.out.gr (by (try show Gr _ _); repeat (with_reducible first | exact Gr.refl _ | refine Gr.drewN ?_ _ | refine Gr.grew ?_ _ _ | refine Gr.alloc ?_ _ | refine Gr.drew ?_))).mono (Nat.le_refl _) (by simp), Hg.out.trans (by (try show Gr _ _); repeat (with_reducible first | exact Gr.refl _ | refine Gr.drewN ?_ _ | refine Gr.grew ?_ _ _ | refine Gr.alloc ?_ _ | refine Gr.drew ?_))⟩
          · have b2 : ((y : Int) == (H' : Int) - 1) = false := by simp; omega
            have ES := Lib.hid (gMesh_on (I := I) (V := V) (M := M) (W := W') (H := H') (i := k) (by rw [← EX.out.1, ← EX.out.2]; omega))
            go_wp2
            apply region_drew 17
            case hm => kernel_rfl
            case hB => kernel_rfl
            simp only [List.take_succ_cons, List.take_zero, List.drop_succ_cons, List.drop_zero]
            repeat (first
              | (simp only [b1])
              | (simp only [b2])
              | (apply wpSoft_skip rfl; simp only [Act.put, List.setIfInBounds_toArray, List.set_cons_succ, List.set_cons_zero])
              | (apply wpSoft_nilCheck rfl rfl; simp only [Act.put, List.setIfInBounds_toArray, List.set_cons_succ, List.set_cons_zero])
              | ((with_reducible apply wpSoft_fop); (case hw => rfl); (case hD => exact closed_drew); (case hop => rfl); (case hx => rfl); (case hy => rfl); (case hA => (first | assumption | exact FE.ofInt _ _ | exact FE.lit (by decide +kernel))); (case hB => (first | assumption | exact FE.ofInt _ _ | exact FE.lit (by decide +kernel))); (intro r hr; simp only [Act.put, List.setIfInBounds_toArray, List.set_cons_succ, List.set_cons_zero]))

              | ((with_reducible apply wpSoft_widen); (case hw => rfl); (case hD => exact closed_drew); (case hs => exact Try.underlying65); (case hd => exact Try.underlying147); (case hx => rfl); (case hA => (first | assumption | exact FE.ofInt _ _ | exact FE.lit (by decide +kernel))); (intro r hr; simp only [Act.put, List.setIfInBounds_toArray, List.set_cons_succ, List.set_cons_zero]))
              | ((with_reducible apply wpSoft_fneg); (case hw => rfl); (case hx => rfl); (case hA => (first | assumption | exact FE.ofInt _ _ | exact FE.lit (by decide +kernel))); (intro r hr; simp only [Act.put, List.setIfInBounds_toArray, List.set_cons_succ, List.set_cons_zero]))
              | ((with_reducible apply wpSoft_fcmp); (case hw => rfl); (case hop => rfl); (case hx => rfl); (case hy => rfl); (case hA => (first | assumption | exact FE.ofInt _ _ | exact FE.lit (by decide +kernel))); (case hB => (first | assumption | exact FE.ofInt _ _ | exact FE.lit (by decide +kernel))); (case hb => (first | assumption | rfl)); simp only [Act.put, List.setIfInBounds_toArray, List.set_cons_succ, List.set_cons_zero])
              | (apply wpSoft_q rfl rfl; intro K hK; go_big_quiet_op; go_big_quiet_on))
            with_reducible apply wpSoft_nil
            intro m
            go_upto_region 9 with fail
            generalize hwq : World.drewN _ _ = wq
            have gq : Gr wr wq := by rw [← hwq]; exact (by (try show Gr _ _); repeat (with_reducible first | exact Gr.refl _ | refine Gr.drewN ?_ _ | refine Gr.grew ?_ _ _ | refine Gr.alloc ?_ _ | refine Gr.drew ?_))
            have GQ := Lib.hid (Hg.out.trans gq)
            have hqs := Lib.hid (show w1.heap.size ≤ wr.heap.size ∧ wr.heap.size ≤ wq.heap.size from ⟨Hg.out.size, gq.size⟩)
            obtain ⟨au', cu', eu, hIs, -⟩ := HU.out.sl
            cases eu
            have HIs := Lib.hid (hIs.keep GQ.out.kp)
            have HT := Lib.hid (Ht.out.gr gq)
            have m0 := gq.cell m0
            have m1 := gq.cell m1
            have m2 := gq.cell m2
            clear hwq gq hIs e3 e4 e6 wW wH b1 b2 hxe hye W0 W1
            have wk1 : IntKind.i64.wrap ((k : Int) + 1) = (k : Int) + 1 := IntWalk.i64_in _ (by omega)
            have wk2 : IntKind.i64.wrap ((k : Int) + (W' : Int)) = (k : Int) + (W' : Int) := IntWalk.i64_in _ (by omega)
            have wk3 : IntKind.i64.wrap ((k : Int) + (W' : Int) + 1) = (k : Int) + (W' : Int) + 1 := IntWalk.i64_in _ (by omega)
            have hI4 : I.length ≤ 4096 := by have := HN.out; omega
            have N1 := S_l06Number au cu I (k : Int) wq HIs.out hI4
            have N2 := S_l06Number au cu I ((k : Int) + 1) wq HIs.out hI4
            have N3 := S_l06Number au cu I ((k : Int) + (W' : Int)) wq HIs.out hI4
            have N4 := S_l06Number au cu I ((k : Int) + (W' : Int) + 1) wq HIs.out hI4
            obtain ⟨q1, hq1⟩ : ∃ q, q = gIx I (k : Int) := ⟨_, rfl⟩
            obtain ⟨q2, hq2⟩ : ∃ q, q = gIx I ((k : Int) + 1) := ⟨_, rfl⟩
            obtain ⟨q3, hq3⟩ : ∃ q, q = gIx I ((k : Int) + (W' : Int)) := ⟨_, rfl⟩
            obtain ⟨q4, hq4⟩ : ∃ q, q = gIx I ((k : Int) + (W' : Int) + 1) := ⟨_, rfl⟩
            rw [← hq1] at N1
            rw [← hq2] at N2
            rw [← hq3] at N3
            rw [← hq4] at N4
            have hQ : gQuad I V W' M k = if (q1 < I.length ∧ q2 < I.length ∧ q3 < I.length ∧ q4 < I.length) ∧ fcmp .leq .f32 (fop .sub .f32 (gMxTo [gZat V q1, gZat V q2, gZat V q3, gZat V q4] 3) (gMnTo [gZat V q1, gZat V q2, gZat V q3, gZat V q4] 3)) M = true then [[(q1 : Int), (q2 : Int), (q4 : Int)], [(q1 : Int), (q4 : Int), (q3 : Int)]] else [] := by
              rw [hq1, hq2, hq3, hq4]
              rfl
            have h24 : q1 < I.length → q2 < I.length → q3 < I.length → q4 < I.length → q2 ≠ q4 := fun a1 a2 a3 a4 e => by
              have e2 := gIx_get (I := I) (c := (k : Int) + 1) (by rw [← hq2]; exact a2)
              have e4 := gIx_get (I := I) (c := (k : Int) + (W' : Int) + 1) (by rw [← hq4]; exact a4)
              rw [← hq2] at e2
              rw [← hq4, ← e] at e4
              omega
            rcases (show (¬ q1 < I.length) ∨ (q1 < I.length ∧ ¬ q2 < I.length) ∨ (q1 < I.length ∧ q2 < I.length ∧ ¬ q3 < I.length) ∨ (q1 < I.length ∧ q2 < I.length ∧ q3 < I.length ∧ ¬ q4 < I.length) ∨ (q1 < I.length ∧ q2 < I.length ∧ q3 < I.length ∧ q4 < I.length) by omega) with a1 | ⟨a1, a2⟩ | ⟨a1, a2, a3⟩ | ⟨a1, a2, a3, a4⟩ | ⟨a1, a2, a3, a4⟩
            rotate_left 4
            · rw [if_pos a1] at N1
              rw [if_pos a2] at N2
              rw [if_pos a3] at N3
              rw [if_pos a4] at N4
              have h24 := h24 a1 a2 a3 a4
              have hQ2 : gQuad I V W' M k = if fcmp .leq .f32 (fop .sub .f32 (gMxTo [gZat V q1, gZat V q2, gZat V q3, gZat V q4] 3) (gMnTo [gZat V q1, gZat V q2, gZat V q3, gZat V q4] 3)) M = true then [[(q1 : Int), (q2 : Int), (q4 : Int)], [(q1 : Int), (q4 : Int), (q3 : Int)]] else [] := by
                rw [hQ]; simp only [a1, a2, a3, a4, and_self, true_and]
              replace hQ := hQ2
              clear hQ2
              have HQ := Lib.hid hQ
              have H24 := Lib.hid h24
              have N1 := Lib.hid N1
              have N2 := Lib.hid N2
              have N3 := Lib.hid N3
              have N4 := Lib.hid N4
              have n1 : ¬ (q1 : Int) < 0 := by omega
              have n2 : ¬ (q2 : Int) < 0 := by omega
              have n3 : ¬ (q3 : Int) < 0 := by omega
              have n4 : ¬ (q4 : Int) < 0 := by omega
              clear hQ h24 hq1 hq2 hq3 hq4
              go_wp2_with fail
              refine N1.out.mono ?_
              rintro e u ⟨rfl, rfl⟩
              go_wp2_with fail
              refine N2.out.mono ?_
              rintro e u' ⟨rfl, rfl⟩
              go_wp2_with fail
              refine N3.out.mono ?_
              rintro e u2 ⟨rfl, rfl⟩
              go_wp2_with fail
              refine N4.out.mono ?_
              rintro e u3 ⟨rfl, rfl⟩
              go_upto_region 14 with fail
              obtain ⟨gV, cV, eV, -⟩ := HO.out.ptr (by omega)
              cases eV
              have cel := fun q (hq : q < I.length) => deep_cell (HO.out.gr GQ.out) HD.out.1 HD.out.2 hq
              obtain ⟨p1, d1⟩ := cel q1 a1
              obtain ⟨p2, d2⟩ := cel q2 a2
              obtain ⟨p3, d3⟩ := cel q3 a3
              obtain ⟨p4, d4⟩ := cel q4 a4
              have HTF := Lib.hid (ToldF.four d1 d2 d3 d4)
              have HDM := Lib.hid (deep_most d1 d2 d3 d4)
              have r1 : (q1 : Int) < (I.length : Int) := by omega
              have r2 : (q2 : Int) < (I.length : Int) := by omega
              have r3 : (q3 : Int) < (I.length : Int) := by omega
              have r4 : (q4 : Int) < (I.length : Int) := by omega
              have A1 := Lib.hid a1
              have A2 := Lib.hid a2
              have A3 := Lib.hid a3
              have A4 := Lib.hid a4
              generalize gZat V q1 = z1 at *
              generalize gZat V q2 = z2 at *
              generalize gZat V q3 = z3 at *
              generalize gZat V q4 = z4 at *
              clear d1 d2 d3 d4 cel a1 a2 a3 a4 wk1 wk2 wk3
              apply region_drew 20
              case hm => kernel_rfl
              case hB => kernel_rfl
              simp only [List.take_succ_cons, List.take_zero, List.drop_succ_cons, List.drop_zero]
              repeat (first
                | (apply wpSoft_skip rfl; simp only [Act.put, List.setIfInBounds_toArray, List.set_cons_succ, List.set_cons_zero])
                | (apply wpSoft_nilCheck rfl rfl; simp only [Act.put, List.setIfInBounds_toArray, List.set_cons_succ, List.set_cons_zero])
                | ((with_reducible apply wpSoft_fop); (case hw => rfl); (case hD => exact closed_drew); (case hop => rfl); (case hx => rfl); (case hy => rfl); (case hA => (first | assumption | exact FE.ofInt _ _ | exact FE.lit (by decide +kernel))); (case hB => (first | assumption | exact FE.ofInt _ _ | exact FE.lit (by decide +kernel))); (intro r hr; simp only [Act.put, List.setIfInBounds_toArray, List.set_cons_succ, List.set_cons_zero]))

                | ((with_reducible apply wpSoft_widen); (case hw => rfl); (case hD => exact closed_drew); (case hs => exact Try.underlying65); (case hd => exact Try.underlying147); (case hx => rfl); (case hA => (first | assumption | exact FE.ofInt _ _ | exact FE.lit (by decide +kernel))); (intro r hr; simp only [Act.put, List.setIfInBounds_toArray, List.set_cons_succ, List.set_cons_zero]))
                | ((with_reducible apply wpSoft_fneg); (case hw => rfl); (case hx => rfl); (case hA => (first | assumption | exact FE.ofInt _ _ | exact FE.lit (by decide +kernel))); (intro r hr; simp only [Act.put, List.setIfInBounds_toArray, List.set_cons_succ, List.set_cons_zero]))
                | ((with_reducible apply wpSoft_fcmp); (case hw => rfl); (case hop => rfl); (case hx => rfl); (case hy => rfl); (case hA => (first | assumption | exact FE.ofInt _ _ | exact FE.lit (by decide +kernel))); (case hB => (first | assumption | exact FE.ofInt _ _ | exact FE.lit (by decide +kernel))); (case hb => (first | assumption | rfl)); simp only [Act.put, List.setIfInBounds_toArray, List.set_cons_succ, List.set_cons_zero])
                | (apply wpSoft_q rfl rfl; intro K hK; go_big_quiet_op; go_big_quiet_on))
              with_reducible apply wpSoft_nil
              intro m
              go_upto_region 15 with fail
              generalize hwz : World.alloc _ _ = wz
              have B4 : Blk wz u3.heap.size [.float .f32 z1, .float .f32 z2, .float .f32 z3, .float .f32 z4] 65 := by rw [← hwz]; exact (by repeat (with_reducible first | assumption | exact Blk.atNew (by simp) | refine Blk.alloc ?_ _ | refine Blk.grew ?_ _ _ | refine Blk.drewN ?_ _ | refine Blk.drew ?_))
              have gz : Gr u3 wz := by rw [← hwz]; exact (by (try show Gr _ _); repeat (with_reducible first | exact Gr.refl _ | refine Gr.drewN ?_ _ | refine Gr.grew ?_ _ _ | refine Gr.alloc ?_ _ | refine Gr.drew ?_))
              have GZ := Lib.hid gz
              have k0 := B4.cellv 0
              have FC := Lib.hid (show ∀ p, p < 4 → wz.cell? ⟨u3.heap.size, p, none⟩ = some (.float .f32 ([z1, z2, z3, z4].getD p 0)) from fun p hp => by
                match p, hp with
                | 0, _ => exact B4.cellv 0
                | 1, _ => exact B4.cellv 1
                | 2, _ => exact B4.cellv 2
                | 3, _ => exact B4.cellv 3)
              clear hwz gz B4 p1 p2 p3 p4 r1 r2 r3 r4 N1 N2 N3 N4 HIs m0 m1 m2 LP Fx hC hP h24 hxW hyH EX HU hf hb hx hy
              go_wp2
              go_loopg [18, 19, 20] 4 (fun g1 s t i w4 => ∃ j : Nat, s = .float .f32 (gMnTo [z1, z2, z3, z4] j) ∧ t = .float .f32 (gMxTo [z1, z2, z3, z4] j) ∧ i = .int .i64 ((j + 1 : Nat) : Int) ∧ j < 4 ∧ g1 = 4 - j ∧ w4 = wz)
              case atStart => exact ⟨0, rfl, rfl, rfl, by omega, by omega, rfl⟩
              case round =>
                obtain ⟨j, rfl, rfl, rfl, hj, rfl, rfl⟩ := hrel
                obtain ⟨j1, hj1⟩ : ∃ j1, j1 = j + 1 := ⟨_, rfl⟩
                have eMX := Lib.hid (show gMxTo [z1, z2, z3, z4] (j + 1) = gMx (gMxTo [z1, z2, z3, z4] j) ([z1, z2, z3, z4].getD (j + 1) 0) from rfl)
                have eMN := Lib.hid (show gMnTo [z1, z2, z3, z4] (j + 1) = gMn (gMnTo [z1, z2, z3, z4] j) ([z1, z2, z3, z4].getD (j + 1) 0) from rfl)
                obtain ⟨jx, hjx, hmx⟩ := gMxTo_in [z1, z2, z3, z4] j hj
                obtain ⟨jn, hjn, hmn⟩ := gMnTo_in [z1, z2, z3, z4] j hj
                rw [← hj1] at eMX eMN ⊢
                by_cases hin : j1 < 4
                · have cj := FC.out j1 hin
                  have hmxr := run_max_f (P := Try.prog) (x := gMxTo [z1, z2, z3, z4] j) (y := [z1, z2, z3, z4].getD j1 0) (by rw [hmx]; exact HTF.out.num jx hjx) (HTF.out.num j1 hin) (by rw [hmx]; exact HTF.out.inj jx j1 hjx hin)
                  have hmnr := run_min_f (P := Try.prog) (x := gMnTo [z1, z2, z3, z4] j) (y := [z1, z2, z3, z4].getD j1 0) (by rw [hmn]; exact HTF.out.num jn hjn) (HTF.out.num j1 hin) (by rw [hmn]; exact HTF.out.inj jn j1 hjn hin)
                  have ki : (j1 : Int) < 4 := by omega
                  have wi : IntKind.i64.wrap ((j1 : Int) + 1) = (j1 : Int) + 1 := IntWalk.i64_in _ (by omega)
                  have HJ1 := Lib.hid hj1
                  generalize gMxTo [z1, z2, z3, z4] j = mx0 at *
                  generalize gMnTo [z1, z2, z3, z4] j = mn0 at *
                  generalize [z1, z2, z3, z4].getD j1 0 = zj at *
                  generalize hmz : gMx mx0 zj = mz at *
                  generalize hnz : gMn mn0 zj = nz at *
                  have EX1 := Lib.hid (show gMxTo [z1, z2, z3, z4] j1 = mz from eMX.out)
                  have EN1 := Lib.hid (show gMnTo [z1, z2, z3, z4] j1 = nz from eMN.out)
                  clear eMX eMN hmx hmn hjx hjn hj1 k0 hmz hnz
                  go_wp2
                  go_roundg (4 - j1)
                  case measure => have := HJ1.out; omega
                  case rel => exact ⟨j1, by rw [EN1.out], by rw [EX1.out], by first | rfl | go_num, hin, rfl, rfl⟩
                · obtain rfl : j = 3 := by omega
                  clear eMX eMN hmx hmn hjx hjn k0
                  subst hj1
                  have hdx := HDM.out.1.fe
                  have hdn := HDM.out.2.fe
                  generalize gMxTo [z1, z2, z3, z4] 3 = mx0 at *
                  generalize gMnTo [z1, z2, z3, z4] 3 = mn0 at *
                  cases hle : fcmp .leq .f32 (fop .sub .f32 mx0 mn0) M
                  · have HQ0 := Lib.hid (show gQuad I V W' M k = [] by rw [HQ.out, hle]; rfl)
                    go_wp2_with (first
      | ((with_reducible apply wpList_fop); (case hw => rfl); (case hop => rfl); (case hx => rfl); (case hy => rfl); (case hA => (first | assumption | exact FE.ofInt _ _ | exact FE.lit (by decide +kernel))); (case hB => (first | assumption | exact FE.ofInt _ _ | exact FE.lit (by decide +kernel))); intro r n hr)
      | ((with_reducible apply wpList_fcmp); (case hw => rfl); (case hop => rfl); (case hx => rfl); (case hy => rfl); (case hA => (first | assumption | exact FE.ofInt _ _ | exact FE.lit (by decide +kernel))); (case hB => (first | assumption | exact FE.ofInt _ _ | exact FE.lit (by decide +kernel))); (case hb => (first | assumption | rfl)))
      | ((with_reducible apply wpList_widen); (case hw => rfl); (case hs => exact Try.underlying65); (case hd => exact Try.underlying147); (case hx => rfl); (case hA => (first | assumption | exact FE.ofInt _ _ | exact FE.lit (by decide +kernel))); intro r n hr)
      | ((with_reducible apply wpList_fneg); (case hw => rfl); (case hx => rfl); (case hA => (first | assumption | exact FE.ofInt _ _ | exact FE.lit (by decide +kernel))); intro r hr))
                    go_roundg (nL - (k + 1))
                    case measure => omega
                    case rel => exact ⟨k + 1, by go_num, by omega, rfl, by rw [ES.out, HQ0.out, List.append_nil]; exact (HT.out.gr (GZ.out.trans (by (try show Gr _ _); repeat (with_reducible first | exact Gr.refl _ | refine Gr.drewN ?_ _ | refine Gr.grew ?_ _ _ | refine Gr.alloc ?_ _ | refine Gr.drew ?_)))).mono (Nat.le_refl _) (by have := hqs.out; have := GZ.out.size; simp; omega), GQ.out.trans (GZ.out.trans (by (try show Gr _ _); repeat (with_reducible first | exact Gr.refl _ | refine Gr.drewN ?_ _ | refine Gr.grew ?_ _ _ | refine Gr.alloc ?_ _ | refine Gr.drew ?_)))⟩
                  · have HQ0 := Lib.hid (show gQuad I V W' M k = [[(q1 : Int), (q2 : Int), (q4 : Int)], [(q1 : Int), (q4 : Int), (q3 : Int)]] by rw [HQ.out, hle]; rfl)
                    go_wp2_with (first
      | (apply wpList_append_tri (hgd := rfl) (ho := rfl) (i := i0) (ht := Try.underlying81) (hi := hi) (hz := hz0) (hsize := hz1) (hby := hz2); (case hs => rfl); (case hown => exact HT.out.gr (GZ.out.trans (by (try show Gr _ _); repeat (with_reducible first | exact Gr.refl _ | refine Gr.drewN ?_ _ | refine Gr.grew ?_ _ _ | refine Gr.alloc ?_ _ | refine Gr.drew ?_)))); (case hx => rfl); (case c1 => exact (Blk.atNew (by simp)).cellv 0 rfl); (case c2 => exact (Blk.atNew (by simp)).cellv 1 rfl); (case k1 => exact ((Blk.atNew (by simp)).alloc _).alloc _); (case k2 => exact (Blk.atNew (by simp)).alloc _); (case hb1 => (have := hqs.out; have := GZ.out.size; simp; omega)); (case hb2 => (have := hqs.out; have := GZ.out.size; simp; omega)); (case hne => simp); (case hBN => exact hqs.out.1); (case hee => decide); (case hn => (have := gMesh_len I V W' H' M k; omega)); (case hB => (have := hqs.out; have := GZ.out.size; simp; omega)); intro v2 w2 ht2 hg2; have GG := Lib.hid (Gr.grownBy (GQ.out.trans (GZ.out.trans (by (try show Gr _ _); repeat (with_reducible first | exact Gr.refl _ | refine Gr.drewN ?_ _ | refine Gr.grew ?_ _ _ | refine Gr.alloc ?_ _ | refine Gr.drew ?_)))) hg2 (fun q hq => (TriOwn.block HT.out hq).1)); obtain ⟨at2, ct2, rfl⟩ := ht2.form; have HT2 := Lib.hid ht2; clear ht2 hg2)
      | ((with_reducible apply wpList_fop); (case hw => rfl); (case hop => rfl); (case hx => rfl); (case hy => rfl); (case hA => (first | assumption | exact FE.ofInt _ _ | exact FE.lit (by decide +kernel))); (case hB => (first | assumption | exact FE.ofInt _ _ | exact FE.lit (by decide +kernel))); intro r n hr)
      | ((with_reducible apply wpList_fcmp); (case hw => rfl); (case hop => rfl); (case hx => rfl); (case hy => rfl); (case hA => (first | assumption | exact FE.ofInt _ _ | exact FE.lit (by decide +kernel))); (case hB => (first | assumption | exact FE.ofInt _ _ | exact FE.lit (by decide +kernel))); (case hb => (first | assumption | rfl)))
      | ((with_reducible apply wpList_widen); (case hw => rfl); (case hs => exact Try.underlying65); (case hd => exact Try.underlying147); (case hx => rfl); (case hA => (first | assumption | exact FE.ofInt _ _ | exact FE.lit (by decide +kernel))); intro r n hr)
      | ((with_reducible apply wpList_fneg); (case hw => rfl); (case hx => rfl); (case hA => (first | assumption | exact FE.ofInt _ _ | exact FE.lit (by decide +kernel))); intro r hr))
                    go_roundg (nL - (k + 1))
                    case measure => omega
                    case rel => exact ⟨k + 1, by go_num, by omega, rfl, by rw [ES.out, HQ0.out]; have h := HT2.out; simpa only [List.length_append, List.length_cons, List.length_nil] using h, GG.out⟩
            · rw [if_neg a1] at N1
              obtain ⟨r2, hr2⟩ : ∃ r : Int, r = (if q2 < I.length then (q2 : Int) else -1) := ⟨_, rfl⟩
              rw [← hr2] at N2
              clear hr2
              obtain ⟨r3, hr3⟩ : ∃ r : Int, r = (if q3 < I.length then (q3 : Int) else -1) := ⟨_, rfl⟩
              rw [← hr3] at N3
              clear hr3
              obtain ⟨r4, hr4⟩ : ∃ r : Int, r = (if q4 < I.length then (q4 : Int) else -1) := ⟨_, rfl⟩
              rw [← hr4] at N4
              clear hr4
              have HQ0 := Lib.hid (show gQuad I V W' M k = [] by rw [hQ, if_neg (by rintro ⟨⟨b1, b2, b3, b4⟩, -⟩; exact a1 b1)])
              have N1 := Lib.hid N1
              have N2 := Lib.hid N2
              have N3 := Lib.hid N3
              have N4 := Lib.hid N4
              clear hQ h24 hq1 hq2 hq3 hq4 a1
              go_wp2_with fail
              refine N1.out.mono ?_
              rintro e u ⟨rfl, rfl⟩
              go_wp2_with fail
              refine N2.out.mono ?_
              rintro e u' ⟨rfl, rfl⟩
              go_wp2_with fail
              refine N3.out.mono ?_
              rintro e u2 ⟨rfl, rfl⟩
              go_wp2_with fail
              refine N4.out.mono ?_
              rintro e u3 ⟨rfl, rfl⟩
              go_wp2
              go_roundg (nL - (k + 1))
              case measure => omega
              case rel => exact ⟨k + 1, by go_num, by omega, rfl, by rw [ES.out, HQ0.out, List.append_nil]; exact (HT.out.gr (by (try show Gr _ _); repeat (with_reducible first | exact Gr.refl _ | refine Gr.drewN ?_ _ | refine Gr.grew ?_ _ _ | refine Gr.alloc ?_ _ | refine Gr.drew ?_))).mono (Nat.le_refl _) (by have := hqs.out; simp; omega), GQ.out.trans (by (try show Gr _ _); repeat (with_reducible first | exact Gr.refl _ | refine Gr.drewN ?_ _ | refine Gr.grew ?_ _ _ | refine Gr.alloc ?_ _ | refine Gr.drew ?_))⟩
            · rw [if_pos a1] at N1
              have n1 : ¬ (q1 : Int) < 0 := by omega
              rw [if_neg a2] at N2
              obtain ⟨r3, hr3⟩ : ∃ r : Int, r = (if q3 < I.length then (q3 : Int) else -1) := ⟨_, rfl⟩
              rw [← hr3] at N3
              clear hr3
              obtain ⟨r4, hr4⟩ : ∃ r : Int, r = (if q4 < I.length then (q4 : Int) else -1) := ⟨_, rfl⟩
              rw [← hr4] at N4
              clear hr4
              have HQ0 := Lib.hid (show gQuad I V W' M k = [] by rw [hQ, if_neg (by rintro ⟨⟨b1, b2, b3, b4⟩, -⟩; exact a2 b2)])
              have N1 := Lib.hid N1
              have N2 := Lib.hid N2
              have N3 := Lib.hid N3
              have N4 := Lib.hid N4
              clear hQ h24 hq1 hq2 hq3 hq4 a1 a2
              go_wp2_with fail
              refine N1.out.mono ?_
              rintro e u ⟨rfl, rfl⟩
              go_wp2_with fail
              refine N2.out.mono ?_
              rintro e u' ⟨rfl, rfl⟩
              go_wp2_with fail
              refine N3.out.mono ?_
              rintro e u2 ⟨rfl, rfl⟩
              go_wp2_with fail
              refine N4.out.mono ?_
              rintro e u3 ⟨rfl, rfl⟩
              go_wp2
              go_roundg (nL - (k + 1))
              case measure => omega
              case rel => exact ⟨k + 1, by go_num, by omega, rfl, by rw [ES.out, HQ0.out, List.append_nil]; exact (HT.out.gr (by (try show Gr _ _); repeat (with_reducible first | exact Gr.refl _ | refine Gr.drewN ?_ _ | refine Gr.grew ?_ _ _ | refine Gr.alloc ?_ _ | refine Gr.drew ?_))).mono (Nat.le_refl _) (by have := hqs.out; simp; omega), GQ.out.trans (by (try show Gr _ _); repeat (with_reducible first | exact Gr.refl _ | refine Gr.drewN ?_ _ | refine Gr.grew ?_ _ _ | refine Gr.alloc ?_ _ | refine Gr.drew ?_))⟩
            · rw [if_pos a1] at N1
              have n1 : ¬ (q1 : Int) < 0 := by omega
              rw [if_pos a2] at N2
              have n2 : ¬ (q2 : Int) < 0 := by omega
              rw [if_neg a3] at N3
              obtain ⟨r4, hr4⟩ : ∃ r : Int, r = (if q4 < I.length then (q4 : Int) else -1) := ⟨_, rfl⟩
              rw [← hr4] at N4
              clear hr4
              have HQ0 := Lib.hid (show gQuad I V W' M k = [] by rw [hQ, if_neg (by rintro ⟨⟨b1, b2, b3, b4⟩, -⟩; exact a3 b3)])
              have N1 := Lib.hid N1
              have N2 := Lib.hid N2
              have N3 := Lib.hid N3
              have N4 := Lib.hid N4
              clear hQ h24 hq1 hq2 hq3 hq4 a1 a2 a3
              go_wp2_with fail
              refine N1.out.mono ?_
              rintro e u ⟨rfl, rfl⟩
              go_wp2_with fail
              refine N2.out.mono ?_
              rintro e u' ⟨rfl, rfl⟩
              go_wp2_with fail
              refine N3.out.mono ?_
              rintro e u2 ⟨rfl, rfl⟩
              go_wp2_with fail
              refine N4.out.mono ?_
              rintro e u3 ⟨rfl, rfl⟩
              go_wp2
              go_roundg (nL - (k + 1))
              case measure => omega
              case rel => exact ⟨k + 1, by go_num, by omega, rfl, by rw [ES.out, HQ0.out, List.append_nil]; exact (HT.out.gr (by (try show Gr _ _); repeat (with_reducible first | exact Gr.refl _ | refine Gr.drewN ?_ _ | refine Gr.grew ?_ _ _ | refine Gr.alloc ?_ _ | refine Gr.drew ?_))).mono (Nat.le_refl _) (by have := hqs.out; simp; omega), GQ.out.trans (by (try show Gr _ _); repeat (with_reducible first | exact Gr.refl _ | refine Gr.drewN ?_ _ | refine Gr.grew ?_ _ _ | refine Gr.alloc ?_ _ | refine Gr.drew ?_))⟩
            · rw [if_pos a1] at N1
              have n1 : ¬ (q1 : Int) < 0 := by omega
              rw [if_pos a2] at N2
              have n2 : ¬ (q2 : Int) < 0 := by omega
              rw [if_pos a3] at N3
              have n3 : ¬ (q3 : Int) < 0 := by omega
              rw [if_neg a4] at N4
              have HQ0 := Lib.hid (show gQuad I V W' M k = [] by rw [hQ, if_neg (by rintro ⟨⟨b1, b2, b3, b4⟩, -⟩; exact a4 b4)])
              have N1 := Lib.hid N1
              have N2 := Lib.hid N2
              have N3 := Lib.hid N3
              have N4 := Lib.hid N4
              clear hQ h24 hq1 hq2 hq3 hq4 a1 a2 a3 a4
              go_wp2_with fail
              refine N1.out.mono ?_
              rintro e u ⟨rfl, rfl⟩
              go_wp2_with fail
              refine N2.out.mono ?_
              rintro e u' ⟨rfl, rfl⟩
              go_wp2_with fail
              refine N3.out.mono ?_
              rintro e u2 ⟨rfl, rfl⟩
              go_wp2_with fail
              refine N4.out.mono ?_
              rintro e u3 ⟨rfl, rfl⟩
              go_wp2
              go_roundg (nL - (k + 1))
              case measure => omega
              case rel => exact ⟨k + 1, by go_num, by omega, rfl, by rw [ES.out, HQ0.out, List.append_nil]; exact (HT.out.gr (by (try show Gr _ _); repeat (with_reducible first | exact Gr.refl _ | refine Gr.drewN ?_ _ | refine Gr.grew ?_ _ _ | refine Gr.alloc ?_ _ | refine Gr.drew ?_))).mono (Nat.le_refl _) (by have := hqs.out; simp; omega), GQ.out.trans (by (try show Gr _ _); repeat (with_reducible first | exact Gr.refl _ | refine Gr.drewN ?_ _ | refine Gr.grew ?_ _ _ | refine Gr.alloc ?_ _ | refine Gr.drew ?_))⟩
      · obtain rfl : k = nL := by omega
        have hkx : ¬ k < xs.length := by have := HN.out; omega
        have HNk := Lib.hid (show gMesh I V W' H' M k = gMesh I V W' H' M xs.length by rw [HN.out])
        go_wp2
        refine bodyPost_ret (v := .tuple #[.slice av I.length cv, .slice at' (gMesh I V W' H' M k).length ct, .bool true]) (by simp [results, Try.results53, go_sem]) rfl ⟨⟨_, _, rfl, HO.out.gr Hg.out, by rw [← HNk.out]; exact Ht.out.mono hs1 (Nat.le_refl _)⟩, G1.out.trans Hg.out⟩
end Go.Proofs.Ytaidkokgafojeaa
