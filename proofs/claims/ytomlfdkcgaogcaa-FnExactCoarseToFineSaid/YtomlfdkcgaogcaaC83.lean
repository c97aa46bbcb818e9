/- Contracts: volumes as seen from the right; the winners of a volume. MAXREC -/
import Derived.Test.YtomlfdkcgaogcaaProg
import Derived.Test.YtomlfdkcgaogcaaC82
import Derived.Test.YtomlfdkcgaogcaaC19
namespace Go.Fx
open Go Go.Soft Go.RowKit
/-- The cost that the other volume has. -/
def gOth (xs : List Nat) (W D x y d : Nat) : Nat := xs.getD ((min (x + d) (W - 1) + W * y) * D + d) 0
theorem FOwn.cap {w : World} {B : Nat} {e : TypeId} {a : Option Addr} {n cap : Nat} {xs : List Nat} (h : FOwn w B e (.slice a n cap) xs) : xs.length ≤ cap := by
  obtain ⟨rs, hr, h1, h2⟩ := h
  have hl := hr.1
  rcases h2 with ⟨h3, h0⟩ | ⟨g, cp, cur, h3, hb, hg, hnc, hcm, hcs, ht⟩
  · omega
  · injection h3 with _ _ h3; omega
end Go.Fx
namespace Go.Proofs.Ytomlfdkcgaogcaa
open Go.RowKit Go.Fx Go.Soft
/-- The place of a winner of a cell, as a number. -/
def gWinAt (xs : List Nat) (D : Nat) (i : Nat) : Nat := floatOfInt .f32 (gWin (fun j => xs.getD (i * D + j) 0) (-1) D)
def tWin (ys : List Nat) : Nat := floatOfInt .f32 (gWin (fun j => ys.getD j 0) (-1) ys.length)
theorem gCell_win (xs : List Nat) (D : Nat) : gCellAt tWin xs (D : Int) = gWinAt xs D := by
  funext i
  unfold gCellAt tWin gWinAt
  rw [lst_length, Int.toNat_natCast]
  rw [gWin_congr]
  intro j hj
  rw [List.getD_eq_getElem?_getD, List.getElem?_eq_getElem (by simpa using hj)]
  simp [lst]
set_option maxRecDepth 20000 in
set_option maxHeartbeats 1000000 in
theorem S_l03Own (W H D : Int) (a : Option Addr) (ca b : Nat) (xs : List Nat) (w : World) (hm : MV w b W H D a xs.length ca xs) (hpos : 0 < xs.length) (hn : xs.length ≤ 1048576) :
    Calls Try.prog 83 #[.pointer (some ⟨b, 0, none⟩)] w fun e w' => (∃ v, e = .returned (.agg #[.int .i64 W, .int .i64 H, .int .i64 D, v]) ∧ FOwn w' w.heap.size 25 v xs) ∧ Gr w w' := by
  obtain ⟨i0, hi, hz0, hz1, hz2⟩ := info_parts info_float32
  obtain ⟨c0, c1, c2, c3, fs⟩ := hm
  have Hs := Lib.hid fs
  clear fs
  go_enter Try.func83, Try.ntmps83
  go_wp2
  apply region_facts 18 [17] (fun _ v w' => FOwn w' (w.heap.size + 1) 25 v xs)
  case hm => kernel_rfl
  case hB => kernel_rfl
  case hR => rfl
  case hP => (intro k hk v w1 w2 hg hv; exact hv.gr hg)
  simp only [List.take_succ_cons, List.take_zero, List.drop_succ_cons, List.drop_zero]
  repeat (first
    | ((with_reducible apply wpF_new (c := #[]) (e := 25) (fun b => .slice (some ⟨b, 0, none⟩) 0 0)); (case hw => rfl); (case hx => (intro w; simp [execOp, go_sem])); (case hF => (intro w b hb hc hk; exact absurd hk (by decide))); (intro b hb; simp only [Act.put, List.setIfInBounds_toArray, List.set_cons_succ, List.set_cons_zero]))
    | ((with_reducible apply wpF_appendNew); (case hw => rfl); (case i => exact i0); (case ht => exact Try.underlying22); (case hi => exact hi); (case hz => exact hz0); (case hsize => exact hz1); (case hby => exact hz2); (case hs => rfl); (case hx => rfl); (case hy => exact Hs.out.keep (by (repeat (with_reducible first | exact Kp.refl _ | exact kp_same | exact kp_app1 | exact kp_app2 | exact kp_app3 | refine Kp.grew ?_ _ _ | refine Kp.drewN ?_ _ | refine Kp.drew ?_ | refine Kp.alloc ?_ _)))); (case hpos => exact hpos); (case hn => exact hn); (case hF => (intro w v ho _; exact ho.base (by simp <;> omega))); (intro a' c'; simp only [Act.put, List.setIfInBounds_toArray, List.set_cons_succ, List.set_cons_zero]))
    | (apply wpF_skip rfl (by decide); simp only [Act.put, List.setIfInBounds_toArray, List.set_cons_succ, List.set_cons_zero])
    | (apply wpF_nilCheck rfl (by decide) rfl; simp only [Act.put, List.setIfInBounds_toArray, List.set_cons_succ, List.set_cons_zero])
    | ((with_reducible apply wpF_fop); (case hw => rfl); (case hT => decide); (case hop => rfl); (case hx => rfl); (case hy => rfl); (case hA => (first | assumption | exact FE.ofInt _ _ | exact FE.lit (by decide +kernel))); (case hB => (first | assumption | exact FE.ofInt _ _ | exact FE.lit (by decide +kernel))); (intro r hr; simp only [Act.put, List.setIfInBounds_toArray, List.set_cons_succ, List.set_cons_zero]))
    | ((with_reducible apply wpF_fneg); (case hw => rfl); (case hT => decide); (case hx => rfl); (case hA => (first | assumption | exact FE.ofInt _ _ | exact FE.lit (by decide +kernel))); (intro r hr; simp only [Act.put, List.setIfInBounds_toArray, List.set_cons_succ, List.set_cons_zero]))
    | ((with_reducible apply wpF_fcmp); (case hw => rfl); (case hT => decide); (case hop => rfl); (case hx => rfl); (case hy => rfl); (case hA => (first | assumption | exact FE.ofInt _ _ | exact FE.lit (by decide +kernel))); (case hB => (first | assumption | exact FE.ofInt _ _ | exact FE.lit (by decide +kernel))); (case hb => (first | assumption | rfl)); simp only [Act.put, List.setIfInBounds_toArray, List.set_cons_succ, List.set_cons_zero])
    | (apply wpF_q rfl (by decide) rfl; intro K hK; go_big_quiet_op; go_big_quiet_on))
  with_reducible apply wpF_nil
  intro os m hf
  have Ho := Lib.hid hf.1
  clear hf
  go_wp2
  exact bodyPost_ret (v := .agg #[.int .i64 W, .int .i64 H, .int .i64 D, .slice a' xs.length c']) (by simp [results, Try.results83, go_sem]) rfl ⟨⟨_, rfl, (Ho.out.swap (by simp) (by simp)).base (by omega)⟩, (by (try show Gr _ _); repeat (with_reducible first | exact Gr.refl _ | refine Gr.drewN ?_ _ | refine Gr.grew ?_ _ _ | refine Gr.alloc ?_ _ | refine Gr.drew ?_))⟩
set_option maxRecDepth 20000 in
set_option maxHeartbeats 4000000 in
theorem S_l03Other (W H D b : Nat) (a : Option Addr) (ca : Nat) (xs : List Nat) (w : World) (hm : MV w b W H D a xs.length ca xs) (hW : W ≤ 24) (hH : H ≤ 24) (hW0 : 1 ≤ W) (hH0 : 1 ≤ H) (hD0 : 1 ≤ D) (hD : D ≤ 8) (hn : xs.length = W * H * D) :
    Calls Try.prog 52 #[.pointer (some ⟨b, 0, none⟩)] w fun e w' => (∃ v, e = .returned (.agg #[.int .i64 W, .int .i64 H, .int .i64 D, v]) ∧ FOwn w' w.heap.size 25 v (lst (W * H * D) (gV3 W D (gOth xs W D)))) ∧ Gr w w' := by
  have h24 : W * H ≤ 576 := Nat.mul_le_mul hW hH
  have h25 : W * H * D ≤ 4608 := Nat.mul_le_mul h24 hD
  have hWH : 0 < W * H := Nat.mul_pos hW0 hH0
  have hpos : 0 < xs.length := by rw [hn]; exact Nat.mul_pos hWH hD0
  have c0 := hm.c0
  have c1 := hm.c1
  have c2 := hm.c2
  have c3 := hm.c3
  obtain ⟨bx, ox, rfl⟩ := hm.fs.ptr hpos
  have M1 := Lib.hid hm
  have em : IntKind.i64.wrap ((W : Int) * (H : Int)) = ((W * H : Nat) : Int) := by rw [← Int.natCast_mul]; exact IntWalk.i64_in _ (by omega)
  have GS : Hid (∀ G : Nat → Nat, lst (W * H * D) G = lst xs.length G) := fun G => by rw [hn]
  have IN : Hid (∀ i, i < W * H → i * D + D ≤ xs.length) := fun i hi => by
    rw [hn]
    have := Nat.mul_le_mul_right D (show i + 1 ≤ W * H from hi)
    rw [Nat.add_mul, Nat.one_mul] at this
    exact this
  have DV : Hid (∀ i, i < W * H → i / W < H) := fun i hi => Nat.div_lt_of_lt_mul hi
  have CL : Hid (∀ x y, x < W → y < H → x + W * y < W * H) := fun x y hx hy => cell_lt hx hy
  obtain ⟨N0, hN0⟩ : ∃ N0, N0 = W * H := ⟨_, rfl⟩
  rw [← hN0] at em h24 hWH IN DV CL
  have hnn : xs.length ≤ 4608 := by rw [hn]; exact h25
  have hEnd : Hid (N0 * D = xs.length) := by show _ = _; rw [hn, hN0]
  have HG : Hid (lst (W * H * D) (gV3 W D (gOth xs W D)) = lst xs.length (gV3 W D (gOth xs W D))) := GS.out _
  rw [HG.out]
  clear hm hn h25 hN0 GS HG
  go_enter Try.func52, Try.ntmps52
  go_wp2_with (first
      | (go_at_call 83; refine (S_l03Own W H D _ ca b xs _ (M1.out.gr (by (try show Gr _ _); repeat (with_reducible first | exact Gr.refl _ | refine Gr.drewN ?_ _ | refine Gr.grew ?_ _ _ | refine Gr.alloc ?_ _ | refine Gr.drew ?_))) hpos (by omega)).mono ?_; rintro e w1 ⟨⟨v0, rfl, ho0⟩, os0, m0, rfl⟩; obtain ⟨g, cg, rfl, -⟩ := ho0.ptr hpos; have Ho0 := Lib.hid ho0; clear ho0))
  clear c0 c1 c2 c3
  go_loopw [4] (fun i wr => ∃ k : Nat, k ≤ N0 ∧ i = .int .i64 k ∧ Blk wr w.heap.size [.int .i64 0, .int .i64 0, .int .i64 0, .slice none 0 0] 44 ∧ Blk wr (w.heap.size + 1 + os0.size) [.int .i64 W, .int .i64 H, .int .i64 D, .slice (some ⟨g, 0, none⟩) xs.length cg] 44 ∧ FOwn wr (w.heap.size + 1) 25 (.slice (some ⟨g, 0, none⟩) xs.length cg) (upto xs.length (k * D) (gV3 W D (gOth xs W D)) (fun i => xs.getD i 0)) ∧ Gr w wr) (fun i _ => N0 - (intOf i).toNat)
  case atStart => exact ⟨0, Nat.zero_le _, rfl, (by repeat (with_reducible first | assumption | exact Blk.atNew (by simp) | refine Blk.alloc ?_ _ | refine Blk.grew ?_ _ _ | refine Blk.drewN ?_ _ | refine Blk.drew ?_)), (by repeat (with_reducible first | assumption | exact Blk.atNew (by simp) | refine Blk.alloc ?_ _ | refine Blk.grew ?_ _ _ | refine Blk.drewN ?_ _ | refine Blk.drew ?_)), (by have h2 := Ho0.out.base (B' := w.heap.size + 1) (by simp <;> omega); (try simp only [grew_drewN] at h2); rw [Nat.zero_mul, upto_zero, lst_of]; exact h2.gr (by (try show Gr _ _); repeat (with_reducible first | exact Gr.refl _ | refine Gr.drewN ?_ _ | refine Gr.grew ?_ _ _ | refine Gr.alloc ?_ _ | refine Gr.drew ?_))), (by (try show Gr _ _); repeat (with_reducible first | exact Gr.refl _ | refine Gr.drewN ?_ _ | refine Gr.grew ?_ _ _ | refine Gr.alloc ?_ _ | refine Gr.drew ?_))⟩
  case round =>
    clear Ho0
    obtain ⟨k, hk, rfl, b0, bO, ho, hg⟩ := hrel
    have c0 := hg.cell M1.out.c0
    have c1 := hg.cell M1.out.c1
    have c2 := hg.cell M1.out.c2
    by_cases hlt : k < N0
    · obtain ⟨x, hx⟩ : ∃ x, x = k % W := ⟨_, rfl⟩
      obtain ⟨y, hy⟩ : ∃ y, y = k / W := ⟨_, rfl⟩
      have hxW : x < W := by rw [hx]; exact Nat.mod_lt _ (by omega)
      have hyH : y < H := by rw [hy]; exact DV.out k hlt
      obtain ⟨V0, hV0⟩ : ∃ V0, V0 = W * y := ⟨_, rfl⟩
      have hkx : x + V0 = k := by rw [hx, hV0, hy]; exact Nat.mod_add_div k W
      have e3 : (k : Int).tmod (W : Int) = (x : Int) := by rw [Int.tmod_eq_emod_of_nonneg (by omega), hx]; exact (Int.natCast_emod k W).symm
      have e5 : ¬ (W : Int) = 0 := by omega
      obtain ⟨P0, hP0⟩ : ∃ P0, P0 = k * D := ⟨_, rfl⟩
      have hin := IN.out k hlt
      rw [← hP0] at hin ho
      have e4 : IntKind.i64.wrap ((k : Int) * (D : Int)) = (P0 : Int) := by rw [hP0, ← Int.natCast_mul]; exact IntWalk.i64_in _ (by rw [← hP0]; omega)
      have B0 := Lib.hid b0
      have BO := Lib.hid bO
      have Ho := Lib.hid ho
      have Hg := Lib.hid hg
      have HP := Lib.hid hP0
      have HV := Lib.hid hV0
      have HX := Lib.hid hkx
      clear b0 bO ho hg hx hy hP0 hV0
      go_wp2
      apply region_drew 10
      case hm => kernel_rfl
      case hB => kernel_rfl
      simp only [List.take_succ_cons, List.take_zero, List.drop_succ_cons, List.drop_zero]
      repeat (first
        | (apply wpSoft_skip rfl; simp only [Act.put, List.setIfInBounds_toArray, List.set_cons_succ, List.set_cons_zero])
        | (apply wpSoft_nilCheck rfl rfl; simp only [Act.put, List.setIfInBounds_toArray, List.set_cons_succ, List.set_cons_zero])
        | ((with_reducible apply wpSoft_fop); (case hw => rfl); (case hD => exact closed_drew); (case hop => rfl); (case hx => rfl); (case hy => rfl); (case hA => (first | assumption | exact FE.ofInt _ _ | exact FE.lit (by decide +kernel))); (case hB => (first | assumption | exact FE.ofInt _ _ | exact FE.lit (by decide +kernel))); (intro r hr; simp only [Act.put, List.setIfInBounds_toArray, List.set_cons_succ, List.set_cons_zero]))

        | ((with_reducible apply wpSoft_widen); (case hw => rfl); (case hD => exact closed_drew); (case hs => exact Try.underlying25); (case hd => exact Try.underlying61); (case hx => rfl); (case hA => (first | assumption | exact FE.ofInt _ _ | exact FE.lit (by decide +kernel))); (intro r hr; simp only [Act.put, List.setIfInBounds_toArray, List.set_cons_succ, List.set_cons_zero]))
        | ((with_reducible apply wpSoft_fneg); (case hw => rfl); (case hx => rfl); (case hA => (first | assumption | exact FE.ofInt _ _ | exact FE.lit (by decide +kernel))); (intro r hr; simp only [Act.put, List.setIfInBounds_toArray, List.set_cons_succ, List.set_cons_zero]))
        | ((with_reducible apply wpSoft_fcmp); (case hw => rfl); (case hop => rfl); (case hx => rfl); (case hy => rfl); (case hA => (first | assumption | exact FE.ofInt _ _ | exact FE.lit (by decide +kernel))); (case hB => (first | assumption | exact FE.ofInt _ _ | exact FE.lit (by decide +kernel))); (case hb => (first | assumption | rfl)); simp only [Act.put, List.setIfInBounds_toArray, List.set_cons_succ, List.set_cons_zero])
        | (apply wpSoft_q rfl rfl; intro K hK; go_big_quiet_op; go_big_quiet_on))
      with_reducible apply wpSoft_nil
      intro m
      go_wp2
      clear c0 c1 c2
      go_loopw [6] (fun i wx => ∃ d : Nat, d ≤ D ∧ i = .int .i64 d ∧ Blk wx w.heap.size [.int .i64 0, .int .i64 0, .int .i64 0, .slice none 0 0] 44 ∧ Blk wx (w.heap.size + 1 + os0.size) [.int .i64 W, .int .i64 H, .int .i64 D, .slice (some ⟨g, 0, none⟩) xs.length cg] 44 ∧ FOwn wx (w.heap.size + 1) 25 (.slice (some ⟨g, 0, none⟩) xs.length cg) (upto xs.length (P0 + d) (gV3 W D (gOth xs W D)) (fun i => xs.getD i 0)) ∧ Gr w wx) (fun i _ => D - (intOf i).toNat)
      case atStart => exact ⟨0, Nat.zero_le _, rfl, B0.out.gr (by (try show Gr _ _); repeat (with_reducible first | exact Gr.refl _ | refine Gr.drewN ?_ _ | refine Gr.grew ?_ _ _ | refine Gr.alloc ?_ _ | refine Gr.drew ?_)), BO.out.gr (by (try show Gr _ _); repeat (with_reducible first | exact Gr.refl _ | refine Gr.drewN ?_ _ | refine Gr.grew ?_ _ _ | refine Gr.alloc ?_ _ | refine Gr.drew ?_)), Ho.out.gr (by (try show Gr _ _); repeat (with_reducible first | exact Gr.refl _ | refine Gr.drewN ?_ _ | refine Gr.grew ?_ _ _ | refine Gr.alloc ?_ _ | refine Gr.drew ?_)), Hg.out.trans (by (try show Gr _ _); repeat (with_reducible first | exact Gr.refl _ | refine Gr.drewN ?_ _ | refine Gr.grew ?_ _ _ | refine Gr.alloc ?_ _ | refine Gr.drew ?_))⟩
      case round =>
        clear B0 BO Ho Hg
        obtain ⟨d, hd, rfl, b0, bO, ho, hg⟩ := hrel
        have c0 := hg.cell M1.out.c0
        have c2 := hg.cell M1.out.c2
        have c3 := hg.cell M1.out.c3
        by_cases hdt : d < D
        · have o3 := bO.cellv 3
          have hPd : P0 + d < xs.length := by omega
          obtain ⟨ro, hco, -⟩ := ho.get (P0 + d) (by simp; exact hPd)
          have hz := ho.free (P0 + d)
          have hgb : g ≠ w.heap.size + 1 + os0.size := by
            intro e
            exact ho.okb (.inr (bO.okb (e := 25) (by decide))) (by simp [Value.ownBlock, e])
          have hg3 : w.heap.size + 1 ≤ g := (ho.block rfl).1
          obtain ⟨m, hm⟩ : ∃ m, m = min (x + d) (W - 1) := ⟨_, rfl⟩
          have hmW : m < W := by omega
          have HM := Lib.hid (show min ((W : Int) - 1) ((x : Int) + (d : Int)) = (m : Int) by omega)
          obtain ⟨K, hK⟩ : ∃ K, K = m + V0 := ⟨_, rfl⟩
          have hKN : K < N0 := by rw [hK, HV.out]; exact CL.out m y hmW hyH
          obtain ⟨Q0, hQ0⟩ : ∃ Q0, Q0 = K * D := ⟨_, rfl⟩
          have hin2 := IN.out K hKN
          rw [← hQ0] at hin2
          have e6 : IntKind.i64.wrap ((K : Int) * (D : Int)) = (Q0 : Int) := by rw [hQ0, ← Int.natCast_mul]; exact IntWalk.i64_in _ (by rw [← hQ0]; omega)
          have HKE := Lib.hid (show (k : Int) - (x : Int) + (m : Int) = (K : Int) by have := HX.out; omega)
          obtain ⟨r, hcr, hr⟩ := ((M1.out.fs).keep hg.kp).get (Q0 + d) (by omega)
          have eG := Lib.hid (show gV3 W D (gOth xs W D) (P0 + d) = xs.getD (Q0 + d) 0 by
            rw [HP.out, ← HX.out, HV.out, gV3_at hxW hdt]
            unfold gOth
            rw [← hm, ← HV.out, ← hK, ← hQ0])
          have Hgb := Lib.hid hgb
          have Hg3 := Lib.hid hg3
          have B0 := Lib.hid b0
          have BO := Lib.hid bO
          have Ho := Lib.hid ho
          have Hg := Lib.hid hg
          have HR := Lib.hid hr
          clear b0 bO ho hg hgb hg3 hm hK hQ0 hr
          go_wp2_with (first
      | (go_at_call 84; refine (S_l00Min _ _ _).mono ?_; rintro e w' ⟨rfl, hw⟩; obtain rfl := hw.symm; rw [HM.out]))
          rw [HKE.out]
          apply region_drew 24
          case hm => kernel_rfl
          case hB => kernel_rfl
          simp only [List.take_succ_cons, List.take_zero, List.drop_succ_cons, List.drop_zero]
          repeat (first
            | (apply wpSoft_skip rfl; simp only [Act.put, List.setIfInBounds_toArray, List.set_cons_succ, List.set_cons_zero])
            | (apply wpSoft_nilCheck rfl rfl; simp only [Act.put, List.setIfInBounds_toArray, List.set_cons_succ, List.set_cons_zero])
            | ((with_reducible apply wpSoft_fop); (case hw => rfl); (case hD => exact closed_drew); (case hop => rfl); (case hx => rfl); (case hy => rfl); (case hA => (first | assumption | exact FE.ofInt _ _ | exact FE.lit (by decide +kernel))); (case hB => (first | assumption | exact FE.ofInt _ _ | exact FE.lit (by decide +kernel))); (intro r hr; simp only [Act.put, List.setIfInBounds_toArray, List.set_cons_succ, List.set_cons_zero]))

            | ((with_reducible apply wpSoft_widen); (case hw => rfl); (case hD => exact closed_drew); (case hs => exact Try.underlying25); (case hd => exact Try.underlying61); (case hx => rfl); (case hA => (first | assumption | exact FE.ofInt _ _ | exact FE.lit (by decide +kernel))); (intro r hr; simp only [Act.put, List.setIfInBounds_toArray, List.set_cons_succ, List.set_cons_zero]))
            | ((with_reducible apply wpSoft_fneg); (case hw => rfl); (case hx => rfl); (case hA => (first | assumption | exact FE.ofInt _ _ | exact FE.lit (by decide +kernel))); (intro r hr; simp only [Act.put, List.setIfInBounds_toArray, List.set_cons_succ, List.set_cons_zero]))
            | ((with_reducible apply wpSoft_fcmp); (case hw => rfl); (case hop => rfl); (case hx => rfl); (case hy => rfl); (case hA => (first | assumption | exact FE.ofInt _ _ | exact FE.lit (by decide +kernel))); (case hB => (first | assumption | exact FE.ofInt _ _ | exact FE.lit (by decide +kernel))); (case hb => (first | assumption | rfl)); simp only [Act.put, List.setIfInBounds_toArray, List.set_cons_succ, List.set_cons_zero])
            | (apply wpSoft_q rfl rfl; intro K hK; go_big_quiet_op; go_big_quiet_on))
          with_reducible apply wpSoft_nil
          intro m
          go_wp2
          go_roundw
          case rel =>
            have hx := Hg3.out
            refine ⟨d + 1, by omega, by go_num, B0.out.setG (by (try show Gr _ _); repeat (with_reducible first | exact Gr.refl _ | refine Gr.drewN ?_ _ | refine Gr.grew ?_ _ _ | refine Gr.alloc ?_ _ | refine Gr.drew ?_)) (by simp; omega), BO.out.setG (by (try show Gr _ _); repeat (with_reducible first | exact Gr.refl _ | refine Gr.drewN ?_ _ | refine Gr.grew ?_ _ _ | refine Gr.alloc ?_ _ | refine Gr.drew ?_)) Hgb.out, ?_, Hg.out.setG (by (try show Gr _ _); repeat (with_reducible first | exact Gr.refl _ | refine Gr.drewN ?_ _ | refine Gr.grew ?_ _ _ | refine Gr.alloc ?_ _ | refine Gr.drew ?_)) (by simp; omega)⟩
            rw [show P0 + (d + 1) = P0 + d + 1 from rfl, ← upto_set (G := gV3 W D (gOth xs W D)) (O := fun i => xs.getD i 0) hPd]
            refine FOwn.gr ?_ (by (try show Gr _ _); repeat (with_reducible first | exact Gr.refl _ | refine Gr.drewN ?_ _ | refine Gr.grew ?_ _ _ | refine Gr.alloc ?_ _ | refine Gr.drew ?_))
            rw [eG.out]
            exact Ho.out.store (k := P0 + d) HR.out
          case measure => simp [intOf]; omega
        · obtain rfl : d = D := by omega
          have B0 := Lib.hid b0
          have BO := Lib.hid bO
          have Ho := Lib.hid ho
          have Hg := Lib.hid hg
          clear b0 bO ho hg
          go_wp2
          go_roundw
          case rel => exact ⟨k + 1, by omega, by go_num, B0.out.gr (by (try show Gr _ _); repeat (with_reducible first | exact Gr.refl _ | refine Gr.drewN ?_ _ | refine Gr.grew ?_ _ _ | refine Gr.alloc ?_ _ | refine Gr.drew ?_)), BO.out.gr (by (try show Gr _ _); repeat (with_reducible first | exact Gr.refl _ | refine Gr.drewN ?_ _ | refine Gr.grew ?_ _ _ | refine Gr.alloc ?_ _ | refine Gr.drew ?_)), by rw [show (k + 1) * d = P0 + d by rw [HP.out, Nat.add_mul, Nat.one_mul]]; exact Ho.out.gr (by (try show Gr _ _); repeat (with_reducible first | exact Gr.refl _ | refine Gr.drewN ?_ _ | refine Gr.grew ?_ _ _ | refine Gr.alloc ?_ _ | refine Gr.drew ?_)), Hg.out.trans (by (try show Gr _ _); repeat (with_reducible first | exact Gr.refl _ | refine Gr.drewN ?_ _ | refine Gr.grew ?_ _ _ | refine Gr.alloc ?_ _ | refine Gr.drew ?_))⟩
          case measure => simp [intOf]; omega
    · obtain rfl : k = N0 := by omega
      have p0 := bO.cellv 0
      have p1 := bO.cellv 1
      have p2 := bO.cellv 2
      have p3 := bO.cellv 3
      have q0 := b0.cellv 0
      have q1 := b0.cellv 1
      have q2 := b0.cellv 2
      have q3 := b0.cellv 3
      have z0 := b0.frozen 0
      have z1 := b0.frozen 1
      have z2 := b0.frozen 2
      have z3 := b0.frozen 3
      have Ho := Lib.hid ho
      have Hg := Lib.hid hg
      clear b0 bO ho hg
      go_wp2
      apply region_drew 10
      case hm => kernel_rfl
      case hB => kernel_rfl
      simp only [List.take_succ_cons, List.take_zero, List.drop_succ_cons, List.drop_zero]
      repeat (first
        | (apply wpSoft_skip rfl; simp only [Act.put, List.setIfInBounds_toArray, List.set_cons_succ, List.set_cons_zero])
        | (apply wpSoft_nilCheck rfl rfl; simp only [Act.put, List.setIfInBounds_toArray, List.set_cons_succ, List.set_cons_zero])
        | ((with_reducible apply wpSoft_fop); (case hw => rfl); (case hD => exact closed_drew); (case hop => rfl); (case hx => rfl); (case hy => rfl); (case hA => (first | assumption | exact FE.ofInt _ _ | exact FE.lit (by decide +kernel))); (case hB => (first | assumption | exact FE.ofInt _ _ | exact FE.lit (by decide +kernel))); (intro r hr; simp only [Act.put, List.setIfInBounds_toArray, List.set_cons_succ, List.set_cons_zero]))

        | ((with_reducible apply wpSoft_widen); (case hw => rfl); (case hD => exact closed_drew); (case hs => exact Try.underlying25); (case hd => exact Try.underlying61); (case hx => rfl); (case hA => (first | assumption | exact FE.ofInt _ _ | exact FE.lit (by decide +kernel))); (intro r hr; simp only [Act.put, List.setIfInBounds_toArray, List.set_cons_succ, List.set_cons_zero]))
        | ((with_reducible apply wpSoft_fneg); (case hw => rfl); (case hx => rfl); (case hA => (first | assumption | exact FE.ofInt _ _ | exact FE.lit (by decide +kernel))); (intro r hr; simp only [Act.put, List.setIfInBounds_toArray, List.set_cons_succ, List.set_cons_zero]))
        | ((with_reducible apply wpSoft_fcmp); (case hw => rfl); (case hop => rfl); (case hx => rfl); (case hy => rfl); (case hA => (first | assumption | exact FE.ofInt _ _ | exact FE.lit (by decide +kernel))); (case hB => (first | assumption | exact FE.ofInt _ _ | exact FE.lit (by decide +kernel))); (case hb => (first | assumption | rfl)); simp only [Act.put, List.setIfInBounds_toArray, List.set_cons_succ, List.set_cons_zero])
        | (apply wpSoft_q rfl rfl; intro K hK; go_big_quiet_op; go_big_quiet_on))
      with_reducible apply wpSoft_nil
      intro m
      go_wp2
      refine bodyPost_ret (v := .agg #[.int .i64 W, .int .i64 H, .int .i64 D, .slice (some ⟨g, 0, none⟩) xs.length cg]) (by simp [results, Try.results52, go_sem, *]) rfl ⟨⟨_, rfl, ?_⟩, ?_⟩
      · have h := Ho.out
        rw [hEnd.out, upto_all] at h
        exact FOwn.base (B := w.heap.size + 1) (FOwn.gr (by repeat (with_reducible first | assumption | refine FOwn.setOther ?_ _ (by simp <;> omega))) ((Gr.refl _).drewN _)) (by omega)
      · have h := Hg.out
        exact Gr.trans (by repeat (with_reducible first | assumption | refine Gr.setCell ?_ (by simp <;> omega) _)) ((Gr.refl _).drewN _)
end Go.Proofs.Ytomlfdkcgaogcaa
