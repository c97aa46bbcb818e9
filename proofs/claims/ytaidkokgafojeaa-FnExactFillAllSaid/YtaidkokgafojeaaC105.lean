/- Contracts: a round of FillAll, the reference. MAXREC -/
import Derived.Test.YtaidkokgafojeaaProg
import Derived.Test.YtaidkokgafojeaaC104
import Derived.Test.YtaidkokgafojeaaC15
import Derived.Test.YtaidkokgafojeaaC32
import Derived.Deep.DeepCutAuto
namespace Go.Proofs.Ytaidkokgafojeaa
open Go.RowKit Go.Fx Go.Soft
/-- The sum of numbers, from the first on. -/
def gSumF : List Nat → Nat
  | [] => 0
  | v :: vs => vs.foldl (fun s u => fop .add .f32 s u) v
theorem gSumF_snoc {l : List Nat} {z : Nat} (h : l.length ≠ 0) : gSumF (l ++ [z]) = fop .add .f32 (gSumF l) z := by
  cases l with
  | nil => exact absurd rfl h
  | cons v vs => unfold gSumF; simp
theorem gMeanF_sum {l : List Nat} (h : l.length ≠ 0) : gMeanF l = fop .quo .f32 (gSumF l) (floatOfInt .f32 ((l.length : Nat) : Int)) := by
  cases l with
  | nil => exact absurd rfl h
  | cons v vs => rfl
/-- The values of the first cells of a list that are no holes. -/
def gVs (xs : List Nat) (L : List Int) (j : Nat) : List Nat := ((L.take j).map fun q => xs.getD q.toNat 0).filter fun v => !gHole v
theorem gVs_all (xs : List Nat) (L : List Int) : gVs xs L L.length = (L.map fun q => xs.getD q.toNat 0).filter fun v => !gHole v := by unfold gVs; rw [List.take_length]
theorem gVs_len (xs : List Nat) (L : List Int) (j : Nat) : (gVs xs L j).length ≤ j := by
  unfold gVs
  refine Nat.le_trans (List.length_filter_le _ _) ?_
  rw [List.length_map, List.length_take]
  exact Nat.min_le_left _ _
theorem gVs_no {xs : List Nat} {L : List Int} {j m : Nat} (hj : j < L.length) (hm : L[j] = (m : Int)) (h : gHole (xs.getD m 0) = true) : gVs xs L (j + 1) = gVs xs L j := by
  unfold gVs
  rw [List.take_succ_eq_append_getElem hj, List.map_append, List.filter_append, hm]
  simpa using h
theorem gVs_yes {xs : List Nat} {L : List Int} {j m : Nat} (hj : j < L.length) (hm : L[j] = (m : Int)) (h : gHole (xs.getD m 0) = false) : gVs xs L (j + 1) = gVs xs L j ++ [xs.getD m 0] := by
  unfold gVs
  rw [List.take_succ_eq_append_getElem hj, List.map_append, List.filter_append, hm]
  simpa using h
theorem gCnt_le (p : Nat → Bool) : ∀ k, gCnt p k ≤ k
  | 0 => Nat.le_refl _
  | k + 1 => by
    have h := gCnt_le p k
    have e : gCnt p (k + 1) = gCnt p k + if p k then 1 else 0 := rfl
    rw [e]
    split <;> omega
set_option maxRecDepth 20000 in
set_option maxHeartbeats 8000000 in
theorem S_l05Round (W H bm bx ox ca : Nat) (xs : List Nat) (w : World) (m1 : MP w bm W H (some ⟨bx, ox, none⟩) xs.length ca xs) (hW : W ≤ 24) (hH : H ≤ 24) (hW0 : 1 ≤ W) (hH0 : 1 ≤ H) (hl : xs.length = W * H) :
    Calls Try.prog 89 #[.pointer (some ⟨bm, 0, none⟩)] w fun e w' =>
      (∃ v, e = .returned (.tuple #[.agg #[.int .i64 W, .int .i64 H, v], .int .i64 (gCnt (gGets xs W H) xs.length : Nat)]) ∧ FOwn w' w.heap.size 65 v (lst xs.length (gFillA xs W H))) ∧ Gr w w' := by
  have hpos : 0 < xs.length := by rw [hl]; exact Nat.mul_pos (by omega) (by omega)
  have h24 : W * H ≤ 576 := Nat.mul_le_mul hW hH
  have hn5 : xs.length ≤ 576 := by omega
  have Hl := Lib.hid hl
  have MM := Lib.hid m1
  have f1 : FE .f32 3212836864 3212836864 := FE.lit (by decide +kernel)
  have f0 := FE0
  have ES := Lib.hid (show upto xs.length 0 (gFillA xs W H) (fun i => xs.getD i 0) = xs by rw [upto_zero, lst_of])
  clear hl m1 h24
  go_enter Try.func89, Try.ntmps89
  go_wp2_with fail
  refine (S_l05Own W H _ ca bm xs _ (MM.out.gr (by (try show Gr _ _); repeat (with_reducible first | exact Gr.refl _ | refine Gr.drewN ?_ _ | refine Gr.grew ?_ _ _ | refine Gr.alloc ?_ _ | refine Gr.drew ?_))) hpos (by omega)).mono ?_
  rintro e u1 ⟨⟨v0, rfl, ho⟩, kk⟩
  have A0 := Lib.hid (Blk.gr (show Blk _ w.heap.size [.int .i64 0, .int .i64 0, .slice none 0 0] 24 from (by repeat (with_reducible first | assumption | exact Blk.atNew (by simp) | refine Blk.alloc ?_ _ | refine Blk.grew ?_ _ _ | refine Blk.drewN ?_ _ | refine Blk.drew ?_))) kk)
  have AG := Lib.hid (Gr.trans (show Gr w _ from (by (try show Gr _ _); repeat (with_reducible first | exact Gr.refl _ | refine Gr.drewN ?_ _ | refine Gr.grew ?_ _ _ | refine Gr.alloc ?_ _ | refine Gr.drew ?_))) kk)
  obtain ⟨g, cg, rfl, -⟩ := ho.ptr hpos
  have AO := Lib.hid (FOwn.base (B' := w.heap.size + 1) ho (by simp <;> omega))
  have m2 := (MM.out.gr AG.out).c2
  clear ho kk
  go_wp2
  clear m2
  go_loopw [5, 19] (fun s i wr => ∃ k : Nat, k ≤ xs.length ∧ i = .int .i64 k ∧ s = .int .i64 (gCnt (gGets xs W H) k : Nat) ∧ Blk wr w.heap.size [.int .i64 0, .int .i64 0, .slice none 0 0] 24 ∧ Blk wr u1.heap.size [.int .i64 W, .int .i64 H, .slice (some ⟨g, 0, none⟩) xs.length cg] 24 ∧ FOwn wr (w.heap.size + 1) 65 (.slice (some ⟨g, 0, none⟩) xs.length cg) (upto xs.length k (gFillA xs W H) (fun i => xs.getD i 0)) ∧ Gr w wr) (fun _ i _ => xs.length - (intOf i).toNat)
  case atStart => exact ⟨0, Nat.zero_le _, rfl, rfl, A0.out.gr (by (try show Gr _ _); repeat (with_reducible first | exact Gr.refl _ | refine Gr.drewN ?_ _ | refine Gr.grew ?_ _ _ | refine Gr.alloc ?_ _ | refine Gr.drew ?_)), (by repeat (with_reducible first | assumption | exact Blk.atNew (by simp) | refine Blk.alloc ?_ _ | refine Blk.grew ?_ _ _ | refine Blk.drewN ?_ _ | refine Blk.drew ?_)), (by rw [ES.out]; exact AO.out.gr (by (try show Gr _ _); repeat (with_reducible first | exact Gr.refl _ | refine Gr.drewN ?_ _ | refine Gr.grew ?_ _ _ | refine Gr.alloc ?_ _ | refine Gr.drew ?_))), AG.out.trans (by (try show Gr _ _); repeat (with_reducible first | exact Gr.refl _ | refine Gr.drewN ?_ _ | refine Gr.grew ?_ _ _ | refine Gr.alloc ?_ _ | refine Gr.drew ?_))⟩
  case round =>
    clear A0 AG AO
    obtain ⟨k, hk, rfl, rfl, b0, bO, ho, hg⟩ := hrel
    have hcl := gCnt_le (gGets xs W H) k
    by_cases hlt : k < xs.length
    · obtain ⟨ro, hco, -⟩ := ho.get k (by simp; exact hlt)
      have hz := ho.free k
      have o2 := bO.cellv 2
      have hgb : g ≠ u1.heap.size := by
        intro e
        exact ho.okb (.inr (bO.okb (e := 65) (by decide))) (by simp [Value.ownBlock, e])
      have hg3 : w.heap.size + 1 ≤ g := (ho.block rfl).1
      have hmk := MM.out.gr hg
      have m2 := hmk.c2
      obtain ⟨rx, hcx, hrx⟩ := hmk.fs.get k hlt
      have Hgb := Lib.hid hgb
      have Hg3 := Lib.hid hg3
      have B0 := Lib.hid b0
      have BO := Lib.hid bO
      have Ho := Lib.hid ho
      have Hg := Lib.hid hg
      have EC := Lib.hid (show gCnt (gGets xs W H) (k + 1) = gCnt (gGets xs W H) k + if gGets xs W H k then 1 else 0 from rfl)
      generalize gCnt (gGets xs W H) k = c at *
      clear b0 bO ho hg hgb hg3 hmk
      cases t1 : gHole (xs.getD k 0)
      · have eG := Lib.hid (show gFillA xs W H k = xs.getD k 0 by unfold gFillA; rw [t1]; rfl)
        have eC := Lib.hid (show gGets xs W H k = false by unfold gGets; rw [t1]; rfl)
        go_wp2_with (first
      | (go_at_call 94; with_reducible refine (S_l05Hole _ _ _ hrx).mono ?_; rintro e w' ⟨rfl, n, rfl⟩; rw [t1]))
        go_roundw
        case rel => exact ⟨k + 1, by omega, by go_num, by rw [EC.out, eC.out]; rfl, B0.out.gr (by (try show Gr _ _); repeat (with_reducible first | exact Gr.refl _ | refine Gr.drewN ?_ _ | refine Gr.grew ?_ _ _ | refine Gr.alloc ?_ _ | refine Gr.drew ?_)), BO.out.gr (by (try show Gr _ _); repeat (with_reducible first | exact Gr.refl _ | refine Gr.drewN ?_ _ | refine Gr.grew ?_ _ _ | refine Gr.alloc ?_ _ | refine Gr.drew ?_)), (by rw [← upto_keep (n := xs.length) (k := k) (G := gFillA xs W H) (O := fun i => xs.getD i 0) eG.out.symm]; exact Ho.out.gr (by (try show Gr _ _); repeat (with_reducible first | exact Gr.refl _ | refine Gr.drewN ?_ _ | refine Gr.grew ?_ _ _ | refine Gr.alloc ?_ _ | refine Gr.drew ?_))), Hg.out.trans (by (try show Gr _ _); repeat (with_reducible first | exact Gr.refl _ | refine Gr.drewN ?_ _ | refine Gr.grew ?_ _ _ | refine Gr.alloc ?_ _ | refine Gr.drew ?_))⟩
        case measure => simp [intOf]; omega
      · have hxW : k % W < W := Nat.mod_lt _ (by omega)
        have hyH : k / W < H := Nat.div_lt_of_lt_mul (by have := Hl.out; omega)
        have hkk : k = k % W + W * (k / W) := (Nat.mod_add_div k W).symm
        have eG := Lib.hid (show gFillA xs W H k = gMeanF ((gNearL W H (k % W) (k / W) (k : Int)).map (fun q => xs.getD q.toNat 0) |>.filter fun v => !gHole v) by unfold gFillA gNv; rw [t1, if_pos rfl, ← hkk])
        have eC := Lib.hid (show gGets xs W H k = !((gNearL W H (k % W) (k / W) (k : Int)).map (fun q => xs.getD q.toNat 0) |>.filter fun v => !gHole v).isEmpty by unfold gGets gNv; rw [t1, ← hkk, Bool.true_and])
        have HC := Lib.hid (fun u (g : Gr w u) => S_l05Near W H (k % W) (k / W) k bm ca (some ⟨bx, ox, none⟩) xs u (MM.out.gr g) (by omega) (by omega) hxW hyH hkk)
        have HI := Lib.hid (fun j hj => near_in (W := W) (H := H) (x := k % W) (y := k / W) (i := (k : Int)) (j := j) (by rw [← hkk]) hxW hyH hj)
        have hL4 : (gNearL W H (k % W) (k / W) (k : Int)).length ≤ 4 := by unfold gNearL addIf; split <;> split <;> split <;> split <;> simp
        clear hxW hyH hkk
        generalize gNearL W H (k % W) (k / W) (k : Int) = L at *
        go_upto_region 10 with (go_at_call 94; with_reducible refine (S_l05Hole _ _ _ hrx).mono ?_; rintro e w' ⟨rfl, n, rfl⟩; rw [t1])
        generalize hwq : World.drewN _ _ = wq
        have hgb := Hgb.out
        have hg3 := Hg3.out
        have C0 : Hid (Blk wq w.heap.size [.int .i64 0, .int .i64 0, .slice none 0 0] 24) := by show Blk _ _ _ _; rw [← hwq]; exact B0.out.setG (by (try show Gr _ _); repeat (with_reducible first | exact Gr.refl _ | refine Gr.drewN ?_ _ | refine Gr.grew ?_ _ _ | refine Gr.alloc ?_ _ | refine Gr.drew ?_)) (by simp; omega)
        have CO : Hid (Blk wq u1.heap.size [.int .i64 W, .int .i64 H, .slice (some ⟨g, 0, none⟩) xs.length cg] 24) := by show Blk _ _ _ _; rw [← hwq]; exact BO.out.setG (by (try show Gr _ _); repeat (with_reducible first | exact Gr.refl _ | refine Gr.drewN ?_ _ | refine Gr.grew ?_ _ _ | refine Gr.alloc ?_ _ | refine Gr.drew ?_)) hgb
        have CF : Hid (FOwn wq (w.heap.size + 1) 65 (.slice (some ⟨g, 0, none⟩) xs.length cg) ((upto xs.length k (gFillA xs W H) (fun i => xs.getD i 0)).set k 3212836864)) := by show FOwn _ _ _ _ _; rw [← hwq]; exact FOwn.gr (Ho.out.store (k := k) f1) (by (try show Gr _ _); repeat (with_reducible first | exact Gr.refl _ | refine Gr.drewN ?_ _ | refine Gr.grew ?_ _ _ | refine Gr.alloc ?_ _ | refine Gr.drew ?_))
        have CG : Hid (Gr w wq) := by show Gr _ _; rw [← hwq]; exact Hg.out.setG (by (try show Gr _ _); repeat (with_reducible first | exact Gr.refl _ | refine Gr.drewN ?_ _ | refine Gr.grew ?_ _ _ | refine Gr.alloc ?_ _ | refine Gr.drew ?_)) (by simp; omega)
        have FX := Lib.hid ((MM.out.gr CG.out).fs)
        have hcg : xs.length ≤ 576 := hn5
        clear hwq hco hz o2 m2 hcx hrx B0 BO Ho Hg hgb hg3
        go_wp2_with fail
        refine (HC.out _ CG.out).mono ?_
        rintro e w2 ⟨⟨v1, rfl, ho1⟩, hg1⟩
        obtain ⟨a1, c1, rfl, hs1, hm1⟩ := ho1.sl
        have Hs1 := Lib.hid hs1
        have HG1 := Lib.hid hg1
        have d2 := (MM.out.gr (CG.out.trans hg1)).c2
        have FX1 := Lib.hid (FX.out.keep hg1.kp)
        have EQ := gVs_all xs L
        have eGo := eG.out
        have eCo := eC.out
        rw [← EQ] at eGo eCo
        have eG2 := Lib.hid eGo
        have eC2 := Lib.hid eCo
        clear ho1 hs1 hg1 EQ eGo eCo eG eC HC FX
        unfold maxLen at hm1
        go_wp2
        go_loopw [7, 8, 40] (fun s t i u => ∃ j : Nat, j ≤ L.length ∧ i = .int .i64 j ∧ (∃ r, s = .float .f32 r ∧ FE .f32 r (gSumF (gVs xs L j))) ∧ t = .int .i64 ((gVs xs L j).length : Nat) ∧ ∃ n, u = w2.drewN n) (fun _ _ i _ => L.length - (intOf i).toNat)
        case atStart => exact ⟨0, Nat.zero_le _, rfl, ⟨0, rfl, f0⟩, rfl, (by first | exact ⟨0, rfl⟩ | exact ⟨_, rfl⟩)⟩
        case round =>
          obtain ⟨j, hj, rfl, ⟨r, rfl, hr⟩, rfl, n, rfl⟩ := hrel
          have hvl := gVs_len xs L j
          by_cases hjt : j < L.length
          · obtain ⟨bl, ol, rfl, hcl⟩ := Hs1.out.at_ j hjt
            obtain ⟨m, hm, hml⟩ := HI.out _ (List.getElem_mem hjt)
            rw [hm] at hcl
            have hml' : m < xs.length := by rw [Hl.out]; exact hml
            obtain ⟨rm, hcm, hrm⟩ := FX1.out.get m hml'
            have hY := fun h => gVs_yes (xs := xs) hjt hm h
            have hN := fun h => gVs_no (xs := xs) hjt hm h
            clear hm hml
            obtain ⟨T, hT⟩ : ∃ T, T = gVs xs L (j + 1) := ⟨_, rfl⟩
            rw [← hT] at hY hN
            have HT := Lib.hid hT
            clear hT
            generalize gVs xs L j = S at *
            generalize xs.getD m 0 = z at *
            cases t2 : gHole z
            · have EV := Lib.hid (hY t2)
              clear hY hN
              by_cases h0 : S.length = 0
              · obtain rfl : S = [] := List.eq_nil_of_length_eq_zero h0
                go_wp2
                apply region_drew 8
                case hm => kernel_rfl
                case hB => kernel_rfl
                simp only [List.take_succ_cons, List.take_zero, List.drop_succ_cons, List.drop_zero]
                repeat (first
                  | (apply wpSoft_skip rfl; simp only [Act.put, List.setIfInBounds_toArray, List.set_cons_succ, List.set_cons_zero])
                  | (apply wpSoft_nilCheck rfl rfl; simp only [Act.put, List.setIfInBounds_toArray, List.set_cons_succ, List.set_cons_zero])
                  | ((with_reducible apply wpSoft_fop); (case hw => rfl); (case hD => exact closed_drew); (case hop => rfl); (case hx => rfl); (case hy => rfl); (case hA => (first | assumption | exact FE.ofInt _ _ | exact FE.lit (by decide +kernel))); (case hB => (first | assumption | exact FE.ofInt _ _ | exact FE.lit (by decide +kernel))); (intro r hr; simp only [Act.put, List.setIfInBounds_toArray, List.set_cons_succ, List.set_cons_zero]))

                  | ((with_reducible apply wpSoft_widen); (case hw => rfl); (case hD => exact closed_drew); (case hs => exact Try.underlying65); (case hd => exact Try.underlying147); (case hx => rfl); (case hA => (first | assumption | exact FE.ofInt _ _ | exact FE.lit (by decide +kernel))); (intro r hr; simp only [Act.put, List.setIfInBounds_toArray, List.set_cons_succ, List.set_cons_zero]))
                  | ((with_reducible apply wpSoft_fneg); (case hw => rfl); (case hx => rfl); (case hA => (first | assumption | exact FE.ofInt _ _ | exact FE.lit (by decide +kernel))); (intro r hr; simp only [Act.put, List.setIfInBounds_toArray, List.set_cons_succ, List.set_cons_zero]))
                  | ((with_reducible apply wpSoft_fcmp); (case hw => rfl); (case hop => rfl); (case hx => rfl); (case hy => rfl); (case hA => (first | assumption | exact FE.ofInt _ _ | exact FE.lit (by decide +kernel))); (case hB => (first | assumption | exact FE.ofInt _ _ | exact FE.lit (by decide +kernel))); (case hb => (first | assumption | rfl)); simp only [Act.put, List.setIfInBounds_toArray, List.set_cons_succ, List.set_cons_zero])
                  | (apply wpSoft_q rfl rfl; intro K hK; go_big_quiet_op; go_big_quiet_on))
                with_reducible apply wpSoft_nil
                intro m
                go_wp2_with (first
      | (go_at_call 94; with_reducible refine (S_l05Hole _ _ _ hrm).mono ?_; rintro e w' ⟨rfl, nn, rfl⟩; rw [t2]))
                go_roundw
                case rel => exact ⟨j + 1, by omega, by go_num, ⟨_, rfl, by rw [← HT.out, EV.out]; exact hrm⟩, by rw [← HT.out, EV.out]; rfl, (by with_reducible first | exact ⟨_, rfl⟩ | exact ⟨_, World.drewN_drewN _ _ _⟩ | exact drew_self _)⟩
                case measure => simp [intOf]; omega
              · have hS0 : ¬ (S.length : Int) = 0 := by omega
                have ESum := Lib.hid (gSumF_snoc (z := z) h0)
                have ELen := Lib.hid (show (S ++ [z]).length = S.length + 1 by simp)
                go_wp2
                apply region_drew 8
                case hm => kernel_rfl
                case hB => kernel_rfl
                simp only [List.take_succ_cons, List.take_zero, List.drop_succ_cons, List.drop_zero]
                repeat (first
                  | (apply wpSoft_skip rfl; simp only [Act.put, List.setIfInBounds_toArray, List.set_cons_succ, List.set_cons_zero])
                  | (apply wpSoft_nilCheck rfl rfl; simp only [Act.put, List.setIfInBounds_toArray, List.set_cons_succ, List.set_cons_zero])
                  | ((with_reducible apply wpSoft_fop); (case hw => rfl); (case hD => exact closed_drew); (case hop => rfl); (case hx => rfl); (case hy => rfl); (case hA => (first | assumption | exact FE.ofInt _ _ | exact FE.lit (by decide +kernel))); (case hB => (first | assumption | exact FE.ofInt _ _ | exact FE.lit (by decide +kernel))); (intro r hr; simp only [Act.put, List.setIfInBounds_toArray, List.set_cons_succ, List.set_cons_zero]))

                  | ((with_reducible apply wpSoft_widen); (case hw => rfl); (case hD => exact closed_drew); (case hs => exact Try.underlying65); (case hd => exact Try.underlying147); (case hx => rfl); (case hA => (first | assumption | exact FE.ofInt _ _ | exact FE.lit (by decide +kernel))); (intro r hr; simp only [Act.put, List.setIfInBounds_toArray, List.set_cons_succ, List.set_cons_zero]))
                  | ((with_reducible apply wpSoft_fneg); (case hw => rfl); (case hx => rfl); (case hA => (first | assumption | exact FE.ofInt _ _ | exact FE.lit (by decide +kernel))); (intro r hr; simp only [Act.put, List.setIfInBounds_toArray, List.set_cons_succ, List.set_cons_zero]))
                  | ((with_reducible apply wpSoft_fcmp); (case hw => rfl); (case hop => rfl); (case hx => rfl); (case hy => rfl); (case hA => (first | assumption | exact FE.ofInt _ _ | exact FE.lit (by decide +kernel))); (case hB => (first | assumption | exact FE.ofInt _ _ | exact FE.lit (by decide +kernel))); (case hb => (first | assumption | rfl)); simp only [Act.put, List.setIfInBounds_toArray, List.set_cons_succ, List.set_cons_zero])
                  | (apply wpSoft_q rfl rfl; intro K hK; go_big_quiet_op; go_big_quiet_on))
                with_reducible apply wpSoft_nil
                intro m
                go_wp2_with (first
      | (go_at_call 94; with_reducible refine (S_l05Hole _ _ _ hrm).mono ?_; rintro e w' ⟨rfl, nn, rfl⟩; rw [t2])
      | ((with_reducible apply wpList_fop); (case hw => rfl); (case hop => rfl); (case hx => rfl); (case hy => rfl); (case hA => (first | assumption | exact FE.ofInt _ _ | exact FE.lit (by decide +kernel))); (case hB => (first | assumption | exact FE.ofInt _ _ | exact FE.lit (by decide +kernel))); intro r n hr)
      | ((with_reducible apply wpList_fcmp); (case hw => rfl); (case hop => rfl); (case hx => rfl); (case hy => rfl); (case hA => (first | assumption | exact FE.ofInt _ _ | exact FE.lit (by decide +kernel))); (case hB => (first | assumption | exact FE.ofInt _ _ | exact FE.lit (by decide +kernel))); (case hb => (first | assumption | rfl)))
      | ((with_reducible apply wpList_widen); (case hw => rfl); (case hs => exact Try.underlying65); (case hd => exact Try.underlying147); (case hx => rfl); (case hA => (first | assumption | exact FE.ofInt _ _ | exact FE.lit (by decide +kernel))); intro r n hr)
      | ((with_reducible apply wpList_fneg); (case hw => rfl); (case hx => rfl); (case hA => (first | assumption | exact FE.ofInt _ _ | exact FE.lit (by decide +kernel))); intro r hr))
                go_roundw
                case rel => exact ⟨j + 1, by omega, by go_num, ⟨_, rfl, by rw [← HT.out, EV.out, ESum.out]; assumption⟩, by rw [← HT.out, EV.out, ELen.out]; go_num, (by with_reducible first | exact ⟨_, rfl⟩ | exact ⟨_, World.drewN_drewN _ _ _⟩ | exact drew_self _)⟩
                case measure => simp [intOf]; omega
            · have EV := Lib.hid (hN t2)
              clear hY hN
              go_wp2
              apply region_drew 8
              case hm => kernel_rfl
              case hB => kernel_rfl
              simp only [List.take_succ_cons, List.take_zero, List.drop_succ_cons, List.drop_zero]
              repeat (first
                | (apply wpSoft_skip rfl; simp only [Act.put, List.setIfInBounds_toArray, List.set_cons_succ, List.set_cons_zero])
                | (apply wpSoft_nilCheck rfl rfl; simp only [Act.put, List.setIfInBounds_toArray, List.set_cons_succ, List.set_cons_zero])
                | ((with_reducible apply wpSoft_fop); (case hw => rfl); (case hD => exact closed_drew); (case hop => rfl); (case hx => rfl); (case hy => rfl); (case hA => (first | assumption | exact FE.ofInt _ _ | exact FE.lit (by decide +kernel))); (case hB => (first | assumption | exact FE.ofInt _ _ | exact FE.lit (by decide +kernel))); (intro r hr; simp only [Act.put, List.setIfInBounds_toArray, List.set_cons_succ, List.set_cons_zero]))

                | ((with_reducible apply wpSoft_widen); (case hw => rfl); (case hD => exact closed_drew); (case hs => exact Try.underlying65); (case hd => exact Try.underlying147); (case hx => rfl); (case hA => (first | assumption | exact FE.ofInt _ _ | exact FE.lit (by decide +kernel))); (intro r hr; simp only [Act.put, List.setIfInBounds_toArray, List.set_cons_succ, List.set_cons_zero]))
                | ((with_reducible apply wpSoft_fneg); (case hw => rfl); (case hx => rfl); (case hA => (first | assumption | exact FE.ofInt _ _ | exact FE.lit (by decide +kernel))); (intro r hr; simp only [Act.put, List.setIfInBounds_toArray, List.set_cons_succ, List.set_cons_zero]))
                | ((with_reducible apply wpSoft_fcmp); (case hw => rfl); (case hop => rfl); (case hx => rfl); (case hy => rfl); (case hA => (first | assumption | exact FE.ofInt _ _ | exact FE.lit (by decide +kernel))); (case hB => (first | assumption | exact FE.ofInt _ _ | exact FE.lit (by decide +kernel))); (case hb => (first | assumption | rfl)); simp only [Act.put, List.setIfInBounds_toArray, List.set_cons_succ, List.set_cons_zero])
                | (apply wpSoft_q rfl rfl; intro K hK; go_big_quiet_op; go_big_quiet_on))
              with_reducible apply wpSoft_nil
              intro m
              go_wp2_with (first
      | (go_at_call 94; with_reducible refine (S_l05Hole _ _ _ hrm).mono ?_; rintro e w' ⟨rfl, nn, rfl⟩; rw [t2]))
              go_roundw
              case rel => exact ⟨j + 1, by omega, by go_num, ⟨_, rfl, by rw [← HT.out, EV.out]; exact hr⟩, by rw [← HT.out, EV.out], (by with_reducible first | exact ⟨_, rfl⟩ | exact ⟨_, World.drewN_drewN _ _ _⟩ | exact drew_self _)⟩
              case measure => simp [intOf]; omega
          · obtain rfl : j = L.length := by omega
            obtain ⟨S, hS⟩ : ∃ S, S = gVs xs L L.length := ⟨_, rfl⟩
            have eGo := eG2.out
            have eCo := eC2.out
            rw [← hS] at hr hvl eGo eCo
            rw [← hS]
            clear hS eG2 eC2
            have G2 := Lib.hid (HG1.out.drewN n)
            have CO2 := CO.out.gr G2.out
            have o3 := CO2.cellv 2
            have CF2 := CF.out.gr G2.out
            obtain ⟨ro2, hco2, -⟩ := CF2.get k (by simp; exact hlt)
            have hz2 := CF2.free k
            have HCO := Lib.hid CO2
            have HCF := Lib.hid CF2
            clear CO2 CF2 d2
            by_cases h0 : S.length = 0
            · obtain rfl : S = [] := List.eq_nil_of_length_eq_zero h0
              have eG3 := Lib.hid (show gFillA xs W H k = 3212836864 from eGo)
              have eC3 := Lib.hid (show gGets xs W H k = false from eCo)
              clear eGo eCo
              go_wp2
              go_roundw
              case rel => exact ⟨k + 1, by omega, by go_num, by rw [EC.out, eC3.out]; rfl, C0.out.gr G2.out, HCO.out, (by rw [← upto_set hlt, eG3.out]; exact HCF.out), CG.out.trans G2.out⟩
              case measure => simp [intOf]; omega
            · have hS0 : 0 < S.length := by omega
              have eG3 := Lib.hid (show gFillA xs W H k = fop .quo .f32 (gSumF S) (floatOfInt .f32 ((S.length : Nat) : Int)) by rw [eGo]; exact gMeanF_sum h0)
              have eC3 := Lib.hid (show gGets xs W H k = true by rw [eCo]; cases S with | nil => exact absurd rfl h0 | cons _ _ => rfl)
              clear eGo eCo
              generalize hwq : World.drewN w2 n = wq2 at *
              go_wp2_with (first
      | ((with_reducible apply wpList_fop); (case hw => rfl); (case hop => rfl); (case hx => rfl); (case hy => rfl); (case hA => (first | assumption | exact FE.ofInt _ _ | exact FE.lit (by decide +kernel))); (case hB => (first | assumption | exact FE.ofInt _ _ | exact FE.lit (by decide +kernel))); intro r n hr)
      | ((with_reducible apply wpList_fcmp); (case hw => rfl); (case hop => rfl); (case hx => rfl); (case hy => rfl); (case hA => (first | assumption | exact FE.ofInt _ _ | exact FE.lit (by decide +kernel))); (case hB => (first | assumption | exact FE.ofInt _ _ | exact FE.lit (by decide +kernel))); (case hb => (first | assumption | rfl)))
      | ((with_reducible apply wpList_widen); (case hw => rfl); (case hs => exact Try.underlying65); (case hd => exact Try.underlying147); (case hx => rfl); (case hA => (first | assumption | exact FE.ofInt _ _ | exact FE.lit (by decide +kernel))); intro r n hr)
      | ((with_reducible apply wpList_fneg); (case hw => rfl); (case hx => rfl); (case hA => (first | assumption | exact FE.ofInt _ _ | exact FE.lit (by decide +kernel))); intro r hr))
              go_roundw
              case rel =>
                have hg3 := Hg3.out
                refine ⟨k + 1, by omega, by go_num, by rw [EC.out, eC3.out]; go_num, (C0.out.gr G2.out).setG (by (try show Gr _ _); repeat (with_reducible first | exact Gr.refl _ | refine Gr.drewN ?_ _ | refine Gr.grew ?_ _ _ | refine Gr.alloc ?_ _ | refine Gr.drew ?_)) (by simp; omega), HCO.out.setG (by (try show Gr _ _); repeat (with_reducible first | exact Gr.refl _ | refine Gr.drewN ?_ _ | refine Gr.grew ?_ _ _ | refine Gr.alloc ?_ _ | refine Gr.drew ?_)) Hgb.out, ?_, (CG.out.trans G2.out).setG (by (try show Gr _ _); repeat (with_reducible first | exact Gr.refl _ | refine Gr.drewN ?_ _ | refine Gr.grew ?_ _ _ | refine Gr.alloc ?_ _ | refine Gr.drew ?_)) (by simp; omega)⟩
                rw [← upto_set hlt]
                refine FOwn.gr ?_ (by (try show Gr _ _); repeat (with_reducible first | exact Gr.refl _ | refine Gr.drewN ?_ _ | refine Gr.grew ?_ _ _ | refine Gr.alloc ?_ _ | refine Gr.drew ?_))
                rw [eG3.out]
                have h := fun (r' : Nat) (hr' : FE .f32 r' (fop .quo .f32 (gSumF S) (floatOfInt .f32 ((S.length : Nat) : Int)))) => HCF.out.store (k := k) hr'
                simp only [List.set_set] at h
                exact h _ (by assumption)
              case measure => simp [intOf]; omega
    · obtain rfl : k = xs.length := by omega
      have p0 := bO.cellv 0
      have p1 := bO.cellv 1
      have p2 := bO.cellv 2
      have q0 := b0.cellv 0
      have q1 := b0.cellv 1
      have q2 := b0.cellv 2
      have z0 := b0.frozen 0
      have z1 := b0.frozen 1
      have z2 := b0.frozen 2
      have Ho := Lib.hid ho
      have Hg := Lib.hid hg
      clear b0 bO ho hg
      go_wp2
      refine bodyPost_ret (v := .tuple #[.agg #[.int .i64 W, .int .i64 H, .slice (some ⟨g, 0, none⟩) xs.length cg], .int .i64 (gCnt (gGets xs W H) xs.length : Nat)]) (by simp [results, Try.results89, go_sem, *]) rfl ⟨⟨_, rfl, ?_⟩, ?_⟩
      · have h := Ho.out
        rw [upto_all] at h
        exact FOwn.base (B := w.heap.size + 1) (by repeat (with_reducible first | assumption | refine FOwn.setOther ?_ _ (by simp <;> omega))) (by omega)
      · have h := Hg.out
        exact (by repeat (with_reducible first | assumption | refine Gr.setCell ?_ (by simp <;> omega) _))
end Go.Proofs.Ytaidkokgafojeaa
