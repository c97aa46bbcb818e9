/- Contracts: the holes of a map, filled once. MAXREC -/
import Derived.Test.YtaidkokgafojeaaProg
import Derived.Test.YtaidkokgafojeaaC102
import Derived.Test.YtaidkokgafojeaaC34
import Derived.Deep.DeepCutAuto
namespace Go.Fx
open Go Go.Soft Go.RowKit
theorem FOwn.cap {w : World} {B : Nat} {e : TypeId} {a : Option Addr} {n cap : Nat} {xs : List Nat} (h : FOwn w B e (.slice a n cap) xs) : n ≤ cap := by
  obtain ⟨rs, h1, h2⟩ := h
  rcases h2.2 with ⟨h0, h3⟩ | ⟨g, cap', cur, e', hb, hg, hnc, hcm, hcs, ht⟩
  · cases h0; exact Nat.le_refl _
  · cases e'; exact hnc
end Go.Fx
namespace Go.Proofs.Ytaidkokgafojeaa
open Go.RowKit Go.Fx Go.Soft
theorem gNvTo_length (xs : List Nat) (W H x y : Nat) : ∀ k, (gNvTo xs W H x y k).length ≤ k
  | 0 => Nat.le_refl _
  | k + 1 => by
    have := gNvTo_length xs W H x y k
    unfold gNvTo
    split
    · rw [List.length_append]; simp; omega
    · omega
theorem gNvTo_no {xs : List Nat} {W H x y k : Nat} (h : (gHas W H (besU x k) (besV y k) && !gHole (xs.getD (besU x k + W * besV y k).toNat 0)) = false) : gNvTo xs W H x y (k + 1) = gNvTo xs W H x y k := by
  conv => lhs; unfold gNvTo
  rw [h]; rfl
theorem gNvTo_yes {xs : List Nat} {W H x y k : Nat} (h : (gHas W H (besU x k) (besV y k) && !gHole (xs.getD (besU x k + W * besV y k).toNat 0)) = true) : gNvTo xs W H x y (k + 1) = gNvTo xs W H x y k ++ [xs.getD (besU x k + W * besV y k).toNat 0] := by
  conv => lhs; unfold gNvTo
  rw [h]; rfl
set_option maxRecDepth 20000 in
set_option maxHeartbeats 8000000 in
theorem I_filled_1 (W H b mb ca x y c : Nat) (a : Option Addr) (xs : List Nat) (w : World) (m1 : MP w b W H a xs.length ca xs) (hm : Blk w mb [.int .i64 (c : Int)] 3) (hc : c ≤ 576) (hW : W ≤ 24) (hH : H ≤ 24) (hl : xs.length = W * H) (hx : x < W) (hy : y < H) :
    Calls Try.prog 138 #[.int .i64 x, .int .i64 y, .pointer (some ⟨b, 0, none⟩), .pointer (some ⟨mb, 0, none⟩)] w fun e w' => (∃ r, e = .returned (.float .f32 r) ∧ FE .f32 r (gFillA xs W H (x + W * y))) ∧ Gr (cw w mb (c + if gGets xs W H (x + W * y) then 1 else 0)) w' := by
  obtain ⟨i0, hi, hz0, hz1, hz2⟩ := info_parts info_float32
  have HA := Lib.hid (fun (w1 : World) (g : Gr w w1) => I_Map_at W H x y b a ca xs w1 (m1.gr g) hW hH hx hy hl)
  have MM := Lib.hid m1
  have Hl := Lib.hid hl
  have HM := Lib.hid hm
  have mblt := hm.lt
  obtain ⟨z, hz⟩ : ∃ z, z = xs.getD (x + W * y) 0 := ⟨_, rfl⟩
  rw [← hz] at HA
  obtain ⟨d, hd⟩ : ∃ d, d = c + if gGets xs W H (x + W * y) then 1 else 0 := ⟨_, rfl⟩
  rw [← hd]
  cases t1 : gHole z
  · have EV := Lib.hid (show gFillA xs W H (x + W * y) = z by unfold gFillA; rw [← hz, t1]; rfl)
    have EG := Lib.hid (show d = c by rw [hd, show gGets xs W H (x + W * y) = false by unfold gGets; rw [← hz, t1]; rfl]; rfl)
    clear hz m1 hl hm hd
    go_enter Try.func138, Try.ntmps138
    go_wp2_with (first
      | (go_at_call 101; refine (HA.out _ (by (try show Gr _ _); repeat (with_reducible first | exact Gr.refl _ | refine Gr.drewN ?_ _ | refine Gr.grew ?_ _ _ | refine Gr.alloc ?_ _ | refine Gr.drew ?_))).mono ?_; rintro e w' ⟨r1, rfl, hr1, n, rfl⟩)
      | (go_at_call 139; with_reducible refine (I_noHole _ _ _ (by assumption)).mono ?_; rintro e w' ⟨rfl, n, rfl⟩; rw [t1]))
    go_ret
    exact ⟨⟨_, rfl, by rw [EV.out]; exact hr1⟩, by rw [EG.out, cw_self HM.out]; exact (by (try show Gr _ _); repeat (with_reducible first | exact Gr.refl _ | refine Gr.drewN ?_ _ | refine Gr.grew ?_ _ _ | refine Gr.alloc ?_ _ | refine Gr.drew ?_))⟩
  · have EV := Lib.hid (show gFillA xs W H (x + W * y) = gMeanF (gNv xs W H x y) by unfold gFillA; rw [← hz, t1, mod_of hx, div_of hx]; rfl)
    have EG := Lib.hid (show d = c + if (!(gNv xs W H x y).isEmpty) = true then 1 else 0 by rw [hd, show gGets xs W H (x + W * y) = !(gNv xs W H x y).isEmpty by unfold gGets; rw [← hz, t1, mod_of hx, div_of hx]; rfl])
    have EN := Lib.hid (gNvTo_all xs hx hy)
    have HXW := Lib.hid hx
    have HYH := Lib.hid hy
    have f1 : FE .f32 3212836864 3212836864 := FE.lit (by decide +kernel)
    clear hz m1 hl hm hd
    go_enter Try.func138, Try.ntmps138
    go_wp2_with (first
      | (go_at_call 101; refine (HA.out _ (by (try show Gr _ _); repeat (with_reducible first | exact Gr.refl _ | refine Gr.drewN ?_ _ | refine Gr.grew ?_ _ _ | refine Gr.alloc ?_ _ | refine Gr.drew ?_))).mono ?_; rintro e w' ⟨r1, rfl, hr1, n, rfl⟩)
      | (go_at_call 139; with_reducible refine (I_noHole _ _ _ (by assumption)).mono ?_; rintro e w' ⟨rfl, n, rfl⟩; rw [t1])
      | (go_at_call 140; refine (I_besides x y _ (by omega) (by omega)).mono ?_; rintro e w1 ⟨rfl, hg1⟩))
    have hg0 : Gr w w1 := Gr.trans (by (try show Gr _ _); repeat (with_reducible first | exact Gr.refl _ | refine Gr.drewN ?_ _ | refine Gr.grew ?_ _ _ | refine Gr.alloc ?_ _ | refine Gr.drew ?_)) hg1
    have hb0 : FOwn w1 w.heap.size 65 (.slice (some ⟨w.heap.size, 0, none⟩) 0 0) [] := FOwn.empty (Blk.gr (show Blk _ w.heap.size [] 65 from (by repeat (with_reducible first | assumption | exact Blk.atNew (by simp) | refine Blk.alloc ?_ _ | refine Blk.grew ?_ _ _ | refine Blk.drewN ?_ _ | refine Blk.drew ?_))) hg1) (Nat.le_refl _)
    have HO0 := Lib.hid hb0
    have HG0 := Lib.hid hg0
    clear hg1 hb0 hg0
    go_loopw [7, 24] (fun s i u => ∃ j : Nat, j ≤ 4 ∧ i = .int .i64 j ∧ FOwn u w.heap.size 65 s (gNvTo xs W H x y j) ∧ Gr w u) (fun _ i _ => 4 - (intOf i).toNat)
    case atStart => exact ⟨0, by omega, rfl, HO0.out, HG0.out⟩
    case round =>
      clear HO0 HG0
      obtain ⟨j, hj, rfl, ho, hu⟩ := hrel
      have HMu := Lib.hid (MM.out.gr hu)
      by_cases hjt : j < 4
      · have hlen := gNvTo_length xs W H x y j
        obtain ⟨v0, c0, rfl, -, -⟩ := ho.sl
        have Ho := Lib.hid ho
        have HU := Lib.hid hu
        clear ho hu
        have h5 : (gHas W H (besU x j) (besV y j) = false) ∨ (gHas W H (besU x j) (besV y j) = true ∧ gHole (xs.getD (besU x j + W * besV y j).toNat 0) = true) ∨ (gHas W H (besU x j) (besV y j) = true ∧ gHole (xs.getD (besU x j + W * besV y j).toNat 0) = false) := by
          cases gHas W H (besU x j) (besV y j) <;> cases gHole (xs.getD (besU x j + W * besV y j).toNat 0) <;> simp
        rcases h5 with t2 | ⟨t2, t3⟩ | ⟨t2, t3⟩
        rotate_left 2
        · have EA := Lib.hid (gNvTo_yes (show (gHas W H (besU x j) (besV y j) && !gHole (xs.getD (besU x j + W * besV y j).toNat 0)) = true by rw [t2, t3]; rfl))
          generalize gNvTo xs W H x y j = L at *
          rcases (show j = 0 ∨ j = 1 ∨ j = 2 ∨ j = 3 by omega) with rfl | rfl | rfl | rfl
          all_goals
            go_wp2_with fail
            first | rw [run_pair0] | rw [run_pair1] | rw [run_pair2] | rw [run_pair3]
            go_wp2_with (first
      | (go_at_call 141; refine (I_Map_has W H _ _ _ ca _ xs _ (HMu.out.gr (by repeat (with_reducible first | assumption | exact Gr.refl _ | refine Gr.alloc ?_ _ | refine Gr.drewN ?_ _))) hW hH).mono ?_; rintro e w' ⟨he, n, rfl⟩; obtain rfl := he.trans (congrArg (fun b => Ending.returned (.bool b)) t2))
      | (go_at_call 101; refine (I_Map_at_int W H _ _ _ _ ca xs _ (HMu.out.gr (by repeat (with_reducible first | assumption | exact Gr.refl _ | refine Gr.alloc ?_ _ | refine Gr.drewN ?_ _))) hW hH t2 Hl.out).mono ?_; rintro e w' ⟨r1, rfl, hr1, n, rfl⟩)
      | (go_at_call 139; refine (I_noHole _ _ _ (by assumption)).mono ?_; rintro e w' ⟨he, n, rfl⟩; obtain rfl := he.trans (congrArg (fun b => Ending.returned (.bool (!b))) t3))
      | (refine wpList_append_f rfl rfl i0 Try.underlying22 hi hz0 hz1 hz2 rfl (Ho.out.gr (by repeat (with_reducible first | assumption | exact Gr.refl _ | refine Gr.alloc ?_ _ | refine Gr.drewN ?_ _))) rfl ((Blk.atNew (by simp)).cellv 0 rfl) hr1 (by omega) (Gr.size (HU.out.trans (by repeat (with_reducible first | assumption | exact Gr.refl _ | refine Gr.alloc ?_ _ | refine Gr.drewN ?_ _)))) ?_; intro v1 w3 ho1 hg1; have G3 := Lib.hid (Gr.grownBy (HU.out.trans (by repeat (with_reducible first | assumption | exact Gr.refl _ | refine Gr.alloc ?_ _ | refine Gr.drewN ?_ _))) hg1 (fun q hq => (FOwn.block Ho.out hq).1)); have Ho3 := Lib.hid ho1; clear hg1 ho1))
            go_roundw
            case rel => exact ⟨_, Nat.succ_le_of_lt hjt, by go_num, by rw [EA.out]; exact Ho3.out, G3.out⟩
            case measure => simp [intOf]
        all_goals
          have EA := Lib.hid (gNvTo_no (show (gHas W H (besU x j) (besV y j) && !gHole (xs.getD (besU x j + W * besV y j).toNat 0)) = false by first | (rw [t2, t3]; rfl) | (rw [t2]; rfl)))
          generalize gNvTo xs W H x y j = L at *
          rcases (show j = 0 ∨ j = 1 ∨ j = 2 ∨ j = 3 by omega) with rfl | rfl | rfl | rfl
          all_goals
            go_wp2_with fail
            first | rw [run_pair0] | rw [run_pair1] | rw [run_pair2] | rw [run_pair3]
            go_wp2_with (first
      | (go_at_call 141; refine (I_Map_has W H _ _ _ ca _ xs _ (HMu.out.gr (by repeat (with_reducible first | assumption | exact Gr.refl _ | refine Gr.alloc ?_ _ | refine Gr.drewN ?_ _))) hW hH).mono ?_; rintro e w' ⟨he, n, rfl⟩; obtain rfl := he.trans (congrArg (fun b => Ending.returned (.bool b)) t2))
      | (go_at_call 101; refine (I_Map_at_int W H _ _ _ _ ca xs _ (HMu.out.gr (by repeat (with_reducible first | assumption | exact Gr.refl _ | refine Gr.alloc ?_ _ | refine Gr.drewN ?_ _))) hW hH t2 Hl.out).mono ?_; rintro e w' ⟨r1, rfl, hr1, n, rfl⟩)
      | (go_at_call 139; refine (I_noHole _ _ _ (by assumption)).mono ?_; rintro e w' ⟨he, n, rfl⟩; obtain rfl := he.trans (congrArg (fun b => Ending.returned (.bool (!b))) t3)))
            go_roundw
            case rel => exact ⟨_, Nat.succ_le_of_lt hjt, by go_num, by rw [EA.out]; exact Ho.out.gr (by repeat (with_reducible first | assumption | exact Gr.refl _ | refine Gr.alloc ?_ _ | refine Gr.drewN ?_ _)), HU.out.trans (by repeat (with_reducible first | assumption | exact Gr.refl _ | refine Gr.alloc ?_ _ | refine Gr.drewN ?_ _))⟩
            case measure => simp [intOf]
      · obtain rfl : j = 4 := by omega
        have hlen := gNvTo_length xs W H x y 4
        have hEN := EN.out
        obtain ⟨L, hL⟩ : ∃ L, L = gNvTo xs W H x y 4 := ⟨_, rfl⟩
        rw [← hL] at hEN ho hlen
        have EV2 := Lib.hid (show gFillA xs W H (x + W * y) = gMeanF L by rw [EV.out, hEN])
        have EG2 := Lib.hid (show d = c + if (!L.isEmpty) = true then 1 else 0 by rw [EG.out, ← hEN])
        have hmu := HM.out.gr hu
        clear hL hEN EV EG EN
        cases L with
        | nil =>
          obtain ⟨v0, c0, rfl, -, -⟩ := ho.sl' 0 rfl
          have HU := Lib.hid hu
          clear ho hu hmu
          go_wp2
          go_ret
          exact ⟨⟨_, rfl, by rw [EV2.out]; exact f1⟩, by rw [EG2.out]; show Gr (cw w mb c) _; rw [cw_self HM.out]; exact HU.out.trans (by (try show Gr _ _); repeat (with_reducible first | exact Gr.refl _ | refine Gr.drewN ?_ _ | refine Gr.grew ?_ _ _ | refine Gr.alloc ?_ _ | refine Gr.drew ?_))⟩
        | cons v vs =>
          obtain ⟨g, cg, rfl, hgb⟩ := ho.ptr (by simp)
          have hcap := ho.cap
          obtain ⟨n, hn⟩ : ∃ n, n = vs.length := ⟨_, rfl⟩
          have e1 : (v :: vs).length = n + 1 := by rw [hn]; rfl
          rw [e1] at ho hcap hlen ⊢
          have Ho := Lib.hid ho
          have HU := Lib.hid hu
          have HN := Lib.hid hn
          have p0 := hmu.cellv 0
          have z0 := hmu.frozen 0
          have ew : IntKind.i64.wrap ((c : Int) + 1) = (c : Int) + 1 := IntWalk.i64_in _ (by omega)
          have Hmu := Lib.hid hmu
          clear ho hu hmu hn e1
          go_upto_region 13 with fail
          generalize hwq : World.setCell _ _ _ = wq
          have FQ : Hid (FOwn wq w.heap.size 65 (.slice (some ⟨g, 0, none⟩) (n + 1) cg) (v :: vs)) := by show FOwn _ _ _ _ _; rw [← hwq]; exact Ho.out.setOther _ (by show mb < _; omega)
          have GQ : Hid (Gr (cw w mb (c + 1)) wq) := by
            show Gr _ _
            have e : wq = cw _ mb (c + 1) := hwq.symm
            rw [e]
            exact cw_gr (by rw [HM.out.cellv 0 rfl]; rfl) HU.out
          have hnv := HN.out
          obtain ⟨r0, k0, hr0⟩ := FQ.out.get 0 (by simp)
          have hr0' : FE .f32 r0 v := hr0
          have k0' : wq.cell? ⟨g, 0, none⟩ = some (.float .f32 r0) := k0
          have fI := FE.ofInt .f32 ((n : Int) + 1)
          have EQ := Lib.hid (show gMeanF (v :: vs) = fop .quo .f32 ((vs.take n).foldl (fun s u => fop .add .f32 s u) v) (floatOfInt .f32 ((n : Int) + 1)) by rw [hnv, List.take_length]; rfl)
          have wn : IntKind.i64.wrap (n : Int) = (n : Int) := IntWalk.i64_in _ (by omega)
          clear hwq k0 hr0 p0 z0 hnv
          go_wp2
          all_goals
            go_loopw [10, 60] (fun s i u => ∃ k : Nat, k ≤ n ∧ i = .int .i64 k ∧ (∃ r, s = .float .f32 r ∧ FE .f32 r ((vs.take k).foldl (fun s u => fop .add .f32 s u) v)) ∧ ∃ m, u = wq.drewN m) (fun _ i _ => n - (intOf i).toNat)
            case atStart => exact ⟨0, Nat.zero_le _, rfl, ⟨_, rfl, hr0'⟩, (by first | exact ⟨0, rfl⟩ | exact ⟨_, rfl⟩)⟩
            case round =>
              obtain ⟨k, hk, rfl, ⟨r, rfl, hr⟩, m, rfl⟩ := hrel
              by_cases hkn : k < n
              · obtain ⟨rk, kk, hrk⟩ := FQ.out.get (k + 1) (by have := HN.out; simp; omega)
                have kk' : wq.cell? ⟨g, 1 + k, none⟩ = some (.float .f32 rk) := by rw [show 1 + k = k + 1 by omega]; exact kk
                have hrk' : FE .f32 rk (vs.getD k 0) := by
                  have hkv : k < vs.length := by have := HN.out; omega
                  rw [List.getD_eq_getElem?_getD, List.getElem?_eq_getElem hkv]; exact hrk
                have ES := Lib.hid (show (vs.take (k + 1)).foldl (fun s u => fop .add .f32 s u) v = fop .add .f32 ((vs.take k).foldl (fun s u => fop .add .f32 s u) v) (vs.getD k 0) by
                  have hkv : k < vs.length := by have := HN.out; omega
                  rw [List.take_succ_eq_append_getElem hkv, List.foldl_append]
                  simp [hkv])
                generalize (vs.take k).foldl (fun s u => fop .add .f32 s u) v = S at *
                clear kk hrk
                go_wp2_with (first
      | ((with_reducible apply wpList_fop); (case hw => rfl); (case hop => rfl); (case hx => rfl); (case hy => rfl); (case hA => (first | assumption | exact FE.ofInt _ _ | exact FE.lit (by decide +kernel))); (case hB => (first | assumption | exact FE.ofInt _ _ | exact FE.lit (by decide +kernel))); intro r n hr)
      | ((with_reducible apply wpList_fcmp); (case hw => rfl); (case hop => rfl); (case hx => rfl); (case hy => rfl); (case hA => (first | assumption | exact FE.ofInt _ _ | exact FE.lit (by decide +kernel))); (case hB => (first | assumption | exact FE.ofInt _ _ | exact FE.lit (by decide +kernel))); (case hb => (first | assumption | rfl)))
      | ((with_reducible apply wpList_widen); (case hw => rfl); (case hs => exact Try.underlying65); (case hd => exact Try.underlying147); (case hx => rfl); (case hA => (first | assumption | exact FE.ofInt _ _ | exact FE.lit (by decide +kernel))); intro r n hr)
      | ((with_reducible apply wpList_fneg); (case hw => rfl); (case hx => rfl); (case hA => (first | assumption | exact FE.ofInt _ _ | exact FE.lit (by decide +kernel))); intro r hr))
                all_goals
                  go_roundw
                  case rel => exact ⟨k + 1, by omega, by go_num, ⟨_, rfl, by rw [ES.out]; assumption⟩, (by first | exact ⟨0, rfl⟩ | exact ⟨_, rfl⟩)⟩
                  case measure => simp [intOf]; omega
              · obtain rfl : k = n := by omega
                have EQ2 := EQ.out
                generalize (vs.take k).foldl (fun s u => fop .add .f32 s u) v = S at *
                have EQ3 := Lib.hid EQ2
                clear EQ2 EQ
                go_wp2_with (first
      | ((with_reducible apply wpList_fop); (case hw => rfl); (case hop => rfl); (case hx => rfl); (case hy => rfl); (case hA => (first | assumption | exact FE.ofInt _ _ | exact FE.lit (by decide +kernel))); (case hB => (first | assumption | exact FE.ofInt _ _ | exact FE.lit (by decide +kernel))); intro r n hr)
      | ((with_reducible apply wpList_fcmp); (case hw => rfl); (case hop => rfl); (case hx => rfl); (case hy => rfl); (case hA => (first | assumption | exact FE.ofInt _ _ | exact FE.lit (by decide +kernel))); (case hB => (first | assumption | exact FE.ofInt _ _ | exact FE.lit (by decide +kernel))); (case hb => (first | assumption | rfl)))
      | ((with_reducible apply wpList_widen); (case hw => rfl); (case hs => exact Try.underlying65); (case hd => exact Try.underlying147); (case hx => rfl); (case hA => (first | assumption | exact FE.ofInt _ _ | exact FE.lit (by decide +kernel))); intro r n hr)
      | ((with_reducible apply wpList_fneg); (case hw => rfl); (case hx => rfl); (case hA => (first | assumption | exact FE.ofInt _ _ | exact FE.lit (by decide +kernel))); intro r hr))
                go_ret
                exact ⟨⟨_, rfl, by rw [EV2.out, EQ3.out]; assumption⟩, by rw [EG2.out]; exact GQ.out.trans (by (try show Gr _ _); repeat (with_reducible first | exact Gr.refl _ | refine Gr.drewN ?_ _ | refine Gr.grew ?_ _ _ | refine Gr.alloc ?_ _ | refine Gr.drew ?_))⟩
theorem tellsC_filled (W H b mb ca : Nat) (a : Option Addr) (xs : List Nat) (w : World) (m1 : MP w b W H a xs.length ca xs) (hm : Blk w mb [.int .i64 ((0 : Nat) : Int)] 3) (hbm : mb ≠ b) (hxm : ∀ p, a = some p → p.block ≠ mb) (hW : W ≤ 24) (hH : H ≤ 24) (hl : xs.length = W * H) :
    TellsC w mb 138 #[.pointer (some ⟨b, 0, none⟩), .pointer (some ⟨mb, 0, none⟩)] W H (fun x y => gFillA xs W H (x + W * y)) (fun x y => gGets xs W H (x + W * y)) := by
  refine ⟨Try.call138, fun x y hx hy c w1 hc g => ?_⟩
  have hm1 : Blk w1 mb [.int .i64 (c : Int)] 3 := (hm.set (i := 0) (.int .i64 (c : Int))).gr g
  have m2 : MP (cw w mb c) b W H a xs.length ca xs := by
    have ne : ∀ (q : Addr) (v : Value), q.block ≠ mb → w.cell? q = some v → (cw w mb c).cell? q = some v := fun q v hq h => by
      unfold cw
      rw [World.cell?_setCell_other _ _ _ _ (fun e => hq (by rw [← e]))]
      exact h
    refine ⟨ne _ _ (Ne.symm hbm) m1.c0, ne _ _ (Ne.symm hbm) m1.c1, ne _ _ (Ne.symm hbm) m1.c2, m1.fs.len, fun i hi => ?_⟩
    obtain ⟨b', off, r, e, hc, hr⟩ := m1.fs.at_ i hi
    exact ⟨b', off, r, e, ne _ _ (by have := hxm _ e; exact this) hc, hr⟩
  exact I_filled_1 W H b mb ca x y c a xs w1 (m2.gr g) hm1 hc hW hH hl hx hy
end Go.Proofs.Ytaidkokgafojeaa
