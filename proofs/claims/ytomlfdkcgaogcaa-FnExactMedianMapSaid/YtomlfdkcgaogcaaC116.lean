/- Contracts: the median of a list, the reference. MAXREC -/
import Derived.Test.YtomlfdkcgaogcaaProg
import Derived.Test.YtomlfdkcgaogcaaC115
import Derived.Deep.DeepCutAuto
import Derived.BigQuiet
import Derived.Deep.QuietTactic
namespace Go.Fx
open Go Go.Soft Go.RowKit
theorem FOwn.cap {w : World} {B : Nat} {e : TypeId} {a : Option Addr} {n cap : Nat} {xs : List Nat} (h : FOwn w B e (.slice a n cap) xs) : n ≤ cap := by
  obtain ⟨rs, h1, h2⟩ := h
  rcases h2.2 with ⟨h0, h3⟩ | ⟨g, cap', cur, e', hb, hg, hnc, hcm, hcs, ht⟩
  · cases h0; exact Nat.le_refl _
  · cases e'; exact hnc
theorem fsl_take {w : World} {B : Nat} {e : TypeId} {g n cap : Nat} {xs : List Nat} (h : FOwn w B e (.slice (some ⟨g, 0, none⟩) n cap) xs) {j : Nat} (hj : j ≤ xs.length) : FSl w (some ⟨g, 0, none⟩) j (xs.take j) := by
  refine ⟨by rw [List.length_take]; omega, fun i hi => ?_⟩
  have hi' : i < xs.length := by rw [List.length_take] at hi; omega
  obtain ⟨r, hc, hr⟩ := h.get i hi'
  exact ⟨g, 0, r, rfl, by rw [Nat.zero_add]; exact hc, by rw [List.getElem_take]; exact hr⟩
theorem fsl_drop {w : World} {B : Nat} {e : TypeId} {g n cap : Nat} {xs : List Nat} (h : FOwn w B e (.slice (some ⟨g, 0, none⟩) n cap) xs) {j : Nat} (hj : j ≤ xs.length) : FSl w (some ⟨g, j, none⟩) (xs.length - j) (xs.drop j) := by
  refine ⟨by rw [List.length_drop], fun i hi => ?_⟩
  have hi' : j + i < xs.length := by rw [List.length_drop] at hi; omega
  obtain ⟨r, hc, hr⟩ := h.get (j + i) hi'
  exact ⟨g, j, r, rfl, hc, by rw [List.getElem_drop]; exact hr⟩
theorem fsl_drop' {w : World} {B : Nat} {e : TypeId} {g n cap m : Nat} {xs : List Nat} (h : FOwn w B e (.slice (some ⟨g, 0, none⟩) n cap) xs) {j : Nat} (hj : j ≤ xs.length) (hm : m = xs.length - j) : FSl w (some ⟨g, j, none⟩) m (xs.drop j) := by
  subst hm; exact fsl_drop h hj
theorem fsl_none {w : World} {a : Option Addr} {m : Nat} {ys : List Nat} (h : ys.length = 0) (hm : m = 0) : FSl w a m ys := ⟨by omega, fun i hi => by omega⟩
theorem FOwn.kept {w w' : World} {B : Nat} {e : TypeId} {v : Value} {xs : List Nat} {row : Option Nat} (h : FOwn w B e v xs) (g : w.grownBy w' row) (hne : v.ownBlock ≠ row) : FOwn w' B e v xs := by
  obtain ⟨rs, h1, h2⟩ := h
  exact ⟨rs, h1, h2.kept g (.inr hne)⟩
end Go.Fx
namespace Go.Proofs.Ytomlfdkcgaogcaa
open Go.RowKit Go.Fx Go.Soft
set_option maxRecDepth 20000 in
set_option maxHeartbeats 8000000 in
theorem S_l05Median (a : Option Addr) (c : Nat) (L : List Nat) (w : World) (hs : FSl w a L.length L) (hn : L.length ≤ 4096) :
    Calls Try.prog 68 #[.slice a L.length c] w fun e w' => (∃ r, e = .returned (.float .f32 r) ∧ FE .f32 r (gMedI L)) ∧ Gr w w' := by
  obtain ⟨i0, hi, hz0, hz1, hz2⟩ := info_parts info_float32
  have Fs := Lib.hid hs
  have f1 : FE .f32 3212836864 3212836864 := FE.lit (by decide +kernel)
  obtain ⟨V, hV⟩ : ∃ V, V = gMedI L := ⟨_, rfl⟩
  rw [← hV]
  have HV := Lib.hid hV
  clear hs hV
  go_enter Try.func68, Try.ntmps68
  go_wp2
  go_loopw [3, 10] (fun s i wr => ∃ k : Nat, k ≤ L.length ∧ i = .int .i64 k ∧ (∃ g cap, s = .slice (some ⟨g, 0, none⟩) k cap) ∧ FOwn wr w.heap.size 25 s (gInsTo L k) ∧ Gr w wr) (fun _ i _ => L.length - (intOf i).toNat)
  case atStart => exact ⟨0, Nat.zero_le _, rfl, ⟨_, _, rfl⟩, FOwn.empty (by repeat (with_reducible first | assumption | exact Blk.atNew (by simp) | refine Blk.alloc ?_ _ | refine Blk.grew ?_ _ _ | refine Blk.drewN ?_ _ | refine Blk.drew ?_)) (Nat.le_refl _), (by (try show Gr _ _); repeat (with_reducible first | exact Gr.refl _ | refine Gr.drewN ?_ _ | refine Gr.grew ?_ _ _ | refine Gr.alloc ?_ _ | refine Gr.drew ?_))⟩
  case round =>
    obtain ⟨k, hk, rfl, ⟨g, cap, rfl⟩, ho, hg⟩ := hrel
    by_cases hlt : k < L.length
    · obtain ⟨bx, ox, rfl⟩ := Fs.out.ptr (by omega)
      obtain ⟨rx, hcx, hrx⟩ := (Fs.out.keep hg.kp).get k hlt
      obtain ⟨O, hO⟩ : ∃ O, O = gInsTo L k := ⟨_, rfl⟩
      obtain ⟨z, hz⟩ : ∃ z, z = L.getD k 0 := ⟨_, rfl⟩
      have hOl : O.length = k := by rw [hO]; exact gInsTo_length L k
      have EN := Lib.hid (show gInsTo L (k + 1) = gIns z O by rw [hO, hz]; rfl)
      rw [← hO] at ho
      rw [← hz] at hrx
      have Ho := Lib.hid ho
      have Hg := Lib.hid hg
      have HOl := Lib.hid hOl
      clear ho hg hO hz hOl
      go_wp2
      go_loopw [5] (fun s wx => ∃ j : Nat, j ≤ k ∧ s = .int .i64 j ∧ Hid (gAtF z O j = gAtF z O k) ∧ ∃ n, wx = wr.drewN n) (fun s _ => (intOf s).toNat)
      case atStart => exact ⟨k, Nat.le_refl _, rfl, rfl, (by first | exact ⟨0, rfl⟩ | exact ⟨_, rfl⟩)⟩
      case round =>
        obtain ⟨j, hj, rfl, hat, n, rfl⟩ := hrel
        have stop : (j = 0 ∨ fcmp .gtr .f32 (O.getD (j - 1) 0) z = false) → gAtF z O k = j := fun h => by
          rw [← hat.out]
          cases j with
          | zero => rfl
          | succ j =>
            rcases h with h | h
            · omega
            · unfold gAtF
              have h' : fcmp .gtr .f32 (O.getD j 0) z = false := h
              rw [h']; rfl
        by_cases hj0 : 0 < j
        · obtain ⟨q, hq⟩ : ∃ q, j = q + 1 := ⟨j - 1, by omega⟩
          have hqO : q < O.length := by have := HOl.out; omega
          obtain ⟨rq, hcq, hrq⟩ := Ho.out.get q hqO
          have hrq' : FE .f32 rq (O.getD q 0) := by rw [List.getD_eq_getElem?_getD, List.getElem?_eq_getElem hqO]; exact hrq
          have wq : IntKind.i64.wrap ((j : Int) - 1) = (q : Int) := by rw [hq, IntKind.wrap_i64]; omega
          have kq : (q : Int) < (k : Int) := by omega
          have kj : decide ((j : Int) > 0) = true := decide_eq_true (by omega)
          have HQ := Lib.hid hq
          have st2 : fcmp .gtr .f32 (O.getD q 0) z = false → gAtF z O k = j := fun h => stop (Or.inr (by rw [hq]; exact h))
          have go2 : fcmp .gtr .f32 (O.getD q 0) z = true → gAtF z O q = gAtF z O k := fun h => by
            rw [← hat.out, hq]
            conv => rhs; unfold gAtF
            rw [h]; rfl
          have ST := Lib.hid st2
          have GO := Lib.hid go2
          generalize O.getD q 0 = zq at *
          clear hq st2 go2 stop hrq
          cases t1 : fcmp .gtr .f32 zq z
          · have HAT := Lib.hid (ST.out t1)
            go_wp2
            apply region_drew 13
            case hm => kernel_rfl
            case hB => kernel_rfl
            simp only [List.take_succ_cons, List.take_zero, List.drop_succ_cons, List.drop_zero]
            repeat (first
              | (simp only [kj])
              | (apply wpSoft_skip rfl; simp only [Act.put, List.setIfInBounds_toArray, List.set_cons_succ, List.set_cons_zero])
              | (apply wpSoft_nilCheck rfl rfl; simp only [Act.put, List.setIfInBounds_toArray, List.set_cons_succ, List.set_cons_zero])
              | ((with_reducible apply wpSoft_fop); (case hw => rfl); (case hD => exact closed_drew); (case hop => rfl); (case hx => rfl); (case hy => rfl); (case hA => (first | assumption | exact FE.ofInt _ _ | exact FE.lit (by decide +kernel))); (case hB => (first | assumption | exact FE.ofInt _ _ | exact FE.lit (by decide +kernel))); (intro r hr; simp only [Act.put, List.setIfInBounds_toArray, List.set_cons_succ, List.set_cons_zero]))

              | ((with_reducible apply wpSoft_widen); (case hw => rfl); (case hD => exact closed_drew); (case hs => exact Try.underlying25); (case hd => exact Try.underlying61); (case hx => rfl); (case hA => (first | assumption | exact FE.ofInt _ _ | exact FE.lit (by decide +kernel))); (intro r hr; simp only [Act.put, List.setIfInBounds_toArray, List.set_cons_succ, List.set_cons_zero]))
              | ((with_reducible apply wpSoft_fneg); (case hw => rfl); (case hx => rfl); (case hA => (first | assumption | exact FE.ofInt _ _ | exact FE.lit (by decide +kernel))); (intro r hr; simp only [Act.put, List.setIfInBounds_toArray, List.set_cons_succ, List.set_cons_zero]))
              | ((with_reducible apply wpSoft_fcmp); (case hw => rfl); (case hop => rfl); (case hx => rfl); (case hy => rfl); (case hA => (first | assumption | exact FE.ofInt _ _ | exact FE.lit (by decide +kernel))); (case hB => (first | assumption | exact FE.ofInt _ _ | exact FE.lit (by decide +kernel))); (case hb => (first | assumption | rfl)); simp only [Act.put, List.setIfInBounds_toArray, List.set_cons_succ, List.set_cons_zero])
              | (apply wpSoft_q rfl rfl; intro K hK; go_big_quiet_op; go_big_quiet_on))
            with_reducible apply wpSoft_nil
            intro m
            go_upto_region 8 with fail
            clear ST GO

            generalize hwq : World.drewN _ _ = wq
            have gq : Gr wr wq := by rw [← hwq]; exact (by (try show Gr _ _); repeat (with_reducible first | exact Gr.refl _ | refine Gr.drewN ?_ _ | refine Gr.grew ?_ _ _ | refine Gr.alloc ?_ _ | refine Gr.drew ?_))
            clear hwq
            have hcap := Ho.out.cap
            have kcap : (j : Int) ≤ (cap : Int) := by omega
            have kcap2 : (j : Int) ≤ (k : Int) := by omega
            have k0 : (0 : Int) ≤ (j : Int) := by omega
            have HQo := Lib.hid (Ho.out.gr gq)
            have F1 := Lib.hid (fsl_take HQo.out (show j ≤ O.length by have := HOl.out; omega))
            have hcx2 := gq.cell hcx
            have EI := Lib.hid (show gIns z O = O.take j ++ [z] ++ O.drop j by unfold gIns; rw [HOl.out, HAT.out])
            have hlen1 : (O.take j).length = j := by rw [List.length_take]; have := HOl.out; omega
            have HL1 := Lib.hid hlen1
            have GQ := Lib.hid (Hg.out.trans gq)
            have hkk : k ≤ 4096 := by omega
            clear gq hlen1 hcx
            go_wp2_with fail
            apply region_facts 10 [0, 4, 9] (fun q v w' => (q = 0 → ∃ b, v = .slice (some ⟨b, 0, none⟩) 0 0 ∧ Blk w' b [] 25) ∧ (q = 4 → FOwn w' wq.heap.size 25 v (O.take j)) ∧ (q = 9 → ∃ b r, v = .slice (some ⟨b, 0, none⟩) 1 1 ∧ Blk w' b [.float .f32 r] 25 ∧ FE .f32 r z))
            case hm => kernel_rfl
            case hB => kernel_rfl
            case hR => rfl
            case hP => (intro q hq v w1 w2 hg hv; exact ⟨fun h => (by obtain ⟨b, e, hb⟩ := hv.1 h; exact ⟨b, e, hb.gr hg⟩), fun h => (hv.2.1 h).gr hg, fun h => (by obtain ⟨b, r, e, hb, hr⟩ := hv.2.2 h; exact ⟨b, r, e, hb.gr hg, hr⟩)⟩)
            simp only [List.take_succ_cons, List.take_zero, List.drop_succ_cons, List.drop_zero]
            repeat (first
              | ((with_reducible apply wpF_new (c := #[]) (e := 25) (fun b => .slice (some ⟨b, 0, none⟩) 0 0)); (case hw => rfl); (case hx => (intro w; simp [execOp, go_sem]; done)); (case hF => (intro w b hb hc hk; exact ⟨fun _ => ⟨b, rfl, ⟨hc⟩⟩, fun h => absurd h (by decide), fun h => absurd h (by decide)⟩)); (intro b0 hb0; simp only [Act.put, List.setIfInBounds_toArray, List.set_cons_succ, List.set_cons_zero]))
              | ((with_reducible apply wpF_new (c := #[.float .f32 rx]) (e := 25) (fun b => .slice (some ⟨b, 0, none⟩) 1 1)); (case hw => rfl); (case hx => (intro w; simp [execOp, go_sem]; done)); (case hF => (intro w b hb hc hk; exact ⟨fun h => absurd h (by decide), fun h => absurd h (by decide), fun _ => ⟨b, _, rfl, ⟨hc⟩, hrx⟩⟩)); (intro b9 hb9; simp only [Act.put, List.setIfInBounds_toArray, List.set_cons_succ, List.set_cons_zero]))
              | ((with_reducible apply wpF_appendAny); (case hw => rfl); (case i => exact i0); (case ht => exact Try.underlying22); (case hi => exact hi); (case hz => exact hz0); (case hsize => exact hz1); (case hby => exact hz2); (case hs => rfl); (case hb0 => exact hb0); (case hx => rfl); (case hy => exact F1.out); (case hn => (rw [HL1.out]; omega)); (case hS => (intro os mm hse; obtain ⟨bb, e, hb⟩ := (hse ⟨0, .data⟩ (by simp) rfl (by decide) _ _ rfl rfl).1 rfl; cases e; exact hb)); (case hF => (intro w v ho _; exact ⟨fun h => absurd h (by decide), fun _ => ho, fun h => absurd h (by decide)⟩)); (intro a4 c4; simp only [Act.put, List.setIfInBounds_toArray, List.set_cons_succ, List.set_cons_zero]))
              | (apply wpF_skip rfl (by decide); simp only [Act.put, List.setIfInBounds_toArray, List.set_cons_succ, List.set_cons_zero])
              | (apply wpF_nilCheck rfl (by decide) rfl; simp only [Act.put, List.setIfInBounds_toArray, List.set_cons_succ, List.set_cons_zero])
              | ((with_reducible apply wpF_fop); (case hw => rfl); (case hT => decide); (case hop => rfl); (case hx => rfl); (case hy => rfl); (case hA => (first | assumption | exact FE.ofInt _ _ | exact FE.lit (by decide +kernel))); (case hB => (first | assumption | exact FE.ofInt _ _ | exact FE.lit (by decide +kernel))); (intro r hr; simp only [Act.put, List.setIfInBounds_toArray, List.set_cons_succ, List.set_cons_zero]))
              | ((with_reducible apply wpF_fneg); (case hw => rfl); (case hT => decide); (case hx => rfl); (case hA => (first | assumption | exact FE.ofInt _ _ | exact FE.lit (by decide +kernel))); (intro r hr; simp only [Act.put, List.setIfInBounds_toArray, List.set_cons_succ, List.set_cons_zero]))
              | ((with_reducible apply wpF_fcmp); (case hw => rfl); (case hT => decide); (case hop => rfl); (case hx => rfl); (case hy => rfl); (case hA => (first | assumption | exact FE.ofInt _ _ | exact FE.lit (by decide +kernel))); (case hB => (first | assumption | exact FE.ofInt _ _ | exact FE.lit (by decide +kernel))); (case hb => (first | assumption | rfl)); simp only [Act.put, List.setIfInBounds_toArray, List.set_cons_succ, List.set_cons_zero])
              | (apply wpF_q rfl (by decide) rfl; intro K hK; go_big_quiet_op; go_big_quiet_on))
            with_reducible apply wpF_nil
            intro os m hf
            have h4 := hf.2.1.2.1 rfl
            obtain ⟨b9', r9, e9, hB9, hr9⟩ := hf.2.2.1.2.2 rfl
            obtain rfl : b9' = _ := by simpa using e9.symm
            have c9 := hB9.cellv 0
            have G3 : Gr wq (wq.grew os m) := ⟨os, m, rfl⟩
            have HQ3 := Lib.hid (HQo.out.gr G3)
            have GG3 := Lib.hid (GQ.out.trans G3)
            have H4 := Lib.hid (h4.base (B' := w.heap.size) (Gr.size GQ.out))
            have hgq : g < wq.heap.size := (FOwn.block HQo.out rfl).2
            have hne : ∀ q, Value.ownBlock (.slice a4 (O.take j).length c4) = some q → q ≠ g := fun q hq e => by
              have h1 := (FOwn.block h4 hq).1
              omega
            have HNE := Lib.hid hne
            have hk5 : (O.take j ++ [z]).length = j + 1 := by rw [List.length_append, HL1.out]; rfl
            have hk6 : (O.take j ++ [z] ++ O.drop j).length = k + 1 := by rw [List.length_append, hk5, List.length_drop]; have := HOl.out; omega
            have HK5 := Lib.hid hk5
            have HK6 := Lib.hid hk6
            have HDO := Lib.hid (show (O.drop j).length = k - j by rw [List.length_drop, HOl.out])
            have hl0 : (O.take j).length ≤ 4096 := by rw [HL1.out]; omega
            have eT := HL1.out
            rw [eT] at hl0
            clear hf e9 h4 hB9 hne hk5 hk6 hgq
            rw [eT] at H4 HNE ⊢
            clear eT
            have h34 := Gr.size GG3.out
            generalize wq.grew os m = w3 at *
            go_upto_region 9 with (first
              | (refine wpList_append_f rfl rfl i0 Try.underlying22 hi hz0 hz1 hz2 rfl H4.out rfl c9 hr9 (by rw [HL1.out]; omega) h34 ?_
                 intro v5 w5 ho5 hg5
                 have G5 := Lib.hid (Gr.grownBy GG3.out hg5 (fun q hq => (FOwn.block H4.out hq).1))
                 have hq5 := HQ3.out.kept hg5 (by intro e; exact HNE.out g e.symm rfl)
                 obtain ⟨g5, cg5, e5, -⟩ := ho5.ptr (by rw [HK5.out]; omega)
                 rw [HK5.out] at e5
                 subst e5
                 have HQ5 := Lib.hid hq5
                 have HO5 := Lib.hid ho5
                 have h35 := Gr.size G5.out
                 clear hg5 ho5 hq5 c9))
            by_cases hcj : cap = j
            · have HKJ := Lib.hid (show k - j = 0 by omega)
              go_wp2_with (first
                | (refine wpList_append_any0 rfl rfl i0 Try.underlying22 hi hz0 hz1 hz2 rfl HO5.out (ys := O.drop j) rfl (fsl_none (by have := HDO.out; have := HKJ.out; omega) (by have := HKJ.out; omega)) (by rw [HK5.out, HDO.out]; omega) h35 ?_
                   intro v6 w6 ho6 hg6
                   have G6 := Lib.hid (Gr.grownBy G5.out hg6 (fun q hq => (FOwn.block HO5.out hq).1))
                   obtain ⟨g6, cg6, e6, -⟩ := ho6.ptr (by rw [HK6.out]; omega)
                   rw [HK6.out] at e6
                   subst e6
                   have HO6 := Lib.hid ho6
                   clear hg6 ho6))
              all_goals
                go_roundw
                case rel => exact ⟨k + 1, by omega, by go_num, ⟨g6, cg6, rfl⟩, by rw [EN.out, EI.out]; exact HO6.out, G6.out⟩
                case measure => simp [intOf]; omega
            · go_wp2_with (first
                | (refine wpList_append_any0 rfl rfl i0 Try.underlying22 hi hz0 hz1 hz2 rfl HO5.out (ys := O.drop j) rfl (fsl_drop' HQ5.out (by have := HOl.out; omega) (by have := HOl.out; omega)) (by rw [HK5.out, HDO.out]; omega) h35 ?_
                   intro v6 w6 ho6 hg6
                   have G6 := Lib.hid (Gr.grownBy G5.out hg6 (fun q hq => (FOwn.block HO5.out hq).1))
                   obtain ⟨g6, cg6, e6, -⟩ := ho6.ptr (by rw [HK6.out]; omega)
                   rw [HK6.out] at e6
                   subst e6
                   have HO6 := Lib.hid ho6
                   clear hg6 ho6))
              all_goals
                go_roundw
                case rel => exact ⟨k + 1, by omega, by go_num, ⟨g6, cg6, rfl⟩, by rw [EN.out, EI.out]; exact HO6.out, G6.out⟩
                case measure => simp [intOf]; omega
          · have HGO := Lib.hid (GO.out t1)
            go_wp2
            apply region_drew 13
            case hm => kernel_rfl
            case hB => kernel_rfl
            simp only [List.take_succ_cons, List.take_zero, List.drop_succ_cons, List.drop_zero]
            repeat (first
              | (simp only [kj])
              | (apply wpSoft_skip rfl; simp only [Act.put, List.setIfInBounds_toArray, List.set_cons_succ, List.set_cons_zero])
              | (apply wpSoft_nilCheck rfl rfl; simp only [Act.put, List.setIfInBounds_toArray, List.set_cons_succ, List.set_cons_zero])
              | ((with_reducible apply wpSoft_fop); (case hw => rfl); (case hD => exact closed_drew); (case hop => rfl); (case hx => rfl); (case hy => rfl); (case hA => (first | assumption | exact FE.ofInt _ _ | exact FE.lit (by decide +kernel))); (case hB => (first | assumption | exact FE.ofInt _ _ | exact FE.lit (by decide +kernel))); (intro r hr; simp only [Act.put, List.setIfInBounds_toArray, List.set_cons_succ, List.set_cons_zero]))

              | ((with_reducible apply wpSoft_widen); (case hw => rfl); (case hD => exact closed_drew); (case hs => exact Try.underlying25); (case hd => exact Try.underlying61); (case hx => rfl); (case hA => (first | assumption | exact FE.ofInt _ _ | exact FE.lit (by decide +kernel))); (intro r hr; simp only [Act.put, List.setIfInBounds_toArray, List.set_cons_succ, List.set_cons_zero]))
              | ((with_reducible apply wpSoft_fneg); (case hw => rfl); (case hx => rfl); (case hA => (first | assumption | exact FE.ofInt _ _ | exact FE.lit (by decide +kernel))); (intro r hr; simp only [Act.put, List.setIfInBounds_toArray, List.set_cons_succ, List.set_cons_zero]))
              | ((with_reducible apply wpSoft_fcmp); (case hw => rfl); (case hop => rfl); (case hx => rfl); (case hy => rfl); (case hA => (first | assumption | exact FE.ofInt _ _ | exact FE.lit (by decide +kernel))); (case hB => (first | assumption | exact FE.ofInt _ _ | exact FE.lit (by decide +kernel))); (case hb => (first | assumption | rfl)); simp only [Act.put, List.setIfInBounds_toArray, List.set_cons_succ, List.set_cons_zero])
              | (apply wpSoft_q rfl rfl; intro K hK; go_big_quiet_op; go_big_quiet_on))
            with_reducible apply wpSoft_nil
            intro m
            go_wp2
            go_roundw
            case rel => exact ⟨q, by have := HQ.out; omega, rfl, HGO.out, (by with_reducible first | exact ⟨_, rfl⟩ | exact ⟨_, World.drewN_drewN _ _ _⟩ | exact drew_self _)⟩
            case measure => have := HQ.out; simp [intOf]; omega
        · have kj : decide ((j : Int) > 0) = false := decide_eq_false (by omega)
          have HAT := Lib.hid (stop (Or.inl (by omega)))
          go_wp2
          apply region_drew 13
          case hm => kernel_rfl
          case hB => kernel_rfl
          simp only [List.take_succ_cons, List.take_zero, List.drop_succ_cons, List.drop_zero]
          repeat (first
            | (simp only [kj])
            | (apply wpSoft_skip rfl; simp only [Act.put, List.setIfInBounds_toArray, List.set_cons_succ, List.set_cons_zero])
            | (apply wpSoft_nilCheck rfl rfl; simp only [Act.put, List.setIfInBounds_toArray, List.set_cons_succ, List.set_cons_zero])
            | ((with_reducible apply wpSoft_fop); (case hw => rfl); (case hD => exact closed_drew); (case hop => rfl); (case hx => rfl); (case hy => rfl); (case hA => (first | assumption | exact FE.ofInt _ _ | exact FE.lit (by decide +kernel))); (case hB => (first | assumption | exact FE.ofInt _ _ | exact FE.lit (by decide +kernel))); (intro r hr; simp only [Act.put, List.setIfInBounds_toArray, List.set_cons_succ, List.set_cons_zero]))

            | ((with_reducible apply wpSoft_widen); (case hw => rfl); (case hD => exact closed_drew); (case hs => exact Try.underlying25); (case hd => exact Try.underlying61); (case hx => rfl); (case hA => (first | assumption | exact FE.ofInt _ _ | exact FE.lit (by decide +kernel))); (intro r hr; simp only [Act.put, List.setIfInBounds_toArray, List.set_cons_succ, List.set_cons_zero]))
            | ((with_reducible apply wpSoft_fneg); (case hw => rfl); (case hx => rfl); (case hA => (first | assumption | exact FE.ofInt _ _ | exact FE.lit (by decide +kernel))); (intro r hr; simp only [Act.put, List.setIfInBounds_toArray, List.set_cons_succ, List.set_cons_zero]))
            | ((with_reducible apply wpSoft_fcmp); (case hw => rfl); (case hop => rfl); (case hx => rfl); (case hy => rfl); (case hA => (first | assumption | exact FE.ofInt _ _ | exact FE.lit (by decide +kernel))); (case hB => (first | assumption | exact FE.ofInt _ _ | exact FE.lit (by decide +kernel))); (case hb => (first | assumption | rfl)); simp only [Act.put, List.setIfInBounds_toArray, List.set_cons_succ, List.set_cons_zero])
            | (apply wpSoft_q rfl rfl; intro K hK; go_big_quiet_op; go_big_quiet_on))
          with_reducible apply wpSoft_nil
          intro m
          go_upto_region 8 with fail
          clear stop

          generalize hwq : World.drewN _ _ = wq
          have gq : Gr wr wq := by rw [← hwq]; exact (by (try show Gr _ _); repeat (with_reducible first | exact Gr.refl _ | refine Gr.drewN ?_ _ | refine Gr.grew ?_ _ _ | refine Gr.alloc ?_ _ | refine Gr.drew ?_))
          clear hwq
          have hcap := Ho.out.cap
          have kcap : (j : Int) ≤ (cap : Int) := by omega
          have kcap2 : (j : Int) ≤ (k : Int) := by omega
          have k0 : (0 : Int) ≤ (j : Int) := by omega
          have HQo := Lib.hid (Ho.out.gr gq)
          have F1 := Lib.hid (fsl_take HQo.out (show j ≤ O.length by have := HOl.out; omega))
          have hcx2 := gq.cell hcx
          have EI := Lib.hid (show gIns z O = O.take j ++ [z] ++ O.drop j by unfold gIns; rw [HOl.out, HAT.out])
          have hlen1 : (O.take j).length = j := by rw [List.length_take]; have := HOl.out; omega
          have HL1 := Lib.hid hlen1
          have GQ := Lib.hid (Hg.out.trans gq)
          have hkk : k ≤ 4096 := by omega
          clear gq hlen1 hcx
          go_wp2_with fail
          apply region_facts 10 [0, 4, 9] (fun q v w' => (q = 0 → ∃ b, v = .slice (some ⟨b, 0, none⟩) 0 0 ∧ Blk w' b [] 25) ∧ (q = 4 → FOwn w' wq.heap.size 25 v (O.take j)) ∧ (q = 9 → ∃ b r, v = .slice (some ⟨b, 0, none⟩) 1 1 ∧ Blk w' b [.float .f32 r] 25 ∧ FE .f32 r z))
          case hm => kernel_rfl
          case hB => kernel_rfl
          case hR => rfl
          case hP => (intro q hq v w1 w2 hg hv; exact ⟨fun h => (by obtain ⟨b, e, hb⟩ := hv.1 h; exact ⟨b, e, hb.gr hg⟩), fun h => (hv.2.1 h).gr hg, fun h => (by obtain ⟨b, r, e, hb, hr⟩ := hv.2.2 h; exact ⟨b, r, e, hb.gr hg, hr⟩)⟩)
          simp only [List.take_succ_cons, List.take_zero, List.drop_succ_cons, List.drop_zero]
          repeat (first
            | ((with_reducible apply wpF_new (c := #[]) (e := 25) (fun b => .slice (some ⟨b, 0, none⟩) 0 0)); (case hw => rfl); (case hx => (intro w; simp [execOp, go_sem]; done)); (case hF => (intro w b hb hc hk; exact ⟨fun _ => ⟨b, rfl, ⟨hc⟩⟩, fun h => absurd h (by decide), fun h => absurd h (by decide)⟩)); (intro b0 hb0; simp only [Act.put, List.setIfInBounds_toArray, List.set_cons_succ, List.set_cons_zero]))
            | ((with_reducible apply wpF_new (c := #[.float .f32 rx]) (e := 25) (fun b => .slice (some ⟨b, 0, none⟩) 1 1)); (case hw => rfl); (case hx => (intro w; simp [execOp, go_sem]; done)); (case hF => (intro w b hb hc hk; exact ⟨fun h => absurd h (by decide), fun h => absurd h (by decide), fun _ => ⟨b, _, rfl, ⟨hc⟩, hrx⟩⟩)); (intro b9 hb9; simp only [Act.put, List.setIfInBounds_toArray, List.set_cons_succ, List.set_cons_zero]))
            | ((with_reducible apply wpF_appendAny); (case hw => rfl); (case i => exact i0); (case ht => exact Try.underlying22); (case hi => exact hi); (case hz => exact hz0); (case hsize => exact hz1); (case hby => exact hz2); (case hs => rfl); (case hb0 => exact hb0); (case hx => rfl); (case hy => exact F1.out); (case hn => (rw [HL1.out]; omega)); (case hS => (intro os mm hse; obtain ⟨bb, e, hb⟩ := (hse ⟨0, .data⟩ (by simp) rfl (by decide) _ _ rfl rfl).1 rfl; cases e; exact hb)); (case hF => (intro w v ho _; exact ⟨fun h => absurd h (by decide), fun _ => ho, fun h => absurd h (by decide)⟩)); (intro a4 c4; simp only [Act.put, List.setIfInBounds_toArray, List.set_cons_succ, List.set_cons_zero]))
            | (apply wpF_skip rfl (by decide); simp only [Act.put, List.setIfInBounds_toArray, List.set_cons_succ, List.set_cons_zero])
            | (apply wpF_nilCheck rfl (by decide) rfl; simp only [Act.put, List.setIfInBounds_toArray, List.set_cons_succ, List.set_cons_zero])
            | ((with_reducible apply wpF_fop); (case hw => rfl); (case hT => decide); (case hop => rfl); (case hx => rfl); (case hy => rfl); (case hA => (first | assumption | exact FE.ofInt _ _ | exact FE.lit (by decide +kernel))); (case hB => (first | assumption | exact FE.ofInt _ _ | exact FE.lit (by decide +kernel))); (intro r hr; simp only [Act.put, List.setIfInBounds_toArray, List.set_cons_succ, List.set_cons_zero]))
            | ((with_reducible apply wpF_fneg); (case hw => rfl); (case hT => decide); (case hx => rfl); (case hA => (first | assumption | exact FE.ofInt _ _ | exact FE.lit (by decide +kernel))); (intro r hr; simp only [Act.put, List.setIfInBounds_toArray, List.set_cons_succ, List.set_cons_zero]))
            | ((with_reducible apply wpF_fcmp); (case hw => rfl); (case hT => decide); (case hop => rfl); (case hx => rfl); (case hy => rfl); (case hA => (first | assumption | exact FE.ofInt _ _ | exact FE.lit (by decide +kernel))); (case hB => (first | assumption | exact FE.ofInt _ _ | exact FE.lit (by decide +kernel))); (case hb => (first | assumption | rfl)); simp only [Act.put, List.setIfInBounds_toArray, List.set_cons_succ, List.set_cons_zero])
            | (apply wpF_q rfl (by decide) rfl; intro K hK; go_big_quiet_op; go_big_quiet_on))
          with_reducible apply wpF_nil
          intro os m hf
          have h4 := hf.2.1.2.1 rfl
          obtain ⟨b9', r9, e9, hB9, hr9⟩ := hf.2.2.1.2.2 rfl
          obtain rfl : b9' = _ := by simpa using e9.symm
          have c9 := hB9.cellv 0
          have G3 : Gr wq (wq.grew os m) := ⟨os, m, rfl⟩
          have HQ3 := Lib.hid (HQo.out.gr G3)
          have GG3 := Lib.hid (GQ.out.trans G3)
          have H4 := Lib.hid (h4.base (B' := w.heap.size) (Gr.size GQ.out))
          have hgq : g < wq.heap.size := (FOwn.block HQo.out rfl).2
          have hne : ∀ q, Value.ownBlock (.slice a4 (O.take j).length c4) = some q → q ≠ g := fun q hq e => by
            have h1 := (FOwn.block h4 hq).1
            omega
          have HNE := Lib.hid hne
          have hk5 : (O.take j ++ [z]).length = j + 1 := by rw [List.length_append, HL1.out]; rfl
          have hk6 : (O.take j ++ [z] ++ O.drop j).length = k + 1 := by rw [List.length_append, hk5, List.length_drop]; have := HOl.out; omega
          have HK5 := Lib.hid hk5
          have HK6 := Lib.hid hk6
          have HDO := Lib.hid (show (O.drop j).length = k - j by rw [List.length_drop, HOl.out])
          have hl0 : (O.take j).length ≤ 4096 := by rw [HL1.out]; omega
          have eT := HL1.out
          rw [eT] at hl0
          clear hf e9 h4 hB9 hne hk5 hk6 hgq
          rw [eT] at H4 HNE ⊢
          clear eT
          have h34 := Gr.size GG3.out
          generalize wq.grew os m = w3 at *
          go_upto_region 9 with (first
            | (refine wpList_append_f rfl rfl i0 Try.underlying22 hi hz0 hz1 hz2 rfl H4.out rfl c9 hr9 (by rw [HL1.out]; omega) h34 ?_
               intro v5 w5 ho5 hg5
               have G5 := Lib.hid (Gr.grownBy GG3.out hg5 (fun q hq => (FOwn.block H4.out hq).1))
               have hq5 := HQ3.out.kept hg5 (by intro e; exact HNE.out g e.symm rfl)
               obtain ⟨g5, cg5, e5, -⟩ := ho5.ptr (by rw [HK5.out]; omega)
               rw [HK5.out] at e5
               subst e5
               have HQ5 := Lib.hid hq5
               have HO5 := Lib.hid ho5
               have h35 := Gr.size G5.out
               clear hg5 ho5 hq5 c9))
          by_cases hcj : cap = j
          · have HKJ := Lib.hid (show k - j = 0 by omega)
            go_wp2_with (first
              | (refine wpList_append_any0 rfl rfl i0 Try.underlying22 hi hz0 hz1 hz2 rfl HO5.out (ys := O.drop j) rfl (fsl_none (by have := HDO.out; have := HKJ.out; omega) (by have := HKJ.out; omega)) (by rw [HK5.out, HDO.out]; omega) h35 ?_
                 intro v6 w6 ho6 hg6
                 have G6 := Lib.hid (Gr.grownBy G5.out hg6 (fun q hq => (FOwn.block HO5.out hq).1))
                 obtain ⟨g6, cg6, e6, -⟩ := ho6.ptr (by rw [HK6.out]; omega)
                 rw [HK6.out] at e6
                 subst e6
                 have HO6 := Lib.hid ho6
                 clear hg6 ho6))
            all_goals
              go_roundw
              case rel => exact ⟨k + 1, by omega, by go_num, ⟨g6, cg6, rfl⟩, by rw [EN.out, EI.out]; exact HO6.out, G6.out⟩
              case measure => simp [intOf]; omega
          · go_wp2_with (first
              | (refine wpList_append_any0 rfl rfl i0 Try.underlying22 hi hz0 hz1 hz2 rfl HO5.out (ys := O.drop j) rfl (fsl_drop' HQ5.out (by have := HOl.out; omega) (by have := HOl.out; omega)) (by rw [HK5.out, HDO.out]; omega) h35 ?_
                 intro v6 w6 ho6 hg6
                 have G6 := Lib.hid (Gr.grownBy G5.out hg6 (fun q hq => (FOwn.block HO5.out hq).1))
                 obtain ⟨g6, cg6, e6, -⟩ := ho6.ptr (by rw [HK6.out]; omega)
                 rw [HK6.out] at e6
                 subst e6
                 have HO6 := Lib.hid ho6
                 clear hg6 ho6))
            all_goals
              go_roundw
              case rel => exact ⟨k + 1, by omega, by go_num, ⟨g6, cg6, rfl⟩, by rw [EN.out, EI.out]; exact HO6.out, G6.out⟩
              case measure => simp [intOf]; omega
    · obtain rfl : k = L.length := by omega
      obtain ⟨n, hnn⟩ : ∃ n, n = L.length := ⟨_, rfl⟩
      rw [← hnn] at ho hlt hn ⊢
      have HN := Lib.hid hnn
      have hgl := gInsTo_length L n
      have HGL := Lib.hid hgl
      have Ho := Lib.hid ho
      have Hg := Lib.hid hg
      clear ho hg hgl hnn hk Fs
      by_cases h0 : n = 0
      · subst h0
        have EV := Lib.hid (show V = 3212836864 by rw [HV.out]; unfold gMedI; rw [← HN.out]; rfl)
        go_wp2
        go_ret
        exact ⟨⟨_, rfl, by rw [EV.out]; exact f1⟩, Hg.out⟩
      · obtain ⟨h, hh⟩ : ∃ h, h = n / 2 := ⟨_, rfl⟩
        have hhn : h < n := by omega
        obtain ⟨r, hc, hr⟩ := Ho.out.get h (by rw [HGL.out]; exact hhn)
        have EV := Lib.hid (show V = (gInsTo L n)[h]'(by rw [HGL.out]; exact hhn) by
          rw [HV.out]
          unfold gMedI
          rw [← HN.out, if_neg h0, ← hh]
          simp [HGL.out, hhn])
        have hn0 : ¬ (n : Int) = 0 := by omega
        have eh1 : (n : Int) / 2 = (h : Int) := by omega
        have eh2 : (n : Int).tdiv 2 = (h : Int) := by rw [Int.tdiv_eq_ediv_of_nonneg (by omega)]; exact eh1
        have wh : IntKind.i64.wrap (h : Int) = (h : Int) := IntWalk.i64_in _ (by omega)
        have kh : (h : Int) < (n : Int) := by omega
        clear hh
        go_wp2
        go_ret
        exact ⟨⟨_, rfl, by rw [EV.out]; exact hr⟩, Hg.out⟩
end Go.Proofs.Ytomlfdkcgaogcaa
