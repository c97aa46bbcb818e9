/- Contracts: the cells at a border. MAXREC -/
import Derived.Test.YtldeeijfipiafaaProg
import Derived.Test.YtldeeijfipiafaaC31
import Derived.Deep.DeepCutAuto
namespace Go.Proofs.Ytldeeijfipiafaa
open Go.RowKit Go.Fx Go.Soft
/-- Whether cell j is no hole and does not hang together with cell k. -/
def gEdge (xs : List Nat) (near k : Nat) (j : Int) : Bool := !gHole (xs.getD k 0) && (!gHole (xs.getD j.toNat 0) && !gHang (xs.getD k 0) (xs.getD j.toNat 0) near)
/-- Whether a cell beside cell k is such a cell. -/
def gBord (xs : List Nat) (W H near k : Nat) : Bool := (gNearL W H (k % W) (k / W) k).any (gEdge xs near k)
/-- The numbers below k that p picks. -/
def gPick (p : Nat → Bool) : Nat → List Int
  | 0 => []
  | k + 1 => if p k then gPick p k ++ [(k : Int)] else gPick p k
theorem gPick_length (p : Nat → Bool) (k : Nat) : (gPick p k).length ≤ k := by
  induction k with
  | zero => exact Nat.le_refl _
  | succ k ih =>
    show (if p k then gPick p k ++ [(k : Int)] else gPick p k).length ≤ k + 1
    split
    · rw [List.length_append]; exact Nat.add_le_add_right ih 1
    · omega
theorem mem_addIf {c : Prop} [Decidable c] {l : List Int} {v j : Int} (h : j ∈ addIf c l v) : j ∈ l ∨ (c ∧ j = v) := by
  unfold addIf at h; split at h
  · rename_i hc; rcases List.mem_append.1 h with h | h
    · exact .inl h
    · exact .inr ⟨hc, by simpa using h⟩
  · exact .inl h
theorem near_in {W H x y : Nat} {i j : Int} (hi : i = ((x + W * y : Nat) : Int)) (hx : x < W) (hy : y < H) (h : j ∈ gNearL W H x y i) : ∃ m : Nat, j = m ∧ m < W * H := by
  have h0 := cell_lt hx hy
  have hW : W ≤ W * H := Nat.le_mul_of_pos_right W (by omega)
  subst hi
  rcases mem_addIf h with h | ⟨hc, rfl⟩
  · rcases mem_addIf h with h | ⟨hc, rfl⟩
    · rcases mem_addIf h with h | ⟨hc, rfl⟩
      · rcases mem_addIf h with h | ⟨hc, rfl⟩
        · simp at h
        · obtain ⟨y, rfl⟩ : ∃ z, y = z + 1 := ⟨y - 1, by omega⟩
          rw [Nat.mul_succ] at *
          exact ⟨x + W * y, by omega, by omega⟩
      · have h1 := cell_lt hx hc
        rw [Nat.mul_succ] at h1
        exact ⟨x + W * y + W, by omega, by omega⟩
    · exact ⟨x + W * y - 1, by omega, by omega⟩
  · have h1 := cell_lt hc hy
    exact ⟨x + W * y + 1, by omega, by omega⟩
theorem any_take_succ {l : List Int} {f : Int → Bool} {j : Nat} (h : j < l.length) : (l.take (j + 1)).any f = ((l.take j).any f || f l[j]) := by
  rw [List.take_succ_eq_append_getElem h, List.any_append]; simp only [List.any_cons, List.any_nil, Bool.or_false]
set_option maxRecDepth 20000 in
set_option maxHeartbeats 4000000 in
theorem S_BordersOf (W H : Int) (a : Option Addr) (ca near N : Nat) (xs : List Nat) (w : World) (fx : FSl w a xs.length xs) (hn : xs.length ≤ 1048576) (hN : FE .f32 near N) :
    Calls Try.prog 43 #[.agg #[.int .i64 W, .int .i64 H, .slice a xs.length ca], .float .f32 near] w
      (PostI w (gPic W H xs.length) (if gPic W H xs.length then gPick (gBord xs W.toNat H.toNat N) xs.length else [])) := by
  have hn' : xs.length ≤ maxLen := by unfold maxLen; omega
  obtain ⟨i0, hi, hz0, hz1, hz2⟩ := info_parts info_int64
  have Fx := Lib.hid fx
  clear fx
  cases hT : gPic W H xs.length
  · go_enter Try.func43, Try.ntmps43
    go_wp2_with (first
      | (go_at_call 68; with_reducible refine (S_l03IsMap W H a _ ca _ _ _ hn' (by first | (simp (maxDischargeDepth := 12) [go_sem]; done) | (simp (maxDischargeDepth := 12) [go_sem, *]; done)) (by first | (simp (maxDischargeDepth := 12) [go_sem]; done) | (simp (maxDischargeDepth := 12) [go_sem, *]; done)) (by first | (simp (maxDischargeDepth := 12) [go_sem]; done) | (simp (maxDischargeDepth := 12) [go_sem, *]; done))).mono ?_; rintro e w' ⟨rfl, n, rfl⟩; rw [hT]))
    exact bodyPost_ret (v := .tuple #[.slice none 0 0, .bool false]) (by simp [results, Try.results43, go_sem]) rfl ⟨⟨_, rfl, IOwn.nil _ _ _⟩, (by (try show Gr _ _); repeat (with_reducible first | exact Gr.refl _ | refine Gr.drewN ?_ _ | refine Gr.grew ?_ _ _ | refine Gr.alloc ?_ _ | refine Gr.drew ?_))⟩
  · have hp1 := (gPic_true hT).2
    obtain ⟨s1, s2, s3, s4, s5, s6⟩ := gSize_true (gPic_true hT).1
    obtain ⟨W, rfl⟩ := Int.eq_ofNat_of_zero_le (show 0 ≤ W by omega)
    obtain ⟨H, rfl⟩ := Int.eq_ofNat_of_zero_le (show 0 ≤ H by omega)
    have hl : xs.length = W * H := by exact_mod_cast hp1
    have hpos : 0 < xs.length := by omega
    have Hl := Lib.hid hl
    obtain ⟨bx, ox, rfl⟩ := Fx.out.ptr hpos
    have EP := Lib.hid (show (if true = true then gPick (gBord xs ((W : Int)).toNat ((H : Int)).toNat N) xs.length else []) = gPick (gBord xs W H N) xs.length by simp)
    clear hp1 hl s5 s6
    go_enter Try.func43, Try.ntmps43
    go_wp2_with (first
      | (go_at_call 68; with_reducible refine (S_l03IsMap W H (some ⟨bx, ox, none⟩) _ ca _ _ _ hn' (by first | (simp (maxDischargeDepth := 12) [go_sem]; done) | (simp (maxDischargeDepth := 12) [go_sem, *]; done)) (by first | (simp (maxDischargeDepth := 12) [go_sem]; done) | (simp (maxDischargeDepth := 12) [go_sem, *]; done)) (by first | (simp (maxDischargeDepth := 12) [go_sem]; done) | (simp (maxDischargeDepth := 12) [go_sem, *]; done))).mono ?_; rintro e w' ⟨rfl, n, rfl⟩; rw [hT]))
    go_loopw [6, 19] (fun s i wr => ∃ k : Nat, k ≤ xs.length ∧ i = .int .i64 k ∧ IOwn wr w.heap.size 2 s (gPick (gBord xs W H N) k) ∧ Blk wr w.heap.size [.int .i64 W, .int .i64 H, .slice (some ⟨bx, ox, none⟩) xs.length ca] 29 ∧ Gr w wr) (fun _ i _ => xs.length - (intOf i).toNat)
    case atStart => exact ⟨0, Nat.zero_le _, rfl, IOwn.empty (Blk.atNew (by simp)) (by simp), (by repeat (with_reducible first | assumption | exact Blk.atNew (by simp) | refine Blk.alloc ?_ _ | refine Blk.grew ?_ _ _ | refine Blk.drewN ?_ _ | refine Blk.drew ?_)), (by (try show Gr _ _); repeat (with_reducible first | exact Gr.refl _ | refine Gr.drewN ?_ _ | refine Gr.grew ?_ _ _ | refine Gr.alloc ?_ _ | refine Gr.drew ?_))⟩
    case round =>
      obtain ⟨k, hk, rfl, ho, b2, hg⟩ := hrel
      by_cases hlt : k < xs.length
      · have m0 := b2.cellv 0
        have m1 := b2.cellv 1
        have m2 := b2.cellv 2
        have MM := Lib.hid (MP.mk m0 m1 m2 (Fx.out.keep hg.kp))
        obtain ⟨rx, hcx, hrx⟩ := (Fx.out.keep hg.kp).get k hlt
        have hxW : k % W < W := Nat.mod_lt _ (by omega)
        have hyH : k / W < H := Nat.div_lt_of_lt_mul (by have := Hl.out; omega)
        have hkk : k = k % W + W * (k / W) := (Nat.mod_add_div k W).symm
        have HC := Lib.hid (fun u m => S_l05Near W H (k % W) (k / W) k w.heap.size ca (some ⟨bx, ox, none⟩) xs u m (by omega) (by omega) hxW hyH hkk)
        have HI := Lib.hid (fun j hj => near_in (W := W) (H := H) (x := k % W) (y := k / W) (i := (k : Int)) (j := j) (by rw [← hkk]) hxW hyH hj)
        have EB := Lib.hid (show gBord xs W H N k = (gNearL W H (k % W) (k / W) k).any (gEdge xs N k) from rfl)
        have EK := Lib.hid (show gPick (gBord xs W H N) (k + 1) = if gBord xs W H N k then gPick (gBord xs W H N) k ++ [(k : Int)] else gPick (gBord xs W H N) k from rfl)
        have HL := gPick_length (gBord xs W H N) k
        have B2 := Lib.hid b2
        have Ho := Lib.hid ho
        have Hg := Lib.hid hg
        clear b2 ho hg hkk hxW hyH
        generalize gNearL W H (k % W) (k / W) k = L at *
        go_upto_region 9 with (go_at_call 108; with_reducible refine (HC.out _ MM.out).mono ?_; rintro e w1 ⟨⟨v1, rfl, ho1⟩, hg1⟩)
        obtain ⟨a1, c1, rfl, hs1, hm1⟩ := ho1.sl
        have Hs1 := Lib.hid hs1
        have d2 := (B2.out.gr hg1).cellv 2
        have FX1 := Lib.hid (Fx.out.keep (Hg.out.trans hg1).kp)
        have hcx1 := hg1.cell hcx
        have Hg1 := Lib.hid hg1
        clear ho1 hs1 hg1 m0 m1 m2 hcx
        unfold maxLen at hm1
        go_wp2
        go_loopw [8, 26] (fun s i wr => ∃ j : Nat, j ≤ L.length ∧ i = .int .i64 j ∧ s = .bool ((L.take j).any (gEdge xs N k)) ∧ ∃ n, wr = w1.drewN n) (fun _ i _ => L.length - (intOf i).toNat)
        case atStart => exact ⟨0, Nat.zero_le _, rfl, rfl, (by first | exact ⟨0, rfl⟩ | exact ⟨_, rfl⟩)⟩
        case round =>
          obtain ⟨j, hj, rfl, rfl, n, rfl⟩ := hrel
          by_cases hjt : j < L.length
          · obtain ⟨bl, ol, rfl, hcl⟩ := Hs1.out.at_ j hjt
            obtain ⟨m, hm, hml⟩ := HI.out _ (List.getElem_mem hjt)
            rw [hm] at hcl
            have hml' : m < xs.length := by rw [Hl.out]; exact hml
            obtain ⟨rm, hcm, hrm⟩ := FX1.out.get m hml'
            have eA : (L.take (j + 1)).any (gEdge xs N k) = ((L.take j).any (gEdge xs N k) || (!gHole (xs.getD k 0) && (!gHole (xs.getD m 0) && !gHang (xs.getD k 0) (xs.getD m 0) N))) := by
              rw [any_take_succ hjt, hm]; rfl
            generalize (L.take j).any (gEdge xs N k) = c at *
            generalize xs.getD k 0 = vk at *
            generalize xs.getD m 0 = vm at *
            have h5 : c = true ∨ (c = false ∧ gHole vk = true) ∨ (c = false ∧ gHole vk = false ∧ gHole vm = true) ∨ (c = false ∧ gHole vk = false ∧ gHole vm = false ∧ gHang vk vm N = true) ∨ (c = false ∧ gHole vk = false ∧ gHole vm = false ∧ gHang vk vm N = false) := by
              cases c <;> cases gHole vk <;> cases gHole vm <;> cases gHang vk vm N <;> simp
            rcases h5 with rfl | ⟨rfl, t1⟩ | ⟨rfl, t1, t2⟩ | ⟨rfl, t1, t2, t3⟩ | ⟨rfl, t1, t2, t3⟩
            all_goals
              simp only [Bool.true_or, Bool.false_or, *, Bool.not_true, Bool.not_false, Bool.true_and, Bool.false_and] at eA
              have EA := Lib.hid eA
              clear eA
              go_wp2
              apply region_drew 8
              case hm => kernel_rfl
              case hB => kernel_rfl
              simp only [List.take_succ_cons, List.take_zero, List.drop_succ_cons, List.drop_zero]
              repeat (first
                | (apply wpSoft_skip rfl; simp only [Act.put, List.setIfInBounds_toArray, List.set_cons_succ, List.set_cons_zero])
                | (apply wpSoft_nilCheck rfl rfl; simp only [Act.put, List.setIfInBounds_toArray, List.set_cons_succ, List.set_cons_zero])
                | ((with_reducible apply wpSoft_fop); (case hw => rfl); (case hD => exact closed_drew); (case hop => rfl); (case hx => rfl); (case hy => rfl); (case hA => (first | assumption | exact FE.ofInt _ _ | exact FE.lit (by decide +kernel))); (case hB => (first | assumption | exact FE.ofInt _ _ | exact FE.lit (by decide +kernel))); (intro r hr; simp only [Act.put, List.setIfInBounds_toArray, List.set_cons_succ, List.set_cons_zero]))

                | ((with_reducible apply wpSoft_widen); (case hw => rfl); (case hD => exact closed_drew); (case hs => exact Try.underlying42); (case hd => exact Try.underlying84); (case hx => rfl); (case hA => (first | assumption | exact FE.ofInt _ _ | exact FE.lit (by decide +kernel))); (intro r hr; simp only [Act.put, List.setIfInBounds_toArray, List.set_cons_succ, List.set_cons_zero]))
                | ((with_reducible apply wpSoft_fneg); (case hw => rfl); (case hx => rfl); (case hA => (first | assumption | exact FE.ofInt _ _ | exact FE.lit (by decide +kernel))); (intro r hr; simp only [Act.put, List.setIfInBounds_toArray, List.set_cons_succ, List.set_cons_zero]))
                | ((with_reducible apply wpSoft_fcmp); (case hw => rfl); (case hop => rfl); (case hx => rfl); (case hy => rfl); (case hA => (first | assumption | exact FE.ofInt _ _ | exact FE.lit (by decide +kernel))); (case hB => (first | assumption | exact FE.ofInt _ _ | exact FE.lit (by decide +kernel))); (case hb => (first | assumption | rfl)); simp only [Act.put, List.setIfInBounds_toArray, List.set_cons_succ, List.set_cons_zero])
                | (apply wpSoft_q rfl rfl; intro K hK; go_big_quiet_op; go_big_quiet_on))
              with_reducible apply wpSoft_nil
              intro m
              go_wp2_with (first
      | (go_at_call 109; with_reducible refine (S_l05Hole _ _ _ hrx).mono ?_; rintro e w' ⟨rfl, n, rfl⟩; rw [t1])
      | (go_at_call 109; with_reducible refine (S_l05Hole _ _ _ hrm).mono ?_; rintro e w' ⟨rfl, n, rfl⟩; rw [t2])
      | (go_at_call 110; with_reducible refine (S_l05Hang _ _ _ _ _ _ _ hrx hrm hN).mono ?_; rintro e w' ⟨rfl, n, rfl⟩; rw [t3]))
              go_roundw
              case rel => exact ⟨j + 1, by omega, by go_num, by rw [EA.out], (by first | exact ⟨0, rfl⟩ | exact ⟨_, rfl⟩)⟩
              case measure => simp [intOf]; omega
          · obtain rfl : j = L.length := by omega
            rw [List.take_length, ← EB.out]
            cases hB : gBord xs W H N k
            · go_wp2
              go_roundw
              case rel => exact ⟨k + 1, by omega, by go_num, by rw [EK.out, hB]; exact Ho.out.gr (Hg1.out.drewN _), B2.out.gr (Hg1.out.drewN _), Hg.out.trans (Hg1.out.drewN _)⟩
              case measure => simp [intOf]; omega
            · have HO1 := Ho.out.gr (Hg1.out.drewN n)
              go_wp2_with (apply wpList_append_i (hgd := rfl) (ho := rfl) (i := i0) (ht := Try.underlying54) (hi := hi) (hz := hz0) (hsize := hz1) (hby := hz2); (case hown => exact HO1.gr ((Gr.refl _).alloc _)); (case hs => rfl); (case hx => rfl); (case hcell => exact (Blk.atNew rfl).cellv 0 rfl); (case hn => omega); (case hB => exact Gr.size ((Hg.out.trans (Hg1.out.drewN n)).alloc _)); intro v2 w2 ho2 hg2; have G2 : Gr w w2 := Gr.grownBy ((Hg.out.trans (Hg1.out.drewN n)).alloc _) hg2 (fun q hq => (IOwn.block HO1 hq).1); have B3 := Lib.hid (Blk.grown (B2.out.gr ((Hg1.out.drewN n).alloc _)) hg2 (HO1.okb (.inr ((B2.out.gr (Hg1.out.drewN n)).okb (e := 2) (by decide))))); clear hg2)
              go_roundw
              case rel => exact ⟨k + 1, by omega, by go_num, by rw [EK.out, hB]; assumption, RowKit.Hid.out (by assumption), by assumption⟩
              case measure => simp [intOf]; omega
      · obtain rfl : k = xs.length := by omega
        have Ho := Lib.hid ho
        have Hg := Lib.hid hg
        clear b2 ho hg
        go_wp2
        exact bodyPost_ret (v := .tuple #[_, .bool true]) (by simp [results, Try.results43, go_sem]; rfl) rfl ⟨⟨_, rfl, by simpa using Ho.out⟩, Hg.out⟩
end Go.Proofs.Ytldeeijfipiafaa
