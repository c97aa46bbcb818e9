/- Contracts: the cells at a border, of the program. MAXREC -/
import Derived.Test.YtldeeijfipiafaaProg
import Derived.Test.YtldeeijfipiafaaC33
import Derived.Deep.DeepCutAuto
namespace Go.Proofs.Ytldeeijfipiafaa
open Go.RowKit Go.Fx Go.Soft
theorem I_Map_at_int (W H : Nat) (u v : Int) (b : Nat) (a : Option Addr) (ca : Nat) (xs : List Nat) (w : World) (m1 : MP w b W H a xs.length ca xs) (hW : W ≤ 24) (hH : H ≤ 24) (h1 : gHas W H u v = true) (hl : xs.length = W * H) :
    Calls Try.prog 77 #[.pointer (some ⟨b, 0, none⟩), .int .i64 u, .int .i64 v] w fun e w' => ∃ r, e = .returned (.float .f32 r) ∧ FE .f32 r (xs.getD (u + W * v).toNat 0) ∧ ∃ n, w' = w.drewN n := by
  obtain ⟨i1, i2⟩ : gIn u 0 ((W : Int) - 1) = true ∧ gIn v 0 ((H : Int) - 1) = true := by simpa [gHas] using h1
  obtain ⟨u, rfl⟩ := Int.eq_ofNat_of_zero_le (show 0 ≤ u by simp [gIn] at i1; omega)
  obtain ⟨v, rfl⟩ := Int.eq_ofNat_of_zero_le (show 0 ≤ v by simp [gIn] at i2; omega)
  have hu : u < W := by simp [gIn] at i1; omega
  have hv : v < H := by simp [gIn] at i2; omega
  have e0 : ((u : Int) + (W : Int) * (v : Int)).toNat = u + W * v := by
    rw [show (u : Int) + (W : Int) * (v : Int) = ((u + W * v : Nat) : Int) by simp]; exact Int.toNat_natCast _
  rw [e0]
  exact I_Map_at W H u v b a ca xs w m1 hW hH hu hv hl
theorem run_pair0 (a b c d e f g i : Value) (w : World) : Sem.run Try.prog (Instr.index 135 (.agg #[a, b, c, d, e, f, g, i]) (.int .i64 0)) w = .ok (.agg #[a, b]) w := by kernel_rfl
theorem run_pair1 (a b c d e f g i : Value) (w : World) : Sem.run Try.prog (Instr.index 135 (.agg #[a, b, c, d, e, f, g, i]) (.int .i64 1)) w = .ok (.agg #[c, d]) w := by kernel_rfl
theorem run_pair2 (a b c d e f g i : Value) (w : World) : Sem.run Try.prog (Instr.index 135 (.agg #[a, b, c, d, e, f, g, i]) (.int .i64 2)) w = .ok (.agg #[e, f]) w := by kernel_rfl
theorem run_pair3 (a b c d e f g i : Value) (w : World) : Sem.run Try.prog (Instr.index 135 (.agg #[a, b, c, d, e, f, g, i]) (.int .i64 3)) w = .ok (.agg #[g, i]) w := by kernel_rfl
set_option maxRecDepth 20000 in
set_option maxHeartbeats 8000000 in
theorem I_BordersOf (W H : Int) (a : Option Addr) (ca near N : Nat) (xs : List Nat) (w : World) (fx : FSl w a xs.length xs) (hn : xs.length ≤ 1048576) (hN : FE .f32 near N) :
    Calls Try.prog 44 #[.agg #[.int .i64 W, .int .i64 H, .slice a xs.length ca], .float .f32 near] w
      (PostI w (gPic W H xs.length) (if gPic W H xs.length then gPick (gBord xs W.toNat H.toNat N) xs.length else [])) := by
  have hn' : xs.length ≤ maxLen := by unfold maxLen; omega
  obtain ⟨i0, hi, hz0, hz1, hz2⟩ := info_parts info_int64
  have Fx := Lib.hid fx
  clear fx
  cases hT : gPic W H xs.length
  · go_enter Try.func44, Try.ntmps44
    go_wp2_with (first
      | (go_at_call 72; with_reducible refine (I_ValidMap _ _ _ _ _ _ hn').mono ?_; rintro e w' ⟨rfl, os, m, rfl⟩; rw [hT]))
    exact bodyPost_ret (v := .tuple #[.slice none 0 0, .bool false]) (by simp [results, Try.results44, go_sem]) rfl ⟨⟨_, rfl, IOwn.nil _ _ _⟩, (by (try show Gr _ _); repeat (with_reducible first | exact Gr.refl _ | refine Gr.drewN ?_ _ | refine Gr.grew ?_ _ _ | refine Gr.alloc ?_ _ | refine Gr.drew ?_))⟩
  · have hp1 := (gPic_true hT).2
    obtain ⟨s1, s2, s3, s4, s5, s6⟩ := gSize_true (gPic_true hT).1
    obtain ⟨W, rfl⟩ := Int.eq_ofNat_of_zero_le (show 0 ≤ W by omega)
    obtain ⟨H, rfl⟩ := Int.eq_ofNat_of_zero_le (show 0 ≤ H by omega)
    have hl : xs.length = W * H := by exact_mod_cast hp1
    have hpos : 0 < xs.length := by omega
    have Hl := Lib.hid hl
    have hW : W ≤ 24 := by omega
    have hH : H ≤ 24 := by omega
    obtain ⟨bx, ox, rfl⟩ := Fx.out.ptr hpos
    clear hp1 hl s5 s6
    go_enter Try.func44, Try.ntmps44
    go_wp2_with (first
      | (go_at_call 72; with_reducible refine (I_ValidMap _ _ _ _ _ _ hn').mono ?_; rintro e w' ⟨rfl, os, m, rfl⟩; rw [hT]))
    go_loopw [6, 21] (fun s i wr => ∃ k : Nat, k ≤ xs.length ∧ i = .int .i64 k ∧ IOwn wr w.heap.size 2 s (gPick (gBord xs W H N) k) ∧ Blk wr w.heap.size [.int .i64 W, .int .i64 H, .slice (some ⟨bx, ox, none⟩) xs.length ca] 29 ∧ Gr w wr) (fun _ i _ => xs.length - (intOf i).toNat)
    case atStart => exact ⟨0, Nat.zero_le _, rfl, IOwn.empty (Blk.atNew (by simp)) (by first | omega | (simp <;> omega)), (by repeat (with_reducible first | assumption | exact Blk.atNew (by simp) | refine Blk.alloc ?_ _ | refine Blk.grew ?_ _ _ | refine Blk.drewN ?_ _ | refine Blk.drew ?_)), (by (try show Gr _ _); repeat (with_reducible first | exact Gr.refl _ | refine Gr.drewN ?_ _ | refine Gr.grew ?_ _ _ | refine Gr.alloc ?_ _ | refine Gr.drew ?_))⟩
    case round =>
      obtain ⟨k, hk, rfl, ho, b2, hg⟩ := hrel
      by_cases hlt : k < xs.length
      · have m0 := b2.cellv 0
        have m1 := b2.cellv 1
        have m2 := b2.cellv 2
        have MM := Lib.hid (MP.mk m0 m1 m2 (Fx.out.keep hg.kp))
        obtain ⟨rx, hcx, hrx⟩ := (Fx.out.keep hg.kp).get k hlt
        have hxW : k % W < W := Nat.mod_lt _ (by omega)
        have hyH : k / W < H := Nat.div_lt_of_lt_mul (by have := Hl.out; omega)
        have hkk : k = k % W + W * (k / W) := (Nat.mod_add_div k W).symm
        obtain ⟨x, hx⟩ : ∃ x, x = k % W := ⟨_, rfl⟩
        obtain ⟨y, hy⟩ : ∃ y, y = k / W := ⟨_, rfl⟩
        have er : (k : Int) % (W : Int) = (x : Int) := by rw [hx]; exact (Int.natCast_emod k W).symm
        have eq : (k : Int) / (W : Int) = (y : Int) := by rw [hy]; exact (Int.natCast_ediv k W).symm
        rw [← hx, ← hy] at hkk
        rw [← hx] at hxW
        rw [← hy] at hyH
        have EB := Lib.hid (show (gBesTo xs W H N x y 4 && !gHole (xs.getD k 0)) = gBord xs W H N k by rw [hkk]; exact bes_bord xs N hxW hyH)
        have EK := Lib.hid (show gPick (gBord xs W H N) (k + 1) = if gBord xs W H N k then gPick (gBord xs W H N) k ++ [(k : Int)] else gPick (gBord xs W H N) k from rfl)
        have HL := gPick_length (gBord xs W H N) k
        have B2 := Lib.hid b2
        have Ho := Lib.hid ho
        have Hg := Lib.hid hg
        clear b2 ho hg hkk hx hy
        go_upto_region 8 with fail
        apply region_drew 9
        case hm => kernel_rfl
        case hB => kernel_rfl
        simp only [List.take_succ_cons, List.take_zero, List.drop_succ_cons, List.drop_zero]
        repeat (first
          | (apply wpSoft_skip rfl; simp only [Act.put, List.setIfInBounds_toArray, List.set_cons_succ, List.set_cons_zero])
          | (apply wpSoft_nilCheck rfl rfl; simp only [Act.put, List.setIfInBounds_toArray, List.set_cons_succ, List.set_cons_zero])
          | ((with_reducible apply wpSoft_fop); (case hw => rfl); (case hD => exact closed_drew); (case hop => rfl); (case hx => rfl); (case hy => rfl); (case hA => (first | assumption | exact FE.ofInt _ _ | exact FE.lit (by decide +kernel))); (case hB => (first | assumption | exact FE.ofInt _ _ | exact FE.lit (by decide +kernel))); (intro r hr; simp only [Act.put, List.setIfInBounds_toArray, List.set_cons_succ, List.set_cons_zero]))

          | ((with_reducible apply wpSoft_widen); (case hw => rfl); (case hD => exact closed_drew); (case hs => exact Try.underlying42); (case hd => exact Try.underlying84); (case hx => rfl); (case hA => (first | assumption | exact FE.ofInt _ _ | exact FE.lit (by decide +kernel))); (intro r hr; simp only [Act.put, List.setIfInBounds_toArray, List.set_cons_succ, List.set_cons_zero]))
          | ((with_reducible apply wpSoft_fneg); (case hw => rfl); (case hx => rfl); (case hA => (first | assumption | exact FE.ofInt _ _ | exact FE.lit (by decide +kernel))); (intro r hr; simp only [Act.put, List.setIfInBounds_toArray, List.set_cons_succ, List.set_cons_zero]))
          | ((with_reducible apply wpSoft_fcmp); (case hw => rfl); (case hop => rfl); (case hx => rfl); (case hy => rfl); (case hA => (first | assumption | exact FE.ofInt _ _ | exact FE.lit (by decide +kernel))); (case hB => (first | assumption | exact FE.ofInt _ _ | exact FE.lit (by decide +kernel))); (case hb => (first | assumption | rfl)); simp only [Act.put, List.setIfInBounds_toArray, List.set_cons_succ, List.set_cons_zero])
          | (apply wpSoft_q rfl rfl; intro K hK; go_big_quiet_op; go_big_quiet_on))
        with_reducible apply wpSoft_nil
        intro m
        go_wp2_with (first
      | (go_at_call 111; refine (I_besides x y _ (by omega) (by omega)).mono ?_; rintro e w1 ⟨rfl, hg1⟩))
        have Hg1 := Lib.hid (Gr.trans (by (try show Gr _ _); repeat (with_reducible first | exact Gr.refl _ | refine Gr.drewN ?_ _ | refine Gr.grew ?_ _ _ | refine Gr.alloc ?_ _ | refine Gr.drew ?_)) hg1 : Gr wr w1)
        clear hg1 m0 m1 m2
        go_loopw [11, 37] (fun s i u => ∃ j : Nat, j ≤ 4 ∧ i = .int .i64 j ∧ s = .bool (gBesTo xs W H N x y j) ∧ Gr w1 u) (fun _ i _ => 4 - (intOf i).toNat)
        case atStart => exact ⟨0, Nat.zero_le _, rfl, rfl, (by (try show Gr _ _); repeat (with_reducible first | exact Gr.refl _ | refine Gr.drewN ?_ _ | refine Gr.grew ?_ _ _ | refine Gr.alloc ?_ _ | refine Gr.drew ?_))⟩
        case round =>
          obtain ⟨j, hj, rfl, rfl, hu⟩ := hrel
          have HM := Lib.hid (MM.out.gr (Hg1.out.trans hu))
          by_cases hjt : j < 4
          · have eA : gBesTo xs W H N x y (j + 1) = (gBesTo xs W H N x y j || gBes xs W H N x y j) := rfl
            unfold gBes at eA
            rw [Int.toNat_natCast] at eA
            generalize gBesTo xs W H N x y j = c at *
            have h5 : c = true ∨ (c = false ∧ gHas W H (besU x j) (besV y j) = false) ∨ (c = false ∧ gHas W H (besU x j) (besV y j) = true ∧ gHole (xs.getD (besU x j + W * besV y j).toNat 0) = true) ∨ (∃ d, c = false ∧ gHas W H (besU x j) (besV y j) = true ∧ gHole (xs.getD (besU x j + W * besV y j).toNat 0) = false ∧ (gHas W H (besU x j) (besV y j) && gHang (xs.getD (x + W * y) 0) (xs.getD (besU x j + W * besV y j).toNat 0) N) = d) := by
              cases c <;> cases gHas W H (besU x j) (besV y j) <;> cases gHole (xs.getD (besU x j + W * besV y j).toNat 0) <;> simp
            rcases h5 with rfl | ⟨rfl, t1⟩ | ⟨rfl, t1, t2⟩ | ⟨d, rfl, t1, t2, t3⟩
            rotate_left 3
            cases d
            all_goals
              try rw [t3] at eA
              try rw [t2] at eA
              try rw [t1] at eA
              simp only [Bool.true_or, Bool.false_or, Bool.false_and, Bool.true_and, Bool.not_true, Bool.not_false] at eA
              have EA := Lib.hid eA
              clear eA
              rcases (show j = 0 ∨ j = 1 ∨ j = 2 ∨ j = 3 by omega) with rfl | rfl | rfl | rfl
              all_goals
                go_wp2_with fail
                first | rw [run_pair0] | rw [run_pair1] | rw [run_pair2] | rw [run_pair3]
                go_wp2_with (first
      | (go_at_call 112; refine (I_Map_has W H _ _ _ ca _ xs _ (HM.out.gr (by repeat (with_reducible first | assumption | exact Gr.refl _ | refine Gr.alloc ?_ _ | refine Gr.drewN ?_ _))) hW hH).mono ?_; rintro e w' ⟨he, n, rfl⟩; obtain rfl := he.trans (congrArg (fun b => Ending.returned (.bool b)) t1))
      | (go_at_call 77; refine (I_Map_at_int W H _ _ _ _ ca xs _ (HM.out.gr (by repeat (with_reducible first | assumption | exact Gr.refl _ | refine Gr.alloc ?_ _ | refine Gr.drewN ?_ _))) hW hH t1 Hl.out).mono ?_; rintro e w' ⟨r1, rfl, hr1, n, rfl⟩)
      | (go_at_call 113; refine (I_noHole _ _ _ (by assumption)).mono ?_; rintro e w' ⟨he, n, rfl⟩; obtain rfl := he.trans (congrArg (fun b => Ending.returned (.bool (!b))) t2))
      | (go_at_call 114; refine (I_hang W H x y _ _ _ ca _ N _ xs _ (HM.out.gr (by repeat (with_reducible first | assumption | exact Gr.refl _ | refine Gr.alloc ?_ _ | refine Gr.drewN ?_ _))) hW hH hxW hyH Hl.out hN).mono ?_; rintro e w' ⟨he, n, rfl⟩; obtain rfl := he.trans (congrArg (fun b => Ending.returned (.bool b)) t3)))
                go_roundw
                case rel => first | exact ⟨1, by omega, by go_num, congrArg Value.bool EA.out.symm, (by repeat (with_reducible first | assumption | exact Gr.refl _ | refine Gr.alloc ?_ _ | refine Gr.drewN ?_ _))⟩ | exact ⟨2, by omega, by go_num, congrArg Value.bool EA.out.symm, (by repeat (with_reducible first | assumption | exact Gr.refl _ | refine Gr.alloc ?_ _ | refine Gr.drewN ?_ _))⟩ | exact ⟨3, by omega, by go_num, congrArg Value.bool EA.out.symm, (by repeat (with_reducible first | assumption | exact Gr.refl _ | refine Gr.alloc ?_ _ | refine Gr.drewN ?_ _))⟩ | exact ⟨4, by omega, by go_num, congrArg Value.bool EA.out.symm, (by repeat (with_reducible first | assumption | exact Gr.refl _ | refine Gr.alloc ?_ _ | refine Gr.drewN ?_ _))⟩
                case measure => simp [intOf]
          · obtain rfl : j = 4 := by omega
            have G0 := Hg1.out.trans hu
            have Gw := Hg.out.trans G0
            have eB := EB.out
            generalize gBesTo xs W H N x y 4 = c at *
            have h3 : (c = false ∧ gBord xs W H N k = false) ∨ (c = true ∧ gHole (xs.getD k 0) = true ∧ gBord xs W H N k = false) ∨ (c = true ∧ gHole (xs.getD k 0) = false ∧ gBord xs W H N k = true) := by
              rw [← eB]; cases c <;> cases gHole (xs.getD k 0) <;> simp
            clear eB EB
            rcases h3 with ⟨rfl, hB⟩ | ⟨rfl, t1, hB⟩ | ⟨rfl, t1, hB⟩
            all_goals
              go_wp2_with (first
      | (go_at_call 113; with_reducible refine (I_noHole _ _ _ hrx).mono ?_; rintro e w' ⟨rfl, n, rfl⟩; rw [t1])
      | (apply wpList_append_i (hgd := rfl) (ho := rfl) (i := i0) (ht := Try.underlying54) (hi := hi) (hz := hz0) (hsize := hz1) (hby := hz2); (case hown => exact Ho.out.gr (by repeat (with_reducible first | assumption | exact Gr.refl _ | refine Gr.alloc ?_ _ | refine Gr.drewN ?_ _))); (case hs => rfl); (case hx => rfl); (case hcell => exact (Blk.atNew rfl).cellv 0 rfl); (case hn => omega); (case hB => exact Gr.size (by repeat (with_reducible first | assumption | exact Gr.refl _ | refine Gr.alloc ?_ _ | refine Gr.drewN ?_ _))); intro v2 w2 ho2 hg2; have G2 : Gr w w2 := Gr.grownBy (by repeat (with_reducible first | assumption | exact Gr.refl _ | refine Gr.alloc ?_ _ | refine Gr.drewN ?_ _)) hg2 (fun q hq => (IOwn.block Ho.out hq).1); have B3 := Lib.hid (Blk.grown (B2.out.gr (by repeat (with_reducible first | assumption | exact Gr.refl _ | refine Gr.alloc ?_ _ | refine Gr.drewN ?_ _))) hg2 (Ho.out.okb (.inr (B2.out.okb (e := 2) (by decide))))); clear hg2))
              go_roundw
              case rel => first | exact ⟨k + 1, by omega, by go_num, by rw [EK.out, hB]; assumption, RowKit.Hid.out (by assumption), by assumption⟩ | exact ⟨k + 1, by omega, by go_num, by rw [EK.out, hB]; exact Ho.out.gr (by repeat (with_reducible first | assumption | exact Gr.refl _ | refine Gr.alloc ?_ _ | refine Gr.drewN ?_ _)), B2.out.gr (by repeat (with_reducible first | assumption | exact Gr.refl _ | refine Gr.alloc ?_ _ | refine Gr.drewN ?_ _)), (by repeat (with_reducible first | assumption | exact Gr.refl _ | refine Gr.alloc ?_ _ | refine Gr.drewN ?_ _))⟩
              case measure => simp [intOf]; omega
      · obtain rfl : k = xs.length := by omega
        have Ho := Lib.hid ho
        have Hg := Lib.hid hg
        clear b2 ho hg
        go_wp2
        exact bodyPost_ret (v := .tuple #[_, .bool true]) (by simp [results, Try.results44, go_sem]; rfl) rfl ⟨⟨_, rfl, by simpa using Ho.out⟩, Hg.out⟩
end Go.Proofs.Ytldeeijfipiafaa
