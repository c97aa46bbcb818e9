/- Contracts: maps of twice the size. MAXREC -/
import Derived.Test.YtomlfdkcgaogcaaProg
import Derived.Test.YtomlfdkcgaogcaaC15
namespace Go.Proofs.Ytomlfdkcgaogcaa
open Go.RowKit Go.Fx Go.Soft
/-- A place held between 0 and many - 1. -/
def clampN (n : Int) (many : Nat) : Nat := min n.toNat (many - 1)
theorem clampN_lt {n : Int} {many : Nat} (h : 1 ≤ many) : clampN n many < many := by unfold clampN; omega
theorem clampN_in {n many : Nat} (h : n < many) : clampN (n : Int) many = n := by unfold clampN; omega
def gDouble (xs : List Nat) (W H x y : Nat) : Nat :=
  if gHole (xs.getD (clampN (x / 2 : Int) W + W * clampN (y / 2 : Int) H) 0) then 3212836864 else fop .mul .f32 1073741824 (xs.getD (clampN (x / 2 : Int) W + W * clampN (y / 2 : Int) H) 0)
set_option maxRecDepth 20000 in
set_option maxHeartbeats 400000 in
theorem I_clamp (n : Int) (many : Nat) (w : World) (h1 : 1 ≤ many) (h2 : many ≤ 1048576) :
    Calls Try.prog 110 #[.int .i64 n, .int .i64 many] w fun e w' => e = .returned (.int .i64 (clampN n many)) ∧ w' = w := by
  have e1 : IntKind.i64.wrap ((many : Int) - 1) = (many : Int) - 1 := IntWalk.i64_in _ (by omega)
  rcases (show n < 0 ∨ (0 ≤ n ∧ n ≤ (many : Int) - 1) ∨ (many : Int) - 1 < n by omega) with c1 | ⟨c1, c2⟩ | c1
  all_goals
    go_enter Try.func110, Try.ntmps110
    go_wp2
  all_goals
    go_ret
    exact ⟨congrArg (fun z : Int => Ending.returned (.int .i64 z)) (by unfold clampN; omega), rfl⟩
set_option maxRecDepth 20000 in
set_option maxHeartbeats 400000 in
theorem S_l00Min (a b : Int) (w : World) :
    Calls Try.prog 84 #[.int .i64 a, .int .i64 b] w fun e w' => e = .returned (.int .i64 (min a b)) ∧ w' = w := by
  by_cases h : a < b
  all_goals
    go_enter Try.func84, Try.ntmps84
    go_wp2
    go_ret
    exact ⟨congrArg (fun z : Int => Ending.returned (.int .i64 z)) (by omega), rfl⟩
set_option maxRecDepth 20000 in
set_option maxHeartbeats 1000000 in
theorem I_DoubleMap_1 (W H x y b1 ca : Nat) (a : Option Addr) (xs : List Nat) (w : World) (m1 : MP w b1 W H a xs.length ca xs)
    (hW0 : 1 ≤ W) (hH0 : 1 ≤ H) (hW : W ≤ 24) (hH : H ≤ 24) (hx : x < 24) (hy : y < 24) (hn : xs.length = W * H) :
    Calls Try.prog 109 #[.int .i64 x, .int .i64 y, .pointer (some ⟨b1, 0, none⟩)] w fun e w' => (∃ r, e = .returned (.float .f32 r) ∧ FE .f32 r (gDouble xs W H x y)) ∧ Gr w w' := by
  have hu := clampN_lt (n := (x : Int) / 2) hW0
  have hv := clampN_lt (n := (y : Int) / 2) hH0
  have C1 := Lib.hid (fun w => I_clamp ((x : Int) / 2) W w hW0 (by omega))
  have C2 := Lib.hid (fun w => I_clamp ((y : Int) / 2) H w hH0 (by omega))
  have eD : gDouble xs W H x y = if gHole (xs.getD (clampN ((x : Int) / 2) W + W * clampN ((y : Int) / 2) H) 0) then 3212836864 else fop .mul .f32 1073741824 (xs.getD (clampN ((x : Int) / 2) W + W * clampN ((y : Int) / 2) H) 0) := rfl
  generalize clampN ((x : Int) / 2) W = u at *
  generalize clampN ((y : Int) / 2) H = v at *
  have ED := Lib.hid eD
  have c0 := m1.c0
  have c1 := m1.c1
  have M1 := Lib.hid m1
  have Hn := Lib.hid hn
  clear m1 hn eD
  have h2 : FE .f32 1073741824 1073741824 := FE.lit (by decide +kernel)
  cases t1 : gHole (xs.getD (u + W * v) 0)
  all_goals
    have eG := Lib.hid (ED.out.trans (by first | exact if_pos t1 | exact if_neg (by rw [t1]; decide)))
    go_enter Try.func109, Try.ntmps109
    go_wp2
    apply region_drew 11
    case hm => kernel_rfl
    case hB => kernel_rfl
    simp only [List.take_succ_cons, List.take_zero, List.drop_succ_cons, List.drop_zero]
    repeat (first
      | ((with_reducible apply wpSoft_calleq (f := 110)); (case hw => rfl); (case hc => exact Try.call110); (case hv => ((conv => lhs; simp [Act.eval]); try rfl)); (case hS => (rintro _ ⟨m, rfl⟩; with_reducible refine (C1.out _).mono ?_; rintro e w' ⟨rfl, rfl⟩; exact ⟨rfl, _, rfl⟩)); (simp only [Act.put, List.setIfInBounds_toArray, List.set_cons_succ, List.set_cons_zero]))
      | ((with_reducible apply wpSoft_calleq (f := 110)); (case hw => rfl); (case hc => exact Try.call110); (case hv => ((conv => lhs; simp [Act.eval]); try rfl)); (case hS => (rintro _ ⟨m, rfl⟩; with_reducible refine (C2.out _).mono ?_; rintro e w' ⟨rfl, rfl⟩; exact ⟨rfl, _, rfl⟩)); (simp only [Act.put, List.setIfInBounds_toArray, List.set_cons_succ, List.set_cons_zero]))
      | ((with_reducible apply wpSoft_callf (f := 49)); (case hw => rfl); (case hc => exact Try.call49); (case hv => ((conv => lhs; simp [Act.eval]); try rfl)); (case hS => (rintro _ ⟨m, rfl⟩; with_reducible refine (I_Map_at W H u v b1 _ _ xs _ (M1.out.gr (gr_drewN w m)) hW hH hu hv Hn.out).mono ?_; rintro e w' ⟨r, rfl, hr, n, rfl⟩; exact ⟨_, rfl, hr, ⟨_, World.drewN_drewN _ _ _⟩⟩)); (intro r hr; simp only [Act.put, List.setIfInBounds_toArray, List.set_cons_succ, List.set_cons_zero]))
      | (apply wpSoft_skip rfl; simp only [Act.put, List.setIfInBounds_toArray, List.set_cons_succ, List.set_cons_zero])
      | (apply wpSoft_nilCheck rfl rfl; simp only [Act.put, List.setIfInBounds_toArray, List.set_cons_succ, List.set_cons_zero])
      | ((with_reducible apply wpSoft_fop); (case hw => rfl); (case hD => exact closed_drew); (case hop => rfl); (case hx => rfl); (case hy => rfl); (case hA => (first | assumption | exact FE.ofInt _ _ | exact FE.lit (by decide +kernel))); (case hB => (first | assumption | exact FE.ofInt _ _ | exact FE.lit (by decide +kernel))); (intro r hr; simp only [Act.put, List.setIfInBounds_toArray, List.set_cons_succ, List.set_cons_zero]))

      | ((with_reducible apply wpSoft_widen); (case hw => rfl); (case hD => exact closed_drew); (case hs => exact Try.underlying25); (case hd => exact Try.underlying61); (case hx => rfl); (case hA => (first | assumption | exact FE.ofInt _ _ | exact FE.lit (by decide +kernel))); (intro r hr; simp only [Act.put, List.setIfInBounds_toArray, List.set_cons_succ, List.set_cons_zero]))
      | ((with_reducible apply wpSoft_fneg); (case hw => rfl); (case hx => rfl); (case hA => (first | assumption | exact FE.ofInt _ _ | exact FE.lit (by decide +kernel))); (intro r hr; simp only [Act.put, List.setIfInBounds_toArray, List.set_cons_succ, List.set_cons_zero]))
      | ((with_reducible apply wpSoft_fcmp); (case hw => rfl); (case hop => rfl); (case hx => rfl); (case hy => rfl); (case hA => (first | assumption | exact FE.ofInt _ _ | exact FE.lit (by decide +kernel))); (case hB => (first | assumption | exact FE.ofInt _ _ | exact FE.lit (by decide +kernel))); (case hb => (first | assumption | rfl)); simp only [Act.put, List.setIfInBounds_toArray, List.set_cons_succ, List.set_cons_zero])
      | (apply wpSoft_q rfl rfl; intro K hK; go_big_quiet_op; go_big_quiet_on))
    with_reducible apply wpSoft_nil
    intro m
    go_wp2_with (first
      | (go_at_call 79; with_reducible refine (I_isHole _ _ _ (by assumption)).mono ?_; rintro e w' ⟨rfl, n, rfl⟩; rw [t1])
      | ((with_reducible apply wpList_fop); (case hw => rfl); (case hop => rfl); (case hx => rfl); (case hy => rfl); (case hA => (first | assumption | exact FE.ofInt _ _ | exact FE.lit (by decide +kernel))); (case hB => (first | assumption | exact FE.ofInt _ _ | exact FE.lit (by decide +kernel))); intro r n hr)
      | ((with_reducible apply wpList_fcmp); (case hw => rfl); (case hop => rfl); (case hx => rfl); (case hy => rfl); (case hA => (first | assumption | exact FE.ofInt _ _ | exact FE.lit (by decide +kernel))); (case hB => (first | assumption | exact FE.ofInt _ _ | exact FE.lit (by decide +kernel))); (case hb => (first | assumption | rfl)))
      | ((with_reducible apply wpList_widen); (case hw => rfl); (case hs => exact Try.underlying25); (case hd => exact Try.underlying61); (case hx => rfl); (case hA => (first | assumption | exact FE.ofInt _ _ | exact FE.lit (by decide +kernel))); intro r n hr)
      | ((with_reducible apply wpList_fneg); (case hw => rfl); (case hx => rfl); (case hA => (first | assumption | exact FE.ofInt _ _ | exact FE.lit (by decide +kernel))); intro r hr))
    go_ret
    exact ⟨⟨_, rfl, by rw [eG.out]; first | assumption | exact FE.lit (by decide +kernel)⟩, (by (try show Gr _ _); repeat (with_reducible first | exact Gr.refl _ | refine Gr.drewN ?_ _ | refine Gr.grew ?_ _ _ | refine Gr.alloc ?_ _ | refine Gr.drew ?_))⟩
set_option maxRecDepth 20000 in
set_option maxHeartbeats 4000000 in
theorem S_l05Double (W H U V : Nat) (b ca : Nat) (a : Option Addr) (xs : List Nat) (w : World) (m1 : MP w b W H a xs.length ca xs)
    (hW0 : 1 ≤ W) (hH0 : 1 ≤ H) (hW : W ≤ 24) (hH : H ≤ 24) (hU : U ≤ 24) (hV : V ≤ 24) (hn : xs.length = W * H) :
    Calls Try.prog 102 #[.pointer (some ⟨b, 0, none⟩), .int .i64 U, .int .i64 V] w fun e w' => (∃ v, e = .returned (.agg #[.int .i64 U, .int .i64 V, v]) ∧ FOwn w' w.heap.size 25 v (grid U (gDouble xs W H) (U * V))) ∧ Gr w w' := by
  obtain ⟨i0, hi, hz0, hz1, hz2⟩ := info_parts info_float32
  have h24 : U * V ≤ 576 := Nat.mul_le_mul hU hV
  have c0 := m1.c0
  have c1 := m1.c1
  have c2 := m1.c2
  obtain ⟨bx, ox, rfl⟩ := m1.fs.ptr (by rw [hn]; exact Nat.mul_pos hW0 hH0)
  have M1 := Lib.hid m1
  have Hn := Lib.hid hn
  have hl6 : xs.length ≤ 576 := by rw [hn]; exact Nat.mul_le_mul hW hH
  clear m1 hn
  have h2 : FE .f32 1073741824 1073741824 := FE.lit (by decide +kernel)
  go_enter Try.func102, Try.ntmps102
  go_wp2
  go_loopw [8] (fun i wr => ∃ y : Nat, y ≤ V ∧ i = .int .i64 y ∧ ∃ v, Blk wr (w.heap.size + 1) [.int .i64 U, .int .i64 V, v] 30 ∧ Blk wr w.heap.size [.int .i64 0, .int .i64 0, .slice none 0 0] 30 ∧ FOwn wr (w.heap.size + 2) 25 v (grid U (gDouble xs W H) (0 + U * y)) ∧ Gr w wr) (fun i _ => V - (intOf i).toNat)
  case atStart => exact ⟨0, Nat.zero_le _, rfl, .slice none 0 0, (by repeat (with_reducible first | assumption | exact Blk.atNew (by simp) | refine Blk.alloc ?_ _ | refine Blk.grew ?_ _ _ | refine Blk.drewN ?_ _ | refine Blk.drew ?_)), (by repeat (with_reducible first | assumption | exact Blk.atNew (by simp) | refine Blk.alloc ?_ _ | refine Blk.grew ?_ _ _ | refine Blk.drewN ?_ _ | refine Blk.drew ?_)), FOwn.nil _ _ _, (by (try show Gr _ _); repeat (with_reducible first | exact Gr.refl _ | refine Gr.drewN ?_ _ | refine Gr.grew ?_ _ _ | refine Gr.alloc ?_ _ | refine Gr.drew ?_))⟩
  case round =>
    obtain ⟨y, hy, rfl, v, hb, hb0, ho, hg⟩ := hrel
    have Hl : Hid (w.heap.size + 2 ≤ (w.heap.size + 1) + 1) := by simp [Hid]
    by_cases hlt : y < V
    · have Hb := Lib.hid hb
      have Hb0 := Lib.hid hb0
      have Ho := Lib.hid ho
      have Hg := Lib.hid hg
      clear hb hb0 ho hg
      go_wp2
      go_loopw [9] (fun i wx => ∃ x : Nat, x ≤ U ∧ i = .int .i64 x ∧ ∃ v, Blk wx (w.heap.size + 1) [.int .i64 U, .int .i64 V, v] 30 ∧ Blk wx w.heap.size [.int .i64 0, .int .i64 0, .slice none 0 0] 30 ∧ FOwn wx (w.heap.size + 2) 25 v (grid U (gDouble xs W H) (x + U * y)) ∧ Gr w wx) (fun i _ => U - (intOf i).toNat)
      case atStart => exact ⟨0, Nat.zero_le _, rfl, v, Hb.out, Hb0.out, Ho.out, Hg.out⟩
      case round =>
        clear Hb Hb0 Ho Hg
        rename_i wr0 
        obtain ⟨x, hx, rfl, v, hb, hb0, ho, hg⟩ := hrel
        by_cases hxt : x < U
        · have p2 := hb.cellv 2
          have hl := cell_lt hxt hlt
          have d0 := hg.cell c0
          have d1 := hg.cell c1
          have d2 := hg.cell c2
          have hu := clampN_lt (n := (x : Int) / 2) hW0
          have hv := clampN_lt (n := (y : Int) / 2) hH0
          have C1 := Lib.hid (fun w => S_l00Min ((W : Int) - 1) ((x : Int) / 2) w)
          have C2 := Lib.hid (fun w => S_l00Min ((H : Int) - 1) ((y : Int) / 2) w)
          rw [show min ((W : Int) - 1) ((x : Int) / 2) = ((clampN ((x : Int) / 2) W : Nat) : Int) by unfold clampN; omega] at C1
          rw [show min ((H : Int) - 1) ((y : Int) / 2) = ((clampN ((y : Int) / 2) H : Nat) : Int) by unfold clampN; omega] at C2
          have eD : gDouble xs W H x y = if gHole (xs.getD (clampN ((x : Int) / 2) W + W * clampN ((y : Int) / 2) H) 0) then 3212836864 else fop .mul .f32 1073741824 (xs.getD (clampN ((x : Int) / 2) W + W * clampN ((y : Int) / 2) H) 0) := rfl
          generalize clampN ((x : Int) / 2) W = cu at *
          generalize clampN ((y : Int) / 2) H = cv at *
          have hcl := cell_lt hu hv
          have hclx : cu + W * cv < xs.length := by rw [Hn.out]; exact hcl
          obtain ⟨e1, e2⟩ := wrap_cell (W := W) (x := cu) (y := cv) (by omega) hW (by omega)
          obtain ⟨rx, hcx, hrx⟩ := (M1.out.gr hg).fs.get (cu + W * cv) hclx
          have w1 : IntKind.i64.wrap ((W : Int) - 1) = (W : Int) - 1 := IntWalk.i64_in _ (by omega)
          have w2 : IntKind.i64.wrap ((H : Int) - 1) = (H : Int) - 1 := IntWalk.i64_in _ (by omega)
          have Hb := Lib.hid hb
          have Hb0 := Lib.hid hb0
          have Ho := Lib.hid ho
          have Hg := Lib.hid hg
          have ED := Lib.hid eD
          clear hb hb0 ho hg eD hcl
          cases t1 : gHole (xs.getD (cu + W * cv) 0)
          · have eG := Lib.hid (ED.out.trans (if_neg (by rw [t1]; decide)))
            go_wp2
            apply region_drew 28
            case hm => kernel_rfl
            case hB => kernel_rfl
            simp only [List.take_succ_cons, List.take_zero, List.drop_succ_cons, List.drop_zero]
            repeat (first
              | ((with_reducible apply wpSoft_calleq (f := 84)); (case hw => rfl); (case hc => exact Try.call84); (case hv => ((conv => lhs; simp [Act.eval]); try rfl)); (case hS => (rintro _ ⟨m, rfl⟩; with_reducible refine (C1.out _).mono ?_; rintro e w' ⟨rfl, rfl⟩; exact ⟨rfl, _, rfl⟩)); (simp only [Act.put, List.setIfInBounds_toArray, List.set_cons_succ, List.set_cons_zero]))
              | ((with_reducible apply wpSoft_calleq (f := 84)); (case hw => rfl); (case hc => exact Try.call84); (case hv => ((conv => lhs; simp [Act.eval]); try rfl)); (case hS => (rintro _ ⟨m, rfl⟩; with_reducible refine (C2.out _).mono ?_; rintro e w' ⟨rfl, rfl⟩; exact ⟨rfl, _, rfl⟩)); (simp only [Act.put, List.setIfInBounds_toArray, List.set_cons_succ, List.set_cons_zero]))
              | (apply wpSoft_skip rfl; simp only [Act.put, List.setIfInBounds_toArray, List.set_cons_succ, List.set_cons_zero])
              | (apply wpSoft_nilCheck rfl rfl; simp only [Act.put, List.setIfInBounds_toArray, List.set_cons_succ, List.set_cons_zero])
              | ((with_reducible apply wpSoft_fop); (case hw => rfl); (case hD => exact closed_drew); (case hop => rfl); (case hx => rfl); (case hy => rfl); (case hA => (first | assumption | exact FE.ofInt _ _ | exact FE.lit (by decide +kernel))); (case hB => (first | assumption | exact FE.ofInt _ _ | exact FE.lit (by decide +kernel))); (intro r hr; simp only [Act.put, List.setIfInBounds_toArray, List.set_cons_succ, List.set_cons_zero]))

              | ((with_reducible apply wpSoft_widen); (case hw => rfl); (case hD => exact closed_drew); (case hs => exact Try.underlying25); (case hd => exact Try.underlying61); (case hx => rfl); (case hA => (first | assumption | exact FE.ofInt _ _ | exact FE.lit (by decide +kernel))); (intro r hr; simp only [Act.put, List.setIfInBounds_toArray, List.set_cons_succ, List.set_cons_zero]))
              | ((with_reducible apply wpSoft_fneg); (case hw => rfl); (case hx => rfl); (case hA => (first | assumption | exact FE.ofInt _ _ | exact FE.lit (by decide +kernel))); (intro r hr; simp only [Act.put, List.setIfInBounds_toArray, List.set_cons_succ, List.set_cons_zero]))
              | ((with_reducible apply wpSoft_fcmp); (case hw => rfl); (case hop => rfl); (case hx => rfl); (case hy => rfl); (case hA => (first | assumption | exact FE.ofInt _ _ | exact FE.lit (by decide +kernel))); (case hB => (first | assumption | exact FE.ofInt _ _ | exact FE.lit (by decide +kernel))); (case hb => (first | assumption | rfl)); simp only [Act.put, List.setIfInBounds_toArray, List.set_cons_succ, List.set_cons_zero])
              | (apply wpSoft_q rfl rfl; intro K hK; go_big_quiet_op; go_big_quiet_on))
            with_reducible apply wpSoft_nil
            intro m
            go_wp2_with (first
              | (go_at_call 74; with_reducible refine (S_l05Hole _ _ _ (by assumption)).mono ?_; rintro e w' ⟨rfl, n, rfl⟩; rw [t1])
                  | ((with_reducible apply wpList_fop); (case hw => rfl); (case hop => rfl); (case hx => rfl); (case hy => rfl); (case hA => (first | assumption | exact FE.ofInt _ _ | exact FE.lit (by decide +kernel))); (case hB => (first | assumption | exact FE.ofInt _ _ | exact FE.lit (by decide +kernel))); intro r n hr)
                  | ((with_reducible apply wpList_fcmp); (case hw => rfl); (case hop => rfl); (case hx => rfl); (case hy => rfl); (case hA => (first | assumption | exact FE.ofInt _ _ | exact FE.lit (by decide +kernel))); (case hB => (first | assumption | exact FE.ofInt _ _ | exact FE.lit (by decide +kernel))); (case hb => (first | assumption | rfl)))
                  | ((with_reducible apply wpList_widen); (case hw => rfl); (case hs => exact Try.underlying25); (case hd => exact Try.underlying61); (case hx => rfl); (case hA => (first | assumption | exact FE.ofInt _ _ | exact FE.lit (by decide +kernel))); intro r n hr)
                  | ((with_reducible apply wpList_fneg); (case hw => rfl); (case hx => rfl); (case hA => (first | assumption | exact FE.ofInt _ _ | exact FE.lit (by decide +kernel))); intro r hr)
              | (refine wpList_append_f rfl rfl i0 Try.underlying22 hi hz0 hz1 hz2 rfl (Ho.out.gr (by (try show Gr _ _); repeat (with_reducible first | exact Gr.refl _ | refine Gr.drewN ?_ _ | refine Gr.grew ?_ _ _ | refine Gr.alloc ?_ _ | refine Gr.drew ?_))) rfl ((Blk.atNew rfl).cellv 0 rfl) (by assumption) (by simp <;> omega) (by have := Hb.out.lt; have := Hl.out; simp <;> omega) ?_
                 intro v1 w1 ho1 hg1
                 obtain ⟨a1, c1, rfl, -, -⟩ := ho1.sl' (x + U * y + 1) (by simp)
                 obtain ⟨hb1, P, ho2⟩ := pushed_step (i := 2) (u := .slice a1 (x + U * y + 1) c1) Hb.out Ho.out (by (try show Gr _ _); repeat (with_reducible first | exact Gr.refl _ | refine Gr.drewN ?_ _ | refine Gr.grew ?_ _ _ | refine Gr.alloc ?_ _ | refine Gr.drew ?_)) hg1 ho1 (by decide)
                 have q2 := hb1.cellv 2
                 have z2 := hb1.frozen 2
                 have Hb2 := Lib.hid hb1
                 have Ho2 := Lib.hid ho2
                 have HP := Lib.hid P
                 clear hg1 hb1 ho1 ho2 P))
            go_roundw
            case rel => exact ⟨x + 1, by omega, by go_num, _, Hb2.out.set _, HP.out.blk Hb0.out (by omega) (by omega), by rw [← grid_succ hxt, eG.out]; exact Ho2.out, HP.out.gr Hg.out (by omega) (by omega)⟩
            case measure => simp [intOf]; omega
          · have eG := Lib.hid (ED.out.trans (if_pos t1))
            go_wp2
            apply region_drew 28
            case hm => kernel_rfl
            case hB => kernel_rfl
            simp only [List.take_succ_cons, List.take_zero, List.drop_succ_cons, List.drop_zero]
            repeat (first
              | ((with_reducible apply wpSoft_calleq (f := 84)); (case hw => rfl); (case hc => exact Try.call84); (case hv => ((conv => lhs; simp [Act.eval]); try rfl)); (case hS => (rintro _ ⟨m, rfl⟩; with_reducible refine (C1.out _).mono ?_; rintro e w' ⟨rfl, rfl⟩; exact ⟨rfl, _, rfl⟩)); (simp only [Act.put, List.setIfInBounds_toArray, List.set_cons_succ, List.set_cons_zero]))
              | ((with_reducible apply wpSoft_calleq (f := 84)); (case hw => rfl); (case hc => exact Try.call84); (case hv => ((conv => lhs; simp [Act.eval]); try rfl)); (case hS => (rintro _ ⟨m, rfl⟩; with_reducible refine (C2.out _).mono ?_; rintro e w' ⟨rfl, rfl⟩; exact ⟨rfl, _, rfl⟩)); (simp only [Act.put, List.setIfInBounds_toArray, List.set_cons_succ, List.set_cons_zero]))
              | (apply wpSoft_skip rfl; simp only [Act.put, List.setIfInBounds_toArray, List.set_cons_succ, List.set_cons_zero])
              | (apply wpSoft_nilCheck rfl rfl; simp only [Act.put, List.setIfInBounds_toArray, List.set_cons_succ, List.set_cons_zero])
              | ((with_reducible apply wpSoft_fop); (case hw => rfl); (case hD => exact closed_drew); (case hop => rfl); (case hx => rfl); (case hy => rfl); (case hA => (first | assumption | exact FE.ofInt _ _ | exact FE.lit (by decide +kernel))); (case hB => (first | assumption | exact FE.ofInt _ _ | exact FE.lit (by decide +kernel))); (intro r hr; simp only [Act.put, List.setIfInBounds_toArray, List.set_cons_succ, List.set_cons_zero]))

              | ((with_reducible apply wpSoft_widen); (case hw => rfl); (case hD => exact closed_drew); (case hs => exact Try.underlying25); (case hd => exact Try.underlying61); (case hx => rfl); (case hA => (first | assumption | exact FE.ofInt _ _ | exact FE.lit (by decide +kernel))); (intro r hr; simp only [Act.put, List.setIfInBounds_toArray, List.set_cons_succ, List.set_cons_zero]))
              | ((with_reducible apply wpSoft_fneg); (case hw => rfl); (case hx => rfl); (case hA => (first | assumption | exact FE.ofInt _ _ | exact FE.lit (by decide +kernel))); (intro r hr; simp only [Act.put, List.setIfInBounds_toArray, List.set_cons_succ, List.set_cons_zero]))
              | ((with_reducible apply wpSoft_fcmp); (case hw => rfl); (case hop => rfl); (case hx => rfl); (case hy => rfl); (case hA => (first | assumption | exact FE.ofInt _ _ | exact FE.lit (by decide +kernel))); (case hB => (first | assumption | exact FE.ofInt _ _ | exact FE.lit (by decide +kernel))); (case hb => (first | assumption | rfl)); simp only [Act.put, List.setIfInBounds_toArray, List.set_cons_succ, List.set_cons_zero])
              | (apply wpSoft_q rfl rfl; intro K hK; go_big_quiet_op; go_big_quiet_on))
            with_reducible apply wpSoft_nil
            intro m
            go_wp2_with (first
              | (go_at_call 74; with_reducible refine (S_l05Hole _ _ _ (by assumption)).mono ?_; rintro e w' ⟨rfl, n, rfl⟩; rw [t1])
                  | ((with_reducible apply wpList_fop); (case hw => rfl); (case hop => rfl); (case hx => rfl); (case hy => rfl); (case hA => (first | assumption | exact FE.ofInt _ _ | exact FE.lit (by decide +kernel))); (case hB => (first | assumption | exact FE.ofInt _ _ | exact FE.lit (by decide +kernel))); intro r n hr)
                  | ((with_reducible apply wpList_fcmp); (case hw => rfl); (case hop => rfl); (case hx => rfl); (case hy => rfl); (case hA => (first | assumption | exact FE.ofInt _ _ | exact FE.lit (by decide +kernel))); (case hB => (first | assumption | exact FE.ofInt _ _ | exact FE.lit (by decide +kernel))); (case hb => (first | assumption | rfl)))
                  | ((with_reducible apply wpList_widen); (case hw => rfl); (case hs => exact Try.underlying25); (case hd => exact Try.underlying61); (case hx => rfl); (case hA => (first | assumption | exact FE.ofInt _ _ | exact FE.lit (by decide +kernel))); intro r n hr)
                  | ((with_reducible apply wpList_fneg); (case hw => rfl); (case hx => rfl); (case hA => (first | assumption | exact FE.ofInt _ _ | exact FE.lit (by decide +kernel))); intro r hr)
              | (refine wpList_append_f rfl rfl i0 Try.underlying22 hi hz0 hz1 hz2 rfl (Ho.out.gr (by (try show Gr _ _); repeat (with_reducible first | exact Gr.refl _ | refine Gr.drewN ?_ _ | refine Gr.grew ?_ _ _ | refine Gr.alloc ?_ _ | refine Gr.drew ?_))) rfl ((Blk.atNew rfl).cellv 0 rfl) (FE.lit (by decide +kernel)) (by simp <;> omega) (by have := Hb.out.lt; have := Hl.out; simp <;> omega) ?_
                 intro v1 w1 ho1 hg1
                 obtain ⟨a1, c1, rfl, -, -⟩ := ho1.sl' (x + U * y + 1) (by simp)
                 obtain ⟨hb1, P, ho2⟩ := pushed_step (i := 2) (u := .slice a1 (x + U * y + 1) c1) Hb.out Ho.out (by (try show Gr _ _); repeat (with_reducible first | exact Gr.refl _ | refine Gr.drewN ?_ _ | refine Gr.grew ?_ _ _ | refine Gr.alloc ?_ _ | refine Gr.drew ?_)) hg1 ho1 (by decide)
                 have q2 := hb1.cellv 2
                 have z2 := hb1.frozen 2
                 have Hb2 := Lib.hid hb1
                 have Ho2 := Lib.hid ho2
                 have HP := Lib.hid P
                 clear hg1 hb1 ho1 ho2 P))
            go_roundw
            case rel => exact ⟨x + 1, by omega, by go_num, _, Hb2.out.set _, HP.out.blk Hb0.out (by omega) (by omega), by rw [← grid_succ hxt, eG.out]; exact Ho2.out, HP.out.gr Hg.out (by omega) (by omega)⟩
            case measure => simp [intOf]; omega
        · obtain rfl : x = U := by omega
          have Hb := Lib.hid hb
          have Hb0 := Lib.hid hb0
          have Ho := Lib.hid ho
          have Hg := Lib.hid hg
          clear hb hb0 ho hg
          go_wp2
          go_roundw
          case rel => exact ⟨y + 1, by omega, by go_num, v, Hb.out, Hb0.out, by rw [← grid_row]; exact Ho.out, Hg.out⟩
          case measure => simp [intOf]; omega
    · obtain rfl : y = V := by omega
      have p0 := hb.cellv 0
      have p1 := hb.cellv 1
      have p2 := hb.cellv 2
      have q0 := hb0.cellv 0
      have q1 := hb0.cellv 1
      have q2 := hb0.cellv 2
      have z0 := hb0.frozen 0
      have z1 := hb0.frozen 1
      have z2 := hb0.frozen 2
      obtain ⟨a1, c1, rfl, -, -⟩ := ho.sl' (U * y) (by simp)
      have Ho := Lib.hid ho
      have Hg := Lib.hid hg
      clear hb hb0 ho hg
      go_wp2
      refine bodyPost_ret (v := .agg #[.int .i64 U, .int .i64 y, .slice a1 (U * y) c1]) (by simp [results, Try.results102, go_sem, *]) rfl ⟨⟨_, rfl, ?_⟩, ?_⟩
      · have h := Ho.out
        rw [Nat.zero_add] at h
        exact FOwn.base (B := w.heap.size + 2) (by repeat (with_reducible first | assumption | refine FOwn.setOther ?_ _ (by simp <;> omega))) (by omega)
      · have h := Hg.out
        exact (by repeat (with_reducible first | assumption | refine Gr.setCell ?_ (by simp <;> omega) _))
def gDoubleAt (xs : List Nat) (W H U : Int) (i : Nat) : Nat := gDouble xs W.toNat H.toNat (i % U.toNat) (i / U.toNat)
theorem tells_DoubleMap (W H U V b1 ca : Nat) (a : Option Addr) (xs : List Nat) (w : World) (m1 : MP w b1 W H a xs.length ca xs) (hW0 : 1 ≤ W) (hH0 : 1 ≤ H) (hW : W ≤ 24) (hH : H ≤ 24) (hU : U ≤ 24) (hV : V ≤ 24) (hn : xs.length = W * H) :
    Tells w 109 #[.pointer (some ⟨b1, 0, none⟩)] U V (gDouble xs W H) :=
  ⟨Try.call109, fun x y hx hy w1 g => I_DoubleMap_1 W H x y b1 ca a xs w1 (m1.gr g) hW0 hH0 hW hH (by omega) (by omega) hn⟩
set_option maxRecDepth 20000 in
set_option maxHeartbeats 800000 in
theorem I_DoubleMap (W H U V : Int) (a : Option Addr) (ca : Nat) (xs : List Nat) (w : World) (fx : FSl w a xs.length xs) (hn : xs.length ≤ 1048576) :
    Calls Try.prog 66 #[.agg #[.int .i64 W, .int .i64 H, .slice a xs.length ca], .int .i64 U, .int .i64 V] w
      (PostP w (gW (gPic W H xs.length && gSize U V) U) (gW (gPic W H xs.length && gSize U V) V) (gPic W H xs.length && gSize U V) (gVals (gPic W H xs.length && gSize U V) ((U * V).toNat) (gDoubleAt xs W H U))) := by
  have Fx := Lib.hid fx
  clear fx
  have hn' : xs.length ≤ maxLen := by unfold maxLen; omega
  cases hT : gPic W H xs.length && gSize U V
  · cases hP : gPic W H xs.length
    · go_enter Try.func66, Try.ntmps66
      go_wp2_with (first
      | (go_at_call 42; with_reducible refine (I_ValidMap _ _ _ _ _ _ hn').mono ?_; rintro e w' ⟨rfl, os, m, rfl⟩; rw [hP]))
      exact bodyPost_ret (v := .tuple #[.agg #[.int .i64 0, .int .i64 0, .slice none 0 0], .bool false]) (by simp [results, Try.results66, go_sem]) rfl ⟨⟨_, rfl, FOwn.nil _ _ _⟩, (by (try show Gr _ _); repeat (with_reducible first | exact Gr.refl _ | refine Gr.drewN ?_ _ | refine Gr.grew ?_ _ _ | refine Gr.alloc ?_ _ | refine Gr.drew ?_))⟩
    · have hS : gSize U V = false := by rw [hP] at hT; simpa using hT
      go_enter Try.func66, Try.ntmps66
      go_wp2_with (first
      | (go_at_call 42; with_reducible refine (I_ValidMap _ _ _ _ _ _ hn').mono ?_; rintro e w' ⟨rfl, os, m, rfl⟩; rw [hP])
      | (go_at_call 77; with_reducible refine (I_sizeOk _ _ _).mono ?_; rintro e w' ⟨rfl, rfl⟩; rw [hS]))
      exact bodyPost_ret (v := .tuple #[.agg #[.int .i64 0, .int .i64 0, .slice none 0 0], .bool false]) (by simp [results, Try.results66, go_sem]) rfl ⟨⟨_, rfl, FOwn.nil _ _ _⟩, (by (try show Gr _ _); repeat (with_reducible first | exact Gr.refl _ | refine Gr.drewN ?_ _ | refine Gr.grew ?_ _ _ | refine Gr.alloc ?_ _ | refine Gr.drew ?_))⟩
  · obtain ⟨hP, hS⟩ : gPic W H xs.length = true ∧ gSize U V = true := by simpa using hT
    have hp1 := (gPic_true hP).2
    obtain ⟨s1, s2, s3, s4, s5, s6⟩ := gSize_true (gPic_true hP).1
    obtain ⟨t1, t2, t3, t4, t5, t6⟩ := gSize_true hS
    obtain ⟨W, rfl⟩ := Int.eq_ofNat_of_zero_le (show 0 ≤ W by omega)
    obtain ⟨H, rfl⟩ := Int.eq_ofNat_of_zero_le (show 0 ≤ H by omega)
    obtain ⟨U, rfl⟩ := Int.eq_ofNat_of_zero_le (show 0 ≤ U by omega)
    obtain ⟨V, rfl⟩ := Int.eq_ofNat_of_zero_le (show 0 ≤ V by omega)
    have e1 := Lib.hid (show xs.length = W * H by exact_mod_cast hp1)
    have eN : ((U : Int) * (V : Int)).toNat = U * V := by rw [← Int.natCast_mul]; exact Int.toNat_natCast _
    have HS := Lib.hid hS
    have HP := Lib.hid hP
    rw [eN]
    clear eN hp1 s5 s6 t5 t6 hP hS hT
    have EG : Hid (grid U (gDouble xs W H) (U * V) = lst (U * V) (gDoubleAt xs W H U)) := by
      exact lst_congr fun i _ => by simp [gDoubleAt]
    go_enter Try.func66, Try.ntmps66
    go_wp2_with fail
    refine (I_ValidMap W H a _ ca _ hn').mono ?_
    rintro e u0 ⟨rfl, g⟩
    have k : Gr w u0 := Gr.trans (by (try show Gr _ _); repeat (with_reducible first | exact Gr.refl _ | refine Gr.drewN ?_ _ | refine Gr.grew ?_ _ _ | refine Gr.alloc ?_ _ | refine Gr.drew ?_)) g
    rw [HP.out]
    have B0 := Lib.hid (Blk.gr (show Blk _ (w.heap.size) [.int .i64 W, .int .i64 H, .slice a xs.length ca] 30 from (by repeat (with_reducible first | assumption | exact Blk.atNew (by simp) | refine Blk.alloc ?_ _ | refine Blk.grew ?_ _ _ | refine Blk.drewN ?_ _ | refine Blk.drew ?_))) g)
    have B1 := Lib.hid (Blk.gr (show Blk _ (w.heap.size + 1) [.int .i64 0, .int .i64 0, .slice none 0 0] 30 from (by repeat (with_reducible first | assumption | exact Blk.atNew (by simp) | refine Blk.alloc ?_ _ | refine Blk.grew ?_ _ _ | refine Blk.drewN ?_ _ | refine Blk.drew ?_))) g)
    have G := Lib.hid k
    clear g k
    have p0_0 := B0.out.cellv 0
    have p0_1 := B0.out.cellv 1
    have p0_2 := B0.out.cellv 2
    go_wp2_with ((go_at_call 77; with_reducible refine (I_sizeOk _ _ _).mono ?_; rintro e w' ⟨rfl, hw⟩; (obtain rfl := hw.symm; rw [HS.out])))
    refine (I_mapOf U V (gDouble xs W H) 109 _ u0 (tells_DoubleMap W H U V _ ca a xs u0 ⟨B0.out.cellv 0, B0.out.cellv 1, B0.out.cellv 2, Fx.out.keep G.out.kp⟩ (by omega) (by omega) (by omega) (by omega) (by omega) (by omega) e1.out) (by omega) (by omega) (by omega) (by omega)).mono ?_
    rintro e un ⟨⟨v0, rfl, ho⟩, g⟩
    rw [EG.out] at ho
    obtain ⟨a1, c1, rfl, -, -⟩ := ho.sl' (U * V) (by simp)
    have Hb := Lib.hid B1.out.lt
    replace B1 := Lib.hid (B1.out.gr g)
    have Ho := Lib.hid ho
    have G1 := Lib.hid (G.out.trans g)
    have G0 := Lib.hid G.out.size
    clear ho g p0_0 p0_1 p0_2
    have q0 := B1.out.cellv 0
    have q1 := B1.out.cellv 1
    have q2 := B1.out.cellv 2
    have z0 := B1.out.frozen 0
    have z1 := B1.out.frozen 1
    have z2 := B1.out.frozen 2
    go_wp2
    refine bodyPost_ret (v := .tuple #[.agg #[.int .i64 U, .int .i64 V, .slice a1 (U * V) c1], .bool true]) (by simp [results, Try.results66, go_sem, gW, *]) rfl ⟨⟨_, rfl, ?_⟩, ?_⟩
    · have h := Ho.out
      have hb := Hb.out
      have h0 := G0.out
      show FOwn _ _ _ _ (lst (U * V) _)
      exact FOwn.base (B := u0.heap.size) (by repeat (with_reducible first | assumption | refine FOwn.setOther ?_ _ (by simp <;> omega))) h0
    · have h := G1.out
      exact (by repeat (with_reducible first | assumption | refine Gr.setCell ?_ (by simp <;> omega) _))
end Go.Proofs.Ytomlfdkcgaogcaa
