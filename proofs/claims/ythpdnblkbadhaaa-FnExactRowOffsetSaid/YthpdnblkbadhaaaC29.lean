/- Contracts: how many rows one picture is off another. MAXREC -/
import Derived.Test.YthpdnblkbadhaaaProg
import Derived.Test.YthpdnblkbadhaaaC22
import Derived.Test.YthpdnblkbadhaaaC25
import Derived.Test.YthpdnblkbadhaaaC28
namespace Go.Proofs.Ythpdnblkbadhaaa
open Go.RowKit Go.Fx Go.Soft
/-- The sum of n numbers, from +0 on. -/
def gSumTo (f : Nat → Nat) : Nat → Nat
  | 0 => 0
  | n + 1 => fop .add .f32 (gSumTo f n) (f n)
theorem gSumTo_up (f : Nat → Nat) : ∀ n, Up (gSumTo (fun i => gAbs (f i)) n)
  | 0 => Up.zero
  | n + 1 => (gSumTo_up f n).add (Up.abs _)
def gNeg (x : Nat) : Nat := if fcmp .lss .f32 x 0 then fneg .f32 x else x
theorem gSumTo_neg (f : Nat → Nat) (hf : ∀ i, f i < 2 ^ 32 ∧ cz .f32 (f i) = f i) : ∀ n, gSumTo (fun i => gNeg (f i)) n = gSumTo (fun i => gAbs (f i)) n
  | 0 => rfl
  | n + 1 => by
    have ih := gSumTo_neg f hf n
    show fop .add .f32 (gSumTo _ n) (gNeg (f n)) = fop .add .f32 (gSumTo _ n) (gAbs (f n))
    rw [ih]
    rcases neg_abs (hf n).1 (hf n).2 with h | ⟨_, h1, h2⟩
    · unfold gNeg; rw [h]
    · unfold gNeg; rw [h1, h2]; exact add_negzero (gSumTo_up f n)
theorem fop_canon (op : BinOp) (x y : Nat) (hop : arith op = true) : fop op .f32 x y < 2 ^ 32 ∧ cz .f32 (fop op .f32 x y) = fop op .f32 x y := by
  refine ⟨?_, cz_fop _ _ _ _⟩
  have h : fop op .f32 x y = fop op .f32 x y := rfl
  unfold fop
  cases hb : floatBits op .f32 x y with
  | none => rw [Option.getD_none]; decide
  | some r =>
    rw [Option.getD_some]
    have := floatBits_wf hb
    simp [Lit.wf] at this
    unfold cz
    split
    · decide
    · exact this
/-- What stands against what, k rows off. -/
def gDiff (xs ys : List Nat) (W H : Nat) (k : Int) (i : Nat) : Nat :=
  fop .sub .f32 (xs.getD (clampN ((i % W : Nat) : Int) W + W * clampN ((i / W : Nat) : Int) H) 0) (ys.getD (clampN ((i % W : Nat) : Int) W + W * clampN (((i / W : Nat) : Int) + k) H) 0)
def gRowSum (xs ys : List Nat) (W H : Nat) (k : Int) : Nat := gSumTo (fun i => gAbs (gDiff xs ys W H k i)) (W * H)
set_option maxRecDepth 20000 in
set_option maxHeartbeats 400000 in
theorem S_l00Max (a b : Int) (w : World) :
    Calls Try.prog 144 #[.int .i64 a, .int .i64 b] w fun e w' => e = .returned (.int .i64 (max a b)) ∧ w' = w := by
  by_cases h : b < a
  all_goals
    go_enter Try.func144, Try.ntmps144
    go_wp2
    go_ret
    exact ⟨congrArg (fun z : Int => Ending.returned (.int .i64 z)) (by omega), rfl⟩
theorem max_min_clamp (x : Int) (W : Nat) (h : 1 ≤ W) : max 0 (min ((W : Int) - 1) x) = ((clampN x W : Nat) : Int) := by unfold clampN; omega
set_option maxRecDepth 20000 in
set_option maxHeartbeats 1000000 in
theorem S_l02At (W H b : Nat) (x y : Int) (a : Option Addr) (cap : Nat) (xs : List Nat) (w : World) (hm : MP w b W H a xs.length cap xs) (hW0 : 1 ≤ W) (hH0 : 1 ≤ H) (hW : W ≤ 24) (hH : H ≤ 24) (hn : xs.length = W * H) :
    Calls Try.prog 129 #[.pointer (some ⟨b, 0, none⟩), .int .i64 x, .int .i64 y] w fun e w' => ∃ r, e = .returned (.float .f32 r) ∧ FE .f32 r (xs.getD (clampN x W + W * clampN y H) 0) ∧ ∃ n, w' = w.drewN n := by
  have hu := clampN_lt (n := x) hW0
  have hv := clampN_lt (n := y) hH0
  have N1 := Lib.hid (fun w => S_l00Min ((W : Int) - 1) x w)
  have N2 := Lib.hid (fun w => S_l00Min ((H : Int) - 1) y w)
  have C1 := Lib.hid (fun w => S_l00Max 0 (min ((W : Int) - 1) x) w)
  have C2 := Lib.hid (fun w => S_l00Max 0 (min ((H : Int) - 1) y) w)
  rw [max_min_clamp x W hW0] at C1
  rw [max_min_clamp y H hH0] at C2
  generalize min ((W : Int) - 1) x = m1 at *
  generalize min ((H : Int) - 1) y = m2 at *
  generalize clampN x W = u at *
  generalize clampN y H = v at *
  obtain ⟨e1, e2⟩ := wrap_cell (W := W) (x := u) (y := v) (by omega) hW (by omega)
  have w1 : IntKind.i64.wrap ((W : Int) - 1) = (W : Int) - 1 := IntWalk.i64_in _ (by omega)
  have w2 : IntKind.i64.wrap ((H : Int) - 1) = (H : Int) - 1 := IntWalk.i64_in _ (by omega)
  have hl : u + W * v < xs.length := by rw [hn]; exact cell_lt hu hv
  have h24 : W * H ≤ 576 := Nat.mul_le_mul hW hH
  have c0 := hm.c0
  have c1 := hm.c1
  have c2 := hm.c2
  obtain ⟨b', off, rfl⟩ := hm.fs.ptr (by omega)
  obtain ⟨r, hc, hr⟩ := hm.fs.get (u + W * v) hl
  clear hm
  go_enter Try.func129, Try.ntmps129
  go_wp2_with (first
      | (go_at_call 128; refine (N1.out _).mono ?_; rintro e w' ⟨rfl, rfl⟩)
      | (go_at_call 144; refine (C1.out _).mono ?_; rintro e w' ⟨rfl, rfl⟩))
  apply region_drew 21
  case hm => kernel_rfl
  case hB => kernel_rfl
  simp only [List.take_succ_cons, List.take_zero, List.drop_succ_cons, List.drop_zero]
  repeat (first
    | ((with_reducible apply wpSoft_calleq (f := 128)); (case hw => rfl); (case hc => exact Try.call128); (case hv => ((conv => lhs; simp [Act.eval]); try rfl)); (case hS => (rintro _ ⟨m, rfl⟩; refine (N2.out _).mono ?_; rintro e w' ⟨rfl, rfl⟩; exact ⟨rfl, _, rfl⟩)); (simp only [Act.put, List.setIfInBounds_toArray, List.set_cons_succ, List.set_cons_zero]))
    | ((with_reducible apply wpSoft_calleq (f := 144)); (case hw => rfl); (case hc => exact Try.call144); (case hv => ((conv => lhs; simp [Act.eval]); try rfl)); (case hS => (rintro _ ⟨m, rfl⟩; refine (C2.out _).mono ?_; rintro e w' ⟨rfl, rfl⟩; exact ⟨rfl, _, rfl⟩)); (simp only [Act.put, List.setIfInBounds_toArray, List.set_cons_succ, List.set_cons_zero]))
    | (apply wpSoft_skip rfl; simp only [Act.put, List.setIfInBounds_toArray, List.set_cons_succ, List.set_cons_zero])
    | (apply wpSoft_nilCheck rfl rfl; simp only [Act.put, List.setIfInBounds_toArray, List.set_cons_succ, List.set_cons_zero])
    | ((with_reducible apply wpSoft_fop); (case hw => rfl); (case hD => exact closed_drew); (case hop => rfl); (case hx => rfl); (case hy => rfl); (case hA => (first | assumption | exact FE.ofInt _ _ | exact FE.lit (by decide +kernel))); (case hB => (first | assumption | exact FE.ofInt _ _ | exact FE.lit (by decide +kernel))); (intro r hr; simp only [Act.put, List.setIfInBounds_toArray, List.set_cons_succ, List.set_cons_zero]))

    | ((with_reducible apply wpSoft_widen); (case hw => rfl); (case hD => exact closed_drew); (case hs => exact Try.underlying37); (case hd => exact Try.underlying63); (case hx => rfl); (case hA => (first | assumption | exact FE.ofInt _ _ | exact FE.lit (by decide +kernel))); (intro r hr; simp only [Act.put, List.setIfInBounds_toArray, List.set_cons_succ, List.set_cons_zero]))
    | ((with_reducible apply wpSoft_fneg); (case hw => rfl); (case hx => rfl); (case hA => (first | assumption | exact FE.ofInt _ _ | exact FE.lit (by decide +kernel))); (intro r hr; simp only [Act.put, List.setIfInBounds_toArray, List.set_cons_succ, List.set_cons_zero]))
    | ((with_reducible apply wpSoft_fcmp); (case hw => rfl); (case hop => rfl); (case hx => rfl); (case hy => rfl); (case hA => (first | assumption | exact FE.ofInt _ _ | exact FE.lit (by decide +kernel))); (case hB => (first | assumption | exact FE.ofInt _ _ | exact FE.lit (by decide +kernel))); (case hb => (first | assumption | rfl)); simp only [Act.put, List.setIfInBounds_toArray, List.set_cons_succ, List.set_cons_zero])
    | (apply wpSoft_q rfl rfl; intro K hK; go_big_quiet_op; go_big_quiet_on))
  with_reducible apply wpSoft_nil
  intro m
  go_wp2
  go_ret
  exact ⟨_, rfl, hr, (by first | exact ⟨0, rfl⟩ | exact ⟨_, rfl⟩)⟩
set_option maxRecDepth 20000 in
set_option maxHeartbeats 2000000 in
theorem S_l06Rows (W H b1 b2 c1 c2 : Nat) (k : Int) (a b : Option Addr) (xs ys : List Nat) (w : World) (m1 : MP w b1 W H a xs.length c1 xs) (m2 : MP w b2 W H b ys.length c2 ys) (hW0 : 1 ≤ W) (hH0 : 1 ≤ H) (hW : W ≤ 24) (hH : H ≤ 24) (hk1 : -8 ≤ k) (hk2 : k ≤ 8) (hn : xs.length = W * H) (hm : ys.length = W * H) :
    Calls Try.prog 95 #[.pointer (some ⟨b1, 0, none⟩), .pointer (some ⟨b2, 0, none⟩), .int .i64 k] w fun e w' => ∃ r, e = .returned (.float .f32 r) ∧ FE .f32 r (gRowSum xs ys W H k) ∧ ∃ n, w' = w.drewN n := by
  have ES := gSumTo_neg (gDiff xs ys W H k) (fun i => fop_canon _ _ _ rfl) (W * H)
  have HS := Lib.hid (show gRowSum xs ys W H k = gSumTo (fun i => gNeg (gDiff xs ys W H k i)) (W * H) from ES.symm)
  clear ES
  have c0 := m1.c0
  have c1' := m1.c1
  have M1 := Lib.hid m1
  have M2 := Lib.hid m2
  have Hn := Lib.hid hn
  have Hm := Lib.hid hm
  have h0 := FE0
  clear m1 m2 hn hm
  go_enter Try.func95, Try.ntmps95
  go_wp2
  go_loopw [7, 8] (fun s i wr => ∃ (y r : Nat), y ≤ H ∧ i = .int .i64 y ∧ s = .float .f32 r ∧ FE .f32 r (gSumTo (fun i => gNeg (gDiff xs ys W H k i)) (0 + W * y)) ∧ ∃ n, wr = w.drewN n) (fun _ i _ => H - (intOf i).toNat)
  case atStart => exact ⟨0, 0, Nat.zero_le _, rfl, rfl, h0, (by first | exact ⟨0, rfl⟩ | exact ⟨_, rfl⟩)⟩
  case round =>
    obtain ⟨y, r, hy, rfl, rfl, hr, n, rfl⟩ := hrel
    by_cases hlt : y < H
    · have Hr := Lib.hid hr
      clear hr
      go_wp2
      go_loopw [7, 9] (fun s i wr => ∃ (x r : Nat), x ≤ W ∧ i = .int .i64 x ∧ s = .float .f32 r ∧ FE .f32 r (gSumTo (fun i => gNeg (gDiff xs ys W H k i)) (x + W * y)) ∧ ∃ n, wr = w.drewN n) (fun _ i _ => W - (intOf i).toNat)
      case atStart => exact ⟨0, _, Nat.zero_le _, rfl, rfl, Hr.out, (by first | exact ⟨0, rfl⟩ | exact ⟨_, rfl⟩)⟩
      case round =>
        clear Hr
        obtain ⟨x, r', hx, rfl, rfl, hr, n', rfl⟩ := hrel
        by_cases hxt : x < W
        · have eD : gDiff xs ys W H k (x + W * y) = fop .sub .f32 (xs.getD (clampN (x : Int) W + W * clampN (y : Int) H) 0) (ys.getD (clampN (x : Int) W + W * clampN ((y : Int) + k) H) 0) := by
            unfold gDiff; rw [mod_of hxt, div_of hxt]
          have eS : gSumTo (fun i => gNeg (gDiff xs ys W H k i)) (x + 1 + W * y) = fop .add .f32 (gSumTo (fun i => gNeg (gDiff xs ys W H k i)) (x + W * y)) (gNeg (gDiff xs ys W H k (x + W * y))) := by
            rw [show x + 1 + W * y = (x + W * y) + 1 by omega]; rfl
          rw [eD] at eS
          have HA1 := Lib.hid (fun (n : Nat) => S_l02At W H b1 (x : Int) (y : Int) a c1 xs (w.drewN n) (M1.out.gr (gr_drewN w n)) hW0 hH0 hW hH Hn.out)
          have HA2 := Lib.hid (fun (n : Nat) => S_l02At W H b2 (x : Int) ((y : Int) + k) b c2 ys (w.drewN n) (M2.out.gr (gr_drewN w n)) hW0 hH0 hW hH Hm.out)
          generalize xs.getD (clampN (x : Int) W + W * clampN (y : Int) H) 0 = p at *
          generalize ys.getD (clampN (x : Int) W + W * clampN ((y : Int) + k) H) 0 = q at *
          generalize gSumTo (fun i => gNeg (gDiff xs ys W H k i)) (x + W * y) = S at *
          have wk : IntKind.i64.wrap ((y : Int) + k) = (y : Int) + k := IntWalk.i64_in _ (by omega)
          clear eD
          cases hl : fcmp .lss .f32 (fop .sub .f32 p q) 0
          all_goals
            have ES := Lib.hid (eS.trans (by unfold gNeg; simp only [hl, if_true]; rfl))
            clear eS
            go_wp2_with (first
      | (go_at_call 129; with_reducible refine (HA1.out _).mono ?_; rintro e w' ⟨r1, rfl, hr1, n1, rfl⟩)
      | (go_at_call 129; with_reducible refine (HA2.out _).mono ?_; rintro e w' ⟨r2, rfl, hr2, n2, rfl⟩)
      | ((with_reducible apply wpList_fop); (case hw => rfl); (case hop => rfl); (case hx => rfl); (case hy => rfl); (case hA => (first | assumption | exact FE.ofInt _ _ | exact FE.lit (by decide +kernel))); (case hB => (first | assumption | exact FE.ofInt _ _ | exact FE.lit (by decide +kernel))); intro r n hr)
      | ((with_reducible apply wpList_fcmp); (case hw => rfl); (case hop => rfl); (case hx => rfl); (case hy => rfl); (case hA => (first | assumption | exact FE.ofInt _ _ | exact FE.lit (by decide +kernel))); (case hB => (first | assumption | exact FE.ofInt _ _ | exact FE.lit (by decide +kernel))); (case hb => (first | assumption | rfl)))
      | ((with_reducible apply wpList_widen); (case hw => rfl); (case hs => exact Try.underlying37); (case hd => exact Try.underlying63); (case hx => rfl); (case hA => (first | assumption | exact FE.ofInt _ _ | exact FE.lit (by decide +kernel))); intro r n hr)
      | ((with_reducible apply wpList_fneg); (case hw => rfl); (case hx => rfl); (case hA => (first | assumption | exact FE.ofInt _ _ | exact FE.lit (by decide +kernel))); intro r hr))
            go_roundw
            case rel => exact ⟨x + 1, _, by omega, by go_num, rfl, by rw [ES.out]; assumption, (by first | exact ⟨0, rfl⟩ | exact ⟨_, rfl⟩)⟩
            case measure => simp [intOf]; omega
        · obtain rfl : x = W := by omega
          have Hr := Lib.hid hr
          clear hr
          go_wp2
          go_roundw
          case rel => exact ⟨y + 1, _, by omega, by go_num, rfl, by rw [show 0 + x * (y + 1) = x + x * y by rw [Nat.mul_succ]; omega]; exact Hr.out, (by first | exact ⟨0, rfl⟩ | exact ⟨_, rfl⟩)⟩
          case measure => simp [intOf]; omega
    · obtain rfl : y = H := by omega
      have Hr := Lib.hid hr
      clear hr
      go_wp2
      go_ret
      exact ⟨_, rfl, by rw [HS.out, ← Nat.zero_add (W * y)]; exact Hr.out, (by first | exact ⟨0, rfl⟩ | exact ⟨_, rfl⟩)⟩
end Go.Proofs.Ythpdnblkbadhaaa
