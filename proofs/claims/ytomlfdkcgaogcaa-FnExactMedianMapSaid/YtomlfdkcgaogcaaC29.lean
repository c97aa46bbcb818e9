/- Contracts: how many rows one picture is off another. MAXREC -/
import Derived.Test.YtomlfdkcgaogcaaProg
import Derived.Test.YtomlfdkcgaogcaaC22
import Derived.Test.YtomlfdkcgaogcaaC25
import Derived.Test.YtomlfdkcgaogcaaC28
namespace Go.Proofs.Ytomlfdkcgaogcaa
open Go.RowKit Go.Fx Go.Soft
/-- The sum of n numbers, from +0 on. -/
def gSumTo (f : Nat → Nat) : Nat → Nat
  | 0 => 0
  | n + 1 => fop .add .f32 (gSumTo f n) (f n)
theorem gSumTo_up (f : Nat → Nat) : ∀ n, Up (gSumTo (fun i => gAbs (f i)) n)
  | 0 => Up.zero
  | n + 1 => (gSumTo_up f n).add (Up.abs _)
def gNeg (x : Nat) : Nat := if fcmp .lss .f32 x 0 then fneg .f32 x else x
theorem gSumTo_neg (f : Nat → Nat) (hf : ∀ i, f i < 2 ^ 32 ∧ cz .f32 (f i) = f i) : ∀ n, gSumTo (fun i => gNeg (f i)) n = gSumTo (fun i => gAbs (f i)) n
  | 0 => rfl
  | n + 1 => by
    have ih := gSumTo_neg f hf n
    show fop .add .f32 (gSumTo _ n) (gNeg (f n)) = fop .add .f32 (gSumTo _ n) (gAbs (f n))
    rw [ih]
    rcases neg_abs (hf n).1 (hf n).2 with h | ⟨_, h1, h2⟩
    · unfold gNeg; rw [h]
    · unfold gNeg; rw [h1, h2]; exact add_negzero (gSumTo_up f n)
theorem fop_canon (op : BinOp) (x y : Nat) (hop : arith op = true) : fop op .f32 x y < 2 ^ 32 ∧ cz .f32 (fop op .f32 x y) = fop op .f32 x y := by
  refine ⟨?_, cz_fop _ _ _ _⟩
  have h : fop op .f32 x y = fop op .f32 x y := rfl
  unfold fop
  cases hb : floatBits op .f32 x y with
  | none => rw [Option.getD_none]; decide
  | some r =>
    rw [Option.getD_some]
    have := floatBits_wf hb
    simp [Lit.wf] at this
    unfold cz
    split
    · decide
    · exact this
/-- What stands against what, k rows off. -/
def gDiff (xs ys : List Nat) (W H : Nat) (k : Int) (i : Nat) : Nat :=
  fop .sub .f32 (xs.getD (clampN ((i % W : Nat) : Int) W + W * clampN ((i / W : Nat) : Int) H) 0) (ys.getD (clampN ((i % W : Nat) : Int) W + W * clampN (((i / W : Nat) : Int) + k) H) 0)
def gRowSum (xs ys : List Nat) (W H : Nat) (k : Int) : Nat := gSumTo (fun i => gAbs (gDiff xs ys W H k i)) (W * H)
set_option maxRecDepth 20000 in
set_option maxHeartbeats 400000 in
theorem S_l00Max (a b : Int) (w : World) :
    Calls Try.prog 112 #[.int .i64 a, .int .i64 b] w fun e w' => e = .returned (.int .i64 (max a b)) ∧ w' = w := by
  by_cases h : b < a
  all_goals
    go_enter Try.func112, Try.ntmps112
    go_wp2
    go_ret
    exact ⟨congrArg (fun z : Int => Ending.returned (.int .i64 z)) (by omega), rfl⟩
theorem max_min_clamp (x : Int) (W : Nat) (h : 1 ≤ W) : max 0 (min ((W : Int) - 1) x) = ((clampN x W : Nat) : Int) := by unfold clampN; omega
set_option maxRecDepth 20000 in
set_option maxHeartbeats 1000000 in
theorem S_l02At (W H b : Nat) (x y : Int) (a : Option Addr) (cap : Nat) (xs : List Nat) (w : World) (hm : MP w b W H a xs.length cap xs) (hW0 : 1 ≤ W) (hH0 : 1 ≤ H) (hW : W ≤ 24) (hH : H ≤ 24) (hn : xs.length = W * H) :
    Calls Try.prog 127 #[.pointer (some ⟨b, 0, none⟩), .int .i64 x, .int .i64 y] w fun e w' => ∃ r, e = .returned (.float .f32 r) ∧ FE .f32 r (xs.getD (clampN x W + W * clampN y H) 0) ∧ ∃ n, w' = w.drewN n := by
  have hu := clampN_lt (n := x) hW0
  have hv := clampN_lt (n := y) hH0
  have N1 := Lib.hid (fun w => S_l00Min ((W : Int) - 1) x w)
  have N2 := Lib.hid (fun w => S_l00Min ((H : Int) - 1) y w)
  have C1 := Lib.hid (fun w => S_l00Max 0 (min ((W : Int) - 1) x) w)
  have C2 := Lib.hid (fun w => S_l00Max 0 (min ((H : Int) - 1) y) w)
  rw [max_min_clamp x W hW0] at C1
  rw [max_min_clamp y H hH0] at C2
  generalize min ((W : Int) - 1) x = m1 at *
  generalize min ((H : Int) - 1) y = m2 at *
  generalize clampN x W = u at *
  generalize clampN y H = v at *
  obtain ⟨e1, e2⟩ := wrap_cell (W := W) (x := u) (y := v) (by omega) hW (by omega)
  have w1 : IntKind.i64.wrap ((W : Int) - 1) = (W : Int) - 1 := IntWalk.i64_in _ (by omega)
  have w2 : IntKind.i64.wrap ((H : Int) - 1) = (H : Int) - 1 := IntWalk.i64_in _ (by omega)
  have hl : u + W * v < xs.length := by rw [hn]; exact cell_lt hu hv
  have h24 : W * H ≤ 576 := Nat.mul_le_mul hW hH
  have c0 := hm.c0
  have c1 := hm.c1
  have c2 := hm.c2
  obtain ⟨b', off, rfl⟩ := hm.fs.ptr (by omega)
  obtain ⟨r, hc, hr⟩ := hm.fs.get (u + W * v) hl
  clear hm
  go_enter Try.func127, Try.ntmps127
  go_wp2_with (first
      | (go_at_call 84; refine (N1.out _).mono ?_; rintro e w' ⟨rfl, rfl⟩)
      | (go_at_call 112; refine (C1.out _).mono ?_; rintro e w' ⟨rfl, rfl⟩))
  apply region_drew 21
  case hm => kernel_rfl
  case hB => kernel_rfl
  simp only [List.take_succ_cons, List.take_zero, List.drop_succ_cons, List.drop_zero]
  repeat (first
    | ((with_reducible apply wpSoft_calleq (f := 84)); (case hw => rfl); (case hc => exact Try.call84); (case hv => ((conv => lhs; simp [Act.eval]); try rfl)); (case hS => (rintro _ ⟨m, rfl⟩; refine (N2.out _).mono ?_; rintro e w' ⟨rfl, rfl⟩; exact ⟨rfl, _, rfl⟩)); (simp only [Act.put, List.setIfInBounds_toArray, List.set_cons_succ, List.set_cons_zero]))
    | ((with_reducible apply wpSoft_calleq (f := 112)); (case hw => rfl); (case hc => exact Try.call112); (case hv => ((conv => lhs; simp [Act.eval]); try rfl)); (case hS => (rintro _ ⟨m, rfl⟩; refine (C2.out _).mono ?_; rintro e w' ⟨rfl, rfl⟩; exact ⟨rfl, _, rfl⟩)); (simp only [Act.put, List.setIfInBounds_toArray, List.set_cons_succ, List.set_cons_zero]))
    | (apply wpSoft_skip rfl; simp only [Act.put, List.setIfInBounds_toArray, List.set_cons_succ, List.set_cons_zero])
    | (apply wpSoft_nilCheck rfl rfl; simp only [Act.put, List.setIfInBounds_toArray, List.set_cons_succ, List.set_cons_zero])
    | ((with_reducible apply wpSoft_fop); (case hw => rfl); (case hD => exact closed_drew); (case hop => rfl); (case hx => rfl); (case hy => rfl); (case hA => (first | assumption | exact FE.ofInt _ _ | exact FE.lit (by decide +kernel))); (case hB => (first | assumption | exact FE.ofInt _ _ | exact FE.lit (by decide +kernel))); (intro r hr; simp only [Act.put, List.setIfInBounds_toArray, List.set_cons_succ, List.set_cons_zero]))

    | ((with_reducible apply wpSoft_widen); (case hw => rfl); (case hD => exact closed_drew); (case hs => exact Try.underlying25); (case hd => exact Try.underlying61); (case hx => rfl); (case hA => (first | assumption | exact FE.ofInt _ _ | exact FE.lit (by decide +kernel))); (intro r hr; simp only [Act.put, List.setIfInBounds_toArray, List.set_cons_succ, List.set_cons_zero]))
    | ((with_reducible apply wpSoft_fneg); (case hw => rfl); (case hx => rfl); (case hA => (first | assumption | exact FE.ofInt _ _ | exact FE.lit (by decide +kernel))); (intro r hr; simp only [Act.put, List.setIfInBounds_toArray, List.set_cons_succ, List.set_cons_zero]))
    | ((with_reducible apply wpSoft_fcmp); (case hw => rfl); (case hop => rfl); (case hx => rfl); (case hy => rfl); (case hA => (first | assumption | exact FE.ofInt _ _ | exact FE.lit (by decide +kernel))); (case hB => (first | assumption | exact FE.ofInt _ _ | exact FE.lit (by decide +kernel))); (case hb => (first | assumption | rfl)); simp only [Act.put, List.setIfInBounds_toArray, List.set_cons_succ, List.set_cons_zero])
    | (apply wpSoft_q rfl rfl; intro K hK; go_big_quiet_op; go_big_quiet_on))
  with_reducible apply wpSoft_nil
  intro m
  go_wp2
  go_ret
  exact ⟨_, rfl, hr, (by first | exact ⟨0, rfl⟩ | exact ⟨_, rfl⟩)⟩
end Go.Proofs.Ytomlfdkcgaogcaa
