/- Contracts: how many rows one picture is off another. MAXREC -/
import Derived.Test.YtaidkokgafojeaaProg
import Derived.Test.YtaidkokgafojeaaC22
import Derived.Test.YtaidkokgafojeaaC25
import Derived.Test.YtaidkokgafojeaaC28
namespace Go.Proofs.Ytaidkokgafojeaa
open Go.RowKit Go.Fx Go.Soft
/-- The sum of n numbers, from +0 on. -/
def gSumTo (f : Nat → Nat) : Nat → Nat
  | 0 => 0
  | n + 1 => fop .add .f32 (gSumTo f n) (f n)
theorem gSumTo_up (f : Nat → Nat) : ∀ n, Up (gSumTo (fun i => gAbs (f i)) n)
  | 0 => Up.zero
  | n + 1 => (gSumTo_up f n).add (Up.abs _)
def gNeg (x : Nat) : Nat := if fcmp .lss .f32 x 0 then fneg .f32 x else x
theorem gSumTo_neg (f : Nat → Nat) (hf : ∀ i, f i < 2 ^ 32 ∧ cz .f32 (f i) = f i) : ∀ n, gSumTo (fun i => gNeg (f i)) n = gSumTo (fun i => gAbs (f i)) n
  | 0 => rfl
  | n + 1 => by
    have ih := gSumTo_neg f hf n
    show fop .add .f32 (gSumTo _ n) (gNeg (f n)) = fop .add .f32 (gSumTo _ n) (gAbs (f n))
    rw [ih]
    rcases neg_abs (hf n).1 (hf n).2 with h | ⟨_, h1, h2⟩
    · unfold gNeg; rw [h]
    · unfold gNeg; rw [h1, h2]; exact add_negzero (gSumTo_up f n)
theorem fop_canon (op : BinOp) (x y : Nat) (hop : arith op = true) : fop op .f32 x y < 2 ^ 32 ∧ cz .f32 (fop op .f32 x y) = fop op .f32 x y := by
  refine ⟨?_, cz_fop _ _ _ _⟩
  have h : fop op .f32 x y = fop op .f32 x y := rfl
  unfold fop
  cases hb : floatBits op .f32 x y with
  | none => rw [Option.getD_none]; decide
  | some r =>
    rw [Option.getD_some]
    have := floatBits_wf hb
    simp [Lit.wf] at this
    unfold cz
    split
    · decide
    · exact this
/-- What stands against what, k rows off. -/
def gDiff (xs ys : List Nat) (W H : Nat) (k : Int) (i : Nat) : Nat :=
  fop .sub .f32 (xs.getD (clampN ((i % W : Nat) : Int) W + W * clampN ((i / W : Nat) : Int) H) 0) (ys.getD (clampN ((i % W : Nat) : Int) W + W * clampN (((i / W : Nat) : Int) + k) H) 0)
def gRowSum (xs ys : List Nat) (W H : Nat) (k : Int) : Nat := gSumTo (fun i => gAbs (gDiff xs ys W H k i)) (W * H)
set_option maxRecDepth 20000 in
set_option maxHeartbeats 400000 in
theorem S_l00Max (a b : Int) (w : World) :
    Calls Try.prog 95 #[.int .i64 a, .int .i64 b] w fun e w' => e = .returned (.int .i64 (max a b)) ∧ w' = w := by
  by_cases h : b < a
  all_goals
    go_enter Try.func95, Try.ntmps95
    go_wp2
    go_ret
    exact ⟨congrArg (fun z : Int => Ending.returned (.int .i64 z)) (by omega), rfl⟩
end Go.Proofs.Ytaidkokgafojeaa
