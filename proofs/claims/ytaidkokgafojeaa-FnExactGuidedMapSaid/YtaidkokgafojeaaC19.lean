/- Contracts: maps of twice the size. MAXREC -/
import Derived.Test.YtaidkokgafojeaaProg
import Derived.Test.YtaidkokgafojeaaC15
namespace Go.Proofs.Ytaidkokgafojeaa
open Go.RowKit Go.Fx Go.Soft
/-- A place held between 0 and many - 1. -/
def clampN (n : Int) (many : Nat) : Nat := min n.toNat (many - 1)
theorem clampN_lt {n : Int} {many : Nat} (h : 1 ≤ many) : clampN n many < many := by unfold clampN; omega
theorem clampN_in {n many : Nat} (h : n < many) : clampN (n : Int) many = n := by unfold clampN; omega
def gDouble (xs : List Nat) (W H x y : Nat) : Nat :=
  if gHole (xs.getD (clampN (x / 2 : Int) W + W * clampN (y / 2 : Int) H) 0) then 3212836864 else fop .mul .f32 1073741824 (xs.getD (clampN (x / 2 : Int) W + W * clampN (y / 2 : Int) H) 0)
set_option maxRecDepth 20000 in
set_option maxHeartbeats 400000 in
theorem I_clamp (n : Int) (many : Nat) (w : World) (h1 : 1 ≤ many) (h2 : many ≤ 1048576) :
    Calls Try.prog 143 #[.int .i64 n, .int .i64 many] w fun e w' => e = .returned (.int .i64 (clampN n many)) ∧ w' = w := by
  have e1 : IntKind.i64.wrap ((many : Int) - 1) = (many : Int) - 1 := IntWalk.i64_in _ (by omega)
  rcases (show n < 0 ∨ (0 ≤ n ∧ n ≤ (many : Int) - 1) ∨ (many : Int) - 1 < n by omega) with c1 | ⟨c1, c2⟩ | c1
  all_goals
    go_enter Try.func143, Try.ntmps143
    go_wp2
  all_goals
    go_ret
    exact ⟨congrArg (fun z : Int => Ending.returned (.int .i64 z)) (by unfold clampN; omega), rfl⟩
set_option maxRecDepth 20000 in
set_option maxHeartbeats 400000 in
theorem S_l00Min (a b : Int) (w : World) :
    Calls Try.prog 96 #[.int .i64 a, .int .i64 b] w fun e w' => e = .returned (.int .i64 (min a b)) ∧ w' = w := by
  by_cases h : a < b
  all_goals
    go_enter Try.func96, Try.ntmps96
    go_wp2
    go_ret
    exact ⟨congrArg (fun z : Int => Ending.returned (.int .i64 z)) (by omega), rfl⟩
def gDoubleAt (xs : List Nat) (W H U : Int) (i : Nat) : Nat := gDouble xs W.toNat H.toNat (i % U.toNat) (i / U.toNat)
end Go.Proofs.Ytaidkokgafojeaa
