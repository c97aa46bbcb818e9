/- Contracts: rows that are filled from beside. MAXREC -/
import Derived.Test.YtaidkokgafojeaaProg
import Derived.Test.YtaidkokgafojeaaC15
namespace Go.Proofs.Ytaidkokgafojeaa
open Go.RowKit Go.Fx Go.Soft
/-- The nearest value that is no hole among n cells from i on; -1 without one. -/
def gFwd (xs : List Nat) : Nat → Nat → Nat
  | _, 0 => 3212836864
  | i, n + 1 => if gHole (xs.getD i 0) then gFwd xs (i + 1) n else xs.getD i 0
/-- The same among the n cells from b on, from the last one down. -/
def gBwd (xs : List Nat) (b : Nat) : Nat → Nat
  | 0 => 3212836864
  | n + 1 => if gHole (xs.getD (b + n) 0) then gBwd xs b n else xs.getD (b + n) 0
theorem gFwd_hole {xs : List Nat} {i n : Nat} (h : gHole (xs.getD i 0) = true) : gFwd xs i (n + 1) = gFwd xs (i + 1) n := by rw [gFwd, if_pos h]
theorem gFwd_num {xs : List Nat} {i n : Nat} (h : gHole (xs.getD i 0) = false) : gFwd xs i (n + 1) = xs.getD i 0 := by rw [gFwd, if_neg (by rw [h]; decide)]
theorem gBwd_hole {xs : List Nat} {b n : Nat} (h : gHole (xs.getD (b + n) 0) = true) : gBwd xs b (n + 1) = gBwd xs b n := by rw [gBwd, if_pos h]
theorem gBwd_num {xs : List Nat} {b n : Nat} (h : gHole (xs.getD (b + n) 0) = false) : gBwd xs b (n + 1) = xs.getD (b + n) 0 := by rw [gBwd, if_neg (by rw [h]; decide)]
def gFill (xs : List Nat) (W x y : Nat) : Nat :=
  if gHole (xs.getD (x + W * y) 0) then
    (if gHole (gBwd xs (W * y) x) || (!gHole (gFwd xs (x + W * y + 1) (W - 1 - x)) && fcmp .lss .f32 (gFwd xs (x + W * y + 1) (W - 1 - x)) (gBwd xs (W * y) x)) then gFwd xs (x + W * y + 1) (W - 1 - x) else gBwd xs (W * y) x)
  else xs.getD (x + W * y) 0
theorem gHas_in {W H x y : Nat} (hx : x < W) (hy : y < H) : gHas W H x y = true := by
  simp only [gHas, gIn, Bool.and_eq_true, decide_eq_true_eq]; omega
theorem gHas_right {W H : Nat} {x : Int} {y : Int} (hx : (W : Int) ≤ x) : gHas W H x y = false := by
  simp only [gHas, gIn, Bool.and_eq_false_iff, decide_eq_false_iff_not]; omega
theorem gHas_left {W H : Nat} {x : Int} {y : Int} (hx : x < 0) : gHas W H x y = false := by
  simp only [gHas, gIn, Bool.and_eq_false_iff, decide_eq_false_iff_not]; omega
theorem div_row {W y k : Nat} (h1 : W * y ≤ k) (h2 : k < W * y + W) : (k : Int) / (W : Int) = (y : Int) := by
  have e : k = (k - W * y) + W * y := by omega
  have e2 : k / W = y := by rw [e, div_of (by omega)]
  rw [← Int.natCast_ediv, e2]
theorem div_row_next {W y k : Nat} (h0 : 0 < W) (h1 : k = W * y + W) : (k : Int) / (W : Int) = (y : Int) + 1 := by
  have e := div_row (W := W) (y := y + 1) (k := k) (by rw [Nat.mul_succ]; omega) (by rw [Nat.mul_succ]; omega)
  simpa using e
end Go.Proofs.Ytaidkokgafojeaa
