/- Plain laws: float32 numbers in order. -/
import Derived.Test.YtaidkokgafojeaaFa
namespace Go.Fx
open Go

/-- Where a float32 stands among all, in units of the last place of all; infinity stands behind all. -/
def fkey (x : Nat) : Int := match Ieee.single.read x with
  | .number s m e => (if s then -(m : Int) else (m : Int)) * ((2 ^ (e + 149).toNat : Nat) : Int)
  | .infinity s => if s then -((16 ^ 100 : Nat) : Int) else ((16 ^ 100 : Nat) : Int)
  | .nan _ _ => 0
theorem fkey_number {x : Nat} {s : Bool} {m : Nat} {e : Int} (h : Ieee.single.read x = .number s m e) : fkey x = (if s then -(m : Int) else (m : Int)) * ((2 ^ (e + 149).toNat : Nat) : Int) := by
  unfold fkey; rw [h]
theorem fkey_inf {x : Nat} {s : Bool} (h : Ieee.single.read x = .infinity s) : fkey x = if s then -((16 ^ 100 : Nat) : Int) else ((16 ^ 100 : Nat) : Int) := by
  unfold fkey; rw [h]
theorem fkey_small {x : Nat} {s : Bool} {m : Nat} {e : Int} (h : Ieee.single.read x = .number s m e) : -((16 ^ 100 : Nat) : Int) < fkey x ∧ fkey x < ((16 ^ 100 : Nat) : Int) := by
  obtain ⟨hm, h1, h2⟩ := single_read_number h
  rw [fkey_number h]
  have hp : 2 ^ (e + 149).toNat ≤ 2 ^ 253 := Nat.pow_le_pow_right (by omega) (by omega)
  have hq : m * 2 ^ (e + 149).toNat < 16 ^ 100 := by
    have h1 : m * 2 ^ (e + 149).toNat ≤ 2 ^ 24 * 2 ^ 253 := Nat.mul_le_mul (by omega) hp
    exact Nat.lt_of_le_of_lt h1 (by decide +kernel)
  have hq' : (m : Int) * ((2 ^ (e + 149).toNat : Nat) : Int) < ((16 ^ 100 : Nat) : Int) := by rw [← Int.natCast_mul]; exact Int.ofNat_lt.2 hq
  have h0 : (0 : Int) ≤ (m : Int) * ((2 ^ (e + 149).toNat : Nat) : Int) := Int.mul_nonneg (Int.natCast_nonneg _) (Int.natCast_nonneg _)
  have hb : (0 : Int) < ((16 ^ 100 : Nat) : Int) := Int.ofNat_lt.2 (Nat.pow_pos (by decide))
  generalize ((16 ^ 100 : Nat) : Int) = B at *
  cases s
  · simp only [Bool.false_eq_true, if_false]; omega
  · simp only [if_true, Int.neg_mul]; omega
theorem not_nan_of {x : Nat} {s : Bool} {t : Nat} (h : Ieee.single.read x = .nan s t) (hn : isN .f32 x = false) : False := by
  have : isN .f32 x = true := by unfold isN; show (Ieee.single.read x).isNaN = true; rw [h]; rfl
  rw [hn] at this; cases this
/-- Two numbers that are no NaN stand to each other as their places do. -/
theorem order_key {x y : Nat} (hx : isN .f32 x = false) (hy : isN .f32 y = false) : Ieee.single.order x y = some (compare (fkey x) (fkey y)) := by
  have hb : (0 : Int) < ((16 ^ 100 : Nat) : Int) := Int.ofNat_lt.2 (Nat.pow_pos (by decide))
  unfold Ieee.Format.order
  cases hrx : Ieee.single.read x with
  | nan s t => exact (not_nan_of hrx hx).elim
  | infinity s =>
    cases hry : Ieee.single.read y with
    | nan s t => exact (not_nan_of hry hy).elim
    | infinity t =>
      rw [fkey_inf hrx, fkey_inf hry]
      generalize ((16 ^ 100 : Nat) : Int) = B at *
      cases s <;> cases t
      · show some (compare 0 0) = _; simp
      · show some (compare 1 0) = _
        have : compare B (-B) = .gt := Int.compare_eq_gt.2 (by omega)
        simp only [Bool.false_eq_true, if_false, if_true, this]; rfl
      · show some (compare 0 1) = _
        have : compare (-B) B = .lt := Int.compare_eq_lt.2 (by omega)
        simp only [Bool.false_eq_true, if_false, if_true, this]; rfl
      · show some (compare 1 1) = _; simp
    | number t n j =>
      have hk := fkey_small hry
      rw [fkey_inf hrx]
      generalize ((16 ^ 100 : Nat) : Int) = B at *
      cases s
      · have : compare B (fkey y) = .gt := Int.compare_eq_gt.2 (by omega)
        simp only [Bool.false_eq_true, if_false, this]; rfl
      · have : compare (-B) (fkey y) = .lt := Int.compare_eq_lt.2 (by omega)
        simp only [if_true, this]; rfl
  | number s m i =>
    cases hry : Ieee.single.read y with
    | nan s t => exact (not_nan_of hry hy).elim
    | infinity t =>
      have hk := fkey_small hrx
      rw [fkey_inf hry]
      generalize ((16 ^ 100 : Nat) : Int) = B at *
      cases t
      · have : compare (fkey x) B = .lt := Int.compare_eq_lt.2 (by omega)
        simp only [Bool.false_eq_true, if_false, this]; rfl
      · have : compare (fkey x) (-B) = .gt := Int.compare_eq_gt.2 (by omega)
        simp only [if_true, this]; rfl
    | number t n j =>
      obtain ⟨-, hi, -⟩ := single_read_number hrx
      obtain ⟨-, hj, -⟩ := single_read_number hry
      rw [fkey_number hrx, fkey_number hry]
      unfold Ieee.Datum.order
      simp only [signed_eq]
      refine congrArg some ?_
      have hm1 : min i j ≤ i := by omega
      have hm2 : min i j ≤ j := by omega
      have hm3 : -149 ≤ min i j := by omega
      generalize min i j = b at *
      have e1 : (i + 149).toNat = (i - b).toNat + (b + 149).toNat := by omega
      have e2 : (j + 149).toNat = (j - b).toNat + (b + 149).toNat := by omega
      rw [e1, e2, Nat.pow_add, Nat.pow_add, Int.natCast_mul, Int.natCast_mul, ← Int.mul_assoc, ← Int.mul_assoc]
      exact (compare_scale _ _ _ (Int.ofNat_lt.2 (Nat.two_pow_pos _))).symm
theorem lss_key {x y : Nat} (hx : isN .f32 x = false) (hy : isN .f32 y = false) : fcmp .lss .f32 x y = decide (fkey x < fkey y) := by
  unfold fcmp
  show (Ieee.single.order x y == some .lt) = _
  rw [order_key hx hy]
  by_cases h : fkey x < fkey y
  · rw [Int.compare_eq_lt.2 h, decide_eq_true h]; rfl
  · rw [decide_eq_false h]
    have h2 : ¬ compare (fkey x) (fkey y) = .lt := fun e => h (Int.compare_eq_lt.1 e)
    cases hc : compare (fkey x) (fkey y)
    · exact absurd hc h2
    · rfl
    · rfl
theorem lss_nan {x y : Nat} (h : isN .f32 x = true ∨ isN .f32 y = true) : fcmp .lss .f32 x y = false := by
  unfold fcmp
  show (Ieee.single.order x y == some .lt) = false
  rcases h with h | h
  · rw [show Ieee.single.order x y = none from order_nan_left (k := .f32) h]; rfl
  · rw [show Ieee.single.order x y = none from order_nan_right (k := .f32) h]; rfl
/-- What is not less, taken from what is not more: never the negative infinity. -/
theorem sub_not_neginf {x y : Nat} (hx : isN .f32 x = false) (hy : isN .f32 y = false) (h : fcmp .lss .f32 x y = false) : fop .sub .f32 x y ≠ 4286578688 := by
  have ho : Ieee.single.order x y ≠ some .lt := by
    intro e
    unfold fcmp at h
    have h' : (Ieee.single.order x y == some .lt) = false := h
    rw [e] at h'; cases h'
  have key : ∀ z, floatBits .sub .f32 x y = some z → z ≠ 4286578688 := by
    intro z hz
    have hz' : ((Ieee.single.read x).sum (Ieee.single.read y).opposite).map Ieee.single.write = some z := hz
    unfold Ieee.Format.order at ho
    cases hrx : Ieee.single.read x with
    | nan s t => exact (not_nan_of hrx hx).elim
    | infinity s =>
      cases hry : Ieee.single.read y with
      | nan s t => exact (not_nan_of hry hy).elim
      | infinity t =>
        rw [hrx, hry] at hz' ho
        cases s <;> cases t
        · simp [Ieee.Datum.opposite, Ieee.Datum.sum] at hz'
        · have : z = Ieee.single.write (.infinity false) := by
            simpa [Ieee.Datum.opposite, Ieee.Datum.sum] using hz'.symm
          rw [this]; decide
        · exact absurd rfl ho
        · simp [Ieee.Datum.opposite, Ieee.Datum.sum] at hz'
      | number t n j =>
        rw [hrx, hry] at hz' ho
        cases s
        · have : z = Ieee.single.write (.infinity false) := by
            simpa [Ieee.Datum.opposite, Ieee.Datum.sum] using hz'.symm
          rw [this]; decide
        · exact absurd rfl ho
    | number s m i =>
      cases hry : Ieee.single.read y with
      | nan s t => exact (not_nan_of hry hy).elim
      | infinity t =>
        rw [hrx, hry] at hz' ho
        cases t
        · exact absurd rfl ho
        · have : z = Ieee.single.write (.infinity false) := by
            simpa [Ieee.Datum.opposite, Ieee.Datum.sum] using hz'.symm
          rw [this]; decide
      | number t n j =>
        rw [hrx, hry] at hz' ho
        unfold Ieee.Datum.order at ho
        unfold Ieee.Datum.opposite Ieee.Datum.sum at hz'
        simp only [signed_eq, ne_eq, Option.some.injEq, Option.map_some] at hz' ho
        have ho' := fun hlt => ho (Int.compare_eq_lt.2 hlt)
        have en : (if (!t) = true then -(n : Int) else (n : Int)) = -(if t = true then -(n : Int) else (n : Int)) := by cases t <;> simp
        rw [en] at hz'
        generalize (if s = true then -(m : Int) else (m : Int)) * ((2 ^ (i - min i j).toNat : Nat) : Int) = A at *
        rw [Int.neg_mul] at hz'
        generalize (if t = true then -(n : Int) else (n : Int)) * ((2 ^ (j - min i j).toNat : Nat) : Int) = B at *
        have hge := Int.not_lt.1 ho'
        rw [← hz']
        show Ieee.single.nearest _ _ _ ≠ _
        by_cases h0 : A + -B = 0
        · rw [if_pos h0, h0]
          have hz0 : ∀ u : Bool, Ieee.single.nearest u (Int.natAbs 0) (min i j) = Ieee.single.word u 0 := fun u => by
            unfold Ieee.Format.nearest; rw [if_pos (by decide)]
          rw [hz0]
          cases s <;> cases t <;> decide
        · rw [if_neg h0, decide_eq_false (show ¬ A + -B < 0 by omega)]
          exact Nat.ne_of_lt (Nat.lt_trans (nearest_up (A + -B).natAbs (min i j)) (by decide))
  unfold fop
  cases hz : floatBits .sub .f32 x y with
  | none => decide
  | some z =>
    have := key z hz
    show cz .f32 z ≠ _
    unfold cz
    split
    · decide
    · exact this
/-- What is neither finite nor a NaN nor the negative infinity: the infinity. -/
theorem inf_law {m : Nat} (hlt : m < 2 ^ 32) (hm : m ≠ 4286578688) : (!(fcmp .eql .f32 (fop .sub .f32 m m) 0) && !(fcmp .neq .f32 m m)) = fcmp .eql .f32 m 2139095040 := by
  have hi : Ieee.single.read 2139095040 = .infinity false := by decide
  cases hr : Ieee.single.read m with
  | nan s t =>
    have hn : isN .f32 m = true := by unfold isN; show (Ieee.single.read m).isNaN = true; rw [hr]; rfl
    rw [fcmp_neq_nan hn]
    have : fcmp .eql .f32 m 2139095040 = false := by
      unfold fcmp; rw [order_nan_left hn]; rfl
    rw [this]; simp
  | infinity s =>
    obtain ⟨h1, h2⟩ := inf_bits hlt hr
    cases s
    · have : ¬ 2147483648 ≤ m := by simpa using h2.symm
      have hme : m = 2139095040 := by omega
      subst hme
      decide +kernel
    · have : 2147483648 ≤ m := by simpa using h2.symm
      omega
  | number s n e =>
    have hn := isN_false_of hr
    have hs : fop .sub .f32 m m = 0 := by
      have : floatBits .sub .f32 m m = some 0 := by
        show Ieee.single.sub m m = _
        unfold Ieee.Format.sub
        rw [hr]
        unfold Ieee.Datum.opposite Ieee.Datum.sum
        have en : (if (!s) = true then -(n : Int) else (n : Int)) = -(if s = true then -(n : Int) else (n : Int)) := by cases s <;> simp
        simp only [signed_eq, en, Int.neg_mul, Option.map_some]
        rw [Int.add_right_neg]
        cases s <;> rfl
      unfold fop; rw [this]; decide
    rw [hs]
    have h2 : fcmp .eql .f32 m 2139095040 = false := by
      unfold fcmp
      show (Ieee.single.order m 2139095040 == some .eq) = false
      unfold Ieee.Format.order
      rw [hr, hi]; rfl
    rw [h2, show fcmp .eql .f32 0 0 = true from by decide +kernel]
    rfl
theorem fop_can (op : BinOp) (x y : Nat) (hop : arith op = true) : fop op .f32 x y < 2 ^ 32 ∧ cz .f32 (fop op .f32 x y) = fop op .f32 x y := by
  refine ⟨?_, cz_fop _ _ _ _⟩
  unfold fop
  cases hb : floatBits op .f32 x y with
  | none => rw [Option.getD_none]; decide
  | some r =>
    rw [Option.getD_some]
    have := floatBits_wf hb
    simp [Lit.wf] at this
    unfold cz
    split
    · decide
    · exact this
end Go.Fx
