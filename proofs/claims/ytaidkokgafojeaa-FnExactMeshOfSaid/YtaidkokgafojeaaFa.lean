/- Plain laws: absolute values. -/
import Derived.Test.YtaidkokgafojeaaPl
namespace Go.Fx
open Go

theorem sg_sign : Ieee.single.signWeight = 2147483648 := by decide
theorem sg_binade : Ieee.single.binade = 8388608 := by decide
theorem sg_inf : Ieee.single.infRung = 2139095040 := by decide
theorem sg_least : Ieee.single.leastPlace = -149 := by decide
/-- A float32 without its sign. -/
def gAbs (x : Nat) : Nat := if isN .f32 x then qn .f32 else x % 2147483648
/-- The word of a number, its digits laid out from the last place of all on. -/
theorem nearest_rung {x : Nat} {s : Bool} {m : Nat} {e : Int} (h : Ieee.single.read x = .number s m e) (t : Bool) : ∃ k : Nat, e = -149 + (k : Int) ∧ Ieee.single.nearest t (m * 2 ^ k) (-149) = Ieee.single.word t (x % 2147483648) := by
  unfold Ieee.Format.read at h
  simp only [sg_sign, sg_binade, sg_inf, sg_least] at h
  have hr : x % 2147483648 < 2147483648 := Nat.mod_lt _ (by decide)
  generalize x % 2147483648 = r at *
  have hf : Ieee.single.fractionBits = 23 := rfl
  split at h
  · rename_i h1
    simp only [Ieee.Datum.number.injEq] at h
    obtain ⟨-, rfl, rfl⟩ := h
    refine ⟨0, by omega, ?_⟩
    rw [Nat.pow_zero, Nat.mul_one]
    unfold Ieee.Format.nearest
    by_cases h0 : r = 0
    · rw [if_pos h0, h0]
    · rw [if_neg h0]
      have hL : r.log2 < 23 := (Nat.log2_lt h0).2 h1
      simp only [sg_least, hf, sg_binade, sg_inf]
      have e1 : max ((-149 : Int) + (r.log2 : Int) - ((23 : Nat) : Int)) (-149) = -149 := by omega
      rw [e1]
      simp only [Int.sub_self, Int.toNat_zero, Nat.shiftLeft_zero, cut_zero, Nat.zero_mul, Nat.zero_add]
      rw [Nat.min_eq_left (by omega)]
  · split at h
    · rename_i h1 h2
      simp only [Ieee.Datum.number.injEq] at h
      obtain ⟨-, rfl, rfl⟩ := h
      refine ⟨r / 8388608 - 1, rfl, ?_⟩
      have hm1 : 2 ^ 23 ≤ 8388608 + r % 8388608 := by omega
      have hm2 : 8388608 + r % 8388608 < 2 ^ 24 := by have := Nat.mod_lt r (show 0 < 8388608 by decide); omega
      have hrr : (r / 8388608 - 1) * 8388608 + (8388608 + r % 8388608) = r := by omega
      generalize r / 8388608 - 1 = k at *
      generalize 8388608 + r % 8388608 = m at *
      have hpos := Nat.two_pow_pos k
      have h0 : m * 2 ^ k ≠ 0 := Nat.ne_of_gt (Nat.mul_pos (by omega) hpos)
      have hlog : (m * 2 ^ k).log2 = 23 + k := by
        apply Nat.le_antisymm
        · have : (m * 2 ^ k).log2 < 24 + k := (Nat.log2_lt h0).2 (by rw [Nat.pow_add]; exact Nat.mul_lt_mul_of_pos_right hm2 hpos)
          omega
        · rw [Nat.le_log2 h0, Nat.pow_add]
          exact Nat.mul_le_mul_right _ hm1
      unfold Ieee.Format.nearest
      rw [if_neg h0, hlog]
      simp only [sg_least, hf, sg_binade, sg_inf]
      have e1 : max ((-149 : Int) + ((23 + k : Nat) : Int) - ((23 : Nat) : Int)) (-149) = -149 + (k : Int) := by omega
      rw [e1]
      have e2 : ((-149 : Int) - (-149 + (k : Int))).toNat = 0 := by omega
      have e3 : ((-149 + (k : Int)) - (-149 : Int)).toNat = k := by omega
      rw [e2, e3, Nat.shiftLeft_zero, cut_exact, hrr, Nat.min_eq_left (by omega)]
    · split at h <;> cases h
theorem isN_false_of {x : Nat} {s : Bool} {m : Nat} {e : Int} (h : Ieee.single.read x = .number s m e) : isN .f32 x = false := by
  unfold isN; show (Ieee.single.read x).isNaN = false; rw [h]; rfl
theorem isN_false_inf {x : Nat} {s : Bool} (h : Ieee.single.read x = .infinity s) : isN .f32 x = false := by
  unfold isN; show (Ieee.single.read x).isNaN = false; rw [h]; rfl
/-- The sign that is read. -/
theorem read_sign {x : Nat} (hx : x < 2 ^ 32) : (x / 2147483648 % 2 == 1) = decide (2147483648 ≤ x) := by
  rcases Nat.lt_or_ge x 2147483648 with h | h
  · have : x / 2147483648 = 0 := by omega
    rw [this]
    have h2 : ¬ 2147483648 ≤ x := by omega
    simp [h2]
  · have : x / 2147483648 = 1 := by omega
    rw [this]
    simp [h]
theorem number_sign {x : Nat} (hx : x < 2 ^ 32) {s : Bool} {m : Nat} {e : Int} (h : Ieee.single.read x = .number s m e) : s = decide (2147483648 ≤ x) := by
  rw [← read_sign hx]
  unfold Ieee.Format.read at h
  simp only [sg_sign] at h
  split at h
  · simp only [Ieee.Datum.number.injEq] at h; exact h.1.symm
  · split at h
    · simp only [Ieee.Datum.number.injEq] at h; exact h.1.symm
    · split at h <;> cases h
theorem inf_bits {x : Nat} (hx : x < 2 ^ 32) {s : Bool} (h : Ieee.single.read x = .infinity s) : x % 2147483648 = 2139095040 ∧ s = decide (2147483648 ≤ x) := by
  rw [← read_sign hx]
  unfold Ieee.Format.read at h
  simp only [sg_sign, sg_inf] at h
  split at h
  · cases h
  · split at h
    · cases h
    · split at h
      · rename_i h1
        simp only [Ieee.Datum.infinity.injEq] at h
        exact ⟨h1, h.symm⟩
      · cases h
theorem read_zero32 : Ieee.single.read 0 = .number false 0 (-149) := by decide
/-- '0 - x' of what is 0 or less, and x of what is more: the absolute value. -/
theorem size_abs {x : Nat} (hx : x < 2 ^ 32) (hc : cz .f32 x = x) : (if fcmp .leq .f32 x 0 then fop .sub .f32 0 x else x) = gAbs x := by
  cases hr : Ieee.single.read x with
  | nan s t =>
    have hn : isN .f32 x = true := by unfold isN; show (Ieee.single.read x).isNaN = true; rw [hr]; rfl
    have hl : fcmp .leq .f32 x 0 = false := by
      unfold fcmp; rw [order_nan_left hn]; rfl
    rw [hl, gAbs, hn]
    rw [cz_nan hn] at hc
    simp [hc]
  | infinity s =>
    have hn := isN_false_inf hr
    obtain ⟨h1, h2⟩ := inf_bits hx hr
    have ho : Ieee.single.order x 0 = some (if s then .lt else .gt) := by
      unfold Ieee.Format.order; rw [hr, read_zero32]; rfl
    have hl : fcmp .leq .f32 x 0 = s := by
      unfold fcmp
      show ((Ieee.single.order x 0 == some .lt) || (Ieee.single.order x 0 == some .eq)) = s
      rw [ho]; cases s <;> rfl
    rw [hl, gAbs, hn, h1]
    cases s
    · have : ¬ 2147483648 ≤ x := by simpa using h2.symm
      simp only [Bool.false_eq_true, if_false]
      omega
    · simp only [if_true, Bool.false_eq_true, if_false]
      have hb : floatBits .sub .f32 0 x = some 2139095040 := by
        show Ieee.single.sub 0 x = _
        unfold Ieee.Format.sub
        rw [hr, read_zero32]
        decide
      unfold fop
      rw [hb]
      decide
  | number s m e =>
    have hn := isN_false_of hr
    have hs := number_sign hx hr
    obtain ⟨hm, he1, he2⟩ := single_read_number hr
    have ho : Ieee.single.order x 0 = some (compare (if s then -((m : Int)) else (m : Int)) 0) := by
      unfold Ieee.Format.order; rw [hr, read_zero32]
      unfold Ieee.Datum.order
      have e1 : min e (-149) = -149 := by omega
      have e2 : ((-149 : Int) - -149).toNat = 0 := by omega
      simp only [e1, e2, signed_eq]
      refine congrArg some ?_
      have h3 : (if (false : Bool) = true then -((0 : Nat) : Int) else ((0 : Nat) : Int)) * ((2 ^ 0 : Nat) : Int) = 0 * ((2 ^ (e - -149).toNat : Nat) : Int) := by simp
      rw [h3]
      exact compare_scale _ _ _ (by exact_mod_cast Nat.two_pow_pos _)
    have hl : fcmp .leq .f32 x 0 = (s || decide (m = 0)) := by
      unfold fcmp
      show ((Ieee.single.order x 0 == some .lt) || (Ieee.single.order x 0 == some .eq)) = _
      rw [ho]
      cases s
      · by_cases h0 : m = 0
        · subst h0; decide
        · have : compare (m : Int) 0 = .gt := Int.compare_eq_gt.2 (by omega)
          simp [this, h0]
      · by_cases h0 : m = 0
        · subst h0; decide
        · have : compare (-(m : Int)) 0 = .lt := Int.compare_eq_lt.2 (by omega)
          simp [this]
    rw [hl, gAbs, hn]
    simp only [Bool.false_eq_true, if_false]
    by_cases hc2 : (s || decide (m = 0)) = true
    · rw [if_pos hc2]
      obtain ⟨k, hk, hw⟩ := nearest_rung hr false
      have hb : floatBits .sub .f32 0 x = some (Ieee.single.word false (x % 2147483648)) := by
        show Ieee.single.sub 0 x = _
        unfold Ieee.Format.sub
        rw [hr, read_zero32]
        unfold Ieee.Datum.opposite Ieee.Datum.sum
        have e1 : min (-149 : Int) e = -149 := by omega
        have e2 : ((-149 : Int) - -149).toNat = 0 := by omega
        have e3 : (e - -149).toNat = k := by omega
        simp only [e1, e2, e3, signed_eq, Option.map_some]
        refine congrArg some ?_
        have e4 : (if (false : Bool) = true then -((0 : Nat) : Int) else ((0 : Nat) : Int)) * ((2 ^ 0 : Nat) : Int) + (if (!s) = true then -(m : Int) else (m : Int)) * ((2 ^ k : Nat) : Int) = ((m * 2 ^ k : Nat) : Int) := by
          cases s
          · have h0 : m = 0 := by simpa using hc2
            subst h0; simp
          · simp
        rw [e4]
        have e5 : (if ((m * 2 ^ k : Nat) : Int) = 0 then (false && !s) else decide (((m * 2 ^ k : Nat) : Int) < 0)) = false := by
          split
          · rfl
          · exact decide_eq_false (Int.not_lt.2 (Int.natCast_nonneg _))
        have e6 : (((m * 2 ^ k : Nat) : Int)).natAbs = m * 2 ^ k := Int.natAbs_natCast _
        rw [e5, e6]
        exact hw
      unfold fop
      rw [hb]
      have hlt : x % 2147483648 < 2147483648 := Nat.mod_lt _ (by decide)
      have e7 : Ieee.single.word false (x % 2147483648) = x % 2147483648 := rfl
      rw [Option.getD_some, e7]
      apply cz_num
      -- the same rung: a number
      unfold isN
      show (Ieee.single.read (x % 2147483648)).isNaN = false
      unfold isN at hn
      have hn' : (Ieee.single.read x).isNaN = false := hn
      unfold Ieee.Format.read at hn' ⊢
      simp only [sg_sign, sg_binade, sg_inf, Nat.mod_mod] at hn' ⊢
      split
      · rfl
      · split
        · rfl
        · split
          · rfl
          · rename_i h1 h2 h3
            rw [if_neg h1, if_neg h2, if_neg h3] at hn'
            simp [Ieee.Datum.isNaN] at hn'
    · rw [if_neg hc2]
      have hsf : s = false := by cases s <;> simp_all
      rw [hsf] at hs
      have : ¬ 2147483648 ≤ x := by simpa using hs.symm
      omega
/-- '-x' of what is less than 0, and x of what is not: the absolute value, or -0. -/
theorem neg_abs {x : Nat} (hx : x < 2 ^ 32) (hc : cz .f32 x = x) : (if fcmp .lss .f32 x 0 then fneg .f32 x else x) = gAbs x ∨ (x = 2147483648 ∧ (if fcmp .lss .f32 x 0 then fneg .f32 x else x) = 2147483648 ∧ gAbs x = 0) := by
  cases hr : Ieee.single.read x with
  | nan s t =>
    left
    have hn : isN .f32 x = true := by unfold isN; show (Ieee.single.read x).isNaN = true; rw [hr]; rfl
    have hl : fcmp .lss .f32 x 0 = false := by
      unfold fcmp; rw [order_nan_left hn]; rfl
    rw [hl, gAbs, hn]
    rw [cz_nan hn] at hc
    simp [hc]
  | infinity s =>
    left
    have hn := isN_false_inf hr
    obtain ⟨h1, h2⟩ := inf_bits hx hr
    have ho : Ieee.single.order x 0 = some (if s then .lt else .gt) := by
      unfold Ieee.Format.order; rw [hr, read_zero32]; rfl
    have hl : fcmp .lss .f32 x 0 = s := by
      unfold fcmp
      show (Ieee.single.order x 0 == some .lt) = s
      rw [ho]; cases s <;> rfl
    rw [hl, gAbs, hn, h1]
    cases s
    · have : ¬ 2147483648 ≤ x := by simpa using h2.symm
      simp only [Bool.false_eq_true, if_false]
      omega
    · have : 2147483648 ≤ x := by simpa using h2.symm
      have hxe : x = 4286578688 := by omega
      subst hxe
      simp only [if_true, Bool.false_eq_true, if_false]
      unfold fneg
      decide
  | number s m e =>
    have hn := isN_false_of hr
    have hs := number_sign hx hr
    obtain ⟨hm, he1, he2⟩ := single_read_number hr
    have ho : Ieee.single.order x 0 = some (compare (if s then -((m : Int)) else (m : Int)) 0) := by
      unfold Ieee.Format.order; rw [hr, read_zero32]
      unfold Ieee.Datum.order
      have e1 : min e (-149) = -149 := by omega
      have e2 : ((-149 : Int) - -149).toNat = 0 := by omega
      simp only [e1, e2, signed_eq]
      refine congrArg some ?_
      have h3 : (if (false : Bool) = true then -((0 : Nat) : Int) else ((0 : Nat) : Int)) * ((2 ^ 0 : Nat) : Int) = 0 * ((2 ^ (e - -149).toNat : Nat) : Int) := by simp
      rw [h3]
      exact compare_scale _ _ _ (by exact_mod_cast Nat.two_pow_pos _)
    have hl : fcmp .lss .f32 x 0 = (s && !decide (m = 0)) := by
      unfold fcmp
      show (Ieee.single.order x 0 == some .lt) = _
      rw [ho]
      cases s
      · have : ¬ compare (m : Int) 0 = .lt := by rw [Int.compare_eq_lt]; omega
        simp [this]
      · by_cases h0 : m = 0
        · subst h0; decide
        · have : compare (-(m : Int)) 0 = .lt := Int.compare_eq_lt.2 (by omega)
          simp [this, h0]
    rw [hl, gAbs, hn]
    simp only [Bool.false_eq_true, if_false]
    cases s
    · left
      have : ¬ 2147483648 ≤ x := by simpa using hs.symm
      simp only [Bool.false_and, Bool.false_eq_true, if_false]
      omega
    · have hge : 2147483648 ≤ x := by simpa using hs.symm
      by_cases h0 : m = 0
      · right
        subst h0
        have hx0 : x % 2147483648 = 0 := by
          unfold Ieee.Format.read at hr
          simp only [sg_sign, sg_binade, sg_inf] at hr
          split at hr
          · simp only [Ieee.Datum.number.injEq] at hr; exact hr.2.1
          · split at hr
            · simp only [Ieee.Datum.number.injEq] at hr; omega
            · split at hr <;> cases hr
        have hxe : x = 2147483648 := by omega
        subst hxe
        exact ⟨rfl, rfl, rfl⟩
      · left
        simp only [h0, decide_false, Bool.not_false, Bool.and_self, if_true]
        have e1 : Op.negFloat .f32 x = x % 2147483648 := by
          unfold Op.negFloat
          show x ^^^ 2 ^ 31 = _
          have e2 : x = 2 ^ 31 + x % 2147483648 := by omega
          have hlt : x % 2147483648 < 2 ^ 31 := Nat.mod_lt _ (by decide)
          have e3 : 2 ^ 31 + x % 2147483648 = (x % 2147483648) ^^^ 2 ^ 31 := by
            apply Nat.eq_of_testBit_eq
            intro i
            rw [Nat.testBit_xor, Nat.testBit_two_pow]
            by_cases hi : i < 31
            · rw [Nat.testBit_two_pow_add_gt hi]
              have : ¬ 31 = i := by omega
              simp [this]
            · by_cases hi2 : i = 31
              · subst hi2
                rw [Nat.testBit_two_pow_add_eq, Nat.testBit_lt_two_pow hlt]
                rfl
              · have h1 : 2 ^ 32 ≤ 2 ^ i := Nat.pow_le_pow_right (by omega) (by omega)
                rw [Nat.testBit_lt_two_pow (show 2 ^ 31 + x % 2147483648 < 2 ^ i by omega), Nat.testBit_lt_two_pow (show x % 2147483648 < 2 ^ i by omega)]
                have : ¬ 31 = i := by omega
                simp [this]
          calc x ^^^ 2 ^ 31 = (2 ^ 31 + x % 2147483648) ^^^ 2 ^ 31 := by rw [← e2]
            _ = ((x % 2147483648) ^^^ 2 ^ 31) ^^^ 2 ^ 31 := by rw [e3]
            _ = x % 2147483648 := by rw [Nat.xor_assoc, Nat.xor_self, Nat.xor_zero]
        unfold fneg
        rw [e1]
        apply cz_num
        have h2 := isN_neg .f32 x
        rw [e1, hn] at h2
        exact h2
theorem abs_lt (x : Nat) : gAbs x < 2147483648 := by
  unfold gAbs
  split
  · decide
  · exact Nat.mod_lt _ (by decide)
/-- -0 and 0 stand alike to all numbers. -/
theorem order_negzero (y : Nat) : Ieee.single.order 2147483648 y = Ieee.single.order 0 y := by
  have h1 : Ieee.single.read 2147483648 = .number true 0 (-149) := by decide
  unfold Ieee.Format.order
  rw [h1, read_zero32]
  cases Ieee.single.read y with
  | nan s t => rfl
  | infinity s => rfl
  | number s m e =>
    unfold Ieee.Datum.order
    simp only [signed_eq]
    simp
/-- What is no negative zero and no negative number: a NaN, or a number without a sign. -/
def Up (x : Nat) : Prop := isN .f32 x = true ∨ x < 2147483648
theorem Up.abs (x : Nat) : Up (gAbs x) := .inr (abs_lt x)
theorem Up.zero : Up 0 := .inr (by decide)
theorem read_up {x : Nat} (hx : x < 2147483648) (hn : isN .f32 x = false) : (∃ m e, Ieee.single.read x = .number false m e ∧ -149 ≤ e) ∨ Ieee.single.read x = .infinity false := by
  cases hr : Ieee.single.read x with
  | nan s t =>
    exfalso
    have : isN .f32 x = true := by unfold isN; show (Ieee.single.read x).isNaN = true; rw [hr]; rfl
    rw [hn] at this; cases this
  | infinity s =>
    have := (inf_bits (by omega) hr).2
    right
    rw [this]
    have h2 : ¬ 2147483648 ≤ x := by omega
    simp [h2]
  | number s m e =>
    have hs := number_sign (by omega) hr
    left
    have h2 : ¬ 2147483648 ≤ x := by omega
    rw [decide_eq_false h2] at hs
    subst hs
    exact ⟨m, e, rfl, (single_read_number hr).2.1⟩
theorem nearest_up (m : Nat) (e : Int) : Ieee.single.nearest false m e < 2147483648 := by
  unfold Ieee.Format.nearest
  split
  · decide
  · unfold Ieee.Format.word
    simp only [Bool.false_eq_true, if_false, sg_inf]
    omega
/-- A sum of two such is one, and a zero's sign in the second makes no difference. -/
theorem Up.add {x y : Nat} (hx : Up x) (hy : Up y) : Up (fop .add .f32 x y) := by
  rcases hx with hx | hx
  · left
    unfold fop
    rw [floatBits_nan_left hx, isN_cz]
    decide
  · rcases hy with hy | hy
    · left
      unfold fop
      rw [floatBits_nan_right hy, isN_cz]
      decide
    · cases hnx : isN .f32 x
      · cases hny : isN .f32 y
        · right
          have key : ∃ z, floatBits .add .f32 x y = some z ∧ z < 2147483648 := by
            show ∃ z, Ieee.single.add x y = some z ∧ _
            unfold Ieee.Format.add
            rcases read_up hx hnx with ⟨m, e, h1, -⟩ | h1 <;> rcases read_up hy hny with ⟨n, f, h2, -⟩ | h2
            · rw [h1, h2]
              refine ⟨_, rfl, ?_⟩
              simp only [signed_eq, Bool.false_eq_true, if_false]
              have h3 : (0 : Int) ≤ (m : Int) * ((2 ^ (e - min e f).toNat : Nat) : Int) := Int.mul_nonneg (Int.natCast_nonneg _) (Int.natCast_nonneg _)
              have h4 : (0 : Int) ≤ (n : Int) * ((2 ^ (f - min e f).toNat : Nat) : Int) := Int.mul_nonneg (Int.natCast_nonneg _) (Int.natCast_nonneg _)
              generalize (m : Int) * ((2 ^ (e - min e f).toNat : Nat) : Int) = A at *
              generalize (n : Int) * ((2 ^ (f - min e f).toNat : Nat) : Int) = B at *
              have h5 : (if A + B = 0 then (false && false) else decide (A + B < 0)) = false := by
                split
                · rfl
                · exact decide_eq_false (by omega)
              rw [h5]
              exact nearest_up _ _
            · rw [h1, h2]; exact ⟨_, rfl, by decide⟩
            · rw [h1, h2]; exact ⟨_, rfl, by decide⟩
            · rw [h1, h2]; exact ⟨_, rfl, by decide⟩
          obtain ⟨z, hz, hlt⟩ := key
          unfold fop
          rw [hz]
          show cz .f32 z < _
          unfold cz
          split
          · decide
          · exact hlt
        · left
          unfold fop
          rw [floatBits_nan_right hny, isN_cz]
          decide
      · left
        unfold fop
        rw [floatBits_nan_left hnx, isN_cz]
        decide
theorem add_negzero {x : Nat} (hx : Up x) : fop .add .f32 x 2147483648 = fop .add .f32 x 0 := by
  have hz : Ieee.single.read 2147483648 = .number true 0 (-149) := by decide
  rcases hx with hx | hx
  · unfold fop; rw [floatBits_nan_left hx, floatBits_nan_left hx]
  · cases hn : isN .f32 x
    · have : floatBits .add .f32 x 2147483648 = floatBits .add .f32 x 0 := by
        show Ieee.single.add x 2147483648 = Ieee.single.add x 0
        unfold Ieee.Format.add
        rw [hz, read_zero32]
        rcases read_up hx hn with ⟨m, e, h1, he⟩ | h1
        · rw [h1]
          unfold Ieee.Datum.sum
          simp only [signed_eq, Option.map_some]
          simp
        · rw [h1]; rfl
      unfold fop; rw [this]
    · unfold fop; rw [floatBits_nan_left hn, floatBits_nan_left hn]
end Go.Fx
