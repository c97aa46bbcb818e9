/- Plain laws: the byte of a float. -/
import Derived.Test.YtaidkokgafojeaaPl
import Derived.Test.YtaidkokgafojeaaFk
namespace Go.Fx
open Go

@[irreducible] def hx : Nat := 1073
theorem hx_eq : hx = 1073 := by unfold hx; rfl
def half : Nat := 2 ^ hx
theorem pow2_eq {a b : Nat} (h : a = b) : 2 ^ a = 2 ^ b := congrArg (fun n => 2 ^ n) h
theorem half_up (k n : Nat) (h : k + 1073 = n) : 2 ^ k * half = 2 ^ n := by
  unfold half; exact ((Nat.pow_add 2 k hx).symm).trans (pow2_eq (by rw [hx_eq, h]))
theorem half_split (a b : Nat) (h : a + b = 1073) : 2 ^ a * 2 ^ b = half := by
  unfold half; exact ((Nat.pow_add 2 a b).symm).trans (pow2_eq (by rw [hx_eq, h]))
theorem half_pos : 0 < half := Nat.two_pow_pos _
theorem half_two (a b : Nat) (h : a + b = 1074) : 2 ^ a * 2 ^ b = 2 * half :=
  ((Nat.pow_add 2 a b).symm).trans ((half_up 1 (a + b) (by omega)).symm)
theorem cut_up (s : Bool) (n q : Nat) : Ieee.Toward.even.cut s n q ≤ n / 2 ^ q + 1 := by
  unfold Ieee.Toward.cut
  simp only [shl_one]
  refine Nat.le_trans (Nat.add_le_add_left (Bool.toNat_le _) _) ?_
  refine Nat.add_le_add_right ?_ 1
  by_cases hq : q ≤ n.log2 + 2
  · rw [Nat.min_eq_left hq]; exact Nat.le_refl _
  · have h1 : n < 2 ^ (n.log2 + 1) := Nat.lt_log2_self
    have h2 : 2 ^ (n.log2 + 1) ≤ 2 ^ (n.log2 + 2) := Nat.pow_le_pow_right (by omega) (by omega)
    rw [Nat.min_eq_right (by omega), Nat.div_eq_of_lt (by omega)]; exact Nat.zero_le _
theorem cut_tight {s : Bool} {n q j : Nat} (h : n ≤ j * 2 ^ q) : Ieee.Toward.even.cut s n q ≤ j := by
  rcases Nat.eq_or_lt_of_le h with h | h
  · rw [h, cut_exact]; exact Nat.le_refl _
  · have h1 := cut_up s n q
    have h2 : n / 2 ^ q < j := (Nat.div_lt_iff_lt_mul (Nat.two_pow_pos q)).2 h
    omega
theorem cut_down (n q : Nat) : Ieee.Toward.down.cut false n q = n / 2 ^ q := by
  unfold Ieee.Toward.cut
  simp only [shl_one, Bool.false_and, Bool.toNat_false, Nat.add_zero]
  by_cases hq : q ≤ n.log2 + 2
  · rw [Nat.min_eq_left hq]
  · have h1 : n < 2 ^ (n.log2 + 1) := Nat.lt_log2_self
    have h2 : 2 ^ (n.log2 + 1) ≤ 2 ^ (n.log2 + 2) := Nat.pow_le_pow_right (by omega) (by omega)
    have h3 : 2 ^ (n.log2 + 1) ≤ 2 ^ q := Nat.pow_le_pow_right (by omega) (by omega)
    rw [Nat.min_eq_right (by omega), Nat.div_eq_of_lt (by omega), Nat.div_eq_of_lt (by omega)]
/-- A number that is N halves or less, N from 256 to 511: so is the word nearest to it. -/
theorem near_small {N m : Nat} {e : Int} (hN : 256 ≤ N) (hN2 : N ≤ 511) (h0 : 0 < m) (he : -1074 ≤ e) (h : m * 2 ^ (e + 1074).toNat ≤ N * half) :
    Ieee.double.nearest false m e ≤ 1029 * 4503599627370496 + N * 17592186044416 := by
  obtain ⟨E, rfl⟩ : ∃ E : Nat, e = -1074 + (E : Int) := ⟨(e + 1074).toNat, by omega⟩
  rw [show (-1074 + (E : Int) + 1074).toNat = E by omega] at h
  have hlo : 2 ^ m.log2 ≤ m := Nat.log2_self_le (by omega)
  have hup : m < 2 ^ (m.log2 + 1) := Nat.lt_log2_self
  have hLE : m.log2 + E < 1082 := by
    have h1 : 2 ^ m.log2 * 2 ^ E ≤ N * half := Nat.le_trans (Nat.mul_le_mul_right _ hlo) h
    have h2 : N * half < 2 ^ 9 * half := Nat.mul_lt_mul_of_pos_right (by omega) half_pos
    obtain ⟨n9, hn9⟩ : ∃ n : Nat, n = 1082 := ⟨_, rfl⟩
    have h3 := half_up 9 n9 (by omega)
    rw [← Nat.pow_add] at h1
    rw [h3] at h2
    have h4 : m.log2 + E < n9 := (Nat.pow_lt_pow_iff_right (by decide)).1 (Nat.lt_of_le_of_lt h1 h2)
    omega
  unfold Ieee.Format.nearest
  rw [if_neg (by omega)]
  have hf : Ieee.double.fractionBits = 52 := rfl
  simp only [dbl_least, hf, dbl_binade, dbl_inf]
  generalize m.log2 = L at *
  obtain ⟨T, hT⟩ : ∃ T : Nat, T = E + L - 52 := ⟨_, rfl⟩
  have e1 : max (-1074 + (E : Int) + (L : Int) - ((52 : Nat) : Int)) (-1074) = -1074 + (T : Int) := by omega
  rw [e1]
  have e2 : (-1074 + (E : Int) - (-1074 + (T : Int))).toNat = E - T := by omega
  have e3 : (-1074 + (T : Int) - (-1074 + (E : Int))).toNat = T - E := by omega
  have e4 : (-1074 + (T : Int) - -1074).toNat = T := by omega
  rw [e2, e3, e4, Nat.shiftLeft_eq]
  have hwd : ∀ r, Ieee.double.word false r = r := fun _ => rfl
  rw [hwd]
  refine Nat.le_trans (Nat.min_le_left _ _) ?_
  have hK : Ieee.Toward.even.cut false (m * 2 ^ (E - T)) (T - E) ≤ 2 ^ 53 := by
    apply cut_tight
    calc m * 2 ^ (E - T) ≤ 2 ^ (L + 1) * 2 ^ (E - T) := Nat.mul_le_mul_right _ (by omega)
      _ = 2 ^ (L + 1 + (E - T)) := (Nat.pow_add _ _ _).symm
      _ ≤ 2 ^ (53 + (T - E)) := Nat.pow_le_pow_right (by omega) (by omega)
      _ = 2 ^ 53 * 2 ^ (T - E) := Nat.pow_add _ _ _
  by_cases h8 : T ≤ 1028
  · generalize Ieee.Toward.even.cut false (m * 2 ^ (E - T)) (T - E) = K at *
    omega
  · have hT9 : T = 1029 := by omega
    have hK2 : Ieee.Toward.even.cut false (m * 2 ^ (E - T)) (T - E) ≤ N * 17592186044416 := by
      apply cut_tight
      have h3 : m * 2 ^ E ≤ N * 17592186044416 * 2 ^ T := by
        have h4 : half = 17592186044416 * 2 ^ T := (half_split 44 T (by omega)).symm
        rw [Nat.mul_assoc, ← h4]; exact h
      by_cases hET : E ≤ T
      · apply Nat.le_of_mul_le_mul_right (c := 2 ^ E) _ (Nat.two_pow_pos _)
        rw [show E - T = 0 by omega, Nat.pow_zero, Nat.mul_one, Nat.mul_assoc, ← Nat.pow_add, show T - E + E = T by omega]
        exact h3
      · apply Nat.le_of_mul_le_mul_right (c := 2 ^ T) _ (Nat.two_pow_pos _)
        rw [show T - E = 0 by omega, Nat.pow_zero, Nat.mul_one, Nat.mul_assoc, ← Nat.pow_add, show E - T + T = E by omega]
        exact h3
    exact Nat.add_le_add (Nat.mul_le_mul_right _ (Nat.le_of_eq hT9)) hK2
/-- What such a word stands for. -/
theorem word_small {N r : Nat} (hN : 256 ≤ N) (hN2 : N ≤ 511) (h : r ≤ 1029 * 4503599627370496 + N * 17592186044416) :
    ∃ K p, Ieee.double.read r = .number false K p ∧ -1074 ≤ p ∧ p ≤ -45 ∧ K < 2 ^ 53 ∧ K * 2 ^ (p + 1074).toNat ≤ N * half := by
  have hsw : r % 9223372036854775808 = r := Nat.mod_eq_of_lt (by omega)
  have hsg : (r / 9223372036854775808 % 2 == 1) = false := by rw [Nat.div_eq_of_lt (by omega)]; rfl
  obtain ⟨t, ht⟩ : ∃ n : Nat, n = 1028 := ⟨_, rfl⟩
  have hh : 2 ^ 8 * half = 2 ^ 53 * 2 ^ t := (half_up 8 (53 + t) (by omega)).trans (Nat.pow_add 2 53 t)
  have hNh : 2 ^ 8 * half ≤ N * half := Nat.mul_le_mul_right _ hN
  unfold Ieee.Format.read
  simp only [dbl_sign, dbl_binade, dbl_inf, dbl_least, hsw, hsg]
  by_cases h1 : r < 4503599627370496
  · rw [if_pos h1]
    refine ⟨r, -1074, rfl, by omega, by omega, by omega, ?_⟩
    rw [show ((-1074 : Int) + 1074).toNat = 0 by omega, Nat.pow_zero, Nat.mul_one]
    have := half_pos
    have h3 : 2 ^ 53 * 1 ≤ 2 ^ 53 * 2 ^ t := Nat.mul_le_mul_left _ (Nat.two_pow_pos _)
    omega
  · rw [if_neg h1, if_pos (by omega)]
    obtain ⟨T, hT⟩ : ∃ T, r / 4503599627370496 = T + 1 := ⟨r / 4503599627370496 - 1, by omega⟩
    have hT2 : T ≤ 1029 := by omega
    rw [hT, show T + 1 - 1 = T by omega]
    refine ⟨_, _, rfl, by omega, by omega, by omega, ?_⟩
    rw [show (-1074 + ((T : Nat) : Int) + 1074).toNat = T by omega]
    by_cases h8 : T ≤ 1028
    · calc (4503599627370496 + r % 4503599627370496) * 2 ^ T ≤ 2 ^ 53 * 2 ^ t := Nat.mul_le_mul (by omega) (Nat.pow_le_pow_right (by omega) (by omega))
        _ ≤ N * half := by omega
    · have hT9 : T = 1029 := by omega
      calc (4503599627370496 + r % 4503599627370496) * 2 ^ T ≤ (N * 2 ^ 44) * 2 ^ T := Nat.mul_le_mul_right _ (by omega)
        _ = N * half := (Nat.mul_assoc _ _ _).trans (congrArg (N * ·) (half_split 44 T (by omega)))
/-- The whole number below. -/
def flo (y : Nat) : Nat := Ieee.double.write ((Ieee.double.read y).integral .down)
def byteF (X : Nat) : Nat := fop .add .f64 (fop .mul .f64 (widen X) 4643176031446892544) 4602678819172646912
def gByteOf (X : Nat) : Int := if !fcmp .gtr .f32 X 0 then 0 else if fcmp .gtr .f32 X 1065353216 then 255 else f2i (flo (byteF X))
theorem nearest_isN (s : Bool) (m : Nat) (e : Int) : cz .f64 (Ieee.double.nearest s m e) = Ieee.double.nearest s m e := cz_num (isN_nearest Ieee.double s m e)
theorem mul_number {x y m n : Nat} {i j : Int} (hx : Ieee.double.read x = .number false m i) (hy : Ieee.double.read y = .number false n j) :
    fop .mul .f64 x y = Ieee.double.nearest false (m * n) (i + j) := by
  have e1 : floatBits .mul .f64 x y = some (Ieee.double.nearest false (m * n) (i + j)) := by
    show Ieee.double.mul x y = _
    unfold Ieee.Format.mul
    rw [hx, hy]; rfl
  unfold fop; rw [e1]; exact nearest_isN _ _ _
theorem add_number {x y m n : Nat} {i j : Int} (hx : Ieee.double.read x = .number false m i) (hy : Ieee.double.read y = .number false n j) (hn : 0 < n) :
    fop .add .f64 x y = Ieee.double.nearest false (m * 2 ^ (i - min i j).toNat + n * 2 ^ (j - min i j).toNat) (min i j) := by
  have hpos : 0 < n * 2 ^ (j - min i j).toNat := Nat.mul_pos hn (Nat.two_pow_pos _)
  have e1 : floatBits .add .f64 x y = some (Ieee.double.nearest false (m * 2 ^ (i - min i j).toNat + n * 2 ^ (j - min i j).toNat) (min i j)) := by
    show Ieee.double.add x y = _
    unfold Ieee.Format.add
    rw [hx, hy]
    unfold Ieee.Datum.sum
    simp only [Ieee.signed, Nat.shiftLeft_eq, Bool.false_eq_true, if_false]
    generalize m * 2 ^ (i - min i j).toNat = a
    generalize n * 2 ^ (j - min i j).toNat = b at *
    rw [if_neg (by omega), show decide ((a : Int) + (b : Int) < 0) = false from decide_eq_false (by omega), show ((a : Int) + (b : Int)).natAbs = a + b by omega]
    rfl
  unfold fop; rw [e1]; exact nearest_isN _ _ _
theorem byte_law {X m : Nat} {e : Int} (hr : Ieee.single.read X = .number false m e) (hm0 : 0 < m) (h1 : m * 2 ^ (e + 149).toNat ≤ 2 ^ 149) :
    isN .f64 (byteF X) = false ∧ isN .f64 (flo (byteF X)) = false ∧ ∃ n : Nat, (Ieee.double.read (flo (byteF X))).toInt .zero = some (n : Int) ∧ n ≤ 255 := by
  obtain ⟨hm, he1, he2⟩ := single_read_number hr
  have hw : widen X = Ieee.double.nearest false m e := by
    have h1 : widen X = cz .f64 (Ieee.double.nearest false m e) := by
      unfold widen
      rw [widen_num hr]; rfl
    rw [h1, nearest_isN]
  have hL : m.log2 < 24 := (Nat.log2_lt (by omega)).2 hm
  have hrw := read_nearest false m e hm0 (by omega) (by omega) (by omega)
  rw [← hw] at hrw
  have h255 : Ieee.double.read 4643176031446892544 = .number false (255 * 2 ^ 45) (-45) := by decide +kernel
  have h05 : Ieee.double.read 4602678819172646912 = .number false (2 ^ 52) (-53) := by decide +kernel
  have hP := mul_number hrw h255
  have hPb : fop .mul .f64 (widen X) 4643176031446892544 ≤ 1029 * 4503599627370496 + 510 * 17592186044416 := by
    rw [hP]
    refine near_small (by omega) (by omega) (Nat.mul_pos (Nat.mul_pos hm0 (Nat.two_pow_pos _)) (by decide)) (by omega) ?_
    generalize m.log2 = L at *
    obtain ⟨E, rfl⟩ : ∃ E : Nat, e = -149 + (E : Int) := ⟨(e + 149).toNat, by omega⟩
    rw [show (-149 + (E : Int) + 149).toNat = E by omega] at h1
    rw [show (-149 + (E : Int) + (L : Int) - 52 + -45 + 1074).toNat = E + L + 828 by omega]
    obtain ⟨t, ht⟩ : ∃ n : Nat, n = 925 := ⟨_, rfl⟩
    have h2 : m * 2 ^ (52 - L) * (255 * 2 ^ 45) * 2 ^ (E + L + 828) = 255 * (m * 2 ^ E * 2 ^ t) := by
      have h3 : 2 ^ (52 - L) * 2 ^ 45 * 2 ^ (E + L + 828) = 2 ^ E * 2 ^ t := by rw [← Nat.pow_add, ← Nat.pow_add, ← Nat.pow_add]; congr 1; omega
      calc m * 2 ^ (52 - L) * (255 * 2 ^ 45) * 2 ^ (E + L + 828) = 255 * (m * (2 ^ (52 - L) * 2 ^ 45 * 2 ^ (E + L + 828))) := by
            generalize 2 ^ (52 - L) = a; generalize 2 ^ 45 = b; generalize 2 ^ (E + L + 828) = c
            simp only [Nat.mul_assoc, Nat.mul_comm, Nat.mul_left_comm]
        _ = 255 * (m * 2 ^ E * 2 ^ t) := by rw [h3, Nat.mul_assoc]
    rw [h2]
    have h4 : m * 2 ^ E * 2 ^ t ≤ 2 * half := by rw [← half_two 149 t (by omega)]; exact Nat.mul_le_mul_right _ h1
    omega
  obtain ⟨K, p, hrP, hp1, hp2, hK, hKb⟩ := word_small (by omega) (by omega) hPb
  have hT : byteF X = _ := add_number hrP h05 (by decide)
  have hTb : byteF X ≤ 1029 * 4503599627370496 + 511 * 17592186044416 := by
    rw [hT]
    refine near_small (by omega) (by omega) (Nat.lt_of_lt_of_le (Nat.mul_pos (by decide) (Nat.two_pow_pos _)) (Nat.le_add_left _ _)) (by omega) ?_
    obtain ⟨t, ht⟩ : ∃ n : Nat, n = 1021 := ⟨_, rfl⟩
    have hq : (-53 - min p (-53)).toNat + (min p (-53) + 1074).toNat = t := by omega
    rw [Nat.add_mul, Nat.mul_assoc, Nat.mul_assoc, ← Nat.pow_add, ← Nat.pow_add, show (p - min p (-53)).toNat + (min p (-53) + 1074).toNat = (p + 1074).toNat by omega, hq, half_split 52 t (by omega)]
    omega
  obtain ⟨K3, p3, hrT, hp3, hp4, hK3, hKb3⟩ := word_small (by omega) (by omega) hTb
  refine ⟨isN_of_read hrT, ?_⟩
  obtain ⟨q, rfl⟩ : ∃ q : Nat, p3 = -(q : Int) := ⟨(-p3).toNat, by omega⟩
  have hF : flo (byteF X) = Ieee.double.nearest false (K3 / 2 ^ q) 0 := by
    unfold flo
    rw [hrT]
    unfold Ieee.Datum.integral
    have e1 : (-(q : Int)).toNat = 0 := by omega
    have e2 : (- -(q : Int)).toNat = q := by omega
    simp only [e1, e2, Nat.shiftLeft_zero, cut_down]
    rfl
  have hn : K3 / 2 ^ q ≤ 255 := by
    have h5 : K3 / 2 ^ q * 2 ^ q ≤ K3 := Nat.div_mul_le_self _ _
    have h6 : K3 / 2 ^ q * (2 * half) ≤ 511 * half := by
      rw [show (-(q : Int) + 1074).toNat = 1074 - q by omega] at hKb3
      rw [← half_two q (1074 - q) (by omega), ← Nat.mul_assoc]
      exact Nat.le_trans (Nat.mul_le_mul_right _ h5) hKb3
    have h7 := half_pos
    rw [← Nat.mul_assoc] at h6
    have := Nat.le_of_mul_le_mul_right h6 h7
    omega
  obtain ⟨a, ha⟩ := Is.nearest false (K3 / 2 ^ q) (by omega)
  rw [← hF] at ha
  exact ⟨isN_of_read ha, _, ha.toInt, hn⟩
/-- The byte of a float, where the program counts it. -/
theorem byte_of {X : Nat} (h0 : fcmp .gtr .f32 X 0 = true) (h1 : fcmp .gtr .f32 X 1065353216 = false) :
    isN .f64 (byteF X) = false ∧ isN .f64 (flo (byteF X)) = false ∧ ∃ n : Nat, (Ieee.double.read (flo (byteF X))).toInt .zero = some (n : Int) ∧ n ≤ 255 := by
  have hn : isN .f32 X = false := by
    cases h : isN .f32 X
    · rfl
    · exfalso
      have : FloatKind.f32.format.order X 0 = none := order_nan_left h
      unfold fcmp at h0; simp [this] at h0
  have z0 : isN .f32 0 = false := by decide +kernel
  have z1 : isN .f32 1065353216 = false := by decide +kernel
  have k0 : fkey 0 = 0 := by decide +kernel
  have hr1 : Ieee.single.read 1065353216 = .number false 8388608 (-23) := by decide +kernel
  have k1 : fkey 1065353216 = ((2 ^ 149 : Nat) : Int) := by
    rw [fkey_number hr1]; decide +kernel
  have o0 : FloatKind.f32.format.order X 0 = some (compare (fkey X) 0) := by rw [← k0]; exact order_key hn z0
  have o1 : FloatKind.f32.format.order X 1065353216 = some (compare (fkey X) ((2 ^ 149 : Nat) : Int)) := by rw [← k1]; exact order_key hn z1
  have g0 : 0 < fkey X := by
    unfold fcmp at h0
    simp only [o0] at h0
    have : compare (fkey X) 0 = .gt := by simpa using h0
    exact Int.compare_eq_gt.1 this
  have g1 : fkey X ≤ ((2 ^ 149 : Nat) : Int) := by
    unfold fcmp at h1
    simp only [o1] at h1
    have h2 : compare (fkey X) ((2 ^ 149 : Nat) : Int) ≠ .gt := by intro h; rw [h] at h1; simp at h1
    rcases Int.lt_or_le ((2 ^ 149 : Nat) : Int) (fkey X) with h | h
    · exact absurd (Int.compare_eq_gt.2 h) h2
    · exact h
  cases hr : Ieee.single.read X with
  | nan s t => exact (not_nan_of hr hn).elim
  | infinity s =>
    exfalso
    rw [fkey_inf hr] at g0 g1
    have hb : ((2 ^ 149 : Nat) : Int) < ((16 ^ 100 : Nat) : Int) := Int.ofNat_lt.2 (by decide +kernel)
    generalize ((16 ^ 100 : Nat) : Int) = B at *
    generalize ((2 ^ 149 : Nat) : Int) = C at *
    cases s
    · simp only [Bool.false_eq_true, if_false] at g1; omega
    · simp only [if_true] at g0
      have : (0 : Int) ≤ C := by
        have := g1; simp only [if_true] at this; omega
      omega
  | number s m e =>
    rw [fkey_number hr] at g0 g1
    have hp := Nat.two_pow_pos (e + 149).toNat
    cases s
    · simp only [Bool.false_eq_true, if_false] at g0 g1
      rw [← Int.natCast_mul] at g0 g1
      refine byte_law hr ?_ (by exact_mod_cast g1)
      rcases Nat.eq_zero_or_pos m with rfl | h
      · simp at g0
      · exact h
    · exfalso
      simp only [if_true, Int.neg_mul] at g0
      rw [← Int.natCast_mul] at g0
      omega
theorem byteOf_range (X : Nat) : 0 ≤ gByteOf X ∧ gByteOf X ≤ 255 := by
  unfold gByteOf
  cases h0 : fcmp .gtr .f32 X 0
  · simp
  · cases h1 : fcmp .gtr .f32 X 1065353216
    · obtain ⟨-, -, n, h, hn⟩ := byte_of h0 h1
      simp [f2i, h]; omega
    · simp
end Go.Fx
