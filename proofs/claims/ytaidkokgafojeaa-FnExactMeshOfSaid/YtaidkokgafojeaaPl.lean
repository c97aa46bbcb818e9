/- Plain laws: the nearest whole number of a float. -/
import Derived.Test.YtaidkokgafojeaaFl
namespace Go.Fx
open Go

theorem dbl_sign : Ieee.double.signWeight = 9223372036854775808 := by decide +kernel
theorem dbl_binade : Ieee.double.binade = 4503599627370496 := by decide +kernel
theorem dbl_inf : Ieee.double.infRung = 9218868437227405312 := by decide +kernel
theorem dbl_least : Ieee.double.leastPlace = -1074 := by decide +kernel
/-- A word of a normal number, read. -/
theorem read_norm (s : Bool) (T K : Nat) (h1 : 4503599627370496 ≤ K) (h2 : K < 9007199254740992) (hT : T ≤ 2045) :
    Ieee.double.read (Ieee.double.word s (T * 4503599627370496 + K)) = .number s K (-1074 + (T : Int)) := by
  have e1 : (Ieee.double.word s (T * 4503599627370496 + K)) % 9223372036854775808 = T * 4503599627370496 + K := by
    unfold Ieee.Format.word
    rw [dbl_sign]
    split <;> omega
  have e2 : ((Ieee.double.word s (T * 4503599627370496 + K)) / 9223372036854775808 % 2 == 1) = s := by
    unfold Ieee.Format.word
    rw [dbl_sign]
    cases s
    · simp; omega
    · simp; omega
  unfold Ieee.Format.read
  simp only [dbl_sign, dbl_binade, dbl_inf, dbl_least, e1, e2]
  rw [if_neg (by omega), if_pos (by omega)]
  have e3 : (T * 4503599627370496 + K) / 4503599627370496 = T + 1 := by omega
  have e4 : (T * 4503599627370496 + K) % 4503599627370496 = K - 4503599627370496 := by omega
  rw [e3, e4, show 4503599627370496 + (K - 4503599627370496) = K by omega, show T + 1 - 1 = T by omega]
theorem read_zero (s : Bool) : Ieee.double.read (Ieee.double.word s 0) = .number s 0 (-1074) := by cases s <;> decide +kernel
/-- The word of a number of 53 digits or fewer, read: the number. -/
theorem read_nearest (s : Bool) (m : Nat) (e : Int) (h0 : 0 < m) (hm : m < 2 ^ 53) (he1 : -1000 ≤ e) (he2 : e ≤ 900) :
    Ieee.double.read (Ieee.double.nearest s m e) = .number s (m * 2 ^ (52 - m.log2)) (e + m.log2 - 52) := by
  have hL : m.log2 < 53 := (Nat.log2_lt (by omega)).2 hm
  have hup : m < 2 ^ (m.log2 + 1) := Nat.lt_log2_self
  have hlo : 2 ^ m.log2 ≤ m := Nat.log2_self_le (by omega)
  unfold Ieee.Format.nearest
  rw [if_neg (by omega)]
  have hf : Ieee.double.fractionBits = 52 := rfl
  simp only [dbl_least, hf]
  generalize m.log2 = L at *
  have e1 : max (e + (L : Int) - ((52 : Nat) : Int)) (-1074) = e + L - 52 := by omega
  rw [e1]
  have e2 : ((e + (L : Int) - 52) - e).toNat = 0 := by omega
  have e3 : (e - (e + (L : Int) - 52)).toNat = 52 - L := by omega
  rw [e2, e3, cut_zero, Nat.shiftLeft_eq]
  have hk : m * 2 ^ (52 - L) < 2 ^ 53 := by
    have : 2 ^ (L + 1) * 2 ^ (52 - L) = 2 ^ 53 := by rw [← Nat.pow_add]; congr 1; omega
    rw [← this]
    exact Nat.mul_lt_mul_of_pos_right hup (Nat.two_pow_pos _)
  have hk2 : 2 ^ 52 ≤ m * 2 ^ (52 - L) := by
    have : 2 ^ L * 2 ^ (52 - L) = 2 ^ 52 := by rw [← Nat.pow_add]; congr 1; omega
    rw [← this]
    exact Nat.mul_le_mul_right _ hlo
  generalize m * 2 ^ (52 - L) = K at *
  obtain ⟨T, hT⟩ : ∃ T : Nat, e + (L : Int) - 52 - -1074 = T := ⟨(e + (L : Int) - 52 - -1074).toNat, by omega⟩
  rw [hT, Int.toNat_natCast, dbl_binade, dbl_inf, Nat.min_eq_left (by omega), read_norm s T K (by omega) (by omega) (by omega)]
  congr 1
  omega
/-- A datum that stands for ±M, spelt with a places behind the point. -/
def Is (d : Ieee.Datum) (s : Bool) (M a : Nat) : Prop := d = .number s (M * 2 ^ a) (-(a : Int))
theorem Is.zero (s : Bool) (a : Nat) : Is (.number s 0 (-(a : Int))) s 0 a := by unfold Is; rw [Nat.zero_mul]
theorem Is.nearest (s : Bool) (M : Nat) (hM : M < 2 ^ 53) : ∃ a, Is (Ieee.double.read (Ieee.double.nearest s M 0)) s M a := by
  by_cases h0 : M = 0
  · subst h0
    refine ⟨1074, ?_⟩
    have : Ieee.double.nearest s 0 0 = Ieee.double.word s 0 := by unfold Ieee.Format.nearest; rw [if_pos rfl]
    rw [this, read_zero]
    exact Is.zero s 1074
  · refine ⟨52 - M.log2, ?_⟩
    have hL : M.log2 < 53 := (Nat.log2_lt h0).2 hM
    rw [read_nearest s M 0 (by omega) hM (by omega) (by omega)]
    unfold Is
    congr 1
    omega
theorem shl_one (a : Nat) : 1 <<< a = 2 ^ a := by rw [Nat.shiftLeft_eq, Nat.one_mul]
/-- Cut off where nothing is lost. -/
theorem cut_exact (way : Ieee.Toward) (s : Bool) (M a : Nat) : way.cut s (M * 2 ^ a) a = M := by
  unfold Ieee.Toward.cut
  by_cases h0 : M = 0
  · subst h0
    simp only [Nat.zero_mul, Nat.zero_div, Nat.zero_mod, shl_one]
    have : 0 < 2 ^ min a ((0 : Nat).log2 + 2) := Nat.two_pow_pos _
    cases way
    · have h1 : (2 ^ min a ((0 : Nat).log2 + 2) == 0) = false := by simp
      simp
    all_goals simp
  · have hlog : a ≤ (M * 2 ^ a).log2 := by
      rw [Nat.le_log2 (by have := Nat.two_pow_pos a; exact Nat.ne_of_gt (Nat.mul_pos (by omega) this))]
      exact Nat.le_mul_of_pos_left _ (by omega)
    have e1 : min a ((M * 2 ^ a).log2 + 2) = a := by omega
    have hp := Nat.two_pow_pos a
    rw [e1]
    simp only [shl_one, Nat.mul_div_cancel _ hp, Nat.mul_mod_left]
    cases way
    · have h1 : (2 ^ a == 2 * 0) = false := by simp
      simp
    all_goals simp
theorem Is.toInt {d : Ieee.Datum} {s : Bool} {M a : Nat} (h : Is d s M a) : d.toInt .zero = some (if s then -(M : Int) else (M : Int)) := by
  unfold Is at h
  subst h
  unfold Ieee.Datum.toInt Ieee.Datum.integral
  have e1 : (-(a : Int)).toNat = 0 := by omega
  have e2 : (- -(a : Int)).toNat = a := by omega
  simp only [e1, e2, Nat.shiftLeft_zero, cut_exact]
  cases s <;> simp [Ieee.signed]
theorem compare_scale (x y : Int) (k : Int) (hk : 0 < k) : compare (x * k) (y * k) = compare x y := by
  rcases Int.lt_trichotomy x y with h | h | h
  · have h1 : x * k < y * k := Int.mul_lt_mul_of_pos_right h hk
    rw [Int.compare_eq_lt.2 h, Int.compare_eq_lt.2 h1]
  · subst h; simp
  · have h1 : y * k < x * k := Int.mul_lt_mul_of_pos_right h hk
    rw [Int.compare_eq_gt.2 h, Int.compare_eq_gt.2 h1]
theorem signed_eq (s : Bool) (m k : Nat) : Ieee.signed s m k = (if s then -(m : Int) else (m : Int)) * (2 ^ k : Nat) := by
  unfold Ieee.signed
  rw [Nat.shiftLeft_eq]
  cases s <;> simp [Int.neg_mul]
/-- How two whole numbers stand to each other. -/
theorem Is.order {d e : Ieee.Datum} {s t : Bool} {M N a b : Nat} (h : Is d s M a) (k : Is e t N b) : d.order e = some (compare (if s then -(M : Int) else (M : Int)) (if t then -(N : Int) else (N : Int))) := by
  unfold Is at h k
  subst h k
  unfold Ieee.Datum.order
  have e1 : (-(a : Int) - min (-(a : Int)) (-(b : Int))).toNat = max a b - a := by omega
  have e2 : (-(b : Int) - min (-(a : Int)) (-(b : Int))).toNat = max a b - b := by omega
  simp only [e1, e2, signed_eq]
  congr 1
  have p1 : 2 ^ a * 2 ^ (max a b - a) = 2 ^ max a b := by rw [← Nat.pow_add]; congr 1; omega
  have p2 : 2 ^ b * 2 ^ (max a b - b) = 2 ^ max a b := by rw [← Nat.pow_add]; congr 1; omega
  have q1 : (if s then -((M * 2 ^ a : Nat) : Int) else ((M * 2 ^ a : Nat) : Int)) * ((2 ^ (max a b - a) : Nat) : Int) = (if s then -(M : Int) else (M : Int)) * ((2 ^ max a b : Nat) : Int) := by
    rw [← p1]; cases s <;> simp [Int.mul_assoc, Int.neg_mul]
  have q2 : (if t then -((N * 2 ^ b : Nat) : Int) else ((N * 2 ^ b : Nat) : Int)) * ((2 ^ (max a b - b) : Nat) : Int) = (if t then -(N : Int) else (N : Int)) * ((2 ^ max a b : Nat) : Int) := by
    rw [← p2]; cases t <;> simp [Int.mul_assoc, Int.neg_mul]
  rw [q1, q2]
  exact compare_scale _ _ _ (by exact_mod_cast Nat.two_pow_pos _)

/-- The nearest whole number, the even one of two. -/
def rte (y : Nat) : Nat := Ieee.double.write ((Ieee.double.read y).integral .even)
def f2i (y : Nat) : Int := ((Ieee.double.read y).toInt .zero).getD 0
/-- The lesser of a number and 2 ^ 20. -/
def fmin20 (y : Nat) : Nat := if Ieee.double.order y 4697254411347427328 = some .lt then y else 4697254411347427328
theorem read_c20 : Ieee.double.read 4697254411347427328 = .number false 4503599627370496 (-32) := by decide +kernel
theorem is_c20 : Is (Ieee.double.read 4697254411347427328) false 1048576 32 := by rw [read_c20]; rfl
theorem is_c24 : Is (Ieee.double.read 4627448617123184640) false 24 48 := by
  have : Ieee.double.read 4627448617123184640 = .number false 6755399441055744 (-48) := by decide +kernel
  rw [this]; rfl
theorem cut_le (s : Bool) (n q : Nat) : n / 2 ^ q ≤ Ieee.Toward.even.cut s n q ∧ Ieee.Toward.even.cut s n q ≤ n / 2 ^ q + 1 ∨ n < 2 ^ q := by
  rcases Nat.lt_or_ge n (2 ^ q) with h | h
  · exact .inr h
  · left
    have hp := Nat.two_pow_pos q
    have hlog : q ≤ n.log2 := by rw [Nat.le_log2 (by omega)]; exact h
    have e1 : min q (n.log2 + 2) = q := by omega
    unfold Ieee.Toward.cut
    rw [e1]
    simp only [shl_one]
    generalize (decide (2 ^ q < 2 * (n % 2 ^ q)) || 2 ^ q == 2 * (n % 2 ^ q) && n / 2 ^ q % 2 == 1) = bb
    cases bb <;> simp
theorem cut_lt (s : Bool) (n q : Nat) (hq : 1 ≤ q) (hn : n < 2 ^ 53) : Ieee.Toward.even.cut s n q < 2 ^ 53 := by
  unfold Ieee.Toward.cut
  have h1 : 1 ≤ min q (n.log2 + 2) := by omega
  simp only [shl_one]
  have h2 : 2 ≤ 2 ^ min q (n.log2 + 2) := by
    calc 2 = 2 ^ 1 := rfl
      _ ≤ 2 ^ min q (n.log2 + 2) := Nat.pow_le_pow_right (by omega) h1
  generalize 2 ^ min q (n.log2 + 2) = g at *
  have h3 : n / g ≤ n / 2 := Nat.div_le_div_left h2 (by omega)
  generalize (decide (g < 2 * (n % g)) || g == 2 * (n % g) && n / g % 2 == 1) = bb
  cases bb <;> simp <;> omega
theorem order_half {X m : Nat} {e : Int} (h : Ieee.single.read X = .number true m e) (hm : 0 < m) (he : 29 ≤ e) : Ieee.single.order X 3204448256 = some .lt := by
  have h2 : Ieee.single.read 3204448256 = .number true 8388608 (-24) := by decide +kernel
  unfold Ieee.Format.order
  rw [h, h2]
  unfold Ieee.Datum.order
  have e1 : (e - min e (-24)).toNat = e.toNat + 24 := by omega
  have e2 : (-24 - min e (-24)).toNat = 0 := by omega
  simp only [e1, e2, signed_eq]
  have h3 : 2 ^ 53 ≤ m * 2 ^ (e.toNat + 24) := by
    calc 2 ^ 53 ≤ 2 ^ (e.toNat + 24) := Nat.pow_le_pow_right (by omega) (by omega)
      _ ≤ m * 2 ^ (e.toNat + 24) := Nat.le_mul_of_pos_left _ hm
  refine congrArg some ?_
  rw [Int.compare_eq_lt]
  simp only [if_true, Int.neg_mul]
  have : ((m * 2 ^ (e.toNat + 24) : Nat) : Int) = (m : Int) * ((2 ^ (e.toNat + 24) : Nat) : Int) := Int.natCast_mul _ _
  rw [← this]
  omega
theorem read_widen {X : Nat} {s : Bool} {m : Nat} {e : Int} (h : Ieee.single.read X = .number s m e) :
    ∃ K p, Ieee.double.read (widen X) = .number s K p ∧ K < 2 ^ 53 ∧ (0 ≤ p → 2 ^ 52 ≤ K ∧ p ≤ 200 ∧ (s = true → Ieee.single.order X 3204448256 = some .lt)) := by
  obtain ⟨hm, he1, he2⟩ := single_read_number h
  have hw : widen X = Ieee.double.nearest s m e := by
    have hn := isN_nearest Ieee.double s m e
    have h1 : widen X = cz .f64 (Ieee.double.nearest s m e) := by
      unfold widen
      rw [widen_num h]; rfl
    rw [h1, cz_num]
    exact hn
  rw [hw]
  by_cases h0 : m = 0
  · subst h0
    refine ⟨0, -1074, ?_, by omega, fun h => absurd h (by omega)⟩
    have : Ieee.double.nearest s 0 e = Ieee.double.word s 0 := by unfold Ieee.Format.nearest; rw [if_pos rfl]
    rw [this, read_zero]
  · have hL : m.log2 < 24 := (Nat.log2_lt h0).2 hm
    have hup : m < 2 ^ (m.log2 + 1) := Nat.lt_log2_self
    have hlo : 2 ^ m.log2 ≤ m := Nat.log2_self_le h0
    refine ⟨_, _, read_nearest s m e (by omega) (by omega) (by omega) (by omega), ?_, fun hp => ⟨?_, by omega, fun hs => ?_⟩⟩
    · have : 2 ^ (m.log2 + 1) * 2 ^ (52 - m.log2) = 2 ^ 53 := by rw [← Nat.pow_add]; congr 1; omega
      rw [← this]
      exact Nat.mul_lt_mul_of_pos_right hup (Nat.two_pow_pos _)
    · have : 2 ^ m.log2 * 2 ^ (52 - m.log2) = 2 ^ 52 := by rw [← Nat.pow_add]; congr 1; omega
      rw [← this]
      exact Nat.mul_le_mul_right _ hlo
    · subst hs
      exact order_half h (by omega) (by omega)
theorem rte_c20 : (Ieee.double.read (rte 4697254411347427328)).toInt .zero = some 1048576 := by decide +kernel
/-- A number with more digits than a fraction has: it is whole. -/
theorem rte_big {y : Nat} {s : Bool} {K p : Nat} (h : Ieee.double.read y = .number s K p) (h1 : 2 ^ 52 ≤ K) (h2 : K < 2 ^ 53) (hp : p ≤ 200) : Ieee.double.read (rte y) = .number s K p := by
  unfold rte
  rw [h]
  unfold Ieee.Datum.integral
  have e1 : ((p : Int)).toNat = p := by omega
  have e2 : (-(p : Int)).toNat = 0 := by omega
  simp only [e1, e2, cut_zero, Nat.shiftLeft_eq]
  show Ieee.double.read (Ieee.double.nearest s (K * 2 ^ p) 0) = _
  have hpos := Nat.two_pow_pos p
  have h0 : K * 2 ^ p ≠ 0 := Nat.ne_of_gt (Nat.mul_pos (by omega) hpos)
  have hlog : (K * 2 ^ p).log2 = 52 + p := by
    apply Nat.le_antisymm
    · have : (K * 2 ^ p).log2 < 53 + p := (Nat.log2_lt h0).2 (by rw [Nat.pow_add]; exact Nat.mul_lt_mul_of_pos_right h2 hpos)
      omega
    · rw [Nat.le_log2 h0, Nat.pow_add]
      exact Nat.mul_le_mul_right _ h1
  unfold Ieee.Format.nearest
  rw [if_neg h0, hlog]
  have hf : Ieee.double.fractionBits = 52 := rfl
  simp only [dbl_least, hf, dbl_binade, dbl_inf]
  have e3 : max ((0 : Int) + ((52 + p : Nat) : Int) - ((52 : Nat) : Int)) (-1074) = p := by omega
  rw [e3]
  have e4 : ((0 : Int) - (p : Int)).toNat = 0 := by omega
  have e5 : ((p : Int) - 0).toNat = p := by omega
  have e6 : ((p : Int) - -1074).toNat = p + 1074 := by omega
  rw [e4, e5, e6, Nat.shiftLeft_zero, cut_exact, Nat.min_eq_left (by omega), read_norm s (p + 1074) K (by omega) (by omega) (by omega), show (-1074 + ((p + 1074 : Nat) : Int)) = (p : Int) by omega]
theorem isN_of_read {y : Nat} {s : Bool} {K : Nat} {p : Int} (h : Ieee.double.read y = .number s K p) : isN .f64 y = false := by
  unfold isN; show (Ieee.double.read y).isNaN = false; rw [h]; rfl
/-- The place of a number, as both sides find it. -/
theorem place_law {X : Nat} {s : Bool} {m : Nat} {e : Int} (h : Ieee.single.read X = .number s m e) (hn : Ieee.single.order X 3204448256 ≠ some .lt) :
    isN .f64 (widen X) = false ∧ isN .f64 (rte (widen X)) = false ∧ ∃ n : Int, (Ieee.double.read (rte (fmin20 (widen X)))).toInt .zero = some n ∧ -9007199254740992 ≤ n ∧ n ≤ 9007199254740992 ∧
      ((Ieee.double.order (rte (widen X)) 4627448617123184640 = some .gt ∧ 25 ≤ n) ∨ (Ieee.double.order (rte (widen X)) 4627448617123184640 ≠ some .gt ∧ (Ieee.double.read (rte (widen X))).toInt .zero = some n ∧ n ≤ 24)) := by
  obtain ⟨K, p, hr, hK, hp⟩ := read_widen h
  refine ⟨isN_of_read hr, ?_⟩
  by_cases hp0 : 0 ≤ p
  · obtain ⟨hK1, hp2, hs⟩ := hp hp0
    obtain ⟨P, rfl⟩ := Int.eq_ofNat_of_zero_le hp0
    have hsf : s = false := by
      cases s
      · rfl
      · exact absurd (hs rfl) hn
    subst hsf
    have hR := rte_big hr hK1 hK (by omega)
    refine ⟨isN_of_read hR, 1048576, ?_, by omega, by omega, .inl ⟨?_, by omega⟩⟩
    · have hno : Ieee.double.order (widen X) 4697254411347427328 ≠ some .lt := by
        unfold Ieee.Format.order
        rw [hr, read_c20]
        unfold Ieee.Datum.order
        have e1 : ((P : Int) - min (P : Int) (-32)).toNat = P + 32 := by omega
        have e2 : ((-32 : Int) - min (P : Int) (-32)).toNat = 0 := by omega
        simp only [e1, e2, signed_eq]
        intro hc
        have hc := Option.some.inj hc
        rw [Int.compare_eq_lt] at hc
        have h3 : K ≤ K * 2 ^ (P + 32) := Nat.le_mul_of_pos_right _ (Nat.two_pow_pos _)
        have : ((K * 2 ^ (P + 32) : Nat) : Int) = (K : Int) * ((2 ^ (P + 32) : Nat) : Int) := Int.natCast_mul _ _
        simp only [Bool.false_eq_true, if_false] at hc
        rw [← this] at hc
        omega
      unfold fmin20
      rw [if_neg hno]
      exact rte_c20
    · unfold Ieee.Format.order
      rw [hR]
      have h24 : Ieee.double.read 4627448617123184640 = .number false 6755399441055744 (-48) := by decide +kernel
      rw [h24]
      unfold Ieee.Datum.order
      have e1 : ((P : Int) - min (P : Int) (-48)).toNat = P + 48 := by omega
      have e2 : ((-48 : Int) - min (P : Int) (-48)).toNat = 0 := by omega
      simp only [e1, e2, signed_eq]
      refine congrArg some ?_
      rw [Int.compare_eq_gt]
      simp only [Bool.false_eq_true, if_false]
      have h3 : K * 2 ≤ K * 2 ^ (P + 48) := Nat.mul_le_mul_left _ (by
        calc 2 = 2 ^ 1 := rfl
          _ ≤ 2 ^ (P + 48) := Nat.pow_le_pow_right (by omega) (by omega))
      have : ((K * 2 ^ (P + 48) : Nat) : Int) = (K : Int) * ((2 ^ (P + 48) : Nat) : Int) := Int.natCast_mul _ _
      rw [← this]
      omega
  · obtain ⟨q, hq⟩ : ∃ q : Nat, p = -(q : Int) := ⟨(-p).toNat, by omega⟩
    subst hq
    have hq1 : 1 ≤ q := by omega
    clear hp hp0
    have hM := cut_lt s K q hq1 hK
    have hrt : rte (widen X) = Ieee.double.nearest s (Ieee.Toward.even.cut s K q) 0 := by
      unfold rte
      rw [hr]
      unfold Ieee.Datum.integral
      have e1 : (-(q : Int)).toNat = 0 := by omega
      have e2 : (- -(q : Int)).toNat = q := by omega
      simp only [e1, e2, Nat.shiftLeft_zero]
      rfl
    obtain ⟨a, ha⟩ := Is.nearest s _ hM
    rw [← hrt] at ha
    have hno : isN .f64 (rte (widen X)) = false := isN_of_read ha
    have hti := ha.toInt
    have hord : Ieee.double.order (rte (widen X)) 4627448617123184640 = _ := ha.order is_c24
    have hle := cut_le s K q
    generalize Ieee.Toward.even.cut s K q = M at *
    refine ⟨hno, ?_⟩
    by_cases hlt : Ieee.double.order (widen X) 4697254411347427328 = some .lt
    · have hf : fmin20 (widen X) = widen X := by unfold fmin20; rw [if_pos hlt]
      rw [hf, hti, hord]
      refine ⟨_, rfl, by cases s <;> simp <;> omega, by cases s <;> simp <;> omega, ?_⟩
      by_cases hg : 24 < (if s then -(M : Int) else (M : Int))
      · left
        refine ⟨?_, by omega⟩
        refine congrArg some ?_
        rw [Int.compare_eq_gt]
        simpa using hg
      · right
        refine ⟨?_, rfl, by omega⟩
        intro hc
        have hc := Option.some.inj hc
        rw [Int.compare_eq_gt] at hc
        exact hg (by simpa using hc)
    · have hf : fmin20 (widen X) = 4697254411347427328 := by unfold fmin20; rw [if_neg hlt]
      rw [hf]
      refine ⟨1048576, rte_c20, by omega, by omega, .inl ⟨?_, by omega⟩⟩
      -- the number is 2 ^ 20 or more
      have hge : s = false ∧ 2 ^ (q + 20) ≤ K := by
        unfold Ieee.Format.order at hlt
        rw [hr, read_c20] at hlt
        unfold Ieee.Datum.order at hlt
        have e1 : (-(q : Int) - min (-(q : Int)) (-32)).toNat = max q 32 - q := by omega
        have e2 : (-32 - min (-(q : Int)) (-32)).toNat = max q 32 - 32 := by omega
        simp only [e1, e2, signed_eq] at hlt
        have hn2 : ¬ (if s then -(K : Int) else (K : Int)) * ((2 ^ (max q 32 - q) : Nat) : Int) < (if false = true then -((4503599627370496 : Nat) : Int) else ((4503599627370496 : Nat) : Int)) * ((2 ^ (max q 32 - 32) : Nat) : Int) := by
          intro hc
          exact hlt (congrArg some (Int.compare_eq_lt.2 hc))
        have hp1 : 0 < 2 ^ (max q 32 - 32) := Nat.two_pow_pos _
        have hp2 : 0 < 2 ^ (max q 32 - q) := Nat.two_pow_pos _
        simp only [Bool.false_eq_true, if_false] at hn2
        cases s
        · refine ⟨rfl, ?_⟩
          simp only [Bool.false_eq_true, if_false, ← Int.natCast_mul] at hn2
          have hn3 : 4503599627370496 * 2 ^ (max q 32 - 32) ≤ K * 2 ^ (max q 32 - q) := by omega
          have h4 : 2 ^ (q + 20) * 2 ^ (max q 32 - q) ≤ K * 2 ^ (max q 32 - q) := by
            calc 2 ^ (q + 20) * 2 ^ (max q 32 - q) = 2 ^ 52 * 2 ^ (max q 32 - 32) := by rw [← Nat.pow_add, ← Nat.pow_add]; congr 1; omega
              _ ≤ K * 2 ^ (max q 32 - q) := hn3
          exact Nat.le_of_mul_le_mul_right h4 hp2
        · exfalso
          apply hn2
          simp only [if_true, Int.neg_mul, ← Int.natCast_mul]
          have : 0 < 4503599627370496 * 2 ^ (max q 32 - 32) := Nat.mul_pos (by omega) hp1
          omega
      obtain ⟨rfl, hK2⟩ := hge
      have hM2 : 1048576 ≤ M := by
        have hpq := Nat.two_pow_pos q
        rw [Nat.pow_add, Nat.mul_comm] at hK2
        have h1 : 2 ^ 20 ≤ K / 2 ^ q := (Nat.le_div_iff_mul_le hpq).2 hK2
        rcases hle with ⟨h5, _⟩ | h5
        · omega
        · have : 2 ^ q ≤ 2 ^ 20 * 2 ^ q := Nat.le_mul_of_pos_left _ (by omega)
          omega
      rw [hord]
      refine congrArg some ?_
      rw [Int.compare_eq_gt]
      simp
      omega
end Go.Fx
