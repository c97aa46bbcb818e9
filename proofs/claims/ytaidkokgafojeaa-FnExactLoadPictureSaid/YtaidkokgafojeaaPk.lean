/- Plain laws: the values that can be packed. -/
import Derived.Test.YtaidkokgafojeaaBy
namespace Go.Fx
open Go

theorem cut_trunc (s : Bool) (n q : Nat) : Ieee.Toward.zero.cut s n q = n / 2 ^ q := by
  unfold Ieee.Toward.cut
  simp only [shl_one, Bool.toNat_false, Nat.add_zero]
  by_cases hq : q ≤ n.log2 + 2
  · rw [Nat.min_eq_left hq]
  · have h1 : n < 2 ^ (n.log2 + 1) := Nat.lt_log2_self
    have h2 : 2 ^ (n.log2 + 1) ≤ 2 ^ (n.log2 + 2) := Nat.pow_le_pow_right (by omega) (by omega)
    have h3 : 2 ^ (n.log2 + 1) ≤ 2 ^ q := Nat.pow_le_pow_right (by omega) (by omega)
    rw [Nat.min_eq_right (by omega), Nat.div_eq_of_lt (by omega), Nat.div_eq_of_lt (by omega)]
theorem cut_downs (s : Bool) (n q : Nat) : Ieee.Toward.down.cut s n q = n / 2 ^ q + (s && n % 2 ^ q != 0).toNat := by
  unfold Ieee.Toward.cut
  simp only [shl_one]
  by_cases hq : q ≤ n.log2 + 2
  · rw [Nat.min_eq_left hq]
  · have h1 : n < 2 ^ (n.log2 + 1) := Nat.lt_log2_self
    have h2 : 2 ^ (n.log2 + 1) ≤ 2 ^ (n.log2 + 2) := Nat.pow_le_pow_right (by omega) (by omega)
    have h3 : 2 ^ (n.log2 + 1) ≤ 2 ^ q := Nat.pow_le_pow_right (by omega) (by omega)
    rw [Nat.min_eq_right (by omega), Nat.div_eq_of_lt (by omega), Nat.div_eq_of_lt (by omega), Nat.mod_eq_of_lt (by omega), Nat.mod_eq_of_lt (by omega)]
theorem down_whole {s : Bool} {n q : Nat} : Ieee.Toward.down.cut s n q * 2 ^ q = n ↔ 2 ^ q ∣ n := by
  rw [cut_downs]
  have hp := Nat.two_pow_pos q
  have hd := Nat.div_add_mod n (2 ^ q)
  have hm := Nat.mod_lt n hp
  rw [Nat.mul_comm] at hd
  constructor
  · intro h
    exact ⟨_, by rw [Nat.mul_comm]; exact h.symm⟩
  · intro h
    have h0 : n % 2 ^ q = 0 := Nat.mod_eq_zero_of_dvd h
    rw [h0] at hd ⊢
    simpa using hd
theorem not_nan_left {op : BinOp} {x y : Nat} (h : fcmp op .f32 x y = true) (ho : op = .geq ∨ op = .leq) : isN .f32 x = false := by
  cases hx : isN .f32 x
  · rfl
  · exfalso
    have : FloatKind.f32.format.order x y = none := order_nan_left hx
    rcases ho with rfl | rfl <;> (unfold fcmp at h; simp [this] at h)
theorem geq_key {x y : Nat} (hx : isN .f32 x = false) (hy : isN .f32 y = false) (h : fcmp .geq .f32 x y = true) : fkey y ≤ fkey x := by
  have ho : FloatKind.f32.format.order x y = some (compare (fkey x) (fkey y)) := order_key hx hy
  rcases Int.lt_or_le (fkey x) (fkey y) with hl | hl
  · exfalso
    unfold fcmp at h
    simp [ho, Int.compare_eq_lt.2 hl] at h
  · exact hl
theorem leq_key {x y : Nat} (hx : isN .f32 x = false) (hy : isN .f32 y = false) (h : fcmp .leq .f32 x y = true) : fkey x ≤ fkey y := by
  have ho : FloatKind.f32.format.order x y = some (compare (fkey x) (fkey y)) := order_key hx hy
  rcases Int.lt_or_le (fkey y) (fkey x) with hl | hl
  · exfalso
    unfold fcmp at h
    simp [ho, Int.compare_eq_gt.2 hl] at h
  · exact hl
theorem neq_key {x y : Nat} (hx : isN .f32 x = false) (hy : isN .f32 y = false) : fcmp .neq .f32 x y = !decide (fkey x = fkey y) := by
  have ho : FloatKind.f32.format.order x y = some (compare (fkey x) (fkey y)) := order_key hx hy
  unfold fcmp
  simp only [ho]
  by_cases h : fkey x = fkey y
  · rw [h]; simp
  · rcases Int.lt_or_gt_of_ne h with hl | hl
    · rw [Int.compare_eq_lt.2 hl]; simp [h]
    · rw [Int.compare_eq_gt.2 hl]; simp [h]
theorem fkey_nat : ∀ n : Fin 255, fkey (floatOfInt .f32 ((n.val : Nat) : Int)) = ((n.val * 2 ^ 149 : Nat) : Int) := by decide +kernel
theorem fkey_m1 : fkey (floatOfInt .f32 (-1)) = -((2 ^ 149 : Nat) : Int) := by decide +kernel
/-- Whether a value can be packed, and what its whole part is. -/
def gPacks (X : Nat) : Bool := fcmp .geq .f32 X 3212836864 && fcmp .leq .f32 X 1132331008 && fcmp .eql .f64 (widen X) (flo (widen X))
def gWhole (X : Nat) : Int := ((Ieee.single.read X).toInt .zero).getD 0
theorem pack_law {X : Nat} (h1 : fcmp .geq .f32 X 3212836864 = true) (h2 : fcmp .leq .f32 X 1132331008 = true) :
    isN .f32 X = false ∧ isN .f64 (widen X) = false ∧ isN .f64 (flo (widen X)) = false ∧ ∃ n : Int, (Ieee.single.read X).toInt .zero = some n ∧ -1 ≤ n ∧ n ≤ 254 ∧
      fcmp .neq .f32 (floatOfInt .f32 n) X = !fcmp .eql .f64 (widen X) (flo (widen X)) := by
  have hn := not_nan_left h1 (.inl rfl)
  have z0 : isN .f32 3212836864 = false := by decide +kernel
  have z1 : isN .f32 1132331008 = false := by decide +kernel
  have k0 : fkey 3212836864 = -((2 ^ 149 : Nat) : Int) := by decide +kernel
  have k1 : fkey 1132331008 = ((254 * 2 ^ 149 : Nat) : Int) := by decide +kernel
  have g0 := geq_key hn z0 h1
  have g1 := leq_key hn z1 h2
  rw [k0] at g0
  rw [k1] at g1
  refine ⟨hn, ?_⟩
  cases hr : Ieee.single.read X with
  | nan s t => exact (not_nan_of hr hn).elim
  | infinity s =>
    exfalso
    rw [fkey_inf hr] at g0 g1
    have hb : ((254 * 2 ^ 149 : Nat) : Int) < ((16 ^ 100 : Nat) : Int) := Int.ofNat_lt.2 (by decide +kernel)
    have hb2 : ((2 ^ 149 : Nat) : Int) < ((16 ^ 100 : Nat) : Int) := Int.ofNat_lt.2 (by decide +kernel)
    generalize ((16 ^ 100 : Nat) : Int) = B at *
    generalize ((254 * 2 ^ 149 : Nat) : Int) = C at *
    generalize ((2 ^ 149 : Nat) : Int) = D at *
    cases s
    · simp only [Bool.false_eq_true, if_false] at g1; omega
    · simp only [if_true] at g0; omega
  | number s m e =>
    obtain ⟨hm, he1, he2⟩ := single_read_number hr
    obtain ⟨E, rfl⟩ : ∃ E : Nat, e = -149 + (E : Int) := ⟨(e + 149).toNat, by omega⟩
    have hk := fkey_number hr
    rw [show (-149 + (E : Int) + 149).toNat = E by omega] at hk
    have hw : widen X = Ieee.double.nearest s m (-149 + (E : Int)) := by
      have h1 : widen X = cz .f64 (Ieee.double.nearest s m (-149 + (E : Int))) := by
        unfold widen
        rw [widen_num hr]; rfl
      rw [h1, nearest_isN]
    -- the whole part
    obtain ⟨F, hF⟩ : ∃ F : Nat, F = m * 2 ^ E / 2 ^ 149 := ⟨_, rfl⟩
    have hT : (Ieee.Datum.number s m (-149 + (E : Int))).toInt .zero = some (if s then -(F : Int) else (F : Int)) := by
      unfold Ieee.Datum.toInt Ieee.Datum.integral
      have e0 : m <<< (-149 + (E : Int)).toNat / 2 ^ (-(-149 + (E : Int))).toNat = F := by
        rw [Nat.shiftLeft_eq, hF]
        by_cases hE : E ≤ 149
        · rw [show (-149 + (E : Int)).toNat = 0 by omega, show (-(-149 + (E : Int))).toNat = 149 - E by omega, Nat.pow_zero, Nat.mul_one]
          have : 2 ^ 149 = 2 ^ (149 - E) * 2 ^ E := by rw [← Nat.pow_add]; exact pow2_eq (by omega)
          rw [this, Nat.mul_div_mul_right _ _ (Nat.two_pow_pos E)]
        · rw [show (-149 + (E : Int)).toNat = E - 149 by omega, show (-(-149 + (E : Int))).toNat = 0 by omega, Nat.pow_zero, Nat.div_one]
          have : 2 ^ E = 2 ^ (E - 149) * 2 ^ 149 := by rw [← Nat.pow_add]; exact pow2_eq (by omega)
          rw [this, ← Nat.mul_assoc, Nat.mul_div_cancel _ (Nat.two_pow_pos _)]
      simp only [cut_trunc, e0]
      unfold Ieee.signed
      cases s <;> simp
    have hFk : F * 2 ^ 149 ≤ m * 2 ^ E := by rw [hF]; exact Nat.div_mul_le_self _ _
    have hdv : F * 2 ^ 149 = m * 2 ^ E ↔ 2 ^ 149 ∣ m * 2 ^ E := by
      rw [hF]
      exact ⟨fun h => ⟨m * 2 ^ E / 2 ^ 149, h.symm.trans (Nat.mul_comm _ _)⟩, fun h => Nat.div_mul_cancel h⟩
    have hkb : m * 2 ^ E ≤ 254 * 2 ^ 149 := by
      rw [hk] at g0 g1
      cases s
      · simp only [Bool.false_eq_true, if_false, ← Int.natCast_mul] at g1
        exact Int.ofNat_le.1 g1
      · simp only [if_true, Int.neg_mul, ← Int.natCast_mul] at g0
        have h3 : m * 2 ^ E ≤ 2 ^ 149 := Int.ofNat_le.1 (Int.neg_le_neg_iff.1 g0)
        exact Nat.le_trans h3 (Nat.le_mul_of_pos_left _ (by decide))
    have hFs : s = true → F ≤ 1 := by
      rintro rfl
      rw [hk] at g0
      simp only [if_true, Int.neg_mul, ← Int.natCast_mul] at g0
      have h3 : m * 2 ^ E ≤ 2 ^ 149 := Int.ofNat_le.1 (Int.neg_le_neg_iff.1 g0)
      have h4 : F * 2 ^ 149 ≤ 1 * 2 ^ 149 := by rw [Nat.one_mul]; exact Nat.le_trans hFk h3
      exact Nat.le_of_mul_le_mul_right h4 (Nat.two_pow_pos _)
    have hF254 : F ≤ 254 := Nat.le_of_mul_le_mul_right (Nat.le_trans hFk hkb) (Nat.two_pow_pos _)
    -- the program's test
    have hP : fcmp .neq .f32 (floatOfInt .f32 (if s then -(F : Int) else (F : Int))) X = !decide (2 ^ 149 ∣ m * 2 ^ E) := by
      rw [neq_key (isN_ofInt .f32 _) hn, hk]
      congr 1
      have hFn := fkey_nat ⟨F, by omega⟩
      simp only at hFn
      cases s
      · simp only [Bool.false_eq_true, if_false]
        rw [hFn, ← Int.natCast_mul]
        exact decide_eq_decide.2 (Int.ofNat_inj.trans hdv)
      · have := hFs rfl
        simp only [if_true, Int.neg_mul, ← Int.natCast_mul]
        have h5 : fkey (floatOfInt .f32 (-(F : Int))) = -((F * 2 ^ 149 : Nat) : Int) := by
          rcases (show F = 0 ∨ F = 1 by omega) with rfl | rfl
          · rw [show (-((0 : Nat) : Int)) = ((0 : Nat) : Int) from rfl, hFn, Nat.zero_mul]
          · rw [show (-((1 : Nat) : Int)) = -1 from rfl, fkey_m1, Nat.one_mul]
        rw [h5]
        refine decide_eq_decide.2 (Iff.trans ⟨fun h => Int.neg_inj.1 h, fun h => by rw [h]⟩ (Int.ofNat_inj.trans hdv))
    -- the reference's test
    have hR : isN .f64 (widen X) = false ∧ isN .f64 (flo (widen X)) = false ∧ fcmp .eql .f64 (widen X) (flo (widen X)) = decide (2 ^ 149 ∣ m * 2 ^ E) := by
      by_cases h0 : m = 0
      · subst h0
        have e1 : widen X = Ieee.double.word s 0 := by rw [hw]; unfold Ieee.Format.nearest; rw [if_pos rfl]
        have hz := read_zero s
        rw [← e1] at hz
        have e2 : flo (widen X) = widen X := by
          unfold flo
          rw [hz, e1]
          cases s <;> decide +kernel
        have hN := isN_of_read hz
        rw [e2]
        refine ⟨hN, hN, ?_⟩
        rw [fcmp_eql_self hN, Nat.zero_mul]
        simp
      · have hL : m.log2 < 24 := (Nat.log2_lt (by omega)).2 hm
        have hrw := read_nearest s m (-149 + (E : Int)) (by omega) (by omega) (by omega) (by omega)
        rw [← hw] at hrw
        have hlo : 2 ^ m.log2 ≤ m := Nat.log2_self_le (by omega)
        have hup : m < 2 ^ (m.log2 + 1) := Nat.lt_log2_self
        have hLE : m.log2 + E < 157 := by
          have h3 : 2 ^ m.log2 * 2 ^ E ≤ 254 * 2 ^ 149 := Nat.le_trans (Nat.mul_le_mul_right _ hlo) hkb
          have h4 : 254 * 2 ^ 149 < 2 ^ 157 := by decide +kernel
          rw [← Nat.pow_add] at h3
          exact (Nat.pow_lt_pow_iff_right (by decide)).1 (Nat.lt_of_le_of_lt h3 h4)
        clear g0 g1 hP hF254 hFs hT hlo
        generalize m.log2 = L at *
        obtain ⟨K, hK⟩ : ∃ K, K = m * 2 ^ (52 - L) := ⟨_, rfl⟩
        obtain ⟨q, hq⟩ : ∃ q : Nat, q = 201 - L - E := ⟨_, rfl⟩
        rw [← hK, show -149 + (E : Int) + (L : Int) - 52 = -(q : Int) by omega] at hrw
        have hD : 2 ^ q ∣ K ↔ 2 ^ 149 ∣ m * 2 ^ E := by
          rw [← Nat.mul_dvd_mul_iff_right (Nat.two_pow_pos E) (a := 2 ^ q), ← Nat.mul_dvd_mul_iff_right (Nat.two_pow_pos (52 - L)) (a := 2 ^ 149), ← Nat.pow_add, ← Nat.pow_add, hK]
          rw [show q + E = 149 + (52 - L) by omega, Nat.mul_right_comm]
        refine ⟨isN_of_read hrw, ?_⟩
        have hfl : flo (widen X) = Ieee.double.nearest s (Ieee.Toward.down.cut s K q) 0 := by
          unfold flo
          rw [hrw]
          unfold Ieee.Datum.integral
          have e1 : (-(q : Int)).toNat = 0 := by omega
          have e2 : (- -(q : Int)).toNat = q := by omega
          simp only [e1, e2, Nat.shiftLeft_zero]
          rfl
        have hG : Ieee.Toward.down.cut s K q < 2 ^ 53 := by
          have hKb : K < 2 ^ 53 := by
            have h3 : m * 2 ^ (52 - L) < 2 ^ (L + 1) * 2 ^ (52 - L) := Nat.mul_lt_mul_of_pos_right hup (Nat.two_pow_pos _)
            rw [← Nat.pow_add, show L + 1 + (52 - L) = 53 by omega] at h3
            rw [hK]; exact h3
          have h4 : K / 2 ^ q < 2 ^ 52 := by
            rw [Nat.div_lt_iff_lt_mul (Nat.two_pow_pos q)]
            have h5 : 2 ^ 1 ≤ 2 ^ q := Nat.pow_le_pow_right (by omega) (by omega)
            have h6 : 2 ^ 52 * 2 ^ 1 ≤ 2 ^ 52 * 2 ^ q := Nat.mul_le_mul_left _ h5
            omega
          rw [cut_downs]
          have h7 := Bool.toNat_le (s && K % 2 ^ q != 0)
          omega
        have hdw := down_whole (s := s) (n := K) (q := q)
        obtain ⟨a, ha⟩ := Is.nearest s _ hG
        rw [← hfl] at ha
        generalize Ieee.Toward.down.cut s K q = G at *
        refine ⟨isN_of_read ha, ?_⟩
        have ho : FloatKind.f64.format.order (widen X) (flo (widen X)) = some (compare ((if s then -(K : Int) else (K : Int)) * ((2 ^ (max q a - q) : Nat) : Int)) ((if s then -((G * 2 ^ a : Nat) : Int) else ((G * 2 ^ a : Nat) : Int)) * ((2 ^ (max q a - a) : Nat) : Int))) := by
          show Ieee.double.order _ _ = _
          unfold Ieee.Format.order
          rw [hrw, ha]
          unfold Ieee.Datum.order
          have e1 : (-(q : Int) - min (-(q : Int)) (-(a : Int))).toNat = max q a - q := by omega
          have e2 : (-(a : Int) - min (-(q : Int)) (-(a : Int))).toNat = max q a - a := by omega
          simp only [e1, e2, signed_eq]
        have hcmp : (K * 2 ^ (max q a - q) = G * 2 ^ a * 2 ^ (max q a - a)) ↔ 2 ^ 149 ∣ m * 2 ^ E := by
          rw [← hD, ← hdw, Nat.mul_assoc, ← Nat.pow_add, show a + (max q a - a) = q + (max q a - q) by omega, Nat.pow_add, ← Nat.mul_assoc]
          exact ⟨fun h => (Nat.eq_of_mul_eq_mul_right (Nat.two_pow_pos _) h).symm, fun h => by rw [h]⟩
        have hab : ((if s then -(K : Int) else (K : Int)) * ((2 ^ (max q a - q) : Nat) : Int) = (if s then -((G * 2 ^ a : Nat) : Int) else ((G * 2 ^ a : Nat) : Int)) * ((2 ^ (max q a - a) : Nat) : Int)) ↔ 2 ^ 149 ∣ m * 2 ^ E := by
          rw [← hcmp]
          cases s
          · simp only [Bool.false_eq_true, if_false]
            rw [← Int.natCast_mul, ← Int.natCast_mul]
            exact Int.ofNat_inj
          · simp only [if_true, Int.neg_mul]
            rw [← Int.natCast_mul, ← Int.natCast_mul]
            exact Iff.trans ⟨fun h => Int.neg_inj.1 h, fun h => by rw [h]⟩ Int.ofNat_inj
        have hE := Int.compare_eq_eq (a := (if s then -(K : Int) else (K : Int)) * ((2 ^ (max q a - q) : Nat) : Int)) (b := (if s then -((G * 2 ^ a : Nat) : Int) else ((G * 2 ^ a : Nat) : Int)) * ((2 ^ (max q a - a) : Nat) : Int))
        have hX := hE.trans hab
        clear hab hE hcmp
        unfold fcmp
        simp only [ho]
        generalize compare (α := Int) _ _ = o at *
        by_cases hd : 2 ^ 149 ∣ m * 2 ^ E
        · rw [hX.2 hd, decide_eq_true hd]; rfl
        · rw [decide_eq_false hd]
          have : o ≠ .eq := fun h => hd (hX.1 h)
          cases o
          · rfl
          · exact absurd rfl this
          · rfl
    refine ⟨hR.1, hR.2.1, _, hT, ?_, ?_, by rw [hP, hR.2.2]⟩
    · cases s
      · simp only [Bool.false_eq_true, if_false]; omega
      · have := hFs rfl; simp only [if_true]; omega
    · cases s
      · simp only [Bool.false_eq_true, if_false]; omega
      · simp only [if_true]; omega
end Go.Fx
