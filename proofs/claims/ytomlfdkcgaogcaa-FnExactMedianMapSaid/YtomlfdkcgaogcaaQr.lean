/- A quarter of a number: '0.25 * x' and 'x / 4' are the same. -/
import Derived.Test.YtomlfdkcgaogcaaFl
namespace Go.Fx
open Go Ieee
theorem log2_mul_pow {m : Nat} (k : Nat) (hm : m ≠ 0) : (m * 2 ^ k).log2 = m.log2 + k := by
  have hp : 0 < 2 ^ k := Nat.pow_pos (by decide)
  have h0 : m * 2 ^ k ≠ 0 := Nat.mul_ne_zero hm (Nat.ne_of_gt hp)
  refine (Nat.log2_eq_iff h0).2 ⟨?_, ?_⟩
  · rw [Nat.pow_add]; exact Nat.mul_le_mul_right _ (Nat.log2_self_le hm)
  · rw [show m.log2 + k + 1 = (m.log2 + 1) + k by omega, Nat.pow_add]
    exact Nat.mul_lt_mul_of_pos_right (Nat.lt_log2_self) hp
theorem cutZ (s : Bool) (n : Nat) : Toward.even.cut s n 0 = n := by
  unfold Toward.cut
  simp [Nat.mod_one]
theorem cut_scale (s : Bool) {m : Nat} (hm : m ≠ 0) (k d : Nat) : Toward.even.cut s (m * 2 ^ k) (d + k) = Toward.even.cut s m d := by
  unfold Toward.cut
  have hp : 0 < 2 ^ k := Nat.pow_pos (by decide)
  have eg : 1 <<< min (d + k) ((m * 2 ^ k).log2 + 2) = (1 <<< min d (m.log2 + 2)) * 2 ^ k := by
    rw [log2_mul_pow k hm, Nat.shiftLeft_eq, Nat.shiftLeft_eq, Nat.one_mul, Nat.one_mul, ← Nat.pow_add]
    congr 1; omega
  simp only [eg]
  generalize 1 <<< min d (m.log2 + 2) = g
  have e1 : m * 2 ^ k / (g * 2 ^ k) = m / g := Nat.mul_div_mul_right _ _ hp
  have e2 : m * 2 ^ k % (g * 2 ^ k) = m % g * 2 ^ k := Nat.mul_mod_mul_right _ _ _
  have e3 : (g * 2 ^ k < 2 * (m % g * 2 ^ k)) ↔ g < 2 * (m % g) := by
    rw [← Nat.mul_assoc]; exact Nat.mul_lt_mul_right hp
  have e4 : (g * 2 ^ k = 2 * (m % g * 2 ^ k)) ↔ g = 2 * (m % g) := by
    rw [← Nat.mul_assoc]; exact Nat.mul_left_inj (Nat.ne_of_gt hp)
  simp only [e1, e2, e3]
  congr 2
  congr 1
  rw [Bool.eq_iff_iff]
  simp only [Bool.and_eq_true, beq_iff_eq, e4]
theorem cut_whole (s : Bool) {m : Nat} (hm : m ≠ 0) (k d : Nat) (h : d ≤ k) : Toward.even.cut s (m * 2 ^ k) d = m * 2 ^ (k - d) := by
  have := cut_scale s (m := m * 2 ^ (k - d)) (Nat.mul_ne_zero hm (Nat.ne_of_gt (Nat.pow_pos (by decide)))) d 0
  rw [Nat.mul_assoc, ← Nat.pow_add, show k - d + d = k by omega, Nat.zero_add, cutZ] at this
  exact this
theorem nearest_scale (f : Format) (s : Bool) {m : Nat} (hm : m ≠ 0) (k : Nat) (p : Int) : f.nearest s (m * 2 ^ k) p = f.nearest s m (p + k) := by
  unfold Format.nearest
  rw [if_neg hm, if_neg (Nat.mul_ne_zero hm (Nat.ne_of_gt (Nat.pow_pos (by decide))))]
  have el : max (p + ((m * 2 ^ k).log2 : Int) - f.fractionBits) f.leastPlace = max (p + k + (m.log2 : Int) - f.fractionBits) f.leastPlace := by
    rw [log2_mul_pow k hm]; congr 1; omega
  simp only [el]
  generalize max (p + k + (m.log2 : Int) - f.fractionBits) f.leastPlace = last
  congr 3
  rcases Int.lt_or_le p last with h | h
  · obtain ⟨a, ha⟩ := Int.eq_ofNat_of_zero_le (show 0 ≤ last - p by omega)
    rw [ha, show (p - last).toNat = 0 by omega, Nat.shiftLeft_zero, Int.toNat_natCast]
    by_cases hk : a ≤ k
    · rw [cut_whole s hm k a hk, show (p + k - last).toNat = k - a by omega, show (last - (p + k)).toNat = 0 by omega, cutZ, Nat.shiftLeft_eq]
    · rw [show (p + k - last).toNat = 0 by omega, show (last - (p + k)).toNat = a - k by omega, Nat.shiftLeft_zero]
      have := cut_scale s hm k (a - k)
      rw [show a - k + k = a by omega] at this
      exact this
  · rw [show (last - p).toNat = 0 by omega, show (last - (p + k)).toNat = 0 by omega, cutZ, cutZ, Nat.shiftLeft_eq, Nat.shiftLeft_eq, Nat.mul_assoc, ← Nat.pow_add]
    congr 2; omega
theorem read_mag {x : Nat} {s : Bool} {m : Nat} {i : Int} (h : single.read x = .number s m i) : m < 16777216 := by
  have hb : single.binade = 8388608 := by decide
  unfold Format.read at h
  simp only at h
  split at h
  · rename_i h1
    injection h with _ h2 _
    omega
  · split at h
    · injection h with _ h2 _
      have := Nat.mod_lt (x % single.signWeight) (show 0 < single.binade by rw [hb]; decide)
      omega
    · split at h <;> cases h
theorem quarter (x : Nat) : fop .mul .f32 1048576000 x = fop .quo .f32 x 1082130432 := by
  unfold fop
  congr 2
  show ((single.read 1048576000).product (single.read x)).map single.write = ((single.read x).quotient 25 (single.read 1082130432)).map single.write
  rw [show single.read 1048576000 = .number false 8388608 (-25) by decide, show single.read 1082130432 = .number false 8388608 (-21) by decide]
  cases hx : single.read x with
  | nan s t => rfl
  | infinity s => cases s <;> rfl
  | number s m i =>
    have hm := read_mag hx
    simp only [Datum.product, Datum.quotient, Option.map]
    rw [if_neg (by decide)]
    simp only [Option.map, Format.write, Bool.false_xor, Bool.xor_false]
    by_cases h0 : m = 0
    · subst h0
      simp [Format.nearest]
    · have hl : m.log2 < 24 := (Nat.log2_lt h0).2 hm
      have e8 : (8388608 : Nat) = 2 ^ 23 := by decide
      have el : Nat.log2 8388608 = 23 := by decide
      rw [el]
      obtain ⟨k, hk⟩ : ∃ k, 25 + 23 - m.log2 = k + 23 := ⟨25 - m.log2, by omega⟩
      rw [hk]
      have ed : m <<< (k + 23) = m * 2 ^ k * 8388608 := by rw [Nat.shiftLeft_eq, Nat.pow_add, ← Nat.mul_assoc]
      rw [ed, Nat.mul_div_cancel _ (by decide), Nat.mul_mod_left]
      have e1 : 8388608 * m = m * 2 ^ 23 := by rw [Nat.mul_comm]
      have e2 : 2 * (m * 2 ^ k) + ((0 : Nat) != 0).toNat = m * 2 ^ (k + 1) := by
        simp only [bne_self_eq_false, Bool.toNat_false, Nat.add_zero]
        rw [Nat.pow_succ, Nat.mul_comm 2 (m * 2 ^ k), Nat.mul_assoc]
      rw [e1, e2, nearest_scale single s h0, nearest_scale single s h0]
      congr 2
      omega
end Go.Fx
