/- Sums of numbers that are no holes, and their means, are no holes. -/
import Derived.Test.YtomlfdkcgaogcaaQr
import Derived.Test.YtomlfdkcgaogcaaFk
namespace Go.Fx
open Go Ieee
/-- No NaN, and not below nought. -/
def NHole : Datum → Prop
  | .number s m _ => s = false ∨ m = 0
  | .infinity s => s = false
  | .nan .. => False
theorem signed_good {s : Bool} {m k : Nat} (h : s = false ∨ m = 0) : 0 ≤ Ieee.signed s m k := by
  unfold Ieee.signed
  rcases h with rfl | rfl
  · simp only [Bool.false_eq_true, if_false]; exact Int.natCast_nonneg _
  · cases s <;> simp
theorem NHole.sum {d e : Datum} (hd : NHole d) (he : NHole e) : ∃ f, d.sum e = some f ∧ NHole f := by
  cases d with
  | nan s t => exact hd.elim
  | infinity s =>
    obtain rfl : s = false := hd
    cases e with
    | nan s t => exact he.elim
    | infinity t => obtain rfl : t = false := he; exact ⟨_, rfl, rfl⟩
    | number t n j => exact ⟨_, rfl, rfl⟩
  | number s m i =>
    cases e with
    | nan s t => exact he.elim
    | infinity t => obtain rfl : t = false := he; exact ⟨_, rfl, rfl⟩
    | number t n j =>
      refine ⟨_, rfl, ?_⟩
      have h1 := signed_good (k := (i - min i j).toNat) hd
      have h2 := signed_good (k := (j - min i j).toNat) he
      show _ ∨ _
      by_cases h0 : Ieee.signed s m (i - min i j).toNat + Ieee.signed t n (j - min i j).toNat = 0
      · right; show (_ : Int).natAbs = 0; rw [h0]; rfl
      · left
        show (if _ = 0 then _ else decide _) = false
        rw [if_neg h0]
        exact decide_eq_false (by omega)
theorem NHole.quot {d : Datum} (hd : NHole d) {n : Nat} (hn : n ≠ 0) (j : Int) : ∃ f, d.quotient 25 (.number false n j) = some f ∧ NHole f := by
  cases d with
  | nan s t => exact hd.elim
  | infinity s => obtain rfl : s = false := hd; exact ⟨_, rfl, rfl⟩
  | number s m i =>
    unfold Datum.quotient
    simp only [if_neg hn]
    refine ⟨_, rfl, ?_⟩
    show _ ∨ _
    rcases hd with rfl | rfl
    · exact .inl rfl
    · right; simp
theorem read_rung {r : Nat} (h : r ≤ single.infRung) : NHole (single.read r) := by
  have hb : single.binade = 8388608 := by decide
  have hi : single.infRung = 2139095040 := by decide
  have hs : single.signWeight = 2147483648 := by decide
  rw [hi] at h
  have e1 : r / single.signWeight % 2 = 0 := by rw [hs]; omega
  have e2 : r % single.signWeight = r := by rw [hs]; omega
  unfold Format.read
  simp only [e1, e2]
  split
  · exact .inl rfl
  · split
    · exact .inl rfl
    · rename_i h1 h2
      rw [if_pos (by omega)]
      rfl
theorem nearest_word (s : Bool) {m : Nat} (p : Int) (hm : m ≠ 0) : ∃ R, single.nearest s m p = single.word s (min R single.infRung) := by
  unfold Format.nearest
  rw [if_neg hm]
  exact ⟨_, rfl⟩
theorem nearest_none (s : Bool) (p : Int) : single.nearest s 0 p = single.word s 0 := by
  unfold Format.nearest
  rw [if_pos rfl]
theorem NHole.write {f : Datum} (h : NHole f) : NHole (single.read (single.write f)) := by
  cases f with
  | nan s t => exact h.elim
  | infinity s =>
    obtain rfl : s = false := h
    have e : single.write (.infinity false) = single.infRung := rfl
    rw [e]
    exact read_rung (Nat.le_refl _)
  | number s m p =>
    have e : single.write (.number s m p) = single.nearest s m p := rfl
    rw [e]
    by_cases hm : m = 0
    · subst hm
      rw [nearest_none]
      cases s
      · have e0 : single.word false 0 = 0 := by decide
        rw [e0]
        exact read_rung (Nat.zero_le _)
      · have e0 : single.read (single.word true 0) = .number true 0 (-149) := by decide
        rw [e0]
        exact .inr rfl
    · obtain rfl : s = false := by rcases h with h | h; exact h; exact absurd h hm
      obtain ⟨R, hR⟩ := nearest_word false p hm
      rw [hR]
      have e0 : single.word false (min R single.infRung) = min R single.infRung := by unfold Format.word; rw [if_neg (by decide)]
      rw [e0]
      exact read_rung (Nat.min_le_right _ _)
theorem NHole.isN {x : Nat} (h : NHole (single.read x)) : isN .f32 x = false := by
  cases hx : Go.Fx.isN .f32 x
  · rfl
  · obtain ⟨s, t, hr⟩ := isNaN_read (k := .f32) hx
    have hr : single.read x = .nan s t := hr
    rw [hr] at h; exact h.elim
theorem good_add {a b : Nat} (ha : NHole (single.read a)) (hb : NHole (single.read b)) : NHole (single.read (fop .add .f32 a b)) := by
  obtain ⟨f, hf, hg⟩ := ha.sum hb
  have e : floatBits .add .f32 a b = some (single.write f) := by
    show ((single.read a).sum (single.read b)).map single.write = _
    rw [hf]; rfl
  unfold fop
  rw [e]
  show NHole (single.read (cz .f32 (single.write f)))
  rw [cz_num hg.write.isN]
  exact hg.write
theorem good_quo {a n : Nat} (ha : NHole (single.read a)) (h1 : 1 ≤ n) (h4 : n ≤ 4) : NHole (single.read (fop .quo .f32 a (floatOfInt .f32 (n : Int)))) := by
  have hr : ∃ k j, k ≠ 0 ∧ single.read (floatOfInt .f32 (n : Int)) = .number false k j := by
    rcases (show n = 1 ∨ n = 2 ∨ n = 3 ∨ n = 4 by omega) with rfl | rfl | rfl | rfl
    · exact ⟨8388608, -23, by decide, by decide +kernel⟩
    · exact ⟨8388608, -22, by decide, by decide +kernel⟩
    · exact ⟨12582912, -22, by decide, by decide +kernel⟩
    · exact ⟨8388608, -21, by decide, by decide +kernel⟩
  obtain ⟨k, j, hk, hr⟩ := hr
  obtain ⟨f, hf, hg⟩ := ha.quot hk j
  have e : floatBits .quo .f32 a (floatOfInt .f32 (n : Int)) = some (single.write f) := by
    show ((single.read a).quotient 25 (single.read _)).map single.write = _
    rw [hr, hf]; rfl
  unfold fop
  rw [e]
  show NHole (single.read (cz .f32 (single.write f)))
  rw [cz_num hg.write.isN]
  exact hg.write
theorem geq_iff {x : Nat} : fcmp .geq .f32 x 0 = true ↔ (single.order x 0 = some .gt ∨ single.order x 0 = some .eq) := by
  have e : FloatKind.f32.format.order x 0 = single.order x 0 := rfl
  unfold fcmp
  rw [e]
  cases single.order x 0 with
  | none => simp
  | some o => cases o <;> simp
/-- 'x >= 0' says just this. -/
theorem good_geq {x : Nat} : fcmp .geq .f32 x 0 = true ↔ NHole (single.read x) := by
  have h0 : single.read 0 = .number false 0 (-149) := by decide
  have ho : single.order x 0 = (single.read x).order (.number false 0 (-149)) := by unfold Format.order; rw [h0]
  rw [geq_iff, ho]
  cases hx : single.read x with
  | nan s t => exact ⟨fun h => (by rcases h with h | h <;> cases h), fun h => h.elim⟩
  | infinity s =>
    cases s
    · exact ⟨fun _ => rfl, fun _ => .inl rfl⟩
    · exact ⟨fun h => (by rcases h with h | h <;> cases h), fun h => (by cases h)⟩
  | number s m i =>
    have e1 : (Datum.number s m i).order (.number false 0 (-149)) = some (compare (Ieee.signed s m (i - min i (-149)).toNat) (Ieee.signed false 0 (-149 - min i (-149)).toNat)) := rfl
    have h3 : Ieee.signed false 0 (-149 - min i (-149)).toNat = 0 := by unfold Ieee.signed; simp
    rw [e1, h3]
    constructor
    · intro h
      by_cases hs : s = false ∨ m = 0
      · exact hs
      · exfalso
        have hp : 0 < m <<< (i - min i (-149)).toNat := by rw [Nat.shiftLeft_eq]; exact Nat.mul_pos (by omega) (Nat.pow_pos (by decide))
        have hneg : Ieee.signed s m (i - min i (-149)).toNat < 0 := by
          unfold Ieee.signed
          rw [if_pos (by cases s; exact absurd (.inl rfl) hs; rfl)]
          generalize m <<< (i - min i (-149)).toNat = z at *
          omega
        rw [Int.compare_eq_lt.2 hneg] at h
        rcases h with h | h <;> cases h
    · intro h
      have h2 := signed_good (k := (i - min i (-149)).toNat) h
      generalize Ieee.signed s m (i - min i (-149)).toNat = z at *
      rcases Int.lt_or_eq_of_le h2 with h | h
      · exact .inl (by rw [Int.compare_eq_gt.2 h])
      · exact .inr (by rw [← h]; rfl)
end Go.Fx
