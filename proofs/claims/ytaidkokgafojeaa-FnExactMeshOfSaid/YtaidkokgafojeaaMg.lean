/- Depths of points: numbers that are told apart by their places. -/
import Derived.Test.YtaidkokgafojeaaProg
import Derived.Test.YtaidkokgafojeaaMf
import Derived.Test.YtaidkokgafojeaaVs
namespace Go.Proofs.Ytaidkokgafojeaa
open Go.RowKit Go.Fx Go.Soft
/-- A finite number above nought. -/
structure Deep (z : Nat) : Prop where
  lt : z < 4294967296
  num : isN .f32 z = false
  fin : z ≠ 2139095040
  pos : 0 < fkey z
theorem deep_of {r z : Nat} (h : gPlus z = true) (he : FE .f32 r z) : Deep z := by
  unfold gPlus at h
  simp only [Bool.and_eq_true] at h
  obtain ⟨h1, h2⟩ := h
  have hn : isN .f32 z = false := by
    cases hn : isN .f32 z
    · rfl
    · have := order_nan_left (k := .f32) (y := 0) hn
      unfold fcmp at h2
      simp [this] at h2
  have e := he.num' hn
  refine ⟨by rw [← e]; exact he.lt, hn, ?_, ?_⟩
  · rintro rfl
    exact absurd h1 (by decide +kernel)
  · have ho : FloatKind.f32.format.order z 0 = some (compare (fkey z) (fkey 0)) := order_key hn (by decide +kernel)
    have k0 : fkey 0 = 0 := by decide +kernel
    rw [k0] at ho
    unfold fcmp at h2
    rcases Int.lt_trichotomy (fkey z) 0 with h3 | h3 | h3
    · rw [Int.compare_eq_lt.2 h3] at ho; simp [ho] at h2
    · rw [Int.compare_eq_eq.2 h3] at ho; simp [ho] at h2
    · exact h3
theorem ToldF.four {a b c d : Nat} (ha : Deep a) (hb : Deep b) (hc : Deep c) (hd : Deep d) : ToldF [a, b, c, d] := by
  have all : ∀ i, i < [a, b, c, d].length → Deep ([a, b, c, d].getD i 0) := fun i hi => by
    match i, hi with
    | 0, _ => exact ha
    | 1, _ => exact hb
    | 2, _ => exact hc
    | 3, _ => exact hd
  exact ⟨fun i hi => (all i hi).num, fun i j hi hj e => fkey_inj (all i hi).lt (all j hj).lt (all i hi).num (all j hj).num (all i hi).fin (all j hj).fin (all i hi).pos e⟩
theorem Deep.fe {z : Nat} (h : Deep z) : FE .f32 z z := ⟨cz_num h.num, h.lt⟩
theorem deep_four {a b c d : Nat} (ha : Deep a) (hb : Deep b) (hc : Deep c) (hd : Deep d) : ∀ i, i < 4 → Deep ([a, b, c, d].getD i 0) := fun i hi => by
  match i, hi with
  | 0, _ => exact ha
  | 1, _ => exact hb
  | 2, _ => exact hc
  | 3, _ => exact hd
theorem deep_most {a b c d : Nat} (ha : Deep a) (hb : Deep b) (hc : Deep c) (hd : Deep d) : Deep (gMxTo [a, b, c, d] 3) ∧ Deep (gMnTo [a, b, c, d] 3) := by
  obtain ⟨i, hi, e1⟩ := gMxTo_in [a, b, c, d] 3 (by simp)
  obtain ⟨j, hj, e2⟩ := gMnTo_in [a, b, c, d] 3 (by simp)
  rw [e1, e2]
  exact ⟨deep_four ha hb hc hd i hi, deep_four ha hb hc hd j hj⟩
/-- The depth of a point, in its cell. -/
theorem deep_cell {w : World} {B g cap n : Nat} {t : TypeId} {V : List Nat} (h : VOwn w B t (.slice (some ⟨g, 0, none⟩) n cap) n V) (hl : V.length = 3 * n) (hd : ∀ i, i < n → gPlus (V.getD (3 * i + 2) 0) = true) {q : Nat} (hq : q < n) :
    w.cell? ⟨g, q * 3 + 2, none⟩ = some (.float .f32 (gZat V q)) ∧ Deep (gZat V q) := by
  obtain ⟨r, c, e⟩ := h.get (3 * q + 2) (by omega)
  have eg : V[3 * q + 2]'(by omega) = gZat V q := by unfold gZat; simp [show 3 * q + 2 < V.length by omega]
  rw [eg] at e
  have hD := deep_of (hd q hq) e
  rw [e.num' hD.num] at c
  rw [Nat.mul_comm q 3]
  exact ⟨c, hD⟩
end Go.Proofs.Ytaidkokgafojeaa
