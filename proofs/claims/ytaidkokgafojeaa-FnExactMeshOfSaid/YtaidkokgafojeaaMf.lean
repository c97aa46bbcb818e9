/- The mesh, in plain Lean: triangles of cells. -/
import Derived.Test.YtaidkokgafojeaaProg
import Derived.Test.YtaidkokgafojeaaC121
import Derived.Test.YtaidkokgafojeaaC72
namespace Go.Fx
open Go
/-- The place of a word that is no NaN and not below nought. -/
def rkey (r : Nat) : Nat := if r < 8388608 then r else (8388608 + r % 8388608) * 2 ^ (r / 8388608 - 1)
theorem rkey_lt {a b : Nat} (h : a < b) : rkey a < rkey b := by
  unfold rkey
  by_cases ha : a < 8388608
  · rw [if_pos ha]
    by_cases hb : b < 8388608
    · rw [if_pos hb]; exact h
    · rw [if_neg hb]
      have : 1 ≤ 2 ^ (b / 8388608 - 1) := Nat.one_le_two_pow
      have := Nat.mul_le_mul (show 8388608 ≤ 8388608 + b % 8388608 by omega) this
      omega
  · rw [if_neg ha, if_neg (by omega)]
    have hab : a / 8388608 ≤ b / 8388608 := Nat.div_le_div_right (by omega)
    by_cases he : a / 8388608 = b / 8388608
    · rw [he]
      exact Nat.mul_lt_mul_of_pos_right (by omega) (Nat.two_pow_pos _)
    · have h1 : (8388608 + a % 8388608) * 2 ^ (a / 8388608 - 1) < (8388608 * 2) * 2 ^ (a / 8388608 - 1) := Nat.mul_lt_mul_of_pos_right (by omega) (Nat.two_pow_pos _)
      have h2 : (8388608 * 2) * 2 ^ (a / 8388608 - 1) = 8388608 * 2 ^ (a / 8388608) := by
        rw [Nat.mul_assoc, ← Nat.pow_succ']
        congr 2
        omega
      have h3 : 2 ^ (a / 8388608) ≤ 2 ^ (b / 8388608 - 1) := Nat.pow_le_pow_right (by omega) (by omega)
      have h4 : 8388608 * 2 ^ (a / 8388608) ≤ (8388608 + b % 8388608) * 2 ^ (b / 8388608 - 1) := Nat.mul_le_mul (by omega) h3
      omega
theorem fkey_pos {x : Nat} (hx : x < 4294967296) (hn : isN .f32 x = false) (hp : 0 < fkey x) : x = 2139095040 ∨ (x < 2139095040 ∧ fkey x = (rkey x : Int)) := by
  have hb : Ieee.single.binade = 8388608 := by decide
  have hi : Ieee.single.infRung = 2139095040 := by decide
  have hs : Ieee.single.signWeight = 2147483648 := by decide
  have hl : Ieee.single.leastPlace = -149 := by decide
  obtain ⟨D, hD⟩ : ∃ D, D = Ieee.single.read x := ⟨_, rfl⟩
  have hr := hD
  unfold Ieee.Format.read at hr
  simp only [hb, hi, hs, hl] at hr
  have neg : ∀ m e, D = .number true m e → False := fun m e h => by
    rw [hD] at h
    have h3 := fkey_number h
    rw [h3] at hp
    have : (0 : Int) ≤ (m : Int) * ((2 ^ (e + 149).toNat : Nat) : Int) := Int.mul_nonneg (Int.natCast_nonneg _) (Int.natCast_nonneg _)
    simp only [if_true, Int.neg_mul] at hp
    omega
  by_cases h1 : x < 2147483648
  · have e1 : x / 2147483648 % 2 = 0 := by omega
    have e2 : x % 2147483648 = x := by omega
    rw [e1, e2] at hr
    by_cases h2 : x < 8388608
    · right
      refine ⟨by omega, ?_⟩
      rw [if_pos h2] at hr
      rw [hD] at hr
      have h3 := fkey_number hr
      rw [h3]
      unfold rkey
      rw [if_pos h2]
      simp
    · rw [if_neg h2] at hr
      by_cases h4 : x < 2139095040
      · right
        refine ⟨h4, ?_⟩
        rw [if_pos h4] at hr
        rw [hD] at hr
        have h3 := fkey_number hr
        rw [h3]
        unfold rkey
        rw [if_neg h2]
        have e3 : (-149 + ((x / 8388608 - 1 : Nat) : Int) + 149).toNat = x / 8388608 - 1 := by omega
        rw [e3]
        simp
      · rw [if_neg h4] at hr
        by_cases h5 : x = 2139095040
        · exact Or.inl h5
        · rw [if_neg h5] at hr
          rw [hD] at hr
          exact (not_nan_of hr hn).elim
  · exfalso
    have e1 : x / 2147483648 % 2 = 1 := by omega
    rw [e1] at hr
    by_cases h2 : x % 2147483648 < 8388608
    · rw [if_pos h2] at hr
      exact neg _ _ hr
    · rw [if_neg h2] at hr
      by_cases h4 : x % 2147483648 < 2139095040
      · rw [if_pos h4] at hr
        exact neg _ _ hr
      · rw [if_neg h4] at hr
        by_cases h5 : x % 2147483648 = 2139095040
        · rw [if_pos h5] at hr
          rw [hD] at hr
          have h3 := fkey_inf hr
          rw [h3] at hp
          have hB : (0 : Int) < ((16 ^ 100 : Nat) : Int) := Int.ofNat_lt.2 (Nat.pow_pos (by decide))
          generalize ((16 ^ 100 : Nat) : Int) = B at *
          simp at hp
          omega
        · rw [if_neg h5] at hr
          rw [hD] at hr
          exact (not_nan_of hr hn).elim
/-- Numbers above nought are told apart by their places. -/
theorem fkey_inj {x y : Nat} (hx : x < 4294967296) (hy : y < 4294967296) (nx : isN .f32 x = false) (ny : isN .f32 y = false) (fx : x ≠ 2139095040) (fy : y ≠ 2139095040) (px : 0 < fkey x) (h : fkey x = fkey y) : x = y := by
  have h1 := (fkey_pos hx nx px).resolve_left fx
  have h2 := (fkey_pos hy ny (by omega)).resolve_left fy
  rw [h1.2, h2.2] at h
  rcases Nat.lt_trichotomy x y with h3 | h3 | h3
  · have := rkey_lt h3; omega
  · exact h3
  · have := rkey_lt h3; omega
end Go.Fx
namespace Go.Proofs.Ytaidkokgafojeaa
open Go.RowKit Go.Fx Go.Soft
theorem gMxTo_ge (L : List Nat) : ∀ k i, i ≤ k → fkey (L.getD i 0) ≤ fkey (gMxTo L k)
  | 0, i, h => by
    obtain rfl : i = 0 := by omega
    exact Int.le_refl _
  | k + 1, i, h => by
    show _ ≤ fkey (gMx _ _)
    unfold gMx
    by_cases e : i = k + 1
    · subst e
      split
      · exact Int.le_refl _
      · omega
    · have ih := gMxTo_ge L k i (by omega)
      split
      · omega
      · exact ih
theorem gMnTo_le (L : List Nat) : ∀ k i, i ≤ k → fkey (gMnTo L k) ≤ fkey (L.getD i 0)
  | 0, i, h => by
    obtain rfl : i = 0 := by omega
    exact Int.le_refl _
  | k + 1, i, h => by
    show fkey (gMn _ _) ≤ _
    unfold gMn
    by_cases e : i = k + 1
    · subst e
      split
      · exact Int.le_refl _
      · omega
    · have ih := gMnTo_le L k i (by omega)
      split
      · omega
      · exact ih
/-- The greatest of four does not hang on their order. -/
theorem gMx_swap {a b c d : Nat} (h : ToldF [a, b, c, d]) : gMxTo [a, b, c, d] 3 = gMxTo [a, b, d, c] 3 := by
  obtain ⟨i, hi, e1⟩ := gMxTo_in [a, b, c, d] 3 (by simp)
  obtain ⟨j, hj, e2⟩ := gMxTo_in [a, b, d, c] 3 (by simp)
  have sw : ∀ j, j < 4 → ∃ j', j' < 4 ∧ [a, b, d, c].getD j 0 = [a, b, c, d].getD j' 0 := fun j hj => by
    match j, hj with
    | 0, _ => exact ⟨0, by omega, rfl⟩
    | 1, _ => exact ⟨1, by omega, rfl⟩
    | 2, _ => exact ⟨3, by omega, rfl⟩
    | 3, _ => exact ⟨2, by omega, rfl⟩
  have sw2 : ∀ j, j < 4 → ∃ j', j' < 4 ∧ [a, b, c, d].getD j 0 = [a, b, d, c].getD j' 0 := fun j hj => by
    match j, hj with
    | 0, _ => exact ⟨0, by omega, rfl⟩
    | 1, _ => exact ⟨1, by omega, rfl⟩
    | 2, _ => exact ⟨3, by omega, rfl⟩
    | 3, _ => exact ⟨2, by omega, rfl⟩
  obtain ⟨j', hj', e3⟩ := sw j hj
  obtain ⟨i', hi', e4⟩ := sw2 i hi
  have k1 := gMxTo_ge [a, b, c, d] 3 j' (by omega)
  have k2 := gMxTo_ge [a, b, d, c] 3 i' (by omega)
  rw [e1] at k1 ⊢
  rw [e2] at k2 ⊢
  rw [← e4] at k2
  rw [e3] at k2 ⊢
  exact h.inj i j' hi hj' (by omega)
theorem gMn_swap {a b c d : Nat} (h : ToldF [a, b, c, d]) : gMnTo [a, b, c, d] 3 = gMnTo [a, b, d, c] 3 := by
  obtain ⟨i, hi, e1⟩ := gMnTo_in [a, b, c, d] 3 (by simp)
  obtain ⟨j, hj, e2⟩ := gMnTo_in [a, b, d, c] 3 (by simp)
  have sw : ∀ j, j < 4 → ∃ j', j' < 4 ∧ [a, b, d, c].getD j 0 = [a, b, c, d].getD j' 0 := fun j hj => by
    match j, hj with
    | 0, _ => exact ⟨0, by omega, rfl⟩
    | 1, _ => exact ⟨1, by omega, rfl⟩
    | 2, _ => exact ⟨3, by omega, rfl⟩
    | 3, _ => exact ⟨2, by omega, rfl⟩
  have sw2 : ∀ j, j < 4 → ∃ j', j' < 4 ∧ [a, b, c, d].getD j 0 = [a, b, d, c].getD j' 0 := fun j hj => by
    match j, hj with
    | 0, _ => exact ⟨0, by omega, rfl⟩
    | 1, _ => exact ⟨1, by omega, rfl⟩
    | 2, _ => exact ⟨3, by omega, rfl⟩
    | 3, _ => exact ⟨2, by omega, rfl⟩
  obtain ⟨j', hj', e3⟩ := sw j hj
  obtain ⟨i', hi', e4⟩ := sw2 i hi
  have k1 := gMnTo_le [a, b, c, d] 3 j' (by omega)
  have k2 := gMnTo_le [a, b, d, c] 3 i' (by omega)
  rw [e1] at k1 ⊢
  rw [e2] at k2 ⊢
  rw [← e4] at k2
  rw [e3] at k2 ⊢
  exact h.inj i j' hi hj' (by omega)
theorem getD_left {l m : List Int} {i : Nat} (h : i < l.length) : (l ++ m).getD i 0 = l.getD i 0 := by
  rw [List.getD_eq_getElem?_getD, List.getElem?_append_left h, ← List.getD_eq_getElem?_getD]
/-- The cells of points rise. -/
theorem gPtsI_below (F B : Nat) (xs : List Nat) : ∀ n i, i < (gPtsI F B xs n).length → ∃ c : Nat, c < n ∧ (gPtsI F B xs n).getD i 0 = (c : Int)
  | 0, i, h => by simp [gPtsI] at h
  | n + 1, i, h => by
    cases hz : gFar F B (xs.getD n 0) with
    | none =>
      rw [gPtsI_none hz] at h ⊢
      obtain ⟨c, hc, e⟩ := gPtsI_below F B xs n i h
      exact ⟨c, by omega, e⟩
    | some Z =>
      rw [gPtsI_some hz] at h ⊢
      rw [List.length_append] at h
      simp only [List.length_cons, List.length_nil] at h
      by_cases e : i < (gPtsI F B xs n).length
      · obtain ⟨c, hc, e2⟩ := gPtsI_below F B xs n i e
        exact ⟨c, by omega, by rw [getD_left e]; exact e2⟩
      · obtain rfl : i = (gPtsI F B xs n).length := by omega
        exact ⟨n, by omega, by simp⟩
theorem gPtsI_rise (F B : Nat) (xs : List Nat) : ∀ n i j, i < j → j < (gPtsI F B xs n).length → (gPtsI F B xs n).getD i 0 < (gPtsI F B xs n).getD j 0
  | 0, i, j, _, h => by simp [gPtsI] at h
  | n + 1, i, j, hij, h => by
    cases hz : gFar F B (xs.getD n 0) with
    | none =>
      rw [gPtsI_none hz] at h ⊢
      exact gPtsI_rise F B xs n i j hij h
    | some Z =>
      rw [gPtsI_some hz] at h ⊢
      rw [List.length_append] at h
      simp only [List.length_cons, List.length_nil] at h
      have ei : i < (gPtsI F B xs n).length := by omega
      by_cases e : j < (gPtsI F B xs n).length
      · have := gPtsI_rise F B xs n i j hij e
        rw [getD_left e, getD_left ei]
        exact this
      · obtain rfl : j = (gPtsI F B xs n).length := by omega
        obtain ⟨c, hc, e2⟩ := gPtsI_below F B xs n i ei
        have e3 : (gPtsI F B xs n ++ [(n : Int)]).getD i 0 = (c : Int) := by rw [getD_left ei]; exact e2
        have e4 : (gPtsI F B xs n ++ [(n : Int)]).getD (gPtsI F B xs n).length 0 = (n : Int) := by simp
        rw [e3, e4]
        omega
/-- The depths of points are above nought and finite. -/
theorem gPtsV_deep (F B MX MY W : Nat) (xs : List Nat) : ∀ n, (gPtsV F B MX MY W xs n).length = 3 * (gPtsI F B xs n).length ∧ ∀ i, i < (gPtsI F B xs n).length → gPlus ((gPtsV F B MX MY W xs n).getD (3 * i + 2) 0) = true
  | 0 => ⟨rfl, fun i h => by simp [gPtsI] at h⟩
  | n + 1 => by
    obtain ⟨h1, h2⟩ := gPtsV_deep F B MX MY W xs n
    cases hz : gFar F B (xs.getD n 0) with
    | none =>
      rw [gPtsI_none hz, gPtsV_none hz]
      exact ⟨h1, h2⟩
    | some Z =>
      have hZ : gPlus Z = true := by
        unfold gFar at hz
        split at hz
        · rename_i h
          simp only [Bool.and_eq_true] at h
          cases hz
          exact h.2
        · cases hz
      rw [gPtsI_some hz, gPtsV_some hz]
      refine ⟨by simp [h1]; omega, fun i h => ?_⟩
      rw [List.length_append] at h
      simp only [List.length_cons, List.length_nil] at h
      by_cases e : i < (gPtsI F B xs n).length
      · have := h2 i e
        rw [List.getD_eq_getElem?_getD, List.getElem?_append_left (by omega), ← List.getD_eq_getElem?_getD]
        exact this
      · obtain rfl : i = (gPtsI F B xs n).length := by omega
        rw [List.getD_eq_getElem?_getD, List.getElem?_append_right (by omega), h1]
        rw [show 3 * (gPtsI F B xs n).length + 2 - 3 * (gPtsI F B xs n).length = 2 by omega]
        exact hZ
/-- The depth of a point. -/
def gZat (V : List Nat) (k : Nat) : Nat := V.getD (3 * k + 2) 0
/-- The two triangles of a cell. -/
def gQuad (I : List Int) (V : List Nat) (W : Nat) (M : Nat) (c : Nat) : List (List Int) :=
  if (gIx I c < I.length ∧ gIx I ((c + 1 : Nat) : Int) < I.length ∧ gIx I ((c + W : Nat) : Int) < I.length ∧ gIx I ((c + W + 1 : Nat) : Int) < I.length) ∧
    fcmp .leq .f32 (fop .sub .f32 (gMxTo [gZat V (gIx I c), gZat V (gIx I ((c + 1 : Nat) : Int)), gZat V (gIx I ((c + W : Nat) : Int)), gZat V (gIx I ((c + W + 1 : Nat) : Int))] 3) (gMnTo [gZat V (gIx I c), gZat V (gIx I ((c + 1 : Nat) : Int)), gZat V (gIx I ((c + W : Nat) : Int)), gZat V (gIx I ((c + W + 1 : Nat) : Int))] 3)) M = true
  then [[(gIx I c : Int), (gIx I ((c + 1 : Nat) : Int) : Int), (gIx I ((c + W + 1 : Nat) : Int) : Int)], [(gIx I c : Int), (gIx I ((c + W + 1 : Nat) : Int) : Int), (gIx I ((c + W : Nat) : Int) : Int)]] else []
def gMesh (I : List Int) (V : List Nat) (W H M : Nat) : Nat → List (List Int)
  | 0 => []
  | i + 1 => if i % W + 1 = W ∨ i / W + 1 = H then gMesh I V W H M i else gMesh I V W H M i ++ gQuad I V W M i
theorem gMesh_skip {I : List Int} {V : List Nat} {W H M i : Nat} (h : i % W + 1 = W ∨ i / W + 1 = H) : gMesh I V W H M (i + 1) = gMesh I V W H M i := by
  show (if _ then _ else _) = _
  rw [if_pos h]
theorem gMesh_on {I : List Int} {V : List Nat} {W H M i : Nat} (h : ¬ (i % W + 1 = W ∨ i / W + 1 = H)) : gMesh I V W H M (i + 1) = gMesh I V W H M i ++ gQuad I V W M i := by
  show (if _ then _ else _) = _
  rw [if_neg h]
theorem gMesh_last {I : List Int} {V : List Nat} {W H M : Nat} (hW : 0 < W) : ∀ t, t ≤ W → gMesh I V W (H + 1) M (W * H + t) = gMesh I V W (H + 1) M (W * H)
  | 0, _ => rfl
  | t + 1, h => by
    have ih := gMesh_last (I := I) (V := V) (H := H) (M := M) hW t (by omega)
    rw [← Nat.add_assoc, gMesh_skip (Or.inr ?_), ih]
    rw [Nat.mul_add_div hW, Nat.div_eq_of_lt (by omega)]
theorem gMesh_three (I : List Int) (V : List Nat) (W H M : Nat) : ∀ n, ∀ t ∈ gMesh I V W H M n, t.length = 3
  | 0 => fun t h => by simp [gMesh] at h
  | n + 1 => fun t h => by
    have ih := gMesh_three I V W H M n
    by_cases e : n % W + 1 = W ∨ n / W + 1 = H
    · rw [gMesh_skip e] at h; exact ih t h
    · rw [gMesh_on e] at h
      rcases List.mem_append.1 h with h | h
      · exact ih t h
      · unfold gQuad at h
        split at h
        · simp only [List.mem_cons, List.not_mem_nil, or_false] at h
          rcases h with rfl | rfl <;> rfl
        · simp at h
theorem gMesh_len (I : List Int) (V : List Nat) (W H M : Nat) : ∀ n, (gMesh I V W H M n).length ≤ 2 * n
  | 0 => Nat.le_refl _
  | n + 1 => by
    have ih := gMesh_len I V W H M n
    by_cases e : n % W + 1 = W ∨ n / W + 1 = H
    · rw [gMesh_skip e]; omega
    · rw [gMesh_on e, List.length_append]
      have : (gQuad I V W M n).length ≤ 2 := by unfold gQuad; split <;> simp
      omega
end Go.Proofs.Ytaidkokgafojeaa
