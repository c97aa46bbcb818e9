/- Contracts: margins, and what is trusted. MAXREC -/
import Derived.Test.YtldeeijfipiafaaProg
import Derived.Test.YtldeeijfipiafaaC26
import Derived.Test.YtldeeijfipiafaaFk
namespace Go.Proofs.Ytldeeijfipiafaa
open Go.RowKit Go.Fx Go.Soft
theorem drew_self (w : World) : ∃ n, w = w.drewN n := ⟨0, rfl⟩
theorem gNaN_isN (x : Nat) : gNaN x = isN .f32 x := by
  unfold gNaN
  cases h : isN .f32 x
  · exact fcmp_neq_self h
  · exact fcmp_neq_nan h
/-- The winner is no NaN, and none of the others is less. -/
theorem gWin_least (c : Nat → Nat) (but : Int) : ∀ (k b : Nat), gWin c but k = (b : Int) → isN .f32 (c b) = false ∧ ∀ j, j < k → (j : Int) ≠ but → isN .f32 (c j) = false → fcmp .lss .f32 (c j) (c b) = false := by
  intro k
  induction k with
  | zero => intro b h; simp only [gWin] at h; omega
  | succ k ih =>
    intro b h
    have hself : isN .f32 (c k) = false → fcmp .lss .f32 (c k) (c k) = false := fun hn => by
      rw [lss_key hn hn]; exact decide_eq_false (by omega)
    rcases gWin_step c but k with ⟨h1, hE⟩ | ⟨h1, h2, hE⟩ | ⟨h1, h2, h3, hE⟩ | ⟨b', hb, h1, h2, h3, h4, hE⟩ | ⟨b', hb, h1, h2, h3, h4, hE⟩
    · rw [hE] at h
      obtain ⟨i1, i2⟩ := ih b h
      refine ⟨i1, fun j hj hjb hjn => ?_⟩
      rcases Nat.lt_or_ge j k with h' | h'
      · exact i2 j h' hjb hjn
      · exact absurd (show (j : Int) = but by omega) hjb
    · rw [hE] at h
      obtain ⟨i1, i2⟩ := ih b h
      refine ⟨i1, fun j hj hjb hjn => ?_⟩
      rcases Nat.lt_or_ge j k with h' | h'
      · exact i2 j h' hjb hjn
      · obtain rfl : j = k := by omega
        rw [gNaN_isN, hjn] at h2; cases h2
    · rw [hE] at h
      obtain rfl : k = b := by omega
      rw [gNaN_isN] at h2
      refine ⟨h2, fun j hj hjb hjn => ?_⟩
      rcases Nat.lt_or_ge j k with h' | h'
      · exfalso
        -- nothing was found among the first k
        have key : ∀ m, m ≤ k → j < m → 0 ≤ gWin c but m := by
          intro m
          induction m with
          | zero => intro _ hjm; omega
          | succ m im =>
            intro hm hjm
            rcases gWin_step c but m with ⟨q1, qE⟩ | ⟨q1, q2, qE⟩ | ⟨q1, q2, q3, qE⟩ | ⟨b', qb, q1, q2, q3, q4, qE⟩ | ⟨b', qb, q1, q2, q3, q4, qE⟩
            · rw [qE]
              rcases Nat.lt_or_ge j m with h'' | h''
              · exact im (by omega) h''
              · exact absurd (show (j : Int) = but by omega) hjb
            · rw [qE]
              rcases Nat.lt_or_ge j m with h'' | h''
              · exact im (by omega) h''
              · obtain rfl : j = m := by omega
                rw [gNaN_isN, hjn] at q2; cases q2
            · rw [qE]; omega
            · rw [qE]; omega
            · rw [qE, q3]; omega
        have := key k (Nat.le_refl _) h'
        omega
      · obtain rfl : j = k := by omega
        exact hself hjn
    · rw [hE] at h
      obtain rfl : k = b := by omega
      rw [gNaN_isN] at h2
      obtain ⟨i1, i2⟩ := ih b' h3
      refine ⟨h2, fun j hj hjb hjn => ?_⟩
      rcases Nat.lt_or_ge j k with h' | h'
      · have i3 := i2 j h' hjb hjn
        rw [lss_key hjn i1, decide_eq_false_iff_not] at i3
        rw [lss_key h2 i1, decide_eq_true_eq] at h4
        rw [lss_key hjn h2]
        exact decide_eq_false (by omega)
      · obtain rfl : j = k := by omega
        exact hself hjn
    · rw [hE] at h
      obtain ⟨i1, i2⟩ := ih b h
      refine ⟨i1, fun j hj hjb hjn => ?_⟩
      rcases Nat.lt_or_ge j k with h' | h'
      · exact i2 j h' hjb hjn
      · obtain rfl : j = k := by omega
        obtain rfl : b' = b := by omega
        exact h4
/-- The least cost, or infinity. -/
def gLeast (c : Nat → Nat) (g : Int) : Nat := if g < 0 then 2139095040 else c g.toNat
/-- What the next cost is more than the least one. -/
def gMarg (c : Nat → Nat) (D : Nat) : Nat :=
  if gWin c (-1) D < 0 ∨ gWin c (gWin c (-1) D) D < 0 then 2139095040 else fop .sub .f32 (c (gWin c (gWin c (-1) D) D).toNat) (c (gWin c (-1) D).toNat)
theorem gMarg_ways (c : Nat → Nat) (D : Nat) :
    (gWin c (-1) D = -1 ∧ gMarg c D = 2139095040) ∨ (∃ f : Nat, f < D ∧ gWin c (-1) D = f ∧ gWin c f D = -1 ∧ gMarg c D = 2139095040) ∨
    (∃ f s : Nat, f < D ∧ s < D ∧ gWin c (-1) D = f ∧ gWin c f D = s ∧ gMarg c D = fop .sub .f32 (c s) (c f)) := by
  have r := gWin_range c (-1) D
  rcases (show gWin c (-1) D = -1 ∨ 0 ≤ gWin c (-1) D by omega) with h | h
  · left; exact ⟨h, by unfold gMarg; rw [if_pos (Or.inl (by omega))]⟩
  · right
    obtain ⟨f, hf⟩ := Int.eq_ofNat_of_zero_le h
    have r2 := gWin_range c f D
    rcases (show gWin c f D = -1 ∨ 0 ≤ gWin c f D by omega) with h2 | h2
    · left; exact ⟨f, by omega, hf, h2, by unfold gMarg; rw [hf, if_pos (Or.inr (by omega))]⟩
    · right
      obtain ⟨s, hs⟩ := Int.eq_ofNat_of_zero_le h2
      refine ⟨f, s, by omega, by omega, hf, hs, ?_⟩
      unfold gMarg
      rw [hf, hs, if_neg (by omega)]; simp
theorem gMarg_canon (c : Nat → Nat) (D : Nat) : gMarg c D < 2 ^ 32 ∧ cz .f32 (gMarg c D) = gMarg c D := by
  rcases gMarg_ways c D with ⟨_, h⟩ | ⟨f, _, _, _, h⟩ | ⟨f, s, _, _, _, _, h⟩
  · rw [h]; decide
  · rw [h]; decide
  · rw [h]; exact fop_can .sub _ _ rfl
theorem gMarg_not (c : Nat → Nat) (D : Nat) : gMarg c D ≠ 4286578688 := by
  rcases gMarg_ways c D with ⟨_, h⟩ | ⟨f, _, _, _, h⟩ | ⟨f, s, h1, h2, h3, h4, h⟩
  · rw [h]; decide
  · rw [h]; decide
  · rw [h]
    obtain ⟨n1, l1⟩ := gWin_least c _ D f h3
    obtain ⟨n2, -⟩ := gWin_least c _ D s h4
    exact sub_not_neginf n2 n1 (l1 s h2 (by omega) n2)
theorem gMarg_inf (c : Nat → Nat) (D : Nat) : (!gFin (gMarg c D) && !gNaN (gMarg c D)) = fcmp .eql .f32 (gMarg c D) 2139095040 := inf_law (gMarg_canon c D).1 (gMarg_not c D)
theorem gMarg_congr {c c' : Nat → Nat} {D : Nat} (h : ∀ j, j < D → c j = c' j) : gMarg c D = gMarg c' D := by
  have e := gWin_congr (but := -1) h
  have e2 := fun b => gWin_congr (but := b) h
  have r := gWin_range c (-1) D
  unfold gMarg
  rw [← e, ← e2]
  have r2 := gWin_range c (gWin c (-1) D) D
  by_cases h1 : gWin c (-1) D < 0 ∨ gWin c (gWin c (-1) D) D < 0
  · rw [if_pos h1, if_pos h1]
  · rw [if_neg h1, if_neg h1, h _ (show (gWin c (-1) D).toNat < D by omega), h _ (show (gWin c (gWin c (-1) D) D).toNat < D by omega)]
/-- What the margin is of the margin and the least cost. -/
def gShare (c : Nat → Nat) (D : Nat) : Nat := fop .quo .f32 (gMarg c D) (fop .add .f32 (gMarg c D) (gLeast c (gWin c (-1) D)))
def gTrust (c : Nat → Nat) (D : Nat) : Nat := if fcmp .eql .f32 (gMarg c D) 2139095040 then 1065353216 else if gNaN (gShare c D) then 0 else gShare c D
theorem gTrust_congr {c c' : Nat → Nat} {D : Nat} (h : ∀ j, j < D → c j = c' j) : gTrust c D = gTrust c' D := by
  have e := gWin_congr (but := -1) h
  have r := gWin_range c (-1) D
  have e2 : gShare c D = gShare c' D := by
    unfold gShare
    rw [gMarg_congr h, ← e]
    congr 2
    unfold gLeast
    split
    · rfl
    · rw [h _ (show (gWin c (-1) D).toNat < D by omega)]
  unfold gTrust
  rw [gMarg_congr h, e2]
theorem gTrust_ways (c : Nat → Nat) (D : Nat) :
    (fcmp .eql .f32 (gMarg c D) 2139095040 = true ∧ gTrust c D = 1065353216) ∨ (fcmp .eql .f32 (gMarg c D) 2139095040 = false ∧ gNaN (gShare c D) = true ∧ gTrust c D = 0) ∨
    (fcmp .eql .f32 (gMarg c D) 2139095040 = false ∧ gNaN (gShare c D) = false ∧ gTrust c D = gShare c D) := by
  unfold gTrust
  cases fcmp .eql .f32 (gMarg c D) 2139095040 <;> cases gNaN (gShare c D) <;> simp
end Go.Proofs.Ytldeeijfipiafaa
