/- Contracts: winners. MAXREC -/
import Derived.Test.YtaidkokgafojeaaProg
import Derived.Test.YtaidkokgafojeaaC24
namespace Go.Proofs.Ytaidkokgafojeaa
open Go.RowKit Go.Fx Go.Soft
def gNaN (x : Nat) : Bool := fcmp .neq .f32 x x
set_option maxRecDepth 20000 in
set_option maxHeartbeats 400000 in
theorem I_isNaN (x X : Nat) (w : World) (hx : FE .f32 x X) :
    Calls Try.prog 154 #[.float .f32 x] w fun e w' => e = .returned (.bool (gNaN X)) ∧ ∃ n, w' = w.drewN n := by
  go_enter Try.func154, Try.ntmps154
  go_wp2_with (first
      | ((with_reducible apply wpList_fop); (case hw => rfl); (case hop => rfl); (case hx => rfl); (case hy => rfl); (case hA => (first | assumption | exact FE.ofInt _ _ | exact FE.lit (by decide +kernel))); (case hB => (first | assumption | exact FE.ofInt _ _ | exact FE.lit (by decide +kernel))); intro r n hr)
      | ((with_reducible apply wpList_fcmp); (case hw => rfl); (case hop => rfl); (case hx => rfl); (case hy => rfl); (case hA => (first | assumption | exact FE.ofInt _ _ | exact FE.lit (by decide +kernel))); (case hB => (first | assumption | exact FE.ofInt _ _ | exact FE.lit (by decide +kernel))); (case hb => (first | assumption | rfl)))
      | ((with_reducible apply wpList_widen); (case hw => rfl); (case hs => exact Try.underlying65); (case hd => exact Try.underlying147); (case hx => rfl); (case hA => (first | assumption | exact FE.ofInt _ _ | exact FE.lit (by decide +kernel))); intro r n hr)
      | ((with_reducible apply wpList_fneg); (case hw => rfl); (case hx => rfl); (case hA => (first | assumption | exact FE.ofInt _ _ | exact FE.lit (by decide +kernel))); intro r hr))
  go_ret
  exact ⟨rfl, (by first | exact ⟨0, rfl⟩ | exact ⟨_, rfl⟩)⟩
/-- The first of the least of k numbers, but one; -1 without any. -/
def gWin (c : Nat → Nat) (but : Int) : Nat → Int
  | 0 => -1
  | k + 1 => if (decide ((k : Int) ≠ but) && (!gNaN (c k) && (decide (gWin c but k < 0) || fcmp .lss .f32 (c k) (c (gWin c but k).toNat)))) then (k : Int) else gWin c but k
theorem gWin_range (c : Nat → Nat) (but : Int) : ∀ k, -1 ≤ gWin c but k ∧ gWin c but k < k
  | 0 => by simp [gWin]
  | k + 1 => by
    have h := gWin_range c but k
    rw [gWin]
    split <;> omega
theorem gWin_congr {c c' : Nat → Nat} {but : Int} : ∀ {k : Nat}, (∀ j, j < k → c j = c' j) → gWin c but k = gWin c' but k
  | 0, _ => rfl
  | k + 1, h => by
    have e := gWin_congr (but := but) (k := k) (fun j hj => h j (by omega))
    have r := gWin_range c but k
    rw [gWin, gWin, ← e, h k (by omega)]
    rcases (show gWin c but k < 0 ∨ 0 ≤ gWin c but k by omega) with h0 | h0
    · simp [h0]
    · rw [h (gWin c but k).toNat (by omega)]
/-- What one step tells: five ways. -/
theorem gWin_step (c : Nat → Nat) (but : Int) (k : Nat) :
    ((k : Int) = but ∧ gWin c but (k + 1) = gWin c but k) ∨ ((k : Int) ≠ but ∧ gNaN (c k) = true ∧ gWin c but (k + 1) = gWin c but k) ∨ ((k : Int) ≠ but ∧ gNaN (c k) = false ∧ gWin c but k = -1 ∧ gWin c but (k + 1) = k) ∨
    (∃ b : Nat, b < k ∧ (k : Int) ≠ but ∧ gNaN (c k) = false ∧ gWin c but k = b ∧ fcmp .lss .f32 (c k) (c b) = true ∧ gWin c but (k + 1) = k) ∨ (∃ b : Nat, b < k ∧ (k : Int) ≠ but ∧ gNaN (c k) = false ∧ gWin c but k = b ∧ fcmp .lss .f32 (c k) (c b) = false ∧ gWin c but (k + 1) = gWin c but k) := by
  have h := gWin_range c but k
  rw [gWin]
  by_cases h1 : (k : Int) = but
  · left; simp [h1]
  · right
    cases h2 : gNaN (c k)
    · right
      rcases (show gWin c but k = -1 ∨ 0 ≤ gWin c but k by omega) with h3 | h3
      · left; simp [h1, h3]
      · right
        obtain ⟨b, hb⟩ := Int.eq_ofNat_of_zero_le h3
        rw [hb] at h ⊢
        cases h4 : fcmp .lss .f32 (c k) (c b)
        · right
          refine ⟨b, by omega, h1, rfl, rfl, h4, ?_⟩
          have : ¬ ((b : Int) < 0) := by omega
          simp [h4, this]
        · left
          refine ⟨b, by omega, h1, rfl, rfl, h4, ?_⟩
          simp [h1, h4]
    · left; simp [h1]
end Go.Proofs.Ytaidkokgafojeaa
