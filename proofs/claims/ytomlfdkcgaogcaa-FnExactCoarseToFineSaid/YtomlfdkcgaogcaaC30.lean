/- Contracts: RowOffset. MAXREC -/
import Derived.Test.YtomlfdkcgaogcaaProg
import Derived.Test.YtomlfdkcgaogcaaC29
namespace Go.Proofs.Ytomlfdkcgaogcaa
open Go.RowKit Go.Fx Go.Soft
/-- The best of some rows. -/
def gBestTo (s : Int → Nat) (q : Int) : Nat → Int × Nat × Bool
  | 0 => (0, 0, false)
  | j + 1 => if !gNaN (s (-q + j)) && (!(gBestTo s q j).2.2 || fcmp .lss .f32 (s (-q + j)) (gBestTo s q j).2.1) then (-q + j, s (-q + j), true) else gBestTo s q j
theorem gBestTo_none (s : Int → Nat) (q : Int) : ∀ j, (gBestTo s q j).2.2 = false → gBestTo s q j = (0, 0, false)
  | 0, _ => rfl
  | j + 1, h => by
    rw [gBestTo] at h ⊢
    split at h
    · simp at h
    · rename_i h1
      rw [if_neg h1]
      exact gBestTo_none s q j h
theorem gBestTo_step (s : Int → Nat) (q : Int) (j : Nat) (S : Nat) (b : Int) (l : Nat) (f : Bool) (hS : s (-q + j) = S) (hb : gBestTo s q j = (b, l, f)) :
    (gNaN S = true ∧ gBestTo s q (j + 1) = (b, l, f)) ∨ (gNaN S = false ∧ f = false ∧ gBestTo s q (j + 1) = (-q + j, S, true)) ∨ (gNaN S = false ∧ f = true ∧ fcmp .lss .f32 S l = true ∧ gBestTo s q (j + 1) = (-q + j, S, true)) ∨
    (gNaN S = false ∧ f = true ∧ fcmp .lss .f32 S l = false ∧ gBestTo s q (j + 1) = (b, l, f)) := by
  rw [gBestTo, hS, hb]
  cases gNaN S <;> cases f <;> cases fcmp .lss .f32 S l <;> simp
theorem eql_nan (S : Nat) : fcmp .eql .f32 S S = !gNaN S := by
  unfold gNaN fcmp
  cases FloatKind.f32.format.order S S with
  | none => rfl
  | some o => cases o <;> rfl
def gOffset (W H U V : Int) (xs ys : List Nat) (q : Int) : Int × Nat × Bool :=
  if gTwo W H U V xs.length ys.length && gIn q 0 8 then gBestTo (gRowSum xs ys W.toNat H.toNat) q (2 * q + 1).toNat else (0, 0, false)
set_option maxRecDepth 20000 in
set_option maxHeartbeats 1000000 in
theorem I_pairOk (W H U V : Int) (a b : Option Addr) (n m ca cb : Nat) (w : World) (hn : n ≤ maxLen) (hm : m ≤ maxLen) :
    Calls Try.prog 129 #[.agg #[.int .i64 W, .int .i64 H, .slice a n ca], .agg #[.int .i64 U, .int .i64 V, .slice b m cb]] w fun e w' => e = .returned (.bool (gTwo W H U V n m)) ∧ ∃ os m, w' = w.grew os m := by
  rcases (show (gPic W H n = false) ∨ (gPic W H n = true ∧ gPic U V m = false) ∨ (gPic W H n = true ∧ gPic U V m = true ∧ (W == U) = false) ∨ (gPic W H n = true ∧ gPic U V m = true ∧ (W == U) = true ∧ (H == V) = false) ∨ (gPic W H n = true ∧ gPic U V m = true ∧ (W == U) = true ∧ (H == V) = true) by cases gPic W H n <;> cases gPic U V m <;> cases (W == U) <;> cases (H == V) <;> simp) with t1 | ⟨t1, t2⟩ | ⟨t1, t2, t3⟩ | ⟨t1, t2, t3, t4⟩ | ⟨t1, t2, t3, t4⟩
  all_goals
    go_enter Try.func129, Try.ntmps129
    go_wp2_with (first
      | (go_at_call 136; with_reducible refine (I_ValidPicture _ _ _ _ _ _ (by assumption)).mono ?_; rintro e w' ⟨rfl, os, m, rfl⟩; first | rw [t1] | rw [t2]))
    go_ret
    exact ⟨by simp [gTwo, *], (by (try show Gr _ _); repeat (with_reducible first | exact Gr.refl _ | refine Gr.drewN ?_ _ | refine Gr.grew ?_ _ _ | refine Gr.alloc ?_ _ | refine Gr.drew ?_))⟩
end Go.Proofs.Ytomlfdkcgaogcaa
