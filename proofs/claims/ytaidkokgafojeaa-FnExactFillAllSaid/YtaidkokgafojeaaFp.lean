/- Filling the holes of a map, in plain Lean: each round that fills some leaves fewer. -/
import Derived.Test.YtaidkokgafojeaaProg
import Derived.Test.YtaidkokgafojeaaNh
import Derived.Test.YtaidkokgafojeaaC31
import Derived.Test.YtaidkokgafojeaaC33
namespace Go.Proofs.Ytaidkokgafojeaa
open Go.RowKit Go.Fx Go.Soft
theorem noHole_good {x : Nat} : gHole x = false ↔ NHole (Ieee.single.read x) := by
  unfold gHole
  rw [← good_geq]
  cases fcmp .geq .f32 x 0 <;> simp
/-- The values beside a cell that are no holes: above, below, before, behind. -/
def gNv (xs : List Nat) (W H x y : Nat) : List Nat := ((gNearL W H x y ((x + W * y : Nat) : Int)).map fun j => xs.getD j.toNat 0).filter fun v => !gHole v
/-- Their mean; -1 where there is none. -/
def gMeanF : List Nat → Nat
  | [] => 3212836864
  | v :: vs => fop .quo .f32 (vs.foldl (fun s u => fop .add .f32 s u) v) (floatOfInt .f32 (((v :: vs).length : Nat) : Int))
def gFillA (xs : List Nat) (W H i : Nat) : Nat := if gHole (xs.getD i 0) then gMeanF (gNv xs W H (i % W) (i / W)) else xs.getD i 0
/-- Does a cell get filled? -/
def gGets (xs : List Nat) (W H i : Nat) : Bool := gHole (xs.getD i 0) && !(gNv xs W H (i % W) (i / W)).isEmpty
def gCnt (p : Nat → Bool) : Nat → Nat
  | 0 => 0
  | k + 1 => gCnt p k + if p k then 1 else 0
theorem gNv_length (xs : List Nat) (W H x y : Nat) : (gNv xs W H x y).length ≤ 4 := by
  unfold gNv
  refine Nat.le_trans (List.length_filter_le _ _) ?_
  rw [List.length_map]
  unfold gNearL addIf
  split <;> split <;> split <;> split <;> simp
theorem gNv_good (xs : List Nat) (W H x y : Nat) : ∀ v ∈ gNv xs W H x y, gHole v = false := by
  intro v hv
  have := (List.mem_filter.1 hv).2
  simpa using this
theorem foldl_good : ∀ (vs : List Nat) (v : Nat), NHole (Ieee.single.read v) → (∀ u ∈ vs, gHole u = false) → NHole (Ieee.single.read (vs.foldl (fun s u => fop .add .f32 s u) v))
  | [], _, h, _ => h
  | u :: us, v, h, hv => foldl_good us _ (good_add h (noHole_good.1 (hv u (List.mem_cons_self ..)))) (fun t ht => hv t (List.mem_cons_of_mem _ ht))
theorem gMeanF_good {L : List Nat} (h0 : L ≠ []) (h4 : L.length ≤ 4) (h : ∀ v ∈ L, gHole v = false) : gHole (gMeanF L) = false := by
  cases L with
  | nil => exact absurd rfl h0
  | cons v vs =>
    rw [noHole_good]
    unfold gMeanF
    refine good_quo (foldl_good vs v (noHole_good.1 (h v (List.mem_cons_self ..))) (fun u hu => h u (List.mem_cons_of_mem _ hu))) ?_ h4
    simp
theorem gFill_step (xs : List Nat) (W H i : Nat) : (if gHole (gFillA xs W H i) then 1 else 0) + (if gGets xs W H i then 1 else 0) = if gHole (xs.getD i 0) then 1 else 0 := by
  unfold gFillA gGets
  cases h : gHole (xs.getD i 0)
  · simp only [Bool.false_eq_true, if_false, Bool.false_and, h]
  · simp only [if_true, Bool.true_and]
    cases hL : gNv xs W H (i % W) (i / W) with
    | nil =>
      have : gHole (gMeanF []) = true := by unfold gMeanF; decide +kernel
      rw [this]; simp
    | cons v vs =>
      have h1 := gNv_length xs W H (i % W) (i / W)
      have h2 := gNv_good xs W H (i % W) (i / W)
      rw [hL] at h1 h2
      rw [gMeanF_good (by simp) h1 h2]
      simp
/-- The holes that are left, and those that were filled, are the holes that were. -/
theorem gFill_count (xs : List Nat) (W H : Nat) : ∀ k, gCnt (fun i => gHole (gFillA xs W H i)) k + gCnt (gGets xs W H) k = gCnt (fun i => gHole (xs.getD i 0)) k
  | 0 => rfl
  | k + 1 => by
    have ih := gFill_count xs W H k
    have hs := gFill_step xs W H k
    unfold gCnt
    omega
/-- The same values, gathered over the first k of the four cells beside. -/
def gNvTo (xs : List Nat) (W H x y : Nat) : Nat → List Nat
  | 0 => []
  | k + 1 => if (gHas W H (besU x k) (besV y k) && !gHole (xs.getD (besU x k + W * besV y k).toNat 0)) = true then gNvTo xs W H x y k ++ [xs.getD (besU x k + W * besV y k).toNat 0] else gNvTo xs W H x y k
theorem gNv_step (xs : List Nat) (l : List Int) (p : Prop) [Decidable p] (j : Int) (q : Bool) (hq : q = decide p) : ((addIf p l j).map fun j => xs.getD j.toNat 0).filter (fun v => !gHole v) = if (q && !gHole (xs.getD j.toNat 0)) = true then ((l.map fun j => xs.getD j.toNat 0).filter fun v => !gHole v) ++ [xs.getD j.toNat 0] else (l.map fun j => xs.getD j.toNat 0).filter fun v => !gHole v := by
  subst hq
  unfold addIf
  by_cases h : p
  · rw [if_pos h, decide_eq_true h, Bool.true_and, List.map_append, List.filter_append]
    simp only [List.map_cons, List.map_nil]
    cases hg : gHole (xs.getD j.toNat 0)
    · rw [List.filter_cons_of_pos (by rw [hg]; rfl)]; simp
    · rw [List.filter_cons_of_neg (by rw [hg]; decide)]; simp
  · rw [if_neg h, decide_eq_false h, Bool.false_and, if_neg (by decide)]
theorem gNvTo_all (xs : List Nat) {W H x y : Nat} (hx : x < W) (hy : y < H) : gNvTo xs W H x y 4 = gNv xs W H x y := by
  have e0 : besU (x : Int) 0 + (W : Int) * besV (y : Int) 0 = ((x + W * y : Nat) : Int) - W := by show (x : Int) + (W : Int) * ((y : Int) - 1) = _; rw [Int.mul_sub, Int.natCast_add, Int.natCast_mul]; omega
  have e1 : besU (x : Int) 1 + (W : Int) * besV (y : Int) 1 = ((x + W * y : Nat) : Int) + W := by show (x : Int) + (W : Int) * ((y : Int) + 1) = _; rw [Int.mul_add, Int.natCast_add, Int.natCast_mul]; omega
  have e2 : besU (x : Int) 2 + (W : Int) * besV (y : Int) 2 = ((x + W * y : Nat) : Int) - 1 := by show (x : Int) - 1 + (W : Int) * (y : Int) = _; rw [Int.natCast_add, Int.natCast_mul]; omega
  have e3 : besU (x : Int) 3 + (W : Int) * besV (y : Int) 3 = ((x + W * y : Nat) : Int) + 1 := by show (x : Int) + 1 + (W : Int) * (y : Int) = _; rw [Int.natCast_add, Int.natCast_mul]; omega
  have q0 : gHas W H (besU x 0) (besV y 0) = decide (0 < y) := by show gHas W H (x : Int) ((y : Int) - 1) = _; unfold gHas gIn; rw [Bool.eq_iff_iff]; simp; omega
  have q1 : gHas W H (besU x 1) (besV y 1) = decide (y + 1 < H) := by show gHas W H (x : Int) ((y : Int) + 1) = _; unfold gHas gIn; rw [Bool.eq_iff_iff]; simp; omega
  have q2 : gHas W H (besU x 2) (besV y 2) = decide (0 < x) := by show gHas W H ((x : Int) - 1) (y : Int) = _; unfold gHas gIn; rw [Bool.eq_iff_iff]; simp; omega
  have q3 : gHas W H (besU x 3) (besV y 3) = decide (x + 1 < W) := by show gHas W H ((x : Int) + 1) (y : Int) = _; unfold gHas gIn; rw [Bool.eq_iff_iff]; simp; omega
  unfold gNv gNearL
  rw [gNv_step xs _ _ _ _ q3, gNv_step xs _ _ _ _ q2, gNv_step xs _ _ _ _ q1, gNv_step xs _ _ _ _ q0]
  unfold gNvTo gNvTo gNvTo gNvTo gNvTo
  rw [e0, e1, e2, e3]
  rfl
end Go.Proofs.Ytaidkokgafojeaa
