/- Contracts: the patches of a map (the program's, the plain part). MAXREC -/
import Derived.Test.YtomlfdkcgaogcaaProg
import Derived.Test.YtomlfdkcgaogcaaC34
import Derived.Test.YtomlfdkcgaogcaaC77
import Derived.Test.YtomlfdkcgaogcaaRep
namespace Go.Proofs.Ytomlfdkcgaogcaa
open Go.RowKit Go.Fx Go.Soft
/-- A cell takes the number and joins the list, if it has none and b holds. -/
def gPut (b : Bool) (num j : Int) (s : List Int × List Int) : List Int × List Int := if s.1.getD j.toNat 0 < 0 ∧ b = true then (s.1.set j.toNat num, s.2 ++ [j]) else s
theorem gPut_no {num j : Int} {s : List Int × List Int} : gPut false num j s = s := by simp [gPut]
theorem gPut_had {b : Bool} {num j : Int} {s : List Int × List Int} (h : ¬ s.1.getD j.toNat 0 < 0) : gPut b num j s = s := by unfold gPut; rw [if_neg (fun k => h k.1)]
theorem gPut_yes {num j : Int} {s : List Int × List Int} (h : s.1.getD j.toNat 0 < 0) : gPut true num j s = (s.1.set j.toNat num, s.2 ++ [j]) := by unfold gPut; rw [if_pos ⟨h, rfl⟩]
theorem gAdd_append (h : Int → Int → Bool) (num c : Int) : ∀ (l m : List Int) (s : List Int × List Int), gAdd h num c (l ++ m) s = gAdd h num c m (gAdd h num c l s)
  | [], m, s => rfl
  | j :: l, m, s => by rw [List.cons_append, gAdd, gAdd, gAdd_append h num c l m]
theorem gAdd_addIf {h : Int → Int → Bool} {num c : Int} {p : Prop} [Decidable p] {l : List Int} {v : Int} {s : List Int × List Int} : gAdd h num c (addIf p l v) s = gPut (decide p && h c v) num v (gAdd h num c l s) := by
  unfold addIf
  by_cases hp : p
  · rw [if_pos hp, gAdd_append, gAdd, gAdd, decide_eq_true hp, Bool.true_and]; rfl
  · rw [if_neg hp, decide_eq_false hp, Bool.false_and, gPut_no]
/-- The first k cells beside a cell, each in its turn. -/
def gBesAdd (xs : List Nat) (W H N : Nat) (num : Int) (x y : Nat) (s : List Int × List Int) : Nat → List Int × List Int
  | 0 => s
  | k + 1 => gPut (gHas W H (besU x k) (besV y k) && gHang (xs.getD (x + W * y) 0) (xs.getD (besU x k + W * besV y k).toNat 0) N) num (besU x k + W * besV y k) (gBesAdd xs W H N num x y s k)
theorem gBesAdd_all (xs : List Nat) {W H x y : Nat} (N : Nat) (num : Int) (s : List Int × List Int) (hx : x < W) (hy : y < H) :
    gBesAdd xs W H N num x y s 4 = gAdd (gHg xs N) num ((x + W * y : Nat) : Int) (gNb W H ((x + W * y : Nat) : Int)) s := by
  have q1 : (x : Int) + (W : Int) * ((y : Int) - 1) = ((x + W * y : Nat) : Int) - W := by rw [Int.mul_sub]; simp; omega
  have q2 : (x : Int) + (W : Int) * ((y : Int) + 1) = ((x + W * y : Nat) : Int) + W := by rw [Int.mul_add]; simp; omega
  have q3 : (x : Int) - 1 + (W : Int) * (y : Int) = ((x + W * y : Nat) : Int) - 1 := by simp; omega
  have q4 : (x : Int) + 1 + (W : Int) * (y : Int) = ((x + W * y : Nat) : Int) + 1 := by simp; omega
  have g1 : gHas W H x ((y : Int) - 1) = decide (0 < y) := by rw [Bool.eq_iff_iff]; simp [gHas, gIn]; omega
  have g2 : gHas W H x ((y : Int) + 1) = decide (y + 1 < H) := by rw [Bool.eq_iff_iff]; simp [gHas, gIn]; omega
  have g3 : gHas W H ((x : Int) - 1) y = decide (0 < x) := by rw [Bool.eq_iff_iff]; simp [gHas, gIn]; omega
  have g4 : gHas W H ((x : Int) + 1) y = decide (x + 1 < W) := by rw [Bool.eq_iff_iff]; simp [gHas, gIn]; omega
  unfold gNb
  rw [Int.toNat_natCast, mod_of hx, div_of hx]
  unfold gNearL
  rw [gAdd_addIf, gAdd_addIf, gAdd_addIf, gAdd_addIf]
  show gPut (gHas W H ((x : Int) + 1) y && _) num ((x : Int) + 1 + W * y) (gPut (gHas W H ((x : Int) - 1) y && _) num ((x : Int) - 1 + W * y) (gPut (gHas W H x ((y : Int) + 1) && _) num ((x : Int) + W * ((y : Int) + 1)) (gPut (gHas W H x ((y : Int) - 1) && _) num ((x : Int) + W * ((y : Int) - 1)) s))) = _
  rw [g1, g2, g3, g4]
  simp only [besU, besV]
  unfold gHg gAdd
  simp only [show (3 : Nat) = 2 ↔ False by simp, show (3 : Nat) = 0 ↔ False by simp, show (3 : Nat) = 1 ↔ False by simp, show (2 : Nat) = 0 ↔ False by simp, show (2 : Nat) = 1 ↔ False by simp, show (2 : Nat) = 3 ↔ False by simp, show (1 : Nat) = 2 ↔ False by simp, show (1 : Nat) = 3 ↔ False by simp, show (1 : Nat) = 0 ↔ False by simp, show (0 : Nat) = 1 ↔ False by simp, show (0 : Nat) = 2 ↔ False by simp, show (0 : Nat) = 3 ↔ False by simp, if_true, if_false, q1, q2, q3, q4, Int.toNat_natCast]
/-- Where a cell beside lies, if there is one. -/
theorem bes_in {W H : Nat} {u v : Int} (h : gHas W H u v = true) : 0 ≤ u + W * v ∧ u + W * v < ((W * H : Nat) : Int) := by
  obtain ⟨i1, i2⟩ : gIn u 0 ((W : Int) - 1) = true ∧ gIn v 0 ((H : Int) - 1) = true := by simpa [gHas] using h
  obtain ⟨u, rfl⟩ := Int.eq_ofNat_of_zero_le (show 0 ≤ u by simp [gIn] at i1; omega)
  obtain ⟨v, rfl⟩ := Int.eq_ofNat_of_zero_le (show 0 ≤ v by simp [gIn] at i2; omega)
  have hu : u < W := by simp [gIn] at i1; omega
  have hv : v < H := by simp [gIn] at i2; omega
  have := cell_lt hu hv
  have e : (u : Int) + (W : Int) * (v : Int) = ((u + W * v : Nat) : Int) := by simp
  rw [e]; omega
end Go.Proofs.Ytomlfdkcgaogcaa
