/- Contracts: the cells beside one, of the program. MAXREC -/
import Derived.Test.YtaidkokgafojeaaProg
import Derived.Test.YtaidkokgafojeaaC32
import Derived.Deep.DeepCutAuto
namespace Go.Proofs.Ytaidkokgafojeaa
open Go.RowKit Go.Fx Go.Soft
/-- The columns and rows of the four cells beside a cell. -/
def besU (x : Int) (k : Nat) : Int := if k = 2 then x - 1 else if k = 3 then x + 1 else x
def besV (y : Int) (k : Nat) : Int := if k = 0 then y - 1 else if k = 1 then y + 1 else y
/-- Whether the patch of a cell ends at its k-th neighbour. -/
def gBes (xs : List Nat) (W H : Int) (N x y k : Nat) : Bool :=
  gHas W H (besU x k) (besV y k) && (!gHole (xs.getD (besU x k + W * besV y k).toNat 0) && !(gHas W H (besU x k) (besV y k) && gHang (xs.getD (x + W.toNat * y) 0) (xs.getD (besU x k + W * besV y k).toNat 0) N))
def gBesTo (xs : List Nat) (W H : Int) (N x y : Nat) : Nat → Bool
  | 0 => false
  | k + 1 => gBesTo xs W H N x y k || gBes xs W H N x y k
def bterm (d h n : Bool) : Bool := d && (!h && !(d && n))
theorem bterm_eq (d h n o : Bool) : (bterm d h n && !o) = (d && (!o && (!h && !n))) := by cases d <;> cases h <;> cases n <;> cases o <;> rfl
theorem any_addIf {c : Prop} [Decidable c] {l : List Int} {v : Int} {f : Int → Bool} : (addIf c l v).any f = (l.any f || (decide c && f v)) := by
  unfold addIf; by_cases h : c <;> simp [h]
theorem bes_bord (xs : List Nat) {W H x y : Nat} (N : Nat) (hx : x < W) (hy : y < H) : (gBesTo xs W H N x y 4 && !gHole (xs.getD (x + W * y) 0)) = gBord xs W H N (x + W * y) := by
  have q1 : ((x : Int) + (W : Int) * ((y : Int) - 1)).toNat = (((x + W * y : Nat) : Int) - W).toNat := by congr 1; rw [Int.mul_sub]; simp; omega
  have q2 : ((x : Int) + (W : Int) * ((y : Int) + 1)).toNat = (((x + W * y : Nat) : Int) + W).toNat := by congr 1; rw [Int.mul_add]; simp; omega
  have q3 : ((x : Int) - 1 + (W : Int) * (y : Int)).toNat = (((x + W * y : Nat) : Int) - 1).toNat := by congr 1; simp; omega
  have q4 : ((x : Int) + 1 + (W : Int) * (y : Int)).toNat = (((x + W * y : Nat) : Int) + 1).toNat := by congr 1; simp; omega
  have g1 : gHas W H x ((y : Int) - 1) = decide (0 < y) := by rw [Bool.eq_iff_iff]; simp [gHas, gIn]; omega
  have g2 : gHas W H x ((y : Int) + 1) = decide (y + 1 < H) := by rw [Bool.eq_iff_iff]; simp [gHas, gIn]; omega
  have g3 : gHas W H ((x : Int) - 1) y = decide (0 < x) := by rw [Bool.eq_iff_iff]; simp [gHas, gIn]; omega
  have g4 : gHas W H ((x : Int) + 1) y = decide (x + 1 < W) := by rw [Bool.eq_iff_iff]; simp [gHas, gIn]; omega
  unfold gBord
  rw [mod_of hx, div_of hx]
  have b0 : gBes xs W H N x y 0 = bterm (decide (0 < y)) (gHole (xs.getD (((x + W * y : Nat) : Int) - W).toNat 0)) (gHang (xs.getD (x + W * y) 0) (xs.getD (((x + W * y : Nat) : Int) - W).toNat 0) N) := by
    rw [← g1, ← q1]; rfl
  have b1 : gBes xs W H N x y 1 = bterm (decide (y + 1 < H)) (gHole (xs.getD (((x + W * y : Nat) : Int) + W).toNat 0)) (gHang (xs.getD (x + W * y) 0) (xs.getD (((x + W * y : Nat) : Int) + W).toNat 0) N) := by
    rw [← g2, ← q2]; rfl
  have b2 : gBes xs W H N x y 2 = bterm (decide (0 < x)) (gHole (xs.getD (((x + W * y : Nat) : Int) - 1).toNat 0)) (gHang (xs.getD (x + W * y) 0) (xs.getD (((x + W * y : Nat) : Int) - 1).toNat 0) N) := by
    rw [← g3, ← q3]; rfl
  have b3 : gBes xs W H N x y 3 = bterm (decide (x + 1 < W)) (gHole (xs.getD (((x + W * y : Nat) : Int) + 1).toNat 0)) (gHang (xs.getD (x + W * y) 0) (xs.getD (((x + W * y : Nat) : Int) + 1).toNat 0) N) := by
    rw [← g4, ← q4]; rfl
  show (((((false || gBes xs W H N x y 0) || gBes xs W H N x y 1) || gBes xs W H N x y 2) || gBes xs W H N x y 3) && _) = _
  rw [b0, b1, b2, b3]
  unfold gNearL
  rw [any_addIf, any_addIf, any_addIf, any_addIf]
  unfold gEdge
  simp only [Bool.and_or_distrib_right, bterm_eq, List.any_nil, Bool.false_and]
set_option maxRecDepth 20000 in
set_option maxHeartbeats 1000000 in
theorem I_besides (x y : Nat) (w : World) (hx : x ≤ 24) (hy : y ≤ 24) :
    Calls Try.prog 140 #[.int .i64 x, .int .i64 y] w fun e w' => e = .returned (.agg #[.int .i64 x, .int .i64 ((y : Int) - 1), .int .i64 x, .int .i64 ((y : Int) + 1), .int .i64 ((x : Int) - 1), .int .i64 y, .int .i64 ((x : Int) + 1), .int .i64 y]) ∧ Gr w w' := by
  have e1 : IntKind.i64.wrap ((x : Int) - 1) = (x : Int) - 1 := IntWalk.i64_in _ (by omega)
  have e2 : IntKind.i64.wrap ((y : Int) - 1) = (y : Int) - 1 := IntWalk.i64_in _ (by omega)
  have e3 : IntKind.i64.wrap ((x : Int) + 1) = (x : Int) + 1 := IntWalk.i64_in _ (by omega)
  have e4 : IntKind.i64.wrap ((y : Int) + 1) = (y : Int) + 1 := IntWalk.i64_in _ (by omega)
  go_enter Try.func140, Try.ntmps140
  go_wp2
  exact bodyPost_ret (v := .agg #[.int .i64 x, .int .i64 ((y : Int) - 1), .int .i64 x, .int .i64 ((y : Int) + 1), .int .i64 ((x : Int) - 1), .int .i64 y, .int .i64 ((x : Int) + 1), .int .i64 y]) (by simp [results, Try.results140, go_sem]) rfl ⟨rfl, (by (try show Gr _ _); repeat (with_reducible first | exact Gr.refl _ | refine Gr.drewN ?_ _ | refine Gr.grew ?_ _ _ | refine Gr.alloc ?_ _ | refine Gr.drew ?_))⟩
end Go.Proofs.Ytaidkokgafojeaa
