/- Contracts: the cells at a border. MAXREC -/
import Derived.Test.YtaidkokgafojeaaProg
import Derived.Test.YtaidkokgafojeaaC31
import Derived.Deep.DeepCutAuto
namespace Go.Proofs.Ytaidkokgafojeaa
open Go.RowKit Go.Fx Go.Soft
/-- Whether cell j is no hole and does not hang together with cell k. -/
def gEdge (xs : List Nat) (near k : Nat) (j : Int) : Bool := !gHole (xs.getD k 0) && (!gHole (xs.getD j.toNat 0) && !gHang (xs.getD k 0) (xs.getD j.toNat 0) near)
/-- Whether a cell beside cell k is such a cell. -/
def gBord (xs : List Nat) (W H near k : Nat) : Bool := (gNearL W H (k % W) (k / W) k).any (gEdge xs near k)
/-- The numbers below k that p picks. -/
def gPick (p : Nat → Bool) : Nat → List Int
  | 0 => []
  | k + 1 => if p k then gPick p k ++ [(k : Int)] else gPick p k
theorem gPick_length (p : Nat → Bool) (k : Nat) : (gPick p k).length ≤ k := by
  induction k with
  | zero => exact Nat.le_refl _
  | succ k ih =>
    show (if p k then gPick p k ++ [(k : Int)] else gPick p k).length ≤ k + 1
    split
    · rw [List.length_append]; exact Nat.add_le_add_right ih 1
    · omega
theorem mem_addIf {c : Prop} [Decidable c] {l : List Int} {v j : Int} (h : j ∈ addIf c l v) : j ∈ l ∨ (c ∧ j = v) := by
  unfold addIf at h; split at h
  · rename_i hc; rcases List.mem_append.1 h with h | h
    · exact .inl h
    · exact .inr ⟨hc, by simpa using h⟩
  · exact .inl h
theorem near_in {W H x y : Nat} {i j : Int} (hi : i = ((x + W * y : Nat) : Int)) (hx : x < W) (hy : y < H) (h : j ∈ gNearL W H x y i) : ∃ m : Nat, j = m ∧ m < W * H := by
  have h0 := cell_lt hx hy
  have hW : W ≤ W * H := Nat.le_mul_of_pos_right W (by omega)
  subst hi
  rcases mem_addIf h with h | ⟨hc, rfl⟩
  · rcases mem_addIf h with h | ⟨hc, rfl⟩
    · rcases mem_addIf h with h | ⟨hc, rfl⟩
      · rcases mem_addIf h with h | ⟨hc, rfl⟩
        · simp at h
        · obtain ⟨y, rfl⟩ : ∃ z, y = z + 1 := ⟨y - 1, by omega⟩
          rw [Nat.mul_succ] at *
          exact ⟨x + W * y, by omega, by omega⟩
      · have h1 := cell_lt hx hc
        rw [Nat.mul_succ] at h1
        exact ⟨x + W * y + W, by omega, by omega⟩
    · exact ⟨x + W * y - 1, by omega, by omega⟩
  · have h1 := cell_lt hc hy
    exact ⟨x + W * y + 1, by omega, by omega⟩
theorem any_take_succ {l : List Int} {f : Int → Bool} {j : Nat} (h : j < l.length) : (l.take (j + 1)).any f = ((l.take j).any f || f l[j]) := by
  rw [List.take_succ_eq_append_getElem h, List.any_append]; simp only [List.any_cons, List.any_nil, Bool.or_false]
end Go.Proofs.Ytaidkokgafojeaa
