/- Contracts: the patches of a map (the reference). MAXREC -/
import Derived.Test.YtomlfdkcgaogcaaProg
import Derived.Test.YtomlfdkcgaogcaaC15
import Derived.Test.YtomlfdkcgaogcaaC39
import Derived.Test.YtomlfdkcgaogcaaC75
import Derived.Test.YtomlfdkcgaogcaaQu
import Derived.Deep.DeepCutAuto
namespace Go.Proofs.Ytomlfdkcgaogcaa
open Go.RowKit Go.Fx Go.Soft
/-- What hangs on what, in a map. -/
def gHg (xs : List Nat) (N : Nat) (c j : Int) : Bool := gHang (xs.getD c.toNat 0) (xs.getD j.toNat 0) N
/-- The cells beside a cell of a map of width W and height H. -/
def gNb (W H : Nat) (c : Int) : List Int := gNearL W H (c.toNat % W) (c.toNat / W) c
def gPats (W H N : Nat) (xs : List Nat) (k : Nat) : List Int × List Int := gPat (fun i => gHole (xs.getD i 0)) (gHg xs N) (gNb W H) (W * H) k
theorem addIf_mem {c : Prop} [Decidable c] {l : List Int} {v x : Int} (h : x ∈ addIf c l v) : x ∈ l ∨ (c ∧ x = v) := by
  unfold addIf at h
  split at h
  · rename_i hc
    rcases List.mem_append.1 h with h | h
    · exact .inl h
    · exact .inr ⟨hc, by simpa using h⟩
  · exact .inl h
theorem gNearL_in {W H x y n : Nat} {j : Int} (e : x + W * y = n) (hm : x < W) (hd : y < H) (h : j ∈ gNearL W H x y (n : Int)) : 0 ≤ j ∧ j < ((W * H : Nat) : Int) := by
  have hy : W * y + W ≤ W * H := by rw [← Nat.mul_succ]; exact Nat.mul_le_mul_left W hd
  unfold gNearL at h
  rcases addIf_mem h with h | ⟨hc, rfl⟩
  · rcases addIf_mem h with h | ⟨hc, rfl⟩
    · rcases addIf_mem h with h | ⟨hc, rfl⟩
      · rcases addIf_mem h with h | ⟨hc, rfl⟩
        · cases h
        · have : W ≤ W * y := Nat.le_mul_of_pos_right W hc
          omega
      · have : W * y + W + W ≤ W * H := by rw [← Nat.mul_succ, ← Nat.mul_succ]; exact Nat.mul_le_mul_left W hc
        omega
    · omega
  · omega
theorem gNb_in {W H : Nat} {c j : Int} (h0 : 0 ≤ c) (h1 : c < ((W * H : Nat) : Int)) (h : j ∈ gNb W H c) : 0 ≤ j ∧ j < ((W * H : Nat) : Int) := by
  obtain ⟨n, rfl⟩ := Int.eq_ofNat_of_zero_le h0
  have hn : n < W * H := by omega
  have hW : 0 < W := by
    rcases Nat.eq_zero_or_pos W with h | h
    · subst h; simp at hn
    · exact h
  exact gNearL_in (Nat.mod_add_div n W) (Nat.mod_lt n hW) (Nat.div_lt_of_lt_mul hn) h
end Go.Proofs.Ytomlfdkcgaogcaa
