/- Plain laws: what a packed text unpacks to. -/
import Derived.Test.YtaidkokgafojeaaC51
namespace Go.Fx
open Go Go.Soft Go.RowKit
/-- The i-th byte of a text. -/
def gB (s : ByteArray) (i : Nat) : Nat := if h : i < s.size then (s[i]'h).toNat else 0
theorem gB_eq {s : ByteArray} {i : Nat} (h : i < s.size) : gB s i = (s[i]'h).toNat := by simp only [gB, dif_pos h]
theorem gB_lt (s : ByteArray) (i : Nat) : gB s i < 256 := by
  unfold gB; split
  · exact UInt8.toNat_lt _
  · decide
def gUv (s : ByteArray) (k : Nat) : Nat := floatOfInt .f32 ((gB s (2 * k + 1) : Int) - 1)
/-- The values of the first k pairs. -/
def gUn (s : ByteArray) : Nat → List Nat
  | 0 => []
  | k + 1 => gUn s k ++ List.replicate (gB s (2 * k)) (gUv s k)
theorem packs_small : ∀ n : Fin 256, gPacks (floatOfInt .f32 ((n.val : Int) - 1)) = true := by decide +kernel
theorem gUn_packs (s : ByteArray) : ∀ k, ∀ x ∈ gUn s k, gPacks x = true
  | 0 => fun x h => by simp [gUn] at h
  | k + 1 => fun x h => by
    rw [gUn, List.mem_append] at h
    rcases h with h | h
    · exact gUn_packs s k x h
    · rw [(List.mem_replicate.1 h).2]
      exact packs_small ⟨gB s (2 * k + 1), gB_lt _ _⟩
theorem gUn_len (s : ByteArray) (k : Nat) : (gUn s (k + 1)).length = (gUn s k).length + gB s (2 * k) := by simp [gUn]
theorem gUn_mono (s : ByteArray) (k : Nat) : ∀ d, (gUn s k).length ≤ (gUn s (k + d)).length
  | 0 => Nat.le_refl _
  | d + 1 => by
    have h1 := gUn_mono s k d
    have h2 := gUn_len s (k + d)
    rw [← Nat.add_assoc]; omega
theorem gUn_le (s : ByteArray) : ∀ k, (gUn s k).length ≤ 255 * k
  | 0 => by simp [gUn]
  | k + 1 => by
    have h1 := gUn_le s k
    have h2 := gUn_len s k
    have h3 := gB_lt s (2 * k)
    omega
theorem rep_succ (c v : Nat) (L : List Nat) : L ++ List.replicate c v ++ [v] = L ++ List.replicate (c + 1) v := by
  rw [List.append_assoc, ← List.replicate_succ']
/-- Whether a text is a packed map, and its values. -/
def gUnOk (s : ByteArray) (W H : Nat) : Bool := decide (s.size % 2 = 0) && decide ((gUn s (s.size / 2)).length = W * H) && decide (strOfNums (gPack (gUn s (s.size / 2)) W H) = s)
theorem gUn_short {s : ByteArray} {W H : Nat} (h : gUnOk s W H = true) : s.size ≤ 2 * W * H := by
  unfold gUnOk at h
  simp only [Bool.and_eq_true, decide_eq_true_eq] at h
  have h2 := gPack_len (gUn s (s.size / 2)) W H
  have h3 := strOfNums_size (gPack (gUn s (s.size / 2)) W H)
  rw [h.2] at h3
  omega
theorem gUn_long {s : ByteArray} {W H : Nat} (h : 2 * W * H < s.size) : gUnOk s W H = false := by
  cases hk : gUnOk s W H
  · rfl
  · have := gUn_short hk; omega
theorem gUn_over {s : ByteArray} {W H k : Nat} (hk : k ≤ s.size / 2) (h : W * H < (gUn s k).length) : gUnOk s W H = false := by
  cases hok : gUnOk s W H
  · rfl
  · exfalso
    unfold gUnOk at hok
    simp only [Bool.and_eq_true, decide_eq_true_eq] at hok
    have := gUn_mono s k (s.size / 2 - k)
    rw [show k + (s.size / 2 - k) = s.size / 2 by omega] at this
    omega
end Go.Fx
