/- The median by stable sorting is the median by insertion, in plain Lean. -/
import Derived.Test.YtomlfdkcgaogcaaProg
import Derived.Test.YtomlfdkcgaogcaaC115
import Derived.Test.YtomlfdkcgaogcaaC108
namespace Go.Proofs.Ytomlfdkcgaogcaa
open Go.RowKit Go.Fx Go.Soft Go.Sort
/-- Insertion, of numbers with the places they came from. -/
def gInsT (L : List Nat) : Nat → List (Nat × Nat)
  | 0 => []
  | k + 1 => (gInsT L k).take (gAtF (L.getD k 0) (gInsTo L k) (gInsTo L k).length) ++ [(L.getD k 0, k)] ++ (gInsT L k).drop (gAtF (L.getD k 0) (gInsTo L k) (gInsTo L k).length)
theorem gInsT_fst (L : List Nat) : ∀ k, (gInsT L k).map Prod.fst = gInsTo L k
  | 0 => rfl
  | k + 1 => by
    have ih := gInsT_fst L k
    show List.map _ (_ ++ _ ++ _) = gIns _ _
    unfold gIns
    rw [List.map_append, List.map_append, List.map_take, List.map_drop, ih]
    rfl
theorem gInsT_perm (L : List Nat) : ∀ k, (gInsT L k).Perm ((List.range k).map fun i => (L.getD i 0, i))
  | 0 => List.Perm.refl _
  | k + 1 => by
    have ih := gInsT_perm L k
    rw [List.range_succ, List.map_append]
    show List.Perm (_ ++ _ ++ _) _
    refine List.Perm.trans (l₂ := (gInsT L k).take (gAtF (L.getD k 0) (gInsTo L k) (gInsTo L k).length) ++ ((gInsT L k).drop (gAtF (L.getD k 0) (gInsTo L k) (gInsTo L k).length) ++ [(L.getD k 0, k)])) ?_ ?_
    · rw [List.append_assoc]
      exact List.Perm.append_left _ List.perm_append_comm
    · rw [← List.append_assoc, List.take_append_drop]
      exact List.Perm.append_right _ ih
theorem gInsT_length (L : List Nat) (k : Nat) : (gInsT L k).length = k := by
  have := congrArg List.length (gInsT_fst L k)
  rw [List.length_map, gInsTo_length] at this
  exact this
theorem gAtF_spec (z : Nat) (out : List Nat) : ∀ j, (gAtF z out j = 0 ∨ fcmp .gtr .f32 (out.getD (gAtF z out j - 1) 0) z = false) ∧ ∀ i, gAtF z out j ≤ i → i < j → fcmp .gtr .f32 (out.getD i 0) z = true
  | 0 => ⟨Or.inl rfl, fun i h1 h2 => by omega⟩
  | j + 1 => by
    have ih := gAtF_spec z out j
    unfold gAtF
    cases t : fcmp .gtr .f32 (out.getD j 0) z
    · simp only [Bool.false_eq_true, if_false]
      exact ⟨Or.inr (by simpa using t), fun i h1 h2 => by omega⟩
    · simp only [if_true]
      refine ⟨ih.1, fun i h1 h2 => ?_⟩
      by_cases e : i = j
      · rw [e]; exact t
      · exact ih.2 i h1 (by omega)
theorem gInsT_tag (L : List Nat) (k : Nat) : ∀ x ∈ gInsT L k, x.2 < k ∧ x.1 = L.getD x.2 0 := by
  intro x hx
  have := (gInsT_perm L k).mem_iff.1 hx
  obtain ⟨i, hi, rfl⟩ := List.mem_map.1 this
  exact ⟨List.mem_range.1 hi, rfl⟩
theorem gInsT_sorted (L : List Nat) (hN : ∀ i, i < L.length → isN .f32 (L.getD i 0) = false) : ∀ k, k ≤ L.length → (gInsT L k).Pairwise (fun x y => tlt fkey y x = false)
  | 0, _ => List.Pairwise.nil
  | k + 1, hk => by
    have ih := gInsT_sorted L hN k (by omega)
    have hl := gInsT_length L k
    have hl2 := gInsTo_length L k
    have ht := gInsT_tag L k
    have hf := gInsT_fst L k
    have hsp := gAtF_spec (L.getD k 0) (gInsTo L k) (gInsTo L k).length
    have hle := gAtF_le (L.getD k 0) (gInsTo L k) (gInsTo L k).length
    have hzN := hN k (by omega)
    have hget : ∀ i (h : i < (gInsT L k).length), (gInsTo L k).getD i 0 = ((gInsT L k)[i]).1 := fun i h => by
      rw [← hf]; simp [h]
    show List.Pairwise _ (_ ++ _ ++ _)
    generalize hz : L.getD k 0 = z at *
    generalize hO : gInsTo L k = O at *
    generalize hT : gInsT L k = T at *
    obtain ⟨at', hat⟩ : ∃ a, a = gAtF z O O.length := ⟨_, rfl⟩
    rw [← hat] at hsp hle ⊢
    rw [hl2] at hle hsp
    have hvN : ∀ x ∈ T, isN .f32 x.1 = false := fun x hx => by rw [(ht x hx).2]; exact hN _ (by have := (ht x hx).1; omega)
    have lo : ∀ x ∈ T.take at', fkey x.1 ≤ fkey z := by
      intro x hx
      obtain ⟨i, hi, rfl⟩ := List.getElem_of_mem hx
      rw [List.length_take] at hi
      rw [List.getElem_take]
      have h0 : at' ≠ 0 := by omega
      have h1 := hsp.1.resolve_left h0
      rw [hget (at' - 1) (by omega), gtr_key (hvN _ (List.getElem_mem _)) hzN] at h1
      have h2 := of_decide_eq_false h1
      by_cases e : i = at' - 1
      · subst e; omega
      · have h3 := tlt_key ((List.pairwise_iff_getElem.1 ih) i (at' - 1) (by omega) (by omega) (by omega))
        omega
    have hi' : ∀ x ∈ T.drop at', fkey z < fkey x.1 := by
      intro x hx
      obtain ⟨i, hi, rfl⟩ := List.getElem_of_mem hx
      rw [List.length_drop] at hi
      rw [List.getElem_drop]
      have h1 := hsp.2 (at' + i) (by omega) (by omega)
      rw [hget (at' + i) (by omega), gtr_key (hvN _ (List.getElem_mem _)) hzN] at h1
      exact of_decide_eq_true h1
    have ih2 := ih
    rw [← List.take_append_drop at' T] at ih2
    obtain ⟨p1, p2, p3⟩ := List.pairwise_append.1 ih2
    refine List.pairwise_append.2 ⟨List.pairwise_append.2 ⟨p1, List.pairwise_singleton _ _, ?_⟩, p2, ?_⟩
    · intro x hx y hy
      obtain rfl := List.mem_singleton.1 hy
      exact tlt_of_le (lo x hx) (ht x (List.mem_of_mem_take hx)).1
    · intro x hx y hy
      rcases List.mem_append.1 hx with hx | hx
      · exact p3 x hx y hy
      · obtain rfl := List.mem_singleton.1 hx
        exact tlt_of_key (hi' y hy)
/-- The numbers of a list, with their places. -/
def gTagA (L : List Nat) : Array (Nat × Nat) := ((List.range L.length).map fun i => (L.getD i 0, i)).toArray
theorem gTagA_size (L : List Nat) : (gTagA L).size = L.length := by unfold gTagA; simp
theorem gTagA_at (L : List Nat) {i : Nat} (h : i < L.length) : (gTagA L)[i]! = (L.getD i 0, i) := by
  rw [getElem!_pos _ i (by rw [gTagA_size]; exact h)]
  unfold gTagA
  simp
theorem sorted_med {L : List Nat} (hN : ∀ i, i < L.length → isN .f32 (L.getD i 0) = false) {d : Array (Nat × Nat)} (hp : PermIn 0 L.length (gTagA L) d) (hs : SortedIn (tlt fkey) 0 L.length d) {h : Nat} (hh : h < L.length) : d[h]!.1 = (gInsTo L L.length).getD h 0 := by
  have hz : d.size = L.length := by rw [hp.1, gTagA_size]
  have hperm : d.toList.Perm (gTagA L).toList := by
    have h3 := hp.2.2
    have e1 : d.extract 0 L.length = d := by rw [← hz]; exact Array.extract_size
    have e2 : (gTagA L).extract 0 L.length = gTagA L := by rw [← gTagA_size]; exact Array.extract_size
    rw [e1, e2] at h3
    exact h3
  have hpw : d.toList.Pairwise (fun x y => tlt fkey y x = false) := by
    rw [List.pairwise_iff_getElem]
    intro i j hi hj hij
    have hi' : i < d.size := by simpa using hi
    have hj' : j < d.size := by simpa using hj
    have := hs i j (Nat.zero_le _) hij (by omega)
    rw [getElem!_pos d j hj', getElem!_pos d i hi'] at this
    simpa using this
  have e : d.toList = gInsT L L.length := by
    refine List.Perm.eq_of_pairwise (le := fun x y => tlt fkey y x = false) ?_ hpw (gInsT_sorted L hN L.length (Nat.le_refl _)) (hperm.trans ?_)
    · intro a b _ _ h1 h2
      exact tlt_anti a b h2 h1
    · exact (gInsT_perm L L.length).symm
  rw [getElem!_pos d h (by omega), ← gInsT_fst, ← e]
  simp [hz, hh]
end Go.Proofs.Ytomlfdkcgaogcaa
