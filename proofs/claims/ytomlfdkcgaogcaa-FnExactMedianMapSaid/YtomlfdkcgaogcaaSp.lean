/- Stable sorting, in plain Lean: blocks of twenty, merged two by two. -/
import Derived.Test.YtomlfdkcgaogcaaSo
namespace Go.Fx
open Go.Sort
variable {k : Nat → Int}
/-- t blocks of twenty are sorted; beyond them all stands as it came. -/
structure StA (k : Nat → Int) (n t : Nat) (d e : Array (Nat × Nat)) : Prop where
  perm : PermIn 0 n d e
  tag : ∀ p q, p < q → q < n → (20 * t ≤ q ∨ p / 20 < q / 20) → e[p]!.2 < e[q]!.2
  s0 : 1 ≤ t → SortedIn (tlt k) 0 20 e
  s1 : 2 ≤ t → SortedIn (tlt k) 20 40 e
structure StB (k : Nat → Int) (n : Nat) (d e : Array (Nat × Nat)) : Prop where
  perm : PermIn 0 n d e
  s0 : SortedIn (tlt k) 0 (min 20 n) e
  s1 : SortedIn (tlt k) 20 (min 40 n) e
  s2 : SortedIn (tlt k) 40 n e
  t0 : Tag 0 20 n e
  t1 : Tag 0 40 n e
structure StC (k : Nat → Int) (n : Nat) (d e : Array (Nat × Nat)) : Prop where
  perm : PermIn 0 n d e
  s0 : SortedIn (tlt k) 0 (min 40 n) e
  s1 : SortedIn (tlt k) 40 n e
  t0 : Tag 0 40 n e
theorem StA.start {n : Nat} {d : Array (Nat × Nat)} (h : ∀ p q, p < q → q < n → d[p]!.2 < d[q]!.2) : StA k n 0 d d :=
  ⟨permIn_refl d _ _, fun p q hpq hq _ => h p q hpq hq, fun h => by omega, fun h => by omega⟩
/-- Tags behind a permutation of a part. -/
theorem tag_step {n x y : Nat} {e f : Array (Nat × Nat)} {p q : Nat} (hy : y ≤ n) (hn : n ≤ e.size) (hp : PermIn x y e f) (hpq : p < q) (hq : q < n) (ho : ¬ (x ≤ p ∧ q < y))
    (h : ∀ p' q', (p' = p ∨ (x ≤ p ∧ p < y ∧ x ≤ p' ∧ p' < y)) → (q' = q ∨ (x ≤ q ∧ q < y ∧ x ≤ q' ∧ q' < y)) → e[p']!.2 < e[q']!.2) : f[p]!.2 < f[q]!.2 := by
  by_cases hpin : x ≤ p ∧ p < y
  · have hqo : y ≤ q := by omega
    rw [hp.2.1 q (by omega)]
    exact permIn_all e f x y (fun z => z.2 < e[q]!.2) (by omega) hp (fun i hi hiy => h i q (Or.inr ⟨hpin.1, hpin.2, hi, hiy⟩) (Or.inl rfl)) p hpin.1 hpin.2
  · rw [hp.2.1 p (by omega)]
    by_cases hqin : x ≤ q ∧ q < y
    · exact permIn_all e f x y (fun z => e[p]!.2 < z.2) (by omega) hp (fun i hi hiy => h p i (Or.inl rfl) (Or.inr ⟨hqin.1, hqin.2, hi, hiy⟩)) q hqin.1 hqin.2
    · rw [hp.2.1 q (by omega)]
      exact h p q (Or.inl rfl) (Or.inl rfl)
theorem StA.step {n t : Nat} {d e f : Array (Nat × Nat)} (h : StA k n t d e) (hn : n ≤ d.size) (ht : 20 * t + 20 ≤ n) (ht2 : t < 3) (hp : PermIn (20 * t) (20 * t + 20) e f) (hs : SortedIn (tlt k) (20 * t) (20 * t + 20) f) : StA k n (t + 1) d f := by
  have he : n ≤ e.size := by rw [h.perm.1]; exact hn
  refine ⟨permIn_trans _ _ _ _ _ h.perm (permIn_mono _ _ _ _ _ _ (Nat.zero_le _) ht he hp), ?_, ?_, ?_⟩
  · intro p q hpq hq hc
    refine tag_step ht he hp hpq hq (by omega) ?_
    intro p' q' h1 h2
    refine h.tag p' q' (by omega) (by omega) (by omega)
  · intro h1
    by_cases h0 : t = 0
    · subst h0; simpa using hs
    · exact sorted_perm_out (h.s0 (by omega)) hp (Or.inl (by omega))
  · intro h1
    by_cases h0 : t = 1
    · subst h0; simpa using hs
    · exact sorted_perm_out (h.s1 (by omega)) hp (Or.inl (by omega))
theorem StA.last {n t : Nat} {d e f : Array (Nat × Nat)} (h : StA k n t d e) (hn : n ≤ d.size) (ht : 20 * t ≤ n) (ht2 : n < 20 * t + 20) (ht3 : n < 60) (hp : PermIn (20 * t) n e f) (hs : SortedIn (tlt k) (20 * t) n f) : StB k n d f := by
  have he : n ≤ e.size := by rw [h.perm.1]; exact hn
  have tg : ∀ p q, p < q → q < n → p / 20 < q / 20 → f[p]!.2 < f[q]!.2 := by
    intro p q hpq hq hc
    refine tag_step (Nat.le_refl _) he hp hpq hq (by omega) ?_
    intro p' q' h1 h2
    exact h.tag p' q' (by omega) (by omega) (by omega)
  refine ⟨permIn_trans _ _ _ _ _ h.perm (permIn_mono _ _ _ _ _ _ (Nat.zero_le _) (Nat.le_refl _) he hp), ?_, ?_, ?_, fun i j _ hi hj hjn => tg i j (by omega) hjn (by omega), fun i j _ hi hj hjn => tg i j (by omega) hjn (by omega)⟩
  · by_cases h0 : t = 0
    · subst h0; exact sorted_sub hs (by omega) (by omega)
    · exact sorted_sub (sorted_perm_out (h.s0 (by omega)) hp (Or.inl (by omega))) (by omega) (by omega)
  · by_cases h0 : t ≤ 1
    · by_cases h1 : t = 0
      · intro i j hi hij hj; omega
      · obtain rfl : t = 1 := by omega
        exact sorted_sub hs (by omega) (by omega)
    · exact sorted_sub (sorted_perm_out (h.s1 (by omega)) hp (Or.inl (by omega))) (by omega) (by omega)
  · by_cases h0 : t = 2
    · subst h0; exact sorted_sub hs (by omega) (by omega)
    · intro i j hi hij hj; omega
theorem StB.merge {n : Nat} {d e f : Array (Nat × Nat)} (h : StB k n d e) (hn : n ≤ d.size) (h20 : 20 < n) (hp : PermIn 0 (min 40 n) e f) (hs : SortedIn (tlt k) 0 (min 40 n) f) : StC k n d f := by
  have he : n ≤ e.size := by rw [h.perm.1]; exact hn
  refine ⟨permIn_trans _ _ _ _ _ h.perm (permIn_mono _ _ _ _ _ _ (Nat.le_refl _) (by omega) he hp), hs, sorted_perm_out h.s2 hp (Or.inr (by omega)), ?_⟩
  intro i j hi him hj hjn
  rw [hp.2.1 j (by omega)]
  exact permIn_all e f 0 (min 40 n) (fun z => z.2 < e[j]!.2) (by omega) hp (fun x _ hx => h.t1 x j (Nat.zero_le _) (by omega) hj hjn) i (Nat.zero_le _) (by omega)
end Go.Fx
