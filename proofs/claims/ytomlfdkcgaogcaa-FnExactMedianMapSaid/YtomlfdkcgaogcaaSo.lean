/- Stable sorting, in plain Lean: numbers bear the places they came from; a merge that looks at keys alone keeps to that order. -/
import Derived.Sort.Lot0
import Derived.Sort.LotA
namespace Go.Fx
open Go.Sort
section
variable (k : Nat → Int)
/-- By key, then by the place it came from, then by value. -/
def tlt (x y : Nat × Nat) : Bool := decide (k x.1 < k y.1 ∨ (k x.1 = k y.1 ∧ (x.2 < y.2 ∨ (x.2 = y.2 ∧ x.1 < y.1))))
def klt (x y : Nat × Nat) : Bool := decide (k x.1 < k y.1)
variable {k}
theorem tlt_true {x y : Nat × Nat} : tlt k x y = true ↔ (k x.1 < k y.1 ∨ (k x.1 = k y.1 ∧ (x.2 < y.2 ∨ (x.2 = y.2 ∧ x.1 < y.1)))) := by unfold tlt; exact decide_eq_true_iff
theorem tlt_false {x y : Nat × Nat} : tlt k x y = false ↔ ¬ (k x.1 < k y.1 ∨ (k x.1 = k y.1 ∧ (x.2 < y.2 ∨ (x.2 = y.2 ∧ x.1 < y.1)))) := by unfold tlt; exact decide_eq_false_iff_not
theorem swo_tlt : SWO (tlt k) where
  irrefl x := by rw [tlt_false]; omega
  trans x y z h1 h2 := by rw [tlt_true] at *; omega
  ntrans x y z h1 h2 := by rw [tlt_false] at *; omega
theorem tlt_anti (x y : Nat × Nat) (h1 : tlt k x y = false) (h2 : tlt k y x = false) : x = y := by
  rw [tlt_false] at h1 h2
  obtain ⟨a, b⟩ := x
  obtain ⟨c, d⟩ := y
  simp only at h1 h2
  have e1 : a = c := by omega
  have e2 : b = d := by omega
  rw [e1, e2]
/-- What came later stands before just where its key is less. -/
theorem tlt_late {x y : Nat × Nat} (h : x.2 < y.2) : tlt k y x = klt k y x := by
  unfold tlt klt
  exact decide_eq_decide.2 (by omega)
theorem tlt_key {x y : Nat × Nat} (h : tlt k y x = false) : k x.1 ≤ k y.1 := by rw [tlt_false] at h; omega
theorem tlt_of_key {x y : Nat × Nat} (h : k x.1 < k y.1) : tlt k y x = false := by rw [tlt_false]; omega
theorem tlt_of_le {x y : Nat × Nat} (h : k x.1 ≤ k y.1) (ht : x.2 < y.2) : tlt k y x = false := by rw [tlt_false]; omega
theorem tlt_trans {x y z : Nat × Nat} (h1 : tlt k y x = false) (h2 : tlt k z y = false) : tlt k z x = false := swo_tlt.ntrans _ _ _ h2 h1
/-- All that lies in a part came before all that lies in the next. -/
def Tag (a m b : Nat) (d : Array (Nat × Nat)) : Prop := ∀ i j, a ≤ i → i < m → m ≤ j → j < b → d[i]!.2 < d[j]!.2
/-- All in a part stands before all in the next. -/
def Cross (k : Nat → Int) (a m b : Nat) (d : Array (Nat × Nat)) : Prop := ∀ i j, a ≤ i → i < m → m ≤ j → j < b → tlt k d[j]! d[i]! = false
theorem sorted_glue2 {a m b : Nat} {d : Array (Nat × Nat)} (h1 : SortedIn (tlt k) a m d) (h2 : SortedIn (tlt k) m b d) (h3 : Cross k a m b d) : SortedIn (tlt k) a b d := by
  intro i j hi hij hj
  by_cases hjm : j < m
  · exact h1 i j hi hij hjm
  · by_cases him : i < m
    · exact h3 i j hi him (by omega) hj
    · exact h2 i j (by omega) hij hj
theorem sorted_sub {lt : Nat × Nat → Nat × Nat → Bool} {a b a' b' : Nat} {d : Array (Nat × Nat)} (h : SortedIn lt a b d) (ha : a ≤ a') (hb : b' ≤ b) : SortedIn lt a' b' d := fun i j hi hij hj => h i j (by omega) hij (by omega)
theorem tag_sub {a m b a' m' b' : Nat} {d : Array (Nat × Nat)} (h : Tag a m b d) (ha : a ≤ a') (hm : m' = m) (hb : b' ≤ b) : Tag a' m' b' d := fun i j hi him hj hjb => h i j (by omega) (by omega) (by omega) (by omega)
/-- What holds of all pairs across a seam, holds behind permutations of either side. -/
theorem pair_perm {a m b : Nat} {d e f : Array (Nat × Nat)} {R : Nat × Nat → Nat × Nat → Prop} (hm : m ≤ b) (hb : b ≤ d.size) (p1 : PermIn a m d e) (p2 : PermIn m b e f) (h : ∀ i j, a ≤ i → i < m → m ≤ j → j < b → R d[i]! d[j]!) :
    ∀ i j, a ≤ i → i < m → m ≤ j → j < b → R f[i]! f[j]! := by
  have h1 : ∀ i j, a ≤ i → i < m → m ≤ j → j < b → R e[i]! e[j]! := by
    intro i j hi him hj hjb
    rw [p1.2.1 j (by omega)]
    exact permIn_all d e a m (fun x => R x d[j]!) (by omega) p1 (fun i hi him => h i j hi him hj hjb) i hi him
  intro i j hi him hj hjb
  rw [p2.2.1 i (by omega)]
  exact permIn_all e f m b (fun y => R e[i]! y) (by rw [p1.1]; exact hb) p2 (fun j hj hjb => h1 i j hi him hj hjb) j hj hjb
theorem sorted_perm_out {lt : Nat × Nat → Nat × Nat → Bool} {a b x y : Nat} {d e : Array (Nat × Nat)} (h : SortedIn lt x y d) (p : PermIn a b d e) (ho : y ≤ a ∨ b ≤ x) : SortedIn lt x y e := by
  intro i j hi hij hj
  rw [p.2.1 i (by omega), p.2.1 j (by omega)]
  exact h i j hi hij hj
/-! ### Insertion -/
theorem insInner_tag (a : Nat) : ∀ (j : Nat) (d : Array (Nat × Nat)), j < d.size → (∀ i, a ≤ i → i < j → d[i]!.2 < d[j]!.2) → insInner (klt k) a j d = insInner (tlt k) a j d
  | 0, d, _, _ => rfl
  | j + 1, d, hj, h => by
    unfold insInner
    by_cases ha : j + 1 > a
    · rw [tlt_late (h j (by omega) (by omega))]
      by_cases hc : klt k d[j + 1]! d[j]! = true
      · simp only [ha, hc, decide_true, Bool.and_self, if_true]
        refine insInner_tag a j _ (by rw [swp_size]; omega) ?_
        intro i hi hij
        rw [swp_get d hj (show j < d.size by omega), swp_get d hj (show j < d.size by omega), if_neg (by omega), if_neg (by omega), if_pos rfl]
        exact h i hi (by omega)
      · simp only [hc, Bool.and_false, Bool.false_eq_true, if_false]
    · simp only [ha, decide_false, Bool.false_and, Bool.false_eq_true, if_false]
theorem insInner_perm (lt : Nat × Nat → Nat × Nat → Bool) (a b : Nat) : ∀ (j : Nat) (d : Array (Nat × Nat)), j < b → b ≤ d.size → a ≤ j → PermIn a b d (insInner lt a j d)
  | 0, d, _, _, _ => permIn_refl d a b
  | j + 1, d, hj, hb, ha => by
    unfold insInner
    split
    · rename_i hc
      simp only [Bool.and_eq_true, decide_eq_true_eq] at hc
      exact permIn_trans _ _ _ _ _ (swp_permIn d a b (j + 1) j (by omega) (by omega) (by omega) (by omega) hb) (insInner_perm lt a b j _ (by omega) (by rw [swp_size]; exact hb) (by omega))
    · exact permIn_refl d a b
theorem insOuter_tag (a b : Nat) : ∀ (n i : Nat) (d : Array (Nat × Nat)), b - i = n → a ≤ i → b ≤ d.size → (∀ p q, a ≤ p → p < q → i ≤ q → q < b → d[p]!.2 < d[q]!.2) → insOuter (klt k) a b i d = insOuter (tlt k) a b i d
  | 0, i, d, hn, _, _, _ => by rw [insOuter, if_neg (by omega)]; rw [insOuter, if_neg (by omega)]
  | n + 1, i, d, hn, ha, hb, h => by
    rw [insOuter, if_pos (by omega)]
    conv => rhs; rw [insOuter, if_pos (show i < b by omega)]
    rw [insInner_tag a i d (by omega) (fun p hp hpi => h p i hp hpi (Nat.le_refl _) (by omega))]
    have hp := insInner_perm (tlt k) a (i + 1) i d (by omega) (by omega) ha
    refine insOuter_tag a b n (i + 1) _ (by omega) (by omega) (by rw [hp.1]; exact hb) ?_
    intro p q hpa hpq hiq hqb
    rw [hp.2.1 q (by omega)]
    by_cases hpi : p < i + 1
    · exact permIn_all d _ a (i + 1) (fun x => x.2 < d[q]!.2) (by omega) hp (fun p' hp' hpi' => h p' q hp' (by omega) (by omega) hqb) p hpa hpi
    · rw [hp.2.1 p (by omega)]
      exact h p q hpa hpq (by omega) hqb
theorem insertion_tag {d : Array (Nat × Nat)} {a b : Nat} (hab : a ≤ b) (hb : b ≤ d.size) (h : ∀ p q, a ≤ p → p < q → q < b → d[p]!.2 < d[q]!.2) : PermIn a b d (insertionSort (klt k) d a b) ∧ SortedIn (tlt k) a b (insertionSort (klt k) d a b) := by
  have e : insertionSort (klt k) d a b = insertionSort (tlt k) d a b := insOuter_tag a b _ (a + 1) d rfl (by omega) hb (fun p q hp hpq _ hq => h p q hp hpq hq)
  rw [e]
  exact insertionSort_holds swo_tlt d a b hab hb
/-! ### Turning a part about -/
/-- Where the element at p came from, when [x, m) and [m, y) have changed places. -/
def rotI (x m y p : Nat) : Nat := if x ≤ p ∧ p < x + (y - m) then p + (m - x) else if x + (y - m) ≤ p ∧ p < y then p - (y - m) else p
/-- .. when n elements from a on and from b on have changed places. -/
def swpI (a b n p : Nat) : Nat := if a ≤ p ∧ p < a + n then p - a + b else if b ≤ p ∧ p < b + n then p - b + a else p
theorem swpI_zero (a b p : Nat) : swpI a b 0 p = p := by
  unfold swpI; rw [if_neg (by omega), if_neg (by omega)]
theorem swpI_succ {a b n p : Nat} (h : a + n < b) : (if p = b + n then swpI a b n (a + n) else if p = a + n then swpI a b n (b + n) else swpI a b n p) = swpI a b (n + 1) p := by
  unfold swpI; repeat' split
  all_goals omega
theorem rot_step1 {m i j p : Nat} (h1 : j < i) (h2 : i ≤ m) (h3 : 0 < j) : swpI (m - i) m j (rotI (m - (i - j)) m (m + j) p) = rotI (m - i) m (m + j) p := by
  unfold swpI rotI; repeat' split
  all_goals omega
theorem rot_step2 {m i j p : Nat} (h1 : i < j) (h2 : i ≤ m) (h3 : 0 < i) : swpI (m - i) (m + j - i) i (rotI (m - i) m (m + (j - i)) p) = rotI (m - i) m (m + j) p := by
  unfold swpI rotI; repeat' split
  all_goals omega
theorem rot_last {m i p : Nat} (h2 : i ≤ m) : swpI (m - i) m i p = rotI (m - i) m (m + i) p := by
  unfold swpI rotI; repeat' split
  all_goals omega
theorem rot_up {a q p : Nat} (h : a ≤ q) : (if p = q + 1 then rotI a (a + 1) (q + 1) q else if p = q then rotI a (a + 1) (q + 1) (q + 1) else rotI a (a + 1) (q + 1) p) = rotI a (a + 1) (q + 2) p := by
  unfold rotI; repeat' split
  all_goals omega
theorem rot_down {m q p : Nat} (h : q < m) : (if p = q then rotI (q + 1) m (m + 1) (q + 1) else if p = q + 1 then rotI (q + 1) m (m + 1) q else rotI (q + 1) m (m + 1) p) = rotI q m (m + 1) p := by
  unfold rotI; repeat' split
  all_goals omega
theorem rotI_none {x m y p : Nat} (h : m ≤ x ∨ y ≤ m) (hx : x ≤ m) (hm : m ≤ y) : rotI x m y p = p := by
  unfold rotI; repeat' split
  all_goals omega
/-- Two sorted parts, split so that what changes places may: four sorted parts, two by two. -/
structure Split (k : Nat → Int) (a s mid t b : Nat) (e : Array (Nat × Nat)) : Prop where
  s1 : SortedIn (tlt k) a s e
  s2 : SortedIn (tlt k) s mid e
  s3 : SortedIn (tlt k) mid t e
  s4 : SortedIn (tlt k) t b e
  t1 : Tag a s mid e
  t2 : Tag mid t b e
  cross : Cross k a mid b e
theorem split_of {d e : Array (Nat × Nat)} {a s m t b : Nat} (h1 : SortedIn (tlt k) a m d) (h2 : SortedIn (tlt k) m b d) (hT : Tag a m b d) (ha : a ≤ s) (hs : s ≤ m) (ht : m ≤ t) (hb : t ≤ b)
    (hx : ∀ p q, a ≤ p → p < s → t ≤ q → q < b → k d[p]!.1 ≤ k d[q]!.1) (hy : ∀ p q, s ≤ p → p < m → m ≤ q → q < t → k d[q]!.1 < k d[p]!.1) (he : ∀ p, e[p]! = d[rotI s m t p]!) : Split k a s (s + (t - m)) t b e := by
  have r1 : ∀ p, p < s → e[p]! = d[p]! := fun p h => by rw [he, show rotI s m t p = p by unfold rotI; rw [if_neg (by omega), if_neg (by omega)]]
  have r2 : ∀ p, s ≤ p → p < s + (t - m) → e[p]! = d[p + (m - s)]! := fun p h h' => by rw [he, show rotI s m t p = p + (m - s) by unfold rotI; rw [if_pos (by omega)]]
  have r3 : ∀ p, s + (t - m) ≤ p → p < t → e[p]! = d[p - (t - m)]! := fun p h h' => by rw [he, show rotI s m t p = p - (t - m) by unfold rotI; rw [if_neg (by omega), if_pos (by omega)]]
  have r4 : ∀ p, t ≤ p → e[p]! = d[p]! := fun p h => by rw [he, show rotI s m t p = p by unfold rotI; rw [if_neg (by omega), if_neg (by omega)]]
  refine ⟨?_, ?_, ?_, ?_, ?_, ?_, ?_⟩
  · intro i j hi hij hj
    rw [r1 i (by omega), r1 j (by omega)]
    exact h1 i j hi hij (by omega)
  · intro i j hi hij hj
    rw [r2 i (by omega) (by omega), r2 j (by omega) (by omega)]
    exact h2 _ _ (by omega) (by omega) (by omega)
  · intro i j hi hij hj
    rw [r3 i (by omega) (by omega), r3 j (by omega) (by omega)]
    exact h1 _ _ (by omega) (by omega) (by omega)
  · intro i j hi hij hj
    rw [r4 i (by omega), r4 j (by omega)]
    exact h2 i j (by omega) hij (by omega)
  · intro i j hi his hj hjm
    rw [r1 i his, r2 j hj hjm]
    exact hT _ _ hi (by omega) (by omega) (by omega)
  · intro i j hi hit hj hjb
    rw [r3 i hi hit, r4 j hj]
    exact hT _ _ (by omega) (by omega) (by omega) hjb
  · intro i j hi him hj hjb
    by_cases his : i < s
    · rw [r1 i his]
      by_cases hjt : j < t
      · rw [r3 j hj hjt]
        exact h1 _ _ hi (by omega) (by omega)
      · rw [r4 j (by omega)]
        exact tlt_of_le (hx i j hi his (by omega) hjb) (hT _ _ hi (by omega) (by omega) hjb)
    · rw [r2 i (by omega) him]
      by_cases hjt : j < t
      · rw [r3 j hj hjt]
        exact tlt_of_key (hy _ _ (by omega) (by omega) (by omega) (by omega))
      · rw [r4 j (by omega)]
        exact h2 _ _ (by omega) (by omega) hjb
/-- Both halves merged: the whole is. -/
theorem Split.join {a s mid t b : Nat} {e f g : Array (Nat × Nat)} (h : Split k a s mid t b e) (hm : mid ≤ b) (hb : b ≤ e.size) (p1 : PermIn a mid e f) (s1 : SortedIn (tlt k) a mid f) (p2 : PermIn mid b f g) (s2 : SortedIn (tlt k) mid b g) : SortedIn (tlt k) a b g :=
  sorted_glue2 (sorted_perm_out s1 p2 (Or.inl (Nat.le_refl _))) s2 (pair_perm (R := fun x y => tlt k y x = false) hm hb p1 p2 h.cross)
/-- A half of which one part is empty is merged as it is. -/
theorem Split.left {a s mid t b : Nat} {e : Array (Nat × Nat)} (h : Split k a s mid t b e) (hn : ¬ (a < s ∧ s < mid)) (h1 : a ≤ s) (h2 : s ≤ mid) : SortedIn (tlt k) a mid e := by
  by_cases e1 : a = s
  · rw [e1]; exact h.s2
  · have e2 : s = mid := by omega
    rw [← e2]; exact h.s1
theorem Split.right {a s mid t b : Nat} {e : Array (Nat × Nat)} (h : Split k a s mid t b e) (hn : ¬ (mid < t ∧ t < b)) (h1 : mid ≤ t) (h2 : t ≤ b) : SortedIn (tlt k) mid b e := by
  by_cases e1 : mid = t
  · rw [e1]; exact h.s4
  · have e2 : t = b := by omega
    rw [← e2]; exact h.s3
/-- One number is put among those behind it. -/
theorem one_left {d e : Array (Nat × Nat)} {a i b : Nat} (h2 : SortedIn (tlt k) (a + 1) b d) (hT : Tag a (a + 1) b d) (hi : a + 1 ≤ i) (hb : i ≤ b) (hl : ∀ p, a + 1 ≤ p → p < i → k d[p]!.1 < k d[a]!.1) (hr : ∀ p, i ≤ p → p < b → k d[a]!.1 ≤ k d[p]!.1)
    (he : ∀ p, e[p]! = d[rotI a (a + 1) i p]!) : SortedIn (tlt k) a b e := by
  have hx : ∀ p q, a ≤ p → p < a → i ≤ q → q < b → k d[p]!.1 ≤ k d[q]!.1 := fun p q hp hps hq hqb => by omega
  have hy : ∀ p q, a ≤ p → p < a + 1 → a + 1 ≤ q → q < i → k d[q]!.1 < k d[p]!.1 := fun p q hp hpm hq hqi => by
    have e0 : p = a := by omega
    rw [e0]; exact hl q hq hqi
  have h1 : SortedIn (tlt k) a (a + 1) d := fun p q hp hpq hq => by omega
  have S : Split k a a (a + (i - (a + 1))) i b e := split_of h1 h2 hT (Nat.le_refl _) (by omega) hi hb hx hy he
  refine sorted_glue2 S.s2 (sorted_glue2 S.s3 S.s4 ?_) S.cross
  intro p q hp hpi hq hqb
  have e1 : e[p]! = d[a]! := by rw [he, show rotI a (a + 1) i p = a by unfold rotI; rw [if_neg (by omega), if_pos (by omega)]; omega]
  have e2 : e[q]! = d[q]! := by rw [he, show rotI a (a + 1) i q = q by unfold rotI; rw [if_neg (by omega), if_neg (by omega)]]
  rw [e1, e2]
  exact tlt_of_le (hr q hq hqb) (hT a q (Nat.le_refl _) (by omega) (by omega) hqb)
/-- One number is put among those ahead of it. -/
theorem one_right {d e : Array (Nat × Nat)} {a i m : Nat} (h1 : SortedIn (tlt k) a m d) (hT : Tag a m (m + 1) d) (ha : a ≤ i) (hi : i ≤ m) (hl : ∀ p, a ≤ p → p < i → k d[p]!.1 ≤ k d[m]!.1) (hr : ∀ p, i ≤ p → p < m → k d[m]!.1 < k d[p]!.1)
    (he : ∀ p, e[p]! = d[rotI i m (m + 1) p]!) : SortedIn (tlt k) a (m + 1) e := by
  have hx : ∀ p q, a ≤ p → p < i → m + 1 ≤ q → q < m + 1 → k d[p]!.1 ≤ k d[q]!.1 := fun p q hp hps hq hqb => by omega
  have hy : ∀ p q, i ≤ p → p < m → m ≤ q → q < m + 1 → k d[q]!.1 < k d[p]!.1 := fun p q hp hpm hq hqi => by
    have e0 : q = m := by omega
    rw [e0]; exact hr p hp hpm
  have h2 : SortedIn (tlt k) m (m + 1) d := fun p q hp hpq hq => by omega
  have S : Split k a i (i + (m + 1 - m)) (m + 1) (m + 1) e := split_of h1 h2 hT ha hi (by omega) (Nat.le_refl _) hx hy he
  refine sorted_glue2 (sorted_glue2 S.s1 S.s2 ?_) S.s3 S.cross
  intro p q hp hpi hq hqb
  have e1 : e[p]! = d[p]! := by rw [he, show rotI i m (m + 1) p = p by unfold rotI; rw [if_neg (by omega), if_neg (by omega)]]
  have e2 : e[q]! = d[m]! := by rw [he, show rotI i m (m + 1) q = m by unfold rotI; rw [if_pos (by omega)]; omega]
  rw [e1, e2]
  exact tlt_of_le (hl p hp hpi) (hT p m hp (by omega) (Nat.le_refl _) (by omega))
theorem tag_perm_out {a m b x y : Nat} {d e : Array (Nat × Nat)} (h : Tag a m b d) (p : PermIn x y d e) (ho : b ≤ x ∨ y ≤ a) : Tag a m b e := by
  intro i j hi him hj hjb
  rw [p.2.1 i (by omega), p.2.1 j (by omega)]
  exact h i j hi him hj hjb
/-- The binary search's end: what may change places. -/
theorem sym_cut {d : Array (Nat × Nat)} {a m b n s : Nat} (h1 : SortedIn (tlt k) a m d) (h2 : SortedIn (tlt k) m b d) (hn : m ≤ n) (hs1 : a ≤ s) (hs2 : n ≤ s + b) (hs3 : s ≤ m) (hs4 : s + m ≤ n)
    (hl : (a < s ∧ n < s + b) → k d[s - 1]!.1 ≤ k d[n - s]!.1) (hr : (s < m ∧ s + m < n) → k d[n - s - 1]!.1 < k d[s]!.1) :
    (∀ p q, a ≤ p → p < s → n - s ≤ q → q < b → k d[p]!.1 ≤ k d[q]!.1) ∧ (∀ p q, s ≤ p → p < m → m ≤ q → q < n - s → k d[q]!.1 < k d[p]!.1) := by
  have k1 : ∀ p q, a ≤ p → p ≤ q → q < m → k d[p]!.1 ≤ k d[q]!.1 := fun p q hp hpq hq => by
    by_cases e : p = q
    · rw [e]; exact Int.le_refl _
    · exact tlt_key (h1 p q hp (by omega) hq)
  have k2 : ∀ p q, m ≤ p → p ≤ q → q < b → k d[p]!.1 ≤ k d[q]!.1 := fun p q hp hpq hq => by
    by_cases e : p = q
    · rw [e]; exact Int.le_refl _
    · exact tlt_key (h2 p q hp (by omega) hq)
  constructor
  · intro p q hp hps hq hqb
    exact Int.le_trans (k1 p (s - 1) hp (by omega) (by omega)) (Int.le_trans (hl ⟨by omega, by omega⟩) (k2 (n - s) q (by omega) hq hqb))
  · intro p q hp hpm hq hqn
    have e1 := k2 q (n - s - 1) hq (by omega) (by omega)
    have e2 := hr ⟨by omega, by omega⟩
    have e3 := k1 s p (by omega) hp hpm
    omega
end
end Go.Fx
