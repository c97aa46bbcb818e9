/- Guided means, in plain Lean. -/
import Derived.Test.YtomlfdkcgaogcaaProg
import Derived.Test.YtomlfdkcgaogcaaC95
import Derived.Test.YtomlfdkcgaogcaaC28
namespace Go.Proofs.Ytomlfdkcgaogcaa
open Go.RowKit Go.Fx Go.Soft
/-- The sum and the number of the values that count. -/
def gFoldM (p : Nat × Nat → Bool) (val : Nat × Nat → Nat) (l : List (Nat × Nat)) : Nat × Nat := l.foldl (fun st c => if p c then (fop .add .f32 st.1 (val c), st.2 + 1) else st) (0, 0)
theorem gFoldM_yes {p : Nat × Nat → Bool} {val : Nat × Nat → Nat} {l : List (Nat × Nat)} {c : Nat × Nat} (h : p c = true) : gFoldM p val (l ++ [c]) = (fop .add .f32 (gFoldM p val l).1 (val c), (gFoldM p val l).2 + 1) := by
  unfold gFoldM; rw [List.foldl_append]; simp only [List.foldl_cons, List.foldl_nil]; rw [if_pos h]
theorem gFoldM_no {p : Nat × Nat → Bool} {val : Nat × Nat → Nat} {l : List (Nat × Nat)} {c : Nat × Nat} (h : p c = false) : gFoldM p val (l ++ [c]) = gFoldM p val l := by
  unfold gFoldM; rw [List.foldl_append]; simp only [List.foldl_cons, List.foldl_nil]; rw [if_neg (by rw [h]; decide)]
theorem gFoldM_le (p : Nat × Nat → Bool) (val : Nat × Nat → Nat) (l : List (Nat × Nat)) : (gFoldM p val l).2 ≤ l.length := by
  unfold gFoldM
  have : ∀ (l : List (Nat × Nat)) (st : Nat × Nat), (l.foldl (fun st c => if p c then (fop .add .f32 st.1 (val c), st.2 + 1) else st) st).2 ≤ st.2 + l.length := by
    intro l
    induction l with
    | nil => intro st; simp
    | cons c l ih =>
      intro st
      rw [List.foldl_cons, List.length_cons]
      have := ih (if p c then (fop .add .f32 st.1 (val c), st.2 + 1) else st)
      split at this <;> rename_i h <;> simp only [h, if_true, if_false, Bool.false_eq_true] <;> simp at this ⊢ <;> omega
  have := this l (0, 0)
  simpa using this
/-- The sum and the number of the values of a row that are no holes. -/
def gMean2 (L : List Nat) : Nat × Nat := L.foldl (fun st x => if gHole x then st else (fop .add .f32 st.1 x, st.2 + 1)) (0, 0)
theorem gMean2_eq (near : Nat × Nat → Bool) (val : Nat × Nat → Nat) (l : List (Nat × Nat)) : gMean2 ((l.filter near).map val) = gFoldM (fun c => !gHole (val c) && near c) val l := by
  unfold gMean2 gFoldM
  rw [List.foldl_map]
  generalize ((0, 0) : Nat × Nat) = st
  induction l generalizing st with
  | nil => rfl
  | cons c l ih =>
    rw [List.foldl_cons, List.filter_cons]
    cases h : near c
    · simp only [h, Bool.false_eq_true, if_false, Bool.and_false]
      exact ih st
    · simp only [h, if_true, List.foldl_cons, Bool.and_true]
      cases hg : gHole (val c)
      · simp only [hg, Bool.not_false, if_true, Bool.false_eq_true, if_false]
        exact ih _
      · simp only [hg, Bool.not_true, if_true, Bool.false_eq_true, if_false]
        exact ih _
theorem gMean2_take {L : List Nat} {k : Nat} (h : k < L.length) : gMean2 (L.take (k + 1)) = if gHole (L.getD k 0) then gMean2 (L.take k) else (fop .add .f32 (gMean2 (L.take k)).1 (L.getD k 0), (gMean2 (L.take k)).2 + 1) := by
  have e : L.take (k + 1) = L.take k ++ [L.getD k 0] := by
    rw [List.getD_eq_getElem?_getD, List.getElem?_eq_getElem h]; exact (List.take_append_getElem h).symm
  rw [e]
  unfold gMean2
  rw [List.foldl_append]
  rfl
theorem gMean2_le (L : List Nat) : (gMean2 L).2 ≤ L.length := by
  have h := gMean2_eq (fun _ => true) (fun c => c.1) (L.map fun x => (x, 0))
  have e1 : ((L.map fun x => ((x, 0) : Nat × Nat)).filter fun _ => true) = L.map fun x => (x, 0) := by simp
  rw [e1, List.map_map] at h
  have e2 : ((fun c : Nat × Nat => c.1) ∘ fun x => (x, 0)) = id := rfl
  rw [e2, List.map_id] at h
  rw [h]
  have := gFoldM_le (fun c => !gHole c.1 && true) (fun c => c.1) (L.map fun x => (x, 0))
  simpa using this
/-- A cell counts: no hole, and its grey is near that of cell i. -/
def gGw (ms gs : List Nat) (W N i : Nat) (c : Nat × Nat) : Bool := !gHole (ms.getD (c.1 + W * c.2) 0) && gNear (gs.getD (c.1 + W * c.2) 0) (gs.getD i 0) N
/-- The cells of the window about a cell. -/
def gWn (W H r x y : Nat) : List (Nat × Nat) := wl (x - r) (y - r) (min (x + r) (W - 1) + 1 - (x - r)) ((min (x + r) (W - 1) + 1 - (x - r)) * (min (y + r) (H - 1) + 1 - (y - r)))
def gGs (ms gs : List Nat) (W H N r i : Nat) : Nat × Nat := gFoldM (gGw ms gs W N i) (fun c => ms.getD (c.1 + W * c.2) 0) (gWn W H r (i % W) (i / W))
/-- The guided mean at cell i. -/
def gGuAt (ms gs : List Nat) (W H N r i : Nat) : Nat :=
  if gHole (ms.getD i 0) then 3212836864 else if (gGs ms gs W H N r i).2 = 0 then ms.getD i 0 else fop .quo .f32 (gGs ms gs W H N r i).1 (floatOfInt .f32 ((gGs ms gs W H N r i).2 : Int))
end Go.Proofs.Ytomlfdkcgaogcaa
