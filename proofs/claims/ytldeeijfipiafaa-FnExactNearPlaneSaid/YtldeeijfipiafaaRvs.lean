/- A list of vectors that comes in. -/
import Derived.Test.YtldeeijfipiafaaRow
import Derived.Deep.Slices
namespace Go.Proofs.Ytldeeijfipiafaa
open Go.ChangeShapes Go.WideShapes Go.ChangeAt Go.RowKit Go.Joins Go.Deep Go.Fx Go.Soft
section
variable {H : Type} {enc : TypeId × Value → H} {P : Program} {w : World} {base : Nat} {held : Bool}
theorem open_vecs {t e tf : TypeId} {f0 f1 f2 : Field} {v : Value} {d : DataW H} {p : List MemPlace} (ht : P.underlying t = some (.slice e)) (he : P.underlying e = some (.struct #[f0, f1, f2])) (ce : P.cellsOf e = 3) (cf : P.cellsOf tf = 1) (hf : P.underlying tf = some (.float .f32)) {r : Reach} {b0 : Nat}
    (hv : Value.okWide P w r b0 t v) (h : DataW.Trod enc P w base (fun _ => true) held t v d p) (e0 : f0.type = tf ∧ f0.offset = 0 := by exact ⟨rfl, rfl⟩) (e1 : f1.type = tf ∧ f1.offset = 1 := by exact ⟨rfl, rfl⟩) (e2 : f2.type = tf ∧ f2.offset = 2 := by exact ⟨rfl, rfl⟩) :
    ∃ a n cap xs, v = .slice a n cap ∧ FSl w a (n * 3) xs ∧ n ≤ maxLen := by
  obtain ⟨a, n, cap, rfl⟩ := okWide_slice ht hv
  obtain ⟨fuel, hf'⟩ := h
  rcases open_slice ht hf' with ⟨h0, -⟩ | ⟨a', len, cap', m, k, D, Pl, h0, hb, hl, hm, hmm, -, hx⟩
  · simp [Value.cells] at h0
    obtain ⟨rfl, rfl, rfl⟩ := h0
    exact ⟨none, 0, 0, [], rfl, ⟨rfl, fun i hi => by simp at hi⟩, Nat.zero_le _⟩
  · simp [Value.cells] at h0
    obtain ⟨rfl, rfl, rfl⟩ := h0
    simp only [if_true] at hmm
    subst hmm
    have key : ∀ j, j < n * 3 → ∃ q : Nat, w.cell? (a'.add j) = some (.float .f32 q) ∧ q < 2 ^ 32 := by
      intro j hj
      obtain ⟨cs', h1, h2⟩ := hx (j / 3) (by omega)
      rw [ce] at h1
      obtain ⟨_, hlen, hcell⟩ := World.cells?_some h1
      obtain ⟨ys, k', hk, hxy, _, hyl, hfl⟩ := DataW.trod_struct he h2
      match ys, hyl, cs', hlen with
      | [y0, y1, y2], _, [v0, v1, v2], _ =>
        have g0 := hfl 0 f0 rfl
        have g1 := hfl 1 f1 rfl
        have g2 := hfl 2 f2 rfl
        simp [e0.1, e0.2, cf] at g0
        simp [e1.1, e1.2, cf] at g1
        simp [e2.1, e2.2, cf] at g2
        obtain ⟨q0, hq0, l0⟩ := trod_float hf g0
        obtain ⟨q1, hq1, l1⟩ := trod_float hf g1
        obtain ⟨q2, hq2, l2⟩ := trod_float hf g2
        simp only [List.cons.injEq, and_true] at hq0 hq1 hq2
        subst hq0 hq1 hq2
        have c0 := hcell 0 (by omega)
        have c1 := hcell 1 (by omega)
        have c2 := hcell 2 (by omega)
        rw [add_add] at c0 c1 c2
        rcases (show j % 3 = 0 ∨ j % 3 = 1 ∨ j % 3 = 2 by omega) with hj3 | hj3 | hj3
        · rw [show j / 3 * 3 + 0 = j by omega] at c0
          exact ⟨q0, by simpa using c0, l0⟩
        · rw [show j / 3 * 3 + 1 = j by omega] at c1
          exact ⟨q1, by simpa using c1, l1⟩
        · rw [show j / 3 * 3 + 2 = j by omega] at c2
          exact ⟨q2, by simpa using c2, l2⟩
    obtain ⟨R, hR⟩ := choose_lt key
    refine ⟨some a', n, m, (List.range (n * 3)).map fun i => cz .f32 (R i), rfl, ⟨by simp, fun i hi => ?_⟩, by omega⟩
    have hin : i < n * 3 := by simpa using hi
    have h0 := (hR 0 (by omega)).1
    obtain ⟨bl, off, spot⟩ := a'
    have hs : spot = none := by
      cases spot with
      | none => rfl
      | some s => simp [World.cell?, Addr.add] at h0; split at h0 <;> simp at h0
    subst hs
    refine ⟨bl, off, R i, rfl, ?_, ?_⟩
    · rw [← (hR i hin).1]
      by_cases hi0 : i = 0
      · subst hi0; rfl
      · simp [Addr.add, hi0]
    · rw [List.getElem_map, List.getElem_range]
      exact FE.self (hR i hin).2
end
end Go.Proofs.Ytldeeijfipiafaa
