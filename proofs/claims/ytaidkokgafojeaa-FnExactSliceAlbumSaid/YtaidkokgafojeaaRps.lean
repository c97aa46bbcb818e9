/- An album that comes in. -/
import Derived.Test.YtaidkokgafojeaaRow
import Derived.Test.YtaidkokgafojeaaPs
import Derived.Deep.Slices
namespace Go.Proofs.Ytaidkokgafojeaa
open Go.ChangeShapes Go.WideShapes Go.ChangeAt Go.RowKit Go.Joins Go.Deep Go.Fx Go.Soft
section
variable {H : Type} {enc : TypeId × Value → H} {P : Program} {w : World} {base : Nat} {held : Bool}
theorem pAt_range (f : Nat → Pic) {n i : Nat} (h : i < n) : pAt ((List.range n).map f) i = f i := by
  unfold pAt
  rw [List.getD_eq_getElem?_getD, List.getElem?_eq_getElem (by simpa using h)]
  simp
theorem open_album {t e ti ts te : TypeId} {g0 f0 f1 f2 : Field} {v : Value} {d : DataW H} {p : List MemPlace} (hA : P.underlying t = some (.struct #[g0])) (cA : P.cellsOf t = 1) (cG : P.cellsOf g0.type = 1) (ht : P.underlying g0.type = some (.slice e)) (he : P.underlying e = some (.struct #[f0, f1, f2])) (ce : P.cellsOf e = 3)
    (ci : P.cellsOf ti = 1) (hi : P.underlying ti = some (.int .i64)) (cs : P.cellsOf ts = 1) (hs : P.underlying ts = some (.slice te)) (hte : P.underlying te = some (.float .f32)) (hc : P.cellsOf te = 1) {r : Reach} {b0 : Nat}
    (hv : Value.okWide P w r b0 t v) (h : DataW.Trod enc P w base (fun _ => true) held t v d p) (eg : g0.offset = 0 := by rfl) (e0 : f0.type = ti ∧ f0.offset = 0 := by exact ⟨rfl, rfl⟩) (e1 : f1.type = ti ∧ f1.offset = 1 := by exact ⟨rfl, rfl⟩) (e2 : f2.type = ts ∧ f2.offset = 2 := by exact ⟨rfl, rfl⟩) :
    ∃ (a : Option Addr) (n cap : Nat) (ps : List Pic), v = .agg #[.slice a n cap] ∧ PSl w a ps ∧ ps.length = n ∧ n ≤ maxLen := by
  obtain ⟨cs0, rfl, hsz⟩ := okWide_struct hA hv
  obtain ⟨l⟩ := cs0
  obtain ⟨fuel, hf⟩ := h
  match l, hsz.trans cA with
  | [c0], _ =>
    obtain ⟨ys0, k0, _, _, _, hyl0, hfl0⟩ := DataW.trod_struct hA hf
    match ys0, hyl0 with
    | [y], _ =>
    have g := hfl0 0 g0 rfl
    simp [Value.cells, eg, cG] at g
    rcases open_slice ht g with ⟨h0, -⟩ | ⟨a', len, cap', m, k, D, Pl, h0, hb, hl, hm, hmm, -, hx⟩
    · simp at h0
      subst h0
      exact ⟨none, 0, 0, [], rfl, fun i hi => absurd hi (Nat.not_lt_zero _), rfl, Nat.zero_le _⟩
    · simp at h0
      subst h0
      simp only [if_true] at hmm
      subst hmm
      have key : ∀ j, ∃ q : Pic, j < len → ∃ ga gc, w.cell? (a'.add (j * 3)) = some (.int .i64 q.wide) ∧ w.cell? (a'.add (j * 3 + 1)) = some (.int .i64 q.high) ∧ w.cell? (a'.add (j * 3 + 2)) = some (.slice ga q.gs.length gc) ∧ FSl w ga q.gs.length q.gs ∧ q.gs.length ≤ maxLen := by
        intro j
        by_cases hj : j < len
        · obtain ⟨cs', h1, h2⟩ := hx j (by omega)
          rw [ce] at h1
          obtain ⟨_, hlen, hcell⟩ := World.cells?_some h1
          obtain ⟨ys, k', hk, hxy, _, hyl, hfl⟩ := DataW.trod_struct he h2
          match ys, hyl, cs', hlen with
          | [y0, y1, y2], _, [v0, v1, v2], _ =>
            have g0 := hfl 0 f0 rfl
            have g1 := hfl 1 f1 rfl
            have g2 := hfl 2 f2 rfl
            simp [e0.1, e0.2, ci] at g0
            simp [e1.1, e1.2, ci] at g1
            simp [e2.1, e2.2, cs] at g2
            obtain ⟨W, ea, -, -⟩ := DataW.trod_int hi g0
            obtain ⟨H, eb, -, -⟩ := DataW.trod_int hi g1
            obtain ⟨a, n, cap, xs, ec, q1, q2⟩ := open_fsl_cells hs hte hc g2
            simp only [List.cons.injEq, and_true] at ea eb ec
            subst ea eb ec
            have c0 := hcell 0 (by omega)
            have c1 := hcell 1 (by omega)
            have c2 := hcell 2 (by omega)
            rw [add_add] at c0 c1 c2
            have hxl := q1.len
            refine ⟨((W, H, xs) : Int × Int × List Nat), fun _ => ⟨a, cap, by simpa [Pic.wide] using c0, by simpa [Pic.high] using c1, ?_, ?_, ?_⟩⟩
            · show _ = some (Value.slice a xs.length cap)
              rw [← hxl]; simpa using c2
            · show FSl w a xs.length xs
              rw [← hxl]; exact q1
            · show xs.length ≤ maxLen
              rw [← hxl]; exact q2
        · exact ⟨((0, 0, []) : Int × Int × List Nat), fun h => absurd h hj⟩
      obtain ⟨R, hR⟩ := Classical.axiomOfChoice key
      refine ⟨some a', len, m, (List.range len).map R, rfl, fun i hi => ?_, by simp, by omega⟩
      have hin : i < len := by simpa using hi
      rw [pAt_range R hin]
      obtain ⟨ga0, gc0, h0, -⟩ := hR 0 (by omega)
      obtain ⟨bl, off, spot⟩ := a'
      have hs : spot = none := by
        cases spot with
        | none => rfl
        | some s => simp [World.cell?, Addr.add] at h0; split at h0 <;> simp at h0
      subst hs
      obtain ⟨ga, gc, q1, q2, q3, q4, q5⟩ := hR i hin
      refine ⟨bl, off, ga, gc, rfl, ?_, ?_, ?_, q4, q5⟩
      · rw [← q1]
        by_cases hi0 : i = 0
        · subst hi0; rfl
        · simp [Addr.add, show ¬ i * 3 = 0 by omega]
      · rw [← q2]; simp [Addr.add, Nat.add_assoc]
      · rw [← q3]; simp [Addr.add, Nat.add_assoc]
end
end Go.Proofs.Ytaidkokgafojeaa
