/- How a volume that came in is opened. -/
import Derived.Test.YtomlfdkcgaogcaaRow
namespace Go.Proofs.Ytomlfdkcgaogcaa
open Go.ChangeShapes Go.WideShapes Go.ChangeAt Go.RowKit Go.Joins Go.Deep Go.Fx
section
variable {H : Type} {enc : TypeId × Value → H} {P : Program} {w : World} {base : Nat} {held : Bool}
/-- A volume that came in: three numbers and a slice of floats. -/
theorem open_vol {t ti ts e : TypeId} {f0 f1 f2 f3 : Field} {v : Value} {d : DataW H} {p : List MemPlace} {r : Reach} {b0 : Nat} (hs : P.underlying t = some (.struct #[f0, f1, f2, f3])) (hone : oneCellFields P #[f0, f1, f2, f3] = true) (hC : P.cellsOf t = 4)
    (hi : P.underlying ti = some (.int .i64)) (ht : P.underlying ts = some (.slice e)) (he : P.underlying e = some (.float .f32)) (hc : P.cellsOf e = 1)
    (hv : Value.okWide P w r b0 t v) (h : DataW.Trod enc P w base (fun _ => true) held t v d p) (e0 : f0.type = ti := by rfl) (e1 : f1.type = ti := by rfl) (e2 : f2.type = ti := by rfl) (e3 : f3.type = ts := by rfl) :
    ∃ (W H D : Int) (a : Option Addr) (n cap : Nat) (xs : List Nat), v = .agg #[.int .i64 W, .int .i64 H, .int .i64 D, .slice a n cap] ∧ FSl w a n xs ∧ n ≤ maxLen := by
  obtain ⟨c0, c1, c2, c3, y0, y1, y2, y3, m, rfl, -, -, hy0, hy1, hy2, hy3⟩ := open_agg4 hs hone hC hv h
  rw [e0] at hy0; rw [e1] at hy1; rw [e2] at hy2; rw [e3] at hy3
  obtain ⟨W, ea, -, wa⟩ := DataW.trod_int hi hy0
  obtain ⟨H, eb, -, wb⟩ := DataW.trod_int hi hy1
  obtain ⟨D, ed, -, wd⟩ := DataW.trod_int hi hy2
  obtain ⟨a, n, cap, xs, ec, h1, h2⟩ := open_fsl_cells ht he hc hy3
  simp only [List.cons.injEq, and_true] at ea eb ec ed
  subst ea eb ec ed
  exact ⟨W, H, D, a, n, cap, xs, rfl, h1, h2⟩
end
end Go.Proofs.Ytomlfdkcgaogcaa
