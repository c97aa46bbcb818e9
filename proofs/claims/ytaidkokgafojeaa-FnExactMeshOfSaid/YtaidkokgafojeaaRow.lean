/- What every law's row shares: the frame, and how arguments are opened. -/
import Derived.Test.YtaidkokgafojeaaRows
import Derived.Test.YtaidkokgafojeaaSl
import Derived.Deep.Slices
import Derived.ProofKit
import Derived.Lib.SmallJoins
namespace Go.Proofs.Ytaidkokgafojeaa
open Go.ChangeShapes Go.WideShapes Go.ChangeAt Go.RowKit Go.Joins Go.Deep Go.Fx

theorem own : ownKnob Try.prog.godebug = none := by kernel_rfl
theorem laidOut : laidOutB Try.prog = true := by kernel_rfl

section
variable {H : Type} {enc : TypeId × Value → H}
theorem below_trodAll {P : Program} (hl : laidOutB P = true) {W W' : World} (hb : Below W.heap.size W W') :
    ∀ {ts : List TypeId} {vs : List Value} {ds : List (DataW H)} {ps : List MemPlace}, ts.all (fun t => P.readableRec t && decide (t < P.types.size)) = true → (∀ x ∈ ps, x.block < W.heap.size) →
      DataW.TrodAll enc P W 0 (fun _ => true) true ts vs ds ps → DataW.TrodAll enc P W' 0 (fun b => decide (b < W.heap.size)) true ts vs ds ps
  | [], [], [], _, _, _, h => h
  | t :: ts, v :: vs, d :: ds, ps, hr, hlt, h => by
    obtain ⟨p, q, h1, h2, rfl⟩ := h
    simp only [List.all_cons, Bool.and_eq_true, decide_eq_true_eq] at hr
    exact ⟨p, q, Below.trod hl hr.1.1 hr.1.2 h1 hb (fun x hx => hlt x (List.mem_append_left _ hx)),
      below_trodAll hl hb hr.2 (fun x hx => hlt x (List.mem_append_right _ hx)) h2, rfl⟩
  | [], [], _ :: _, _, _, _, h => h.elim
  | [], _ :: _, _, _, _, _, h => h.elim
  | _ :: _, [], _, _, _, _, h => h.elim
  | _ :: _, _ :: _, [], _, _, _, h => h.elim

/-- The law has returned true, and below the heap's old size nothing has turned: the row's 'post'. -/
theorem post_true {P : Program} {f : Func} {s : ChangeSpec} {W W' : World} {args : Array Value} {ds gs : List (DataW H)} {before : List MemPlace} {tb : TypeId}
    (hl : laidOutB P = true) (hr : f.params.toList.all (fun t => P.readableRec t && decide (t < P.types.size)) = true) (hres : f.resultTypes = #[tb]) (hb : P.underlying tb = some .bool)
    (hv : s.vars = []) (hW : DataW.Whole enc P f.params.toList s.vars false W args.toList ds gs before)
    (h1 : (s.fn H (ds ++ gs)).results = [.lit (.bool true)]) (h2 : (s.fn H (ds ++ gs)).args = ds) (h3 : (s.fn H (ds ++ gs)).vars = []) (hB : Below W.heap.size W W') :
    s.post enc P f false true false false W args (.bool true) W' := by
  have hW' := hW
  obtain ⟨p, q, hA, hV, rfl, hfz, hnd⟩ := hW
  refine ⟨ds, gs, p ++ q, [], p, [], hW', ?_, ?_, ?_, hB.frame _, fun h => by cases h⟩
  · rw [h1, hres]
    exact trodAll_mk1 (shut_bool hb _)
  · rw [h2]
    exact below_trodAll hl hB hr (fun x hx => by simpa using hW'.lt x (List.mem_append_left _ hx)) hA
  · rw [h3, hv]
    exact rfl

variable {P : Program} {w : World} {base : Nat} {spare : Nat → Bool} {held : Bool}
theorem trod_float {t : TypeId} {k : FloatKind} {fuel : Nat} {cs : List Value} {x : DataW H × List MemPlace} (ht : P.underlying t = some (.float k)) (h : DataW.trod enc P w base spare held fuel t cs = some x) :
    ∃ b, cs = [.float k b] ∧ b < 2 ^ k.format.width := by
  cases fuel with
  | zero => simp [DataW.trod] at h
  | succ n =>
    unfold DataW.trod at h
    rw [ht] at h
    split at h <;> try (simp_all; done)
    rename_i k1 k2 b heq
    simp only [Option.some.injEq, TypeDesc.float.injEq] at heq
    subst heq
    by_cases hc : k2 = k ∧ (Lit.float k b).wf = true
    · obtain ⟨rfl, hm⟩ := hc
      exact ⟨b, rfl, by cases k2 <;> (simp [Lit.wf] at hm; exact hm)⟩
    · rw [if_neg hc] at h; cases h
theorem open_f3 {r : Reach} {b0 : Nat} {t : TypeId} {f0 f1 f2 : Field} {tf : TypeId} {v : Value} {d : DataW H} {p : List MemPlace} (hs : P.underlying t = some (.struct #[f0, f1, f2])) (hone : oneCellFields P #[f0, f1, f2] = true) (hC : P.cellsOf t = 3)
    (hf : P.underlying tf = some (.float .f32)) (hv : Value.okWide P w r b0 t v) (h : DataW.Trod enc P w base spare held t v d p) (e0 : f0.type = tf := by rfl) (e1 : f1.type = tf := by rfl) (e2 : f2.type = tf := by rfl) :
    ∃ a b c : Nat, v = .agg #[.float .f32 a, .float .f32 b, .float .f32 c] ∧ FE .f32 a (cz .f32 a) ∧ FE .f32 b (cz .f32 b) ∧ FE .f32 c (cz .f32 c) := by
  obtain ⟨c0, c1, c2, y0, y1, y2, m, rfl, -, -, hy0, hy1, hy2⟩ := open_agg3 hs hone hC hv h
  rw [e0] at hy0; rw [e1] at hy1; rw [e2] at hy2
  obtain ⟨a, ea, wa⟩ := trod_float hf hy0
  obtain ⟨b, eb, wb⟩ := trod_float hf hy1
  obtain ⟨c, ec, wc⟩ := trod_float hf hy2
  simp only [List.cons.injEq, and_true] at ea eb ec
  subst ea eb ec
  exact ⟨a, b, c, rfl, FE.self wa, FE.self wb, FE.self wc⟩
theorem open_f4 {r : Reach} {b0 : Nat} {t : TypeId} {f0 f1 f2 f3 : Field} {tf : TypeId} {v : Value} {d : DataW H} {p : List MemPlace} (hs : P.underlying t = some (.struct #[f0, f1, f2, f3])) (hone : oneCellFields P #[f0, f1, f2, f3] = true) (hC : P.cellsOf t = 4)
    (hf : P.underlying tf = some (.float .f32)) (hv : Value.okWide P w r b0 t v) (h : DataW.Trod enc P w base spare held t v d p) (e0 : f0.type = tf := by rfl) (e1 : f1.type = tf := by rfl) (e2 : f2.type = tf := by rfl) (e3 : f3.type = tf := by rfl) :
    ∃ a b c x : Nat, v = .agg #[.float .f32 a, .float .f32 b, .float .f32 c, .float .f32 x] ∧ FE .f32 a (cz .f32 a) ∧ FE .f32 b (cz .f32 b) ∧ FE .f32 c (cz .f32 c) ∧ FE .f32 x (cz .f32 x) := by
  obtain ⟨c0, c1, c2, c3, y0, y1, y2, y3, m, rfl, -, -, hy0, hy1, hy2, hy3⟩ := open_agg4 hs hone hC hv h
  rw [e0] at hy0; rw [e1] at hy1; rw [e2] at hy2; rw [e3] at hy3
  obtain ⟨a, ea, wa⟩ := trod_float hf hy0
  obtain ⟨b, eb, wb⟩ := trod_float hf hy1
  obtain ⟨c, ec, wc⟩ := trod_float hf hy2
  obtain ⟨x, ex, wx⟩ := trod_float hf hy3
  simp only [List.cons.injEq, and_true] at ea eb ec ex
  subst ea eb ec ex
  exact ⟨a, b, c, x, rfl, FE.self wa, FE.self wb, FE.self wc, FE.self wx⟩
def bitsOf : Value → Nat
  | .float _ b => b
  | _ => 0
/-- A slice of floats that came in. -/
theorem open_fsl_cells {t e : TypeId} {fuel : Nat} {cs : List Value} {x : DataW H × List MemPlace} (ht : P.underlying t = some (.slice e)) (he : P.underlying e = some (.float .f32)) (hc : P.cellsOf e = 1)
    (h : DataW.trod enc P w base (fun _ => true) held fuel t cs = some x) : ∃ a n cap xs, cs = [.slice a n cap] ∧ FSl w a n xs ∧ n ≤ maxLen := by
  rcases open_slice1 ht hc h with ⟨rfl, -⟩ | ⟨a, n, cap, m, k, V, D, Pl, rfl, -, hl, hm, hmm, -, hx⟩
  · exact ⟨none, 0, 0, [], rfl, ⟨rfl, fun i hi => by simp at hi⟩, Nat.zero_le _⟩
  · simp only [if_true] at hmm
    subst hmm
    refine ⟨some a, n, m, (List.range n).map fun i => cz .f32 (bitsOf (V i)), rfl, ⟨by simp, fun i hi => ?_⟩, by omega⟩
    have hin : i < n := by simpa using hi
    obtain ⟨h1, h2⟩ := hx i (by omega)
    obtain ⟨b, hb, hlt⟩ := trod_float he h2
    simp only [List.cons.injEq, and_true] at hb
    have h0 := (hx 0 (by omega)).1
    obtain ⟨bl, off, spot⟩ := a
    have hs : spot = none := by
      cases spot with
      | none => rfl
      | some s => simp [World.cell?, Addr.add] at h0; split at h0 <;> simp at h0
    subst hs
    refine ⟨bl, off, b, rfl, ?_, ?_⟩
    · rw [← hb, ← h1]
      by_cases hi0 : i = 0
      · subst hi0; rfl
      · simp [Addr.add, hi0]
    · rw [List.getElem_map, List.getElem_range, hb]
      exact FE.self hlt
theorem open_fsl {t e : TypeId} {v : Value} {d : DataW H} {p : List MemPlace} (ht : P.underlying t = some (.slice e)) (he : P.underlying e = some (.float .f32)) (hc : P.cellsOf e = 1) {r : Reach} {b0 : Nat}
    (hv : Value.okWide P w r b0 t v) (h : DataW.Trod enc P w base (fun _ => true) held t v d p) : ∃ a n cap xs, v = .slice a n cap ∧ FSl w a n xs ∧ n ≤ maxLen := by
  obtain ⟨a, n, cap, rfl⟩ := okWide_slice ht hv
  obtain ⟨fuel, hf⟩ := h
  obtain ⟨a', n', cap', xs, he', h1, h2⟩ := open_fsl_cells ht he hc hf
  simp [Value.cells] at he'
  obtain ⟨rfl, rfl, rfl⟩ := he'
  exact ⟨_, _, _, xs, rfl, h1, h2⟩
/-- A picture or a map that came in: two numbers and a slice of floats. -/
theorem open_pic {t ti ts e : TypeId} {f0 f1 f2 : Field} {v : Value} {d : DataW H} {p : List MemPlace} {r : Reach} {b0 : Nat} (hs : P.underlying t = some (.struct #[f0, f1, f2])) (hone : oneCellFields P #[f0, f1, f2] = true) (hC : P.cellsOf t = 3)
    (hi : P.underlying ti = some (.int .i64)) (ht : P.underlying ts = some (.slice e)) (he : P.underlying e = some (.float .f32)) (hc : P.cellsOf e = 1)
    (hv : Value.okWide P w r b0 t v) (h : DataW.Trod enc P w base (fun _ => true) held t v d p) (e0 : f0.type = ti := by rfl) (e1 : f1.type = ti := by rfl) (e2 : f2.type = ts := by rfl) :
    ∃ (W H : Int) (a : Option Addr) (n cap : Nat) (xs : List Nat), v = .agg #[.int .i64 W, .int .i64 H, .slice a n cap] ∧ (Lit.int .i64 W).wf = true ∧ (Lit.int .i64 H).wf = true ∧ FSl w a n xs ∧ n ≤ maxLen := by
  obtain ⟨c0, c1, c2, y0, y1, y2, m, rfl, -, -, hy0, hy1, hy2⟩ := open_agg3 hs hone hC hv h
  rw [e0] at hy0; rw [e1] at hy1; rw [e2] at hy2
  obtain ⟨W, ea, -, wa⟩ := DataW.trod_int hi hy0
  obtain ⟨H, eb, -, wb⟩ := DataW.trod_int hi hy1
  obtain ⟨a, n, cap, xs, ec, h1, h2⟩ := open_fsl_cells ht he hc hy2
  simp only [List.cons.injEq, and_true] at ea eb ec
  subst ea eb ec
  exact ⟨W, H, a, n, cap, xs, rfl, wa, wb, h1, h2⟩
/-- Two whole numbers that came in. -/
theorem open_i2 {t ti : TypeId} {f0 f1 : Field} {v : Value} {d : DataW H} {p : List MemPlace} {r : Reach} {b0 : Nat} (hs : P.underlying t = some (.struct #[f0, f1])) (hone : oneCellFields P #[f0, f1] = true) (hC : P.cellsOf t = 2)
    (hi : P.underlying ti = some (.int .i64)) (hv : Value.okWide P w r b0 t v) (h : DataW.Trod enc P w base spare held t v d p) (e0 : f0.type = ti := by rfl) (e1 : f1.type = ti := by rfl) :
    ∃ (a b : Int), v = .agg #[.int .i64 a, .int .i64 b] := by
  obtain ⟨c0, c1, y0, y1, m, rfl, -, -, hy0, hy1⟩ := open_agg2 hs hone hC hv h
  rw [e0] at hy0; rw [e1] at hy1
  obtain ⟨a, ea, -, -⟩ := DataW.trod_int hi hy0
  obtain ⟨b, eb, -, -⟩ := DataW.trod_int hi hy1
  simp only [List.cons.injEq, and_true] at ea eb
  subst ea eb
  exact ⟨a, b, rfl⟩
theorem list6 {α : Type} {l : List α} (h : l.length = 6) : ∃ a b c d e f, l = [a, b, c, d, e, f] := by
  match l, h with
  | [a, b, c, d, e, f], _ => exact ⟨a, b, c, d, e, f, rfl⟩
/-- A job that came in. -/
theorem open_job {t ti tb tp tf : TypeId} {f0 f1 f2 f3 f4 g0 g1 : Field} {v : Value} {d : DataW H} {p : List MemPlace} {r : Reach} {b0 : Nat} {held' : Nat → Bool} (hs : P.underlying t = some (.struct #[f0, f1, f2, f3, f4])) (hp : P.underlying tp = some (.struct #[g0, g1])) (hC : P.cellsOf t = 6)
    (hi : P.underlying ti = some (.int .i64)) (hb : P.underlying tb = some .bool) (hf : P.underlying tf = some (.float .f32)) (ci : P.cellsOf ti = 1) (cb : P.cellsOf tb = 1) (cp : P.cellsOf tp = 2) (cf : P.cellsOf tf = 1)
    (hv : Value.okWide P w r b0 t v) (h : DataW.Trod enc P w base held' held t v d p) (e0 : f0.type = ti ∧ f0.offset = 0 := by exact ⟨rfl, rfl⟩) (e1 : f1.type = ti ∧ f1.offset = 1 := by exact ⟨rfl, rfl⟩) (e2 : f2.type = ti ∧ f2.offset = 2 := by exact ⟨rfl, rfl⟩) (e3 : f3.type = tb ∧ f3.offset = 3 := by exact ⟨rfl, rfl⟩) (e4 : f4.type = tp ∧ f4.offset = 4 := by exact ⟨rfl, rfl⟩)
    (k0 : g0.type = tf ∧ g0.offset = 0 := by exact ⟨rfl, rfl⟩) (k1 : g1.type = tf ∧ g1.offset = 1 := by exact ⟨rfl, rfl⟩) :
    ∃ (k r d : Int) (s : Bool) (o m : Nat), v = .agg #[.int .i64 k, .int .i64 r, .int .i64 d, .bool s, .float .f32 o, .float .f32 m] ∧ FE .f32 o (cz .f32 o) ∧ FE .f32 m (cz .f32 m) := by
  obtain ⟨cs, rfl, hsz⟩ := okWide_struct hs hv
  obtain ⟨fuel, hf'⟩ := h
  obtain ⟨l⟩ := cs
  obtain ⟨c0, c1, c2, c3, c4, c5, rfl⟩ := list6 (hsz.trans hC)
  obtain ⟨xs, n, rfl, -, -, hlen, hx⟩ := DataW.trod_struct hs hf'
  have hg : ∀ i, i < 5 → ∃ y, xs[i]? = some y := fun i hi => ⟨xs[i]'(by rw [hlen]; exact hi), List.getElem?_eq_getElem _⟩
  have g0' := hx 0 f0 rfl
  have g1' := hx 1 f1 rfl
  have g2' := hx 2 f2 rfl
  have g3' := hx 3 f3 rfl
  have g4' := hx 4 f4 rfl
  obtain ⟨y0, h0⟩ := hg 0 (by omega)
  obtain ⟨y1, h1⟩ := hg 1 (by omega)
  obtain ⟨y2, h2⟩ := hg 2 (by omega)
  obtain ⟨y3, h3⟩ := hg 3 (by omega)
  obtain ⟨y4, h4⟩ := hg 4 (by omega)
  rw [e0.1, e0.2, ci, h0] at g0'; rw [e1.1, e1.2, ci, h1] at g1'; rw [e2.1, e2.2, ci, h2] at g2'; rw [e3.1, e3.2, cb, h3] at g3'; rw [e4.1, e4.2, cp, h4] at g4'
  simp [Value.cells] at g0' g1' g2' g3' g4'
  obtain ⟨k, ek, -, -⟩ := DataW.trod_int hi g0'
  obtain ⟨r, er, -, -⟩ := DataW.trod_int hi g1'
  obtain ⟨d, ed, -, -⟩ := DataW.trod_int hi g2'
  obtain ⟨s, es, -⟩ := DataW.trod_bool hb g3'
  obtain ⟨z0, z1, n', -, -, q0, q1⟩ := trod_struct2 hp g4'
  rw [k0.1, k0.2, cf] at q0; rw [k1.1, k1.2, cf] at q1
  simp at q0 q1
  obtain ⟨o, eo, wo⟩ := trod_float hf q0
  obtain ⟨m, em, wm⟩ := trod_float hf q1
  simp only [List.cons.injEq, and_true] at ek er ed es eo em
  subst ek er ed es eo em
  exact ⟨k, r, d, s, o, m, rfl, FE.self wo, FE.self wm⟩
end
end Go.Proofs.Ytaidkokgafojeaa
