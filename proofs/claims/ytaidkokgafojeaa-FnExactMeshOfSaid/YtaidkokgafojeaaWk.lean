/- The walk's laws: worlds that have grown; drawn regions; floats. -/
import Derived.Test.YtaidkokgafojeaaFl
import Derived.Test.YtaidkokgafojeaaSoft
import Derived.Laws.EntriesVeiled
namespace Go
/-- The world w after new blocks and draws. -/
def World.grew (w : World) (os : Array Obj) (m : Nat) : World := { w with heap := w.heap ++ os, drawn := m }
end Go
namespace Go.Fx
open Go Go.Soft Go.RowKit
section
variable (w : World) (os os' : Array Obj) (m n : Nat)
@[simp, go_sem] theorem tape_grew : (w.grew os m).tape = w.tape := rfl
@[simp, go_sem] theorem heap_size_grew : (w.grew os m).heap.size = w.heap.size + os.size := by simp [World.grew]
@[simp, go_sem] theorem drewN_grew : (w.grew os m).drewN n = w.grew os (m + n) := rfl
@[simp, go_sem] theorem drew_grew : (w.grew os m).drew = w.grew os (m + 1) := rfl
@[simp, go_sem] theorem grew_drewN : (w.drewN n).grew os m = w.grew os m := rfl
@[simp, go_sem] theorem grew_grew : (w.grew os m).grew os' n = w.grew (os ++ os') n := by simp [World.grew]
theorem heap_grew {b : Nat} (h : b < w.heap.size) : (w.grew os m).heap[b]? = w.heap[b]? := by
  simp [World.grew, Array.getElem?_append, h]
theorem lt_of_cell {w : World} {p : Addr} (h : (w.cell? p).isSome = true) : p.block < w.heap.size := by
  rcases Nat.lt_or_ge p.block w.heap.size with h' | h'
  · exact h'
  · simp [World.cell?, Array.getElem?_eq_none h'] at h
theorem cell?_grew {p : Addr} (h : (w.cell? p).isSome = true) : (w.grew os m).cell? p = w.cell? p :=
  World.cell?_of_block (w := w) (heap_grew w os m (lt_of_cell h))
theorem frozen?_grew {p : Addr} (h : (w.cell? p).isSome = true) : (w.grew os m).frozen? p = w.frozen? p :=
  World.frozen?_of_block (w := w) (heap_grew w os m (lt_of_cell h))
theorem cell?_alloc_is (o : Obj) {p : Addr} (h : (w.cell? p).isSome = true) : (w.alloc o).cell? p = w.cell? p :=
  World.cell?_alloc_lt w o p (lt_of_cell h)
theorem frozen?_alloc_is (o : Obj) {p : Addr} (h : (w.cell? p).isSome = true) : (w.alloc o).frozen? p = w.frozen? p :=
  World.frozen?_of_block (w := w) (Below.heap_alloc w o p.block (lt_of_cell h))
attribute [go_sem] cell?_grew frozen?_grew cell?_alloc_is frozen?_alloc_is
theorem grew_none : w.grew #[] w.drawn = w := by simp [World.grew]
theorem alloc_grew (o : Obj) : w.alloc o = w.grew #[o] w.drawn := by
  show ({ w with heap := w.heap.push o } : World) = _
  rw [Array.push_eq_append]; rfl
end

@[go_sem] theorem run_store_float {P : Program} {w : World} {a : Addr} {m : Mode} (k : FloatKind) (b : Nat) : (store a (.float k b) m).run P w = stored P w a (.float k b) m := run_store P w a _ m rfl

/-- w' is w after new blocks and draws. -/
def Gr (w w' : World) : Prop := ∃ os m, w' = w.grew os m
theorem Gr.refl (w : World) : Gr w w := ⟨#[], w.drawn, (grew_none w).symm⟩
theorem Gr.drewN {w w' : World} (h : Gr w w') (n : Nat) : Gr w (w'.drewN n) := by
  obtain ⟨os, m, rfl⟩ := h; exact ⟨os, m + n, rfl⟩
theorem Gr.drew {w w' : World} (h : Gr w w') : Gr w w'.drew := h.drewN 1
theorem Gr.grew {w w' : World} (h : Gr w w') (os : Array Obj) (m : Nat) : Gr w (w'.grew os m) := by
  obtain ⟨os', m', rfl⟩ := h; exact ⟨os' ++ os, m, by simp⟩
theorem Gr.alloc {w w' : World} (h : Gr w w') (o : Obj) : Gr w (w'.alloc o) := by
  rw [alloc_grew]; exact h.grew _ _
theorem Gr.trans {w w' w'' : World} (h : Gr w w') (h' : Gr w' w'') : Gr w w'' := by
  obtain ⟨os, m, rfl⟩ := h'; exact h.grew os m
theorem Gr.below {w w' : World} (h : Gr w w') : Below w.heap.size w w' := by
  obtain ⟨os, m, rfl⟩ := h
  exact ⟨rfl, rfl, rfl, by simp, fun k hk => heap_grew w os m hk⟩

/-- One float of a kind, up to a NaN's bits. -/
def FS (k : FloatKind) (e : Nat) (v : Value) : Prop := ∃ r, v = .float k r ∧ FE k r e

section
variable {P : Program} {ops : Array Oper} {C : World → Prop} {Q : Act → Prop} {rest : List Oper} {Ms : List (Option (Value → Prop))} {a : Act} {w : World} {dst : Option Tmp} {op : BinOp} {t t' ty : TypeId} {x y : Operand} {pos : String} {after : Array Edge} {o : Oper} {guard : Option (Nat × Bool)}
theorem wpSoft_nil (h : Q a) : wpSoft P ops C Q [] [] a := h
theorem wpSoft_skip (hw : Region.wanted o (yielded ops a.tmps) = false) (h : wpSoft P ops C Q rest Ms (a.put o.dst undef)) : wpSoft P ops C Q (o :: rest) (none :: Ms) a := by
  simp only [wpSoft, hw]; exact h
theorem wpSoft_q (hw : Region.wanted o (yielded ops a.tmps) = true) (hp : plain o.op = true)
    (h : ∀ K : Act → Prop, (∀ a, wpSoft P ops C Q rest Ms a → K a) → o.quiet P a C K) : wpSoft P ops C Q (o :: rest) (none :: Ms) a := by
  obtain ⟨v, h1, h2⟩ := h _ fun _ h => h
  simp only [wpSoft, hw, if_true]
  exact ⟨v, plainAt_of_quiet hp h1, h2⟩
theorem wpSoft_nilCheck {ad : Addr} (hw : Region.wanted ⟨dst, .nilCheck x, ty, pos, after, guard⟩ (yielded ops a.tmps) = true) (hx : a.eval x = .pointer (some ad)) (h : wpSoft P ops C Q rest Ms (a.put dst (.pointer (some ad)))) :
    wpSoft P ops C Q (⟨dst, .nilCheck x, ty, pos, after, guard⟩ :: rest) (none :: Ms) a := by
  simp only [wpSoft, hw, if_true]
  refine ⟨_, fun w _ => ?_, h⟩
  simp [execOp, hx, plainUpon]
theorem wpSoft_fop (hw : Region.wanted ⟨dst, .binOp op t x y t', ty, pos, after, guard⟩ (yielded ops a.tmps) = true) (hD : ∀ w n, C w → C (w.drewN n)) (hop : arith op = true) {k : FloatKind} {p q A B : Nat} (hx : a.eval x = .float k p) (hy : a.eval y = .float k q) (hA : FE k p A) (hB : FE k q B)
    (h : ∀ r, FE k r (fop op k A B) → wpSoft P ops C Q rest Ms (a.put dst (.float k r))) :
    wpSoft P ops C Q (⟨dst, .binOp op t x y t', ty, pos, after, guard⟩ :: rest) (some (FS k (fop op k A B)) :: Ms) a := by
  simp only [wpSoft, hw, if_true]
  refine ⟨fun w hC => ?_, fun v ⟨r, hv, hr⟩ => by subst hv; exact h r hr⟩
  obtain ⟨r, n, hr, he⟩ := run_fop (P := P) w op hop t k p q A B hA hB
  simp [execOp, hx, hy, eqGuard_float, hr, softUpon]
  exact ⟨hD w n hC, r, rfl, he⟩
theorem wpSoft_fcmp (hw : Region.wanted ⟨dst, .binOp op t x y t', ty, pos, after, guard⟩ (yielded ops a.tmps) = true) (hop : isCmp op = true) {k : FloatKind} {p q A B : Nat} {b : Bool} (hx : a.eval x = .float k p) (hy : a.eval y = .float k q) (hA : FE k p A) (hB : FE k q B)
    (hb : fcmp op k A B = b) (h : wpSoft P ops C Q rest Ms (a.put dst (.bool b))) :
    wpSoft P ops C Q (⟨dst, .binOp op t x y t', ty, pos, after, guard⟩ :: rest) (none :: Ms) a := by
  simp only [wpSoft, hw, if_true]
  refine ⟨_, fun w hC => ?_, h⟩
  have hr := run_fcmp (P := P) w op hop t k p q A B hA hB
  simp [execOp, hx, hy, eqGuard_float, hr, plainUpon, hb]
theorem wpSoft_widen (hw : Region.wanted ⟨dst, .convert t t' x, ty, pos, after, guard⟩ (yielded ops a.tmps) = true) (hD : ∀ w n, C w → C (w.drewN n)) {p A : Nat} (hs : P.underlying t = some (.float .f32)) (hd : P.underlying t' = some (.float .f64)) (hx : a.eval x = .float .f32 p) (hA : FE .f32 p A)
    (h : ∀ r, FE .f64 r (widen A) → wpSoft P ops C Q rest Ms (a.put dst (.float .f64 r))) :
    wpSoft P ops C Q (⟨dst, .convert t t' x, ty, pos, after, guard⟩ :: rest) (some (FS .f64 (widen A)) :: Ms) a := by
  simp only [wpSoft, hw, if_true]
  refine ⟨fun w hC => ?_, fun v ⟨r, hv, hr⟩ => by subst hv; exact h r hr⟩
  obtain ⟨r, n, hr, he⟩ := run_widen (P := P) w t t' hs hd p A hA
  simp [execOp, hx, hr, softUpon]
  exact ⟨hD w n hC, r, rfl, he⟩
theorem wpSoft_fneg (hw : Region.wanted ⟨dst, .unOp .neg t x, ty, pos, after, guard⟩ (yielded ops a.tmps) = true) {k : FloatKind} {p A : Nat} (hx : a.eval x = .float k p) (hA : FE k p A)
    (h : ∀ r, FE k r (fneg k A) → wpSoft P ops C Q rest Ms (a.put dst (.float k r))) :
    wpSoft P ops C Q (⟨dst, .unOp .neg t x, ty, pos, after, guard⟩ :: rest) (some (FS k (fneg k A)) :: Ms) a := by
  simp only [wpSoft, hw, if_true]
  refine ⟨fun w hC => ?_, fun v ⟨r, hv, hr⟩ => by subst hv; exact h r hr⟩
  simp [execOp, hx, Op.unary, softUpon]
  exact ⟨hC, _, rfl, hA.neg⟩
/-- A float that another operation of the region gave, moved. -/
theorem wpSoft_fmove (hw : Region.wanted ⟨dst, .move x, ty, pos, after, guard⟩ (yielded ops a.tmps) = true) {k : FloatKind} {p A : Nat} (hx : a.eval x = .float k p) (hA : FE k p A)
    (h : ∀ r, FE k r A → wpSoft P ops C Q rest Ms (a.put dst (.float k r))) :
    wpSoft P ops C Q (⟨dst, .move x, ty, pos, after, guard⟩ :: rest) (some (FS k A) :: Ms) a := by
  simp only [wpSoft, hw, if_true]
  refine ⟨fun w hC => ?_, fun v ⟨r, hv, hr⟩ => by subst hv; exact h r hr⟩
  simp [execOp, hx, softUpon]
  exact ⟨hC, p, rfl, hA⟩
/-- A call. -/
theorem wpSoft_call {f : FuncId} {xs : Array Operand} {ats : Array TypeId} {vs : Array Value} {S : Value → Prop} (hw : Region.wanted ⟨dst, .call ⟨.value (.func f), xs, ats⟩, ty, pos, after, guard⟩ (yielded ops a.tmps) = true)
    (hc : ∀ args w, (callFunc f args).run P w = .ok (.enter f args) w) (hv : xs.map a.eval = vs)
    (hS : ∀ w, C w → Calls P f vs w fun e w' => ∃ v, e = .returned v ∧ C w' ∧ S v)
    (h : ∀ v, S v → wpSoft P ops C Q rest Ms (a.put dst v)) :
    wpSoft P ops C Q (⟨dst, .call ⟨.value (.func f), xs, ats⟩, ty, pos, after, guard⟩ :: rest) (some S :: Ms) a := by
  simp only [wpSoft, hw, if_true]
  refine ⟨fun w hC => ?_, h⟩
  rw [execOp_call_go, hc]
  simp only [softUpon]
  rw [show #[] ++ xs.map a.eval ++ #[] = vs by rw [← hv]; simp]
  exact hS w hC
/-- A call whose result is one value. -/
theorem wpSoft_calleq {f : FuncId} {xs : Array Operand} {ats : Array TypeId} {vs : Array Value} {v0 : Value} (hw : Region.wanted ⟨dst, .call ⟨.value (.func f), xs, ats⟩, ty, pos, after, guard⟩ (yielded ops a.tmps) = true)
    (hc : ∀ args w, (callFunc f args).run P w = .ok (.enter f args) w) (hv : xs.map a.eval = vs)
    (hS : ∀ w, C w → Calls P f vs w fun e w' => e = .returned v0 ∧ C w')
    (h : wpSoft P ops C Q rest Ms (a.put dst v0)) :
    wpSoft P ops C Q (⟨dst, .call ⟨.value (.func f), xs, ats⟩, ty, pos, after, guard⟩ :: rest) (some (fun v => v = v0) :: Ms) a :=
  wpSoft_call hw hc hv (fun w hC => (hS w hC).mono fun e w' ⟨he, hc'⟩ => ⟨v0, he, hc', rfl⟩) (fun v hv => by subst hv; exact h)
/-- A call whose result is a float. -/
theorem wpSoft_callf {f : FuncId} {xs : Array Operand} {ats : Array TypeId} {vs : Array Value} {k : FloatKind} {E : Nat} (hw : Region.wanted ⟨dst, .call ⟨.value (.func f), xs, ats⟩, ty, pos, after, guard⟩ (yielded ops a.tmps) = true)
    (hc : ∀ args w, (callFunc f args).run P w = .ok (.enter f args) w) (hv : xs.map a.eval = vs)
    (hS : ∀ w, C w → Calls P f vs w fun e w' => ∃ r, e = .returned (.float k r) ∧ FE k r E ∧ C w')
    (h : ∀ r, FE k r E → wpSoft P ops C Q rest Ms (a.put dst (.float k r))) :
    wpSoft P ops C Q (⟨dst, .call ⟨.value (.func f), xs, ats⟩, ty, pos, after, guard⟩ :: rest) (some (FS k E) :: Ms) a :=
  wpSoft_call hw hc hv (fun w hC => (hS w hC).mono fun e w' ⟨r, he, hr, hc'⟩ => ⟨_, he, hc', r, rfl, hr⟩) (fun v ⟨r, hv, hr⟩ => by subst hv; exact h r hr)
end
theorem results_tmp4 {fn : Func} {t u v x : Tmp} (h : fn.results = #[.tmp t, .tmp u, .tmp v, .tmp x]) (tmps : Array Value) (P : Program) (w : World) :
    (results fn tmps).run P w = .ok (.tuple #[tmps.getD t undef, tmps.getD u undef, tmps.getD v undef, tmps.getD x undef]) w := by
  simp [results, h]

/-- What has come to a world. -/
structure Ext where
  os : Array Obj
  m : Nat
instance : Nonempty Ext := ⟨⟨#[], 0⟩⟩
/-- A drawn region whose calls may make memory. -/
theorem region_grew {P : Program} {id : Nat} {Q : Exit → Act → World → Prop} {a : Act} {w : World} {l : List Oper} (n : Nat) {Ms : List (Option (Value → Prop))} (hm : P.follows .mixedOrders = true) (hB : Region.lexTailB .any l.toArray n = true)
    (h : wpSoft P l.toArray (fun w' => ∃ g : Ext, w' = w.grew g.os g.m) (fun a' => ∀ os m, wpList P l.toArray Q (l.drop n) a' (w.grew os m)) (l.take n) Ms a) : (Code.region id l.toArray true).wp P Q a w :=
  wp_region_soft_tail (C := fun w' => ∃ g : Ext, w' = w.grew g.os g.m) n hm hB ⟨⟨#[], w.drawn + 1⟩, by simp [World.grew]⟩ (by
    have e : (fun a' => ∀ w', (∃ g : Ext, w' = w.grew g.os g.m) → wpList P l.toArray Q (l.drop n) a' w') = (fun a' => ∀ os m, wpList P l.toArray Q (l.drop n) a' (w.grew os m)) := by
      funext a'; apply propext; constructor
      · intro h os m; exact h _ ⟨⟨os, m⟩, rfl⟩
      · rintro h w' ⟨⟨os, m⟩, rfl⟩; exact h os m
    rw [e]; exact h)
/-- A drawn region that makes none. -/
theorem region_drew {P : Program} {id : Nat} {Q : Exit → Act → World → Prop} {a : Act} {w : World} {l : List Oper} (n : Nat) {Ms : List (Option (Value → Prop))} (hm : P.follows .mixedOrders = true) (hB : Region.lexTailB .any l.toArray n = true)
    (h : wpSoft P l.toArray (fun w' => ∃ m, w' = w.drewN m) (fun a' => ∀ m, wpList P l.toArray Q (l.drop n) a' (w.drewN m)) (l.take n) Ms a) : (Code.region id l.toArray true).wp P Q a w :=
  wp_region_soft_tail (C := fun w' => ∃ m, w' = w.drewN m) n hm hB ⟨1, rfl⟩ (by
    have e : (fun a' => ∀ w', (∃ m, w' = w.drewN m) → wpList P l.toArray Q (l.drop n) a' w') = (fun a' => ∀ m, wpList P l.toArray Q (l.drop n) a' (w.drewN m)) := by
      funext a'; apply propext; constructor
      · intro h m; exact h _ ⟨m, rfl⟩
      · rintro h w' ⟨m, rfl⟩; exact h m
    rw [e]; exact h)
theorem closed_grew {w : World} : ∀ w1 n, (∃ g : Ext, w1 = w.grew g.os g.m) → ∃ g : Ext, World.drewN w1 n = w.grew g.os g.m := by
  rintro w1 n ⟨⟨os, m⟩, rfl⟩; exact ⟨⟨os, m + n⟩, rfl⟩
theorem closed_drew {w : World} : ∀ w1 n, (∃ m, w1 = w.drewN m) → ∃ m, World.drewN w1 n = w.drewN m := by
  rintro w1 n ⟨m, rfl⟩; exact ⟨m + n, by simp⟩
end Go.Fx
