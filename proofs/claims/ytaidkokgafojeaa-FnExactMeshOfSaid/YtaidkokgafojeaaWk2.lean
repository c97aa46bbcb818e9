/- The laws of a walk through a drawn region of which facts are told. -/
import Derived.Test.YtaidkokgafojeaaWk
import Derived.Test.YtaidkokgafojeaaSoft2
import Derived.Test.YtaidkokgafojeaaSl
namespace Go.Fx
open Go Go.Soft Go.RowKit
section
variable {P : Program} {ops : Array Oper} {w0 : World} {R : World → World → Prop} {T : List Nat} {F : Nat → Value → World → Prop} {Q : Act → Prop} {k : Nat} {rest : List Oper} {Ms : List (Option (Value → Prop))} {a : Act} {w : World} {dst : Option Tmp} {op : BinOp} {t t' ty : TypeId} {x y : Operand} {pos : String} {after : Array Edge} {o : Oper} {guard : Option (Nat × Bool)}
theorem Gr.heap {w w' : World} (h : Gr w w') {b : Nat} {o : Obj} (c : w.heap[b]? = some o) : w'.heap[b]? = some o := by
  obtain ⟨os, m, rfl⟩ := h
  exact (heap_grew w os m (by rcases Nat.lt_or_ge b w.heap.size with h' | h'; exact h'; rw [Array.getElem?_eq_none h'] at c; cases c)).trans c
theorem cells3 {W : World} {b t : Nat} {x y z : Value} (h : W.heap[b]? = some (.cells #[x, y, z] t (0, 0))) : W.cell? ⟨b, 0, none⟩ = some x ∧ W.cell? ⟨b, 1, none⟩ = some y ∧ W.cell? ⟨b, 2, none⟩ = some z ∧ W.frozen? ⟨b, 0, none⟩ = false ∧ W.frozen? ⟨b, 1, none⟩ = false ∧ W.frozen? ⟨b, 2, none⟩ = false := by
  simp [World.cell?, World.frozen?, h]
/-- A block that has come: the world as it was made. -/
theorem split_array {α : Type} {os : Array α} {k : Nat} {o : α} (h : os[k]? = some o) : ∃ os1 os2 : Array α, os = (os1 ++ #[o]) ++ os2 ∧ os1.size = k := by
  obtain ⟨l⟩ := os
  have h' : l[k]? = some o := by simpa using h
  obtain ⟨hlt, he⟩ := List.getElem?_eq_some_iff.1 h'
  refine ⟨(l.take k).toArray, (l.drop (k + 1)).toArray, ?_, by simp; omega⟩
  apply Array.ext'
  simp only [Array.toList_append, List.append_assoc]
  show l = l.take k ++ ([o] ++ l.drop (k + 1))
  rw [← he, List.singleton_append, List.getElem_cons_drop, List.take_append_drop]
theorem split_grew {w : World} {os : Array Obj} {m b : Nat} {o : Obj} (hb : w.heap.size ≤ b) (h : (w.grew os m).heap[b]? = some o) : ∃ os1 os2 : Array Obj, w.grew os m = ((w.grew os1 m).alloc o).grew os2 m ∧ b = w.heap.size + os1.size := by
  have h' : os[b - w.heap.size]? = some o := by
    simpa [World.grew, Array.getElem?_append, Nat.not_lt.2 hb] using h
  obtain ⟨os1, os2, e, hs⟩ := split_array h'
  refine ⟨os1, os2, ?_, by omega⟩
  rw [alloc_grew, grew_grew, grew_grew, e, Array.append_assoc]
theorem cell?_ga (w : World) (a : Array Obj) (m : Nat) (o : Obj) {p : Addr} (h : (w.cell? p).isSome = true) : ((w.grew a m).alloc o).cell? p = w.cell? p := by
  rw [alloc_grew, grew_grew]; exact cell?_grew _ _ _ h
theorem frozen?_ga (w : World) (a : Array Obj) (m : Nat) (o : Obj) {p : Addr} (h : (w.cell? p).isSome = true) : ((w.grew a m).alloc o).frozen? p = w.frozen? p := by
  rw [alloc_grew, grew_grew]; exact frozen?_grew _ _ _ h
@[go_sem] theorem cell?_three (w : World) (a b : Array Obj) (m n : Nat) (o : Obj) {p : Addr} (h : (w.cell? p).isSome = true) : (((w.grew a m).alloc o).grew b n).cell? p = w.cell? p := by
  rw [alloc_grew, grew_grew, grew_grew]; exact cell?_grew _ _ _ h
@[go_sem] theorem frozen?_three (w : World) (a b : Array Obj) (m n : Nat) (o : Obj) {p : Addr} (h : (w.cell? p).isSome = true) : (((w.grew a m).alloc o).grew b n).frozen? p = w.frozen? p := by
  rw [alloc_grew, grew_grew, grew_grew]; exact frozen?_grew _ _ _ h
@[go_sem] theorem setCell_three (w : World) (a b : Array Obj) (m n : Nat) (o : Obj) (p : Addr) (u : Value) (h : (w.cell? p).isSome = true) : (((w.grew a m).alloc o).grew b n).setCell p u = (((w.setCell p u).grew a m).alloc o).grew b n := by
  rw [alloc_grew, grew_grew, grew_grew, alloc_grew, grew_grew, grew_grew]; exact setCell_grew _ _ _ _ _ h
/-- The walk of such a region, in a world that grows. -/
abbrev wpF (P : Program) (ops : Array Oper) (w0 : World) (T : List Nat) (F : Nat → Value → World → Prop) (Q : Act → Prop) (k : Nat) (l : List Oper) (Ms : List (Option (Value → Prop))) (a : Act) : Prop :=
  Soft2.wpSoft P ops .any (fun w' => ∃ g : Ext, w' = w0.grew g.os g.m) Gr T F Q k l Ms a
theorem cls_drewN {w : World} (n : Nat) (h : ∃ g : Ext, w = w0.grew g.os g.m) : ∃ g : Ext, w.drewN n = w0.grew g.os g.m := closed_grew w n h
theorem wpF_nil (h : Q a) : wpF P ops w0 T F Q k [] [] a := h
theorem wpF_skip (hw : Region.wanted o (yielded ops a.tmps) = false) (hT : k ∉ T) (h : wpF P ops w0 T F Q (k + 1) rest Ms (a.put o.dst undef)) : wpF P ops w0 T F Q k (o :: rest) (none :: Ms) a := by
  simp only [wpF, Soft2.wpSoft, hw]; exact ⟨hT, h⟩
theorem wpF_q (hw : Region.wanted o (yielded ops a.tmps) = true) (hT : k ∉ T) (hp : plain o.op = true)
    (h : ∀ K : Act → Prop, (∀ a, wpF P ops w0 T F Q (k + 1) rest Ms a → K a) → o.quiet P a (fun w' => ∃ g : Ext, w' = w0.grew g.os g.m) K) : wpF P ops w0 T F Q k (o :: rest) (none :: Ms) a := by
  obtain ⟨v, h1, h2⟩ := h _ fun _ h => h
  simp only [wpF, Soft2.wpSoft, hw, if_true]
  exact ⟨hT, v, plainAt_of_quiet hp h1, h2⟩
theorem wpF_nilCheck {ad : Addr} (hw : Region.wanted ⟨dst, .nilCheck x, ty, pos, after, guard⟩ (yielded ops a.tmps) = true) (hT : k ∉ T) (hx : a.eval x = .pointer (some ad)) (h : wpF P ops w0 T F Q (k + 1) rest Ms (a.put dst (.pointer (some ad)))) :
    wpF P ops w0 T F Q k (⟨dst, .nilCheck x, ty, pos, after, guard⟩ :: rest) (none :: Ms) a := by
  simp only [wpF, Soft2.wpSoft, hw, if_true]
  refine ⟨hT, _, fun w _ => ?_, h⟩
  simp [execOp, hx, plainUpon]
theorem wpF_build {parts : Array (Nat × Operand)} {v : Value} (hw : Region.wanted ⟨dst, .build t parts, ty, pos, after, guard⟩ (yielded ops a.tmps) = true) (hT : k ∉ T)
    (hx : ∀ w, (execOp a.eval ⟨dst, .build t parts, ty, pos, after, guard⟩).run P w = .ok (.value v) w) (h : wpF P ops w0 T F Q (k + 1) rest Ms (a.put dst v)) :
    wpF P ops w0 T F Q k (⟨dst, .build t parts, ty, pos, after, guard⟩ :: rest) (none :: Ms) a := by
  simp only [wpF, Soft2.wpSoft, hw, if_true]
  refine ⟨hT, v, fun w _ => ?_, h⟩
  rw [hx]; exact ⟨rfl, rfl⟩
theorem wpF_alloc {t : TypeId} {c : Array Value} {e : TypeId} (hw : Region.wanted ⟨dst, .alloc t, ty, pos, after, guard⟩ (yielded ops a.tmps) = true)
    (hx : ∀ w, (execOp a.eval ⟨dst, .alloc t, ty, pos, after, guard⟩).run P w = .ok (.value (.pointer (some ⟨w.heap.size, 0, none⟩))) (w.alloc (.cells c e)))
    (hF : ∀ (w : World) (b : Nat), w0.heap.size ≤ b → w.heap[b]? = some (.cells c e (0, 0)) → k ∈ T → F k (.pointer (some ⟨b, 0, none⟩)) w)
    (h : ∀ b, w0.heap.size ≤ b → wpF P ops w0 T F Q (k + 1) rest Ms (a.put dst (.pointer (some ⟨b, 0, none⟩)))) :
    wpF P ops w0 T F Q k (⟨dst, .alloc t, ty, pos, after, guard⟩ :: rest) (some (fun v => ∃ b, w0.heap.size ≤ b ∧ v = .pointer (some ⟨b, 0, none⟩)) :: Ms) a := by
  simp only [wpF, Soft2.wpSoft, hw, if_true]
  refine ⟨?_, ⟨_, w0.heap.size, Nat.le_refl _, rfl⟩, fun v ⟨b, hb, hv⟩ => by subst hv; exact h b hb⟩
  rintro w ⟨g, rfl⟩ _
  rw [hx]
  refine ⟨⟨⟨g.os ++ #[.cells c e], g.m⟩, ?_⟩, (Gr.refl _).alloc _, fun hT => hF _ _ (by simp) ?_ hT, _, by simp, rfl⟩
  · rw [alloc_grew]; simp; rfl
  · show ((w0.grew g.os g.m).heap.push (.cells c e))[(w0.grew g.os g.m).heap.size]? = _
    rw [Array.getElem?_push_size]
theorem wpF_fop (hw : Region.wanted ⟨dst, .binOp op t x y t', ty, pos, after, guard⟩ (yielded ops a.tmps) = true) (hT : k ∉ T) (hop : arith op = true) {kd : FloatKind} {p q A B : Nat} (hx : a.eval x = .float kd p) (hy : a.eval y = .float kd q) (hA : FE kd p A) (hB : FE kd q B)
    (h : ∀ r, FE kd r (fop op kd A B) → wpF P ops w0 T F Q (k + 1) rest Ms (a.put dst (.float kd r))) :
    wpF P ops w0 T F Q k (⟨dst, .binOp op t x y t', ty, pos, after, guard⟩ :: rest) (some (FS kd (fop op kd A B)) :: Ms) a := by
  simp only [wpF, Soft2.wpSoft, hw, if_true]
  obtain ⟨r0, _, _, he0⟩ := run_fop (P := P) w0 op hop t kd p q A B hA hB
  refine ⟨fun w hC _ => ?_, ⟨_, r0, rfl, he0⟩, fun v ⟨r, hv, hr⟩ => by subst hv; exact h r hr⟩
  obtain ⟨r, n, hr, he⟩ := run_fop (P := P) w op hop t kd p q A B hA hB
  simp [execOp, hx, hy, eqGuard_float, hr, Soft2.softUpon]
  exact ⟨cls_drewN n hC, (Gr.refl _).drewN n, fun hT' => absurd hT' hT, r, rfl, he⟩
theorem wpF_fcmp (hw : Region.wanted ⟨dst, .binOp op t x y t', ty, pos, after, guard⟩ (yielded ops a.tmps) = true) (hT : k ∉ T) (hop : isCmp op = true) {kd : FloatKind} {p q A B : Nat} {b : Bool} (hx : a.eval x = .float kd p) (hy : a.eval y = .float kd q) (hA : FE kd p A) (hB : FE kd q B)
    (hb : fcmp op kd A B = b) (h : wpF P ops w0 T F Q (k + 1) rest Ms (a.put dst (.bool b))) :
    wpF P ops w0 T F Q k (⟨dst, .binOp op t x y t', ty, pos, after, guard⟩ :: rest) (none :: Ms) a := by
  simp only [wpF, Soft2.wpSoft, hw, if_true]
  refine ⟨hT, _, fun w hC => ?_, h⟩
  have hr := run_fcmp (P := P) w op hop t kd p q A B hA hB
  simp [execOp, hx, hy, eqGuard_float, hr, plainUpon, hb]
theorem wpF_fneg (hw : Region.wanted ⟨dst, .unOp .neg t x, ty, pos, after, guard⟩ (yielded ops a.tmps) = true) (hT : k ∉ T) {kd : FloatKind} {p A : Nat} (hx : a.eval x = .float kd p) (hA : FE kd p A)
    (h : ∀ r, FE kd r (fneg kd A) → wpF P ops w0 T F Q (k + 1) rest Ms (a.put dst (.float kd r))) :
    wpF P ops w0 T F Q k (⟨dst, .unOp .neg t x, ty, pos, after, guard⟩ :: rest) (some (FS kd (fneg kd A)) :: Ms) a := by
  simp only [wpF, Soft2.wpSoft, hw, if_true]
  refine ⟨fun w hC _ => ?_, ⟨_, _, rfl, hA.neg⟩, fun v ⟨r, hv, hr⟩ => by subst hv; exact h r hr⟩
  simp [execOp, hx, Op.unary, Soft2.softUpon]
  exact ⟨hC, Gr.refl _, fun hT' => absurd hT' hT, _, rfl, hA.neg⟩
/-- A call that makes memory of which a fact is told; S: of the value alone, G: of the value and the world. -/
theorem wpF_call {f : FuncId} {xs : Array Operand} {ats : Array TypeId} {vs : Array Value} {S : Value → Prop} (hw : Region.wanted ⟨dst, .call ⟨.value (.func f), xs, ats⟩, ty, pos, after, guard⟩ (yielded ops a.tmps) = true)
    (hc : ∀ args w, (callFunc f args).run P w = .ok (.enter f args) w) (hv : xs.map a.eval = vs)
    (hS : ∀ os m, Soft2.seen ops .any T F ⟨dst, .call ⟨.value (.func f), xs, ats⟩, ty, pos, after, guard⟩ a (w0.grew os m) → Calls P f vs (w0.grew os m) fun e w' => ∃ v, e = .returned v ∧ Gr (w0.grew os m) w' ∧ (k ∈ T → F k v w') ∧ S v)
    (hne : ∃ v, S v)
    (h : ∀ v, S v → wpF P ops w0 T F Q (k + 1) rest Ms (a.put dst v)) :
    wpF P ops w0 T F Q k (⟨dst, .call ⟨.value (.func f), xs, ats⟩, ty, pos, after, guard⟩ :: rest) (some S :: Ms) a := by
  simp only [wpF, Soft2.wpSoft, hw, if_true]
  refine ⟨?_, hne, h⟩
  rintro w ⟨⟨os, m⟩, rfl⟩ hse
  rw [execOp_call_go, hc]
  simp only [Soft2.softUpon]
  rw [show #[] ++ xs.map a.eval ++ #[] = vs by rw [← hv]; simp]
  refine (hS os m hse).mono fun e w' ⟨v, he, hg, hF, hs⟩ => ⟨v, he, ?_, hg, hF, hs⟩
  obtain ⟨os', m', e'⟩ := (Gr.refl w0).grew os m |>.trans hg
  exact ⟨⟨os', m'⟩, e'⟩
/-- An operation that makes a block of its own and hands back its address, in some form. -/
theorem wpF_new {oo : Op} {c : Array Value} {e : TypeId} (mk : Nat → Value) (hw : Region.wanted ⟨dst, oo, ty, pos, after, guard⟩ (yielded ops a.tmps) = true)
    (hx : ∀ w, (execOp a.eval ⟨dst, oo, ty, pos, after, guard⟩).run P w = .ok (.value (mk w.heap.size)) (w.alloc (.cells c e)))
    (hF : ∀ (w : World) (b : Nat), w0.heap.size ≤ b → w.heap[b]? = some (.cells c e (0, 0)) → k ∈ T → F k (mk b) w)
    (h : ∀ b, w0.heap.size ≤ b → wpF P ops w0 T F Q (k + 1) rest Ms (a.put dst (mk b))) :
    wpF P ops w0 T F Q k (⟨dst, oo, ty, pos, after, guard⟩ :: rest) (some (fun v => ∃ b, w0.heap.size ≤ b ∧ v = mk b) :: Ms) a := by
  simp only [wpF, Soft2.wpSoft, hw, if_true]
  refine ⟨?_, ⟨_, w0.heap.size, Nat.le_refl _, rfl⟩, fun v ⟨b, hb, hv⟩ => by subst hv; exact h b hb⟩
  rintro w ⟨g, rfl⟩ _
  rw [hx]
  refine ⟨⟨⟨g.os ++ #[.cells c e], g.m⟩, ?_⟩, (Gr.refl _).alloc _, fun hT => hF _ _ (by simp) ?_ hT, _, by simp, rfl⟩
  · rw [alloc_grew]; simp; rfl
  · show ((w0.grew g.os g.m).heap.push (.cells c e))[(w0.grew g.os g.m).heap.size]? = _
    rw [Array.getElem?_push_size]
/-- A call of a function value. -/
theorem wpF_callv {f : FuncId} {fx : Operand} {cs : Array Value} {xs : Array Operand} {ats : Array TypeId} {vs : Array Value} {S : Value → Prop} (hw : Region.wanted ⟨dst, .call ⟨.value fx, xs, ats⟩, ty, pos, after, guard⟩ (yielded ops a.tmps) = true)
    (hfx : a.eval fx = .func (.func f) #[] cs)
    (hc : ∀ args w, (callFunc f args).run P w = .ok (.enter f args) w) (hv : xs.map a.eval ++ cs = vs)
    (hS : ∀ os m, Soft2.seen ops .any T F ⟨dst, .call ⟨.value fx, xs, ats⟩, ty, pos, after, guard⟩ a (w0.grew os m) → Calls P f vs (w0.grew os m) fun e w' => ∃ v, e = .returned v ∧ Gr (w0.grew os m) w' ∧ (k ∈ T → F k v w') ∧ S v)
    (hne : ∃ v, S v)
    (h : ∀ v, S v → wpF P ops w0 T F Q (k + 1) rest Ms (a.put dst v)) :
    wpF P ops w0 T F Q k (⟨dst, .call ⟨.value fx, xs, ats⟩, ty, pos, after, guard⟩ :: rest) (some S :: Ms) a := by
  simp only [wpF, Soft2.wpSoft, hw, if_true]
  refine ⟨?_, hne, h⟩
  rintro w ⟨⟨os, m⟩, rfl⟩ hse
  have e : (execOp a.eval ⟨dst, .call ⟨.value fx, xs, ats⟩, ty, pos, after, guard⟩).run P (w0.grew os m) = .ok (.enter f vs) (w0.grew os m) := by
    simp [execOp, resolve, invoke, hfx, Deferred.ofValue, hc, hv]
  rw [e]
  simp only [Soft2.softUpon]
  refine (hS os m hse).mono fun e w' ⟨v, he, hg, hF, hs⟩ => ⟨v, he, ?_, hg, hF, hs⟩
  obtain ⟨os', m', e'⟩ := (Gr.refl w0).grew os m |>.trans hg
  exact ⟨⟨os', m'⟩, e'⟩
/-- A drawn region of which facts are told. -/
theorem region_facts {P : Program} {id : Nat} {Q : Exit → Act → World → Prop} {a : Act} {w : World} {l : List Oper} (n : Nat) (T : List Nat) (F : Nat → Value → World → Prop) {Ms : List (Option (Value → Prop))} (hm : P.follows .mixedOrders = true)
    (hB : (Region.lexTailB .any l.toArray n && Soft2.loneB l.toArray T && T.all fun k => decide (k < n)) = true) (hR : Soft2.roomB l T a.tmps.size = true) (hP : ∀ k ∈ T, ∀ v w w', Gr w w' → F k v w → F k v w')
    (h : wpF P l.toArray w T F (fun a' => ∀ os m, Soft2.facts l F a' (w.grew os m) T → wpList P l.toArray Q (l.drop n) a' (w.grew os m)) 0 (l.take n) Ms a) : (Code.region id l.toArray true).wp P Q a w :=
  Soft2.wp_region_facts (C := fun w' => ∃ g : Ext, w' = w.grew g.os g.m) (R := Gr) n hm hB hR ⟨⟨#[], w.drawn + 1⟩, by simp [World.grew]⟩ (fun k hk v w1 w2 _ _ hg hf => hP k hk v w1 w2 hg hf) (by
    have e : (fun a' => ∀ w', (∃ g : Ext, w' = w.grew g.os g.m) → Soft2.facts l F a' w' T → wpList P l.toArray Q (l.drop n) a' w') = (fun a' => ∀ os m, Soft2.facts l F a' (w.grew os m) T → wpList P l.toArray Q (l.drop n) a' (w.grew os m)) := by
      funext a'; apply propext; constructor
      · intro h os m; exact h _ ⟨⟨os, m⟩, rfl⟩
      · rintro h w' ⟨⟨os, m⟩, rfl⟩; exact h os m
    rw [e]; exact h)
end
end Go.Fx
