/- Rows of vectors that are appended to, beside rows of other things. -/
import Derived.Test.YtaidkokgafojeaaPt
import Derived.Test.YtaidkokgafojeaaVs
import Derived.Test.YtaidkokgafojeaaGi2
namespace Go.Fx
open Go Go.Soft Go.RowKit
/-- 'append(v, p)', one vector, laid in a block of its own. -/
theorem wpList_append_v {P : Program} {w : World} {ops : Array Oper} {rest : List Oper} {o : Oper} {a : Act} {Q : Exit → Act → World → Prop} (hgd : o.guard = none) {s x : Operand} {t : TypeId}
    (ho : o.op = .call { callee := .builtin .append, args := #[s, x], argTypes := #[t, t] }) {B : Nat} {e : TypeId} (i : TypeInfo) (ht : P.underlying t = some (.slice e)) (hi : P.info? e = some i) (hz : i.zero = some (.agg #[.float .f32 0, .float .f32 0, .float .f32 0])) (hsize : i.size = 3) (hby : i.bytes = 12)
    {v : Value} {k : Nat} {xs : List Nat} (hs : a.eval s = v) (hown : VOwn w B e v k xs) {b f c : Nat} {p q r X Y Z : Nat} (hx : a.eval x = .slice (some ⟨b, f, none⟩) 1 c) (h0 : w.cell? ⟨b, f, none⟩ = some (.float .f32 p)) (h1 : w.cell? ⟨b, f + 1, none⟩ = some (.float .f32 q)) (h2 : w.cell? ⟨b, f + 2, none⟩ = some (.float .f32 r))
    (e0 : FE .f32 p X) (e1 : FE .f32 q Y) (e2 : FE .f32 r Z) (hn : k ≤ 1048576) (hB : B ≤ w.heap.size)
    (h : ∀ v' w', VOwn w' B e v' (k + 1) (xs ++ [X, Y, Z]) → w.grownBy w' v.ownBlock → wpList P ops Q rest (a.put o.dst v') w') : wpList P ops Q (o :: rest) a w := by
  obtain ⟨rs, f1, f2⟩ := hown
  refine wpList_append_own w hgd s x t ho B e i (.agg #[.float .f32 0, .float .f32 0, .float .f32 0]) 3 12 ht hi hz hsize hby rfl (by decide) v k (rs.map (Value.float .f32)) hs f2 ⟨b, f, none⟩ 1 c [.float .f32 p, .float .f32 q, .float .f32 r] hx rfl ?_ ?_ (by unfold maxLen; omega) (by omega) hB ?_
  · intro j u hj
    match j, hj with
    | 0, hj => simp at hj; subst hj; simpa [Addr.add] using h0
    | 1, hj => simp at hj; subst hj; simpa [Addr.add] using h1
    | 2, hj => simp at hj; subst hj; simpa [Addr.add] using h2
  · intro u hu; simp at hu; rcases hu with rfl | rfl | rfl <;> rfl
  · intro v' w' h3 h4 _
    refine h v' w' ⟨rs ++ [p, q, r], ?_, ?_⟩ h4
    · have := ((f1.snoc e0).snoc e1).snoc e2
      simpa using this
    · simpa using h3
theorem rows_ne {w : World} {lo lo' n n' size size' : Nat} {t t' : TypeId} {v v' : Value} {cs cs' : List Value} (h : w.ownsRow lo t size v n cs) (h' : w.ownsRow lo' t' size' v' n' cs') (ht : t ≠ t') : v.ownBlock = none ∨ v.ownBlock ≠ v'.ownBlock := by
  cases hv : v.ownBlock with
  | none => exact .inl rfl
  | some j =>
    right
    intro heq
    rcases h'.2 with ⟨rfl, _⟩ | ⟨g, cap, cur, rfl, _, hg, _⟩
    · simp [Value.ownBlock] at heq
    · simp only [Value.ownBlock, Option.some.injEq] at heq
      subst heq
      exact own_ne h (b := j) (by simp [World.okb, hg, Ne.symm ht]) hv
theorem VOwn.besideI {w w' : World} {lo lo' n : Nat} {t t' : TypeId} {v v' : Value} {xs : List Nat} {ys : List Int} (h : VOwn w lo t v n xs) (h' : IOwn w lo' t' v' ys) (g : w.grownBy w' v'.ownBlock) (ht : t ≠ t') : VOwn w' lo t v n xs := by
  obtain ⟨rs, h1, h2⟩ := h
  exact ⟨rs, h1, h2.kept g (rows_ne h2 h' ht)⟩
theorem IOwn.besideV {w w' : World} {lo lo' n : Nat} {t t' : TypeId} {v v' : Value} {xs : List Nat} {ys : List Int} (h : IOwn w lo' t' v' ys) (h' : VOwn w lo t v n xs) (g : w.grownBy w' v.ownBlock) (ht : t ≠ t') : IOwn w' lo' t' v' ys := by
  obtain ⟨rs, h1, h2⟩ := h'
  exact World.ownsRow.kept h g (rows_ne h h2 (Ne.symm ht))
theorem VOwn.form {w : World} {B n : Nat} {e : TypeId} {v : Value} {xs : List Nat} (h : VOwn w B e v n xs) : ∃ a c, v = .slice a n c := by
  obtain ⟨rs, _, h2⟩ := h
  exact own_form h2
theorem IOwn.form {w : World} {B : Nat} {e : TypeId} {v : Value} {xs : List Int} (h : IOwn w B e v xs) : ∃ a c, v = .slice a xs.length c := own_form h
end Go.Fx
