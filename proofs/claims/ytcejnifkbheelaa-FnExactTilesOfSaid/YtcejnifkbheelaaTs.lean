/- Rows of tiles: two whole numbers each. -/
import Derived.Test.YtcejnifkbheelaaGi2
namespace Go.Fx
open Go Go.Soft Go.RowKit
theorem grownBy_trans2 {w w' w'' : World} {row : Option Nat} (h : w.grownBy w' row) (g : w'.grownBy w'' row) : w.grownBy w'' row :=
  ⟨g.os.trans h.os, g.tape.trans h.tape, g.output.trans h.output, Nat.le_trans h.size g.size, fun b hb hne => (g.block b (Nat.lt_of_lt_of_le hb h.size) hne).trans (h.block b hb hne)⟩
def TOwn (w : World) (B : Nat) (e : TypeId) (v : Value) (n : Nat) (xs : List Int) : Prop := w.ownsRow B e 2 v n (xs.map (Value.int .i64))
section
variable {w w' : World} {B : Nat} {e : TypeId} {v : Value} {n : Nat} {xs : List Int}
theorem TOwn.len (h : TOwn w B e v n xs) : xs.length = n * 2 := by simpa using h.1
theorem TOwn.gr (h : TOwn w B e v n xs) (k : Gr w w') : TOwn w' B e v n xs := own_gr h k
theorem TOwn.base {B' : Nat} (h : TOwn w B e v n xs) (hB : B' ≤ B) : TOwn w B' e v n xs := own_base h hB
theorem TOwn.nil (w : World) (B : Nat) (e : TypeId) : TOwn w B e (.slice none 0 0) 0 [] := World.ownsRow_nil _ _ _ _
theorem TOwn.empty {lo g : Nat} (h : Blk w g [] e) (hl : lo ≤ g) : TOwn w lo e (.slice (some ⟨g, 0, none⟩) 0 0) 0 [] :=
  ⟨rfl, .inr ⟨g, 0, #[], rfl, hl, h.at_, Nat.le_refl _, Nat.zero_le _, rfl, rfl⟩⟩
theorem TOwn.block (h : TOwn w B e v n xs) {k : Nat} (hk : v.ownBlock = some k) : B ≤ k ∧ k < w.heap.size := World.ownsRow.lt h k hk
theorem TOwn.sl (h : TOwn w B e v n xs) : ∃ a cap, v = .slice a n cap ∧ ISl w a (n * 2) xs ∧ n ≤ maxLen := by
  have hl := h.len
  rcases h.2 with ⟨rfl, hn⟩ | ⟨g, cap, cur, rfl, hb, hg, hnc, hcm, hcs, ht⟩
  · subst hn
    have hx : xs = [] := List.eq_nil_of_length_eq_zero (by omega)
    subst hx
    exact ⟨none, 0, rfl, ⟨rfl, fun i hi => by simp at hi⟩, Nat.zero_le _⟩
  · refine ⟨some ⟨g, 0, none⟩, cap, rfl, ⟨hl.symm, fun i hi => ?_⟩, by omega⟩
    refine ⟨g, 0, rfl, ?_⟩
    rw [Nat.zero_add, World.ownsRow.cellAt h i (by omega)]
    simp [hi]
end
/-- 'append(v, x)', one tile, x laid in a block of its own. -/
theorem wpList_append_t {P : Program} {w : World} {ops : Array Oper} {rest : List Oper} {o : Oper} {a : Act} {Q : Exit → Act → World → Prop} (hgd : o.guard = none) {s x : Operand} {t : TypeId}
    (ho : o.op = .call { callee := .builtin .append, args := #[s, x], argTypes := #[t, t] }) {B : Nat} {e : TypeId} (i : TypeInfo) (ht : P.underlying t = some (.slice e)) (hi : P.info? e = some i) (hz : i.zero = some (.agg #[.int .i64 0, .int .i64 0])) (hsize : i.size = 2) (hby : i.bytes = 16)
    {v : Value} {n : Nat} {xs : List Int} (hs : a.eval s = v) (hown : TOwn w B e v n xs) {b f c : Nat} {X Y : Int} (hx : a.eval x = .slice (some ⟨b, f, none⟩) 1 c) (hcell : w.cell? ⟨b, f, none⟩ = some (.int .i64 X)) (hcell2 : w.cell? ⟨b, f + 1, none⟩ = some (.int .i64 Y)) (hn : n ≤ 1048576) (hB : B ≤ w.heap.size)
    (h : ∀ v' w', TOwn w' B e v' (n + 1) (xs ++ [X, Y]) → w.grownBy w' v.ownBlock → wpList P ops Q rest (a.put o.dst v') w') : wpList P ops Q (o :: rest) a w := by
  refine wpList_append_own w hgd s x t ho B e i (.agg #[.int .i64 0, .int .i64 0]) 2 16 ht hi hz hsize hby rfl (by decide) v n (xs.map (Value.int .i64)) hs hown ⟨b, f, none⟩ 1 c [.int .i64 X, .int .i64 Y] hx rfl ?_ ?_ (by unfold maxLen; omega) (by omega) hB ?_
  · intro j u hj
    match j, hj with
    | 0, hj => simp at hj; subst hj; simpa [Addr.add] using hcell
    | 1, hj => simp at hj; subst hj; simpa [Addr.add] using hcell2
  · intro u hu; simp at hu; rcases hu with rfl | rfl <;> rfl
  · intro v' w' h3 h4 _
    refine h v' w' ?_ h4
    show w'.ownsRow B e 2 v' (n + 1) ((xs ++ [X, Y]).map (Value.int .i64))
    simpa using h3
/-- Such a row between two numbers of blocks. -/
def TIn (w : World) (lo hi : Nat) (e : Nat) (v : Value) (n : Nat) (xs : List Int) : Prop := Own w lo hi e 2 v n (xs.map (Value.int .i64))
section
variable {w w' : World} {lo hi : Nat} {e : TypeId} {v : Value} {n : Nat} {xs : List Int}
theorem TOwn.fin (h : TOwn w lo e v n xs) : TIn w lo w.heap.size e v n xs := ⟨h, fun k hk => (h.block hk).2⟩
theorem TIn.gr (h : TIn w lo hi e v n xs) (g : Gr w w') : TIn w' lo hi e v n xs := Own.gr h g
theorem TIn.wrote {lo' hi' e' size' n' : Nat} {v' : Value} {xs' : List Value} (h : TIn w lo hi e v n xs) (h' : Own w lo' hi' e' size' v' n' xs') (g : Wrote w w' v') (hd : hi ≤ lo' ∨ hi' ≤ lo) : TIn w' lo hi e v n xs := Own.wrote h h' g hd
theorem TIn.sl (h : TIn w lo hi e v n xs) : ∃ a cap, v = .slice a n cap ∧ ISl w a (n * 2) xs ∧ n ≤ maxLen := TOwn.sl (B := lo) (e := e) h.own
theorem TIn.fsl {a : Option Addr} {cap : Nat} (h : TIn w lo hi e (.slice a n cap) n xs) : ISl w a (n * 2) xs := by
  obtain ⟨a', cap', e', h1, _⟩ := h.sl
  simp only [Value.slice.injEq] at e'
  obtain ⟨rfl, -, rfl⟩ := e'
  exact h1
theorem TIn.row (h : TIn w lo hi e v n xs) : ∃ vs, Own w lo hi e 2 v n vs ∧ ∀ x ∈ vs, ∃ r, x = .int .i64 r :=
  ⟨_, h, fun x hx => by obtain ⟨r, _, hr⟩ := List.mem_map.1 hx; exact ⟨r, hr.symm⟩⟩
end
end Go.Fx
