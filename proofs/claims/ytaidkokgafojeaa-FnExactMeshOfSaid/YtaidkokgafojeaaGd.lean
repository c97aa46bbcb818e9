/- Grids of numbers; struct blocks; rows of floats that are appended to and stored into. -/
import Derived.Test.YtaidkokgafojeaaLm
namespace Go.Fx
open Go Go.Soft Go.RowKit

/-! ### Lists -/
def lst (n : Nat) (G : Nat → Nat) : List Nat := (List.range n).map G
def grid (w : Nat) (V : Nat → Nat → Nat) (k : Nat) : List Nat := lst k fun i => V (i % w) (i / w)
@[simp] theorem lst_length (n : Nat) (G : Nat → Nat) : (lst n G).length = n := by simp [lst]
@[simp] theorem grid_length (w : Nat) (V : Nat → Nat → Nat) (k : Nat) : (grid w V k).length = k := by simp [grid]
theorem lst_zero (G : Nat → Nat) : lst 0 G = [] := rfl
theorem lst_succ (n : Nat) (G : Nat → Nat) : lst n G ++ [G n] = lst (n + 1) G := by simp [lst, List.range_succ]
theorem lst_get {n i : Nat} {G : Nat → Nat} (h : i < (lst n G).length) : (lst n G)[i] = G i := by simp [lst]
theorem lst_congr {n : Nat} {G G' : Nat → Nat} (h : ∀ i, i < n → G i = G' i) : lst n G = lst n G' := by
  unfold lst
  apply List.map_congr_left
  intro i hi
  exact h i (by simpa using hi)
theorem lst_of {xs : List Nat} : lst xs.length (fun i => xs.getD i 0) = xs := by
  apply List.ext_getElem
  · simp
  · intro i h1 h2
    rw [lst_get, List.getD_eq_getElem?_getD, List.getElem?_eq_getElem h2]; rfl
theorem mod_of {w x y : Nat} (hx : x < w) : (x + w * y) % w = x := by rw [Nat.add_mul_mod_self_left]; exact Nat.mod_eq_of_lt hx
theorem div_of {w x y : Nat} (hx : x < w) : (x + w * y) / w = y := by
  rw [Nat.add_mul_div_left _ _ (by omega), Nat.div_eq_of_lt hx, Nat.zero_add]
theorem grid_succ {w x y : Nat} {V : Nat → Nat → Nat} (hx : x < w) : grid w V (x + w * y) ++ [V x y] = grid w V (x + 1 + w * y) := by
  have e : x + 1 + w * y = (x + w * y) + 1 := by omega
  rw [e]
  unfold grid
  rw [← lst_succ, mod_of hx, div_of hx]
theorem grid_row {w y : Nat} {V : Nat → Nat → Nat} : grid w V (w + w * y) = grid w V (0 + w * (y + 1)) := by
  congr 1; rw [Nat.mul_succ]; omega
theorem grid_congr {w n : Nat} {V V' : Nat → Nat → Nat} (h : ∀ i, i < n → V (i % w) (i / w) = V' (i % w) (i / w)) : grid w V n = grid w V' n := lst_congr h
theorem cell_lt {w h x y : Nat} (hx : x < w) (hy : y < h) : x + w * y < w * h := by
  have : w * (y + 1) ≤ w * h := Nat.mul_le_mul_left w hy
  rw [Nat.mul_succ] at this
  omega
/-- The first k are G's, the others O's. -/
def upto (n k : Nat) (G O : Nat → Nat) : List Nat := lst n fun i => if i < k then G i else O i
@[simp] theorem upto_length (n k : Nat) (G O : Nat → Nat) : (upto n k G O).length = n := by simp [upto]
theorem upto_zero (n : Nat) (G O : Nat → Nat) : upto n 0 G O = lst n O := by simp [upto]
theorem upto_all (n : Nat) (G O : Nat → Nat) : upto n n G O = lst n G := lst_congr fun i hi => by simp [hi]
theorem upto_set {n k : Nat} {G O : Nat → Nat} (hk : k < n) : (upto n k G O).set k (G k) = upto n (k + 1) G O := by
  apply List.ext_getElem
  · simp
  · intro i h1 h2
    rw [List.getElem_set]
    have e1 : (upto n k G O)[i]'(by simpa using h1) = if i < k then G i else O i := by simp [upto, lst]
    have e2 : (upto n (k + 1) G O)[i] = if i < k + 1 then G i else O i := by simp [upto, lst]
    rw [e1, e2]
    by_cases hik : k = i
    · subst hik; simp
    · rw [if_neg hik]
      by_cases hlt : i < k
      · rw [if_pos hlt, if_pos (by omega)]
      · rw [if_neg hlt, if_neg (by omega)]
/-- What stands where nothing is written. -/
theorem upto_keep {n k : Nat} {G O : Nat → Nat} (h : O k = G k) : upto n k G O = upto n (k + 1) G O := by
  apply lst_congr
  intro i hi
  by_cases hik : i = k
  · subst hik; simp [h]
  · by_cases hlt : i < k
    · rw [if_pos hlt, if_pos (by omega)]
    · rw [if_neg hlt, if_neg (by omega)]
theorem upto_get {n k i : Nat} {G O : Nat → Nat} (hi : k ≤ i) (h : i < (upto n k G O).length) : (upto n k G O)[i] = O i := by
  have e : (upto n k G O)[i] = if i < k then G i else O i := by simp [upto, lst]
  rw [e, if_neg (by omega)]

/-! ### Blocks -/
/-- The block b holds these cells, none of them frozen. -/
structure Blk (w : World) (b : Nat) (cs : List Value) (t : TypeId) : Prop where
  at_ : w.heap[b]? = some (.cells cs.toArray t (0, 0))
theorem Blk.cell {w : World} {b : Nat} {cs : List Value} {t : TypeId} (h : Blk w b cs t) (i : Nat) : w.cell? ⟨b, i, none⟩ = cs[i]? := by
  simp [World.cell?, h.at_]
theorem Blk.frozen {w : World} {b : Nat} {cs : List Value} {t : TypeId} (h : Blk w b cs t) (i : Nat) : w.frozen? ⟨b, i, none⟩ = false := by
  simp [World.frozen?, h.at_]
theorem Blk.lt {w : World} {b : Nat} {cs : List Value} {t : TypeId} (h : Blk w b cs t) : b < w.heap.size := by
  rcases Nat.lt_or_ge b w.heap.size with h' | h'
  · exact h'
  · have := h.at_; rw [Array.getElem?_eq_none h'] at this; cases this
theorem Blk.of {w w' : World} {b : Nat} {cs : List Value} {t : TypeId} (h : Blk w b cs t) (e : w'.heap[b]? = w.heap[b]?) : Blk w' b cs t := ⟨e.trans h.at_⟩
theorem Blk.gr {w w' : World} {b : Nat} {cs : List Value} {t : TypeId} (h : Blk w b cs t) (g : Gr w w') : Blk w' b cs t := by
  obtain ⟨os, m, rfl⟩ := g
  exact h.of (heap_grew w os m h.lt)
theorem Blk.grown {w w' : World} {b : Nat} {cs : List Value} {t : TypeId} {row : Option Nat} (h : Blk w b cs t) (g : w.grownBy w' row) (hr : row ≠ some b) : Blk w' b cs t :=
  h.of (g.block b h.lt (fun e => hr e.symm))
theorem Blk.set {w : World} {b i : Nat} {cs : List Value} {t : TypeId} (h : Blk w b cs t) (v : Value) : Blk (w.setCell ⟨b, i, none⟩ v) b (cs.set i v) t := by
  constructor
  simp only [World.setCell, Array.getElem?_modify, if_true]
  rw [h.at_]
  simp
theorem Blk.setOther {w : World} {b : Nat} {p : Addr} {cs : List Value} {t : TypeId} (h : Blk w b cs t) (v : Value) (hp : p.block ≠ b) : Blk (w.setCell p v) b cs t :=
  h.of (Below.heap_setCell _ _ _ _ (fun e => hp e.symm))
theorem Blk.new (w : World) (cs : List Value) (t : TypeId) : Blk (w.alloc (.cells cs.toArray t)) w.heap.size cs t := by
  constructor
  show (w.heap.push (.cells cs.toArray t))[w.heap.size]? = _
  simp

theorem Blk.atNew {w : World} {b : Nat} {cs : List Value} {t : TypeId} (hb : b = w.heap.size) : Blk (w.alloc (.cells cs.toArray t)) b cs t := by
  subst hb; exact Blk.new w cs t
theorem Blk.alloc {w : World} {b : Nat} {cs : List Value} {t : TypeId} (h : Blk w b cs t) (o : Obj) : Blk (w.alloc o) b cs t := h.gr ((Gr.refl w).alloc o)
theorem Blk.grew {w : World} {b : Nat} {cs : List Value} {t : TypeId} (h : Blk w b cs t) (os : Array Obj) (m : Nat) : Blk (w.grew os m) b cs t := h.gr ⟨os, m, rfl⟩
theorem Blk.drewN {w : World} {b : Nat} {cs : List Value} {t : TypeId} (h : Blk w b cs t) (n : Nat) : Blk (w.drewN n) b cs t := ⟨h.at_⟩
theorem Blk.drew {w : World} {b : Nat} {cs : List Value} {t : TypeId} (h : Blk w b cs t) : Blk w.drew b cs t := ⟨h.at_⟩
theorem Blk.cellv {w : World} {b : Nat} {cs : List Value} {t : TypeId} (h : Blk w b cs t) (i : Nat) {v : Value} (e : cs[i]? = some v := by rfl) : w.cell? ⟨b, i, none⟩ = some v := (h.cell i).trans e

/-! ### Rows of floats -/
theorem FEs.set {rs xs : List Nat} (h : FEs rs xs) {r x : Nat} (hr : FE .f32 r x) (k : Nat) : FEs (rs.set k r) (xs.set k x) := by
  refine ⟨by simp [h.len], fun i h1 h2 => ?_⟩
  rw [List.getElem_set, List.getElem_set]
  split
  · exact hr
  · exact h.at_ i (by simpa using h1) (by simpa using h2)
theorem FEs.replicate {r x : Nat} (hr : FE .f32 r x) (n : Nat) : FEs (List.replicate n r) (List.replicate n x) :=
  ⟨by simp, fun i h1 h2 => by simpa using hr⟩
theorem FEs.append {rs xs rs' xs' : List Nat} (h : FEs rs xs) (h' : FEs rs' xs') : FEs (rs ++ rs') (xs ++ xs') := by
  refine ⟨by simp [h.len, h'.len], fun i h1 h2 => ?_⟩
  rcases Nat.lt_or_ge i rs.length with hi | hi
  · rw [List.getElem_append_left hi, List.getElem_append_left (by rw [← h.len]; exact hi)]
    exact h.at_ i hi _
  · rw [List.getElem_append_right hi, List.getElem_append_right (by rw [← h.len]; exact hi)]
    have := h'.at_ (i - rs.length) (by simp at h1; omega) (by have := h.len; have := h'.len; simp at h1; omega)
    simpa [h.len] using this
theorem FOwn.nil (w : World) (B : Nat) (e : TypeId) : FOwn w B e (.slice none 0 0) [] := ⟨[], FEs.nil, World.ownsRow_nil _ _ _ _⟩
theorem FOwn.grown {w w' : World} {B : Nat} {e : TypeId} {v : Value} {xs : List Nat} {row : Option Nat} (h : FOwn w B e v xs) (g : w.grownBy w' row) (hr : v.ownBlock = none ∨ v.ownBlock ≠ row) : FOwn w' B e v xs := by
  obtain ⟨rs, h1, h2⟩ := h; exact ⟨rs, h1, h2.kept g hr⟩
theorem FOwn.setOther {w : World} {B : Nat} {e : TypeId} {v : Value} {xs : List Nat} (h : FOwn w B e v xs) {p : Addr} (u : Value) (hp : p.block < B) : FOwn (w.setCell p u) B e v xs := by
  obtain ⟨rs, h1, h2⟩ := h
  refine ⟨rs, h1, own_setCell h2 u ?_⟩
  intro e
  have := (h2.lt _ e).1
  omega
theorem FOwn.block {w : World} {B : Nat} {e : TypeId} {v : Value} {xs : List Nat} (h : FOwn w B e v xs) {k : Nat} (hk : v.ownBlock = some k) : B ≤ k ∧ k < w.heap.size := by
  obtain ⟨rs, h1, h2⟩ := h; exact h2.lt k hk
theorem FOwn.notBlk {w : World} {B b : Nat} {e : TypeId} {v : Value} {xs : List Nat} (h : FOwn w B e v xs) (hb : b < B) : v.ownBlock ≠ some b := by
  intro hk; have := (h.block hk).1; omega
theorem FOwn.sl' {w : World} {B : Nat} {e : TypeId} {v : Value} {xs : List Nat} (h : FOwn w B e v xs) (n : Nat) (hn : xs.length = n) : ∃ a cap, v = .slice a n cap ∧ FSl w a n xs ∧ n ≤ maxLen := by
  subst hn; exact h.sl
theorem FOwn.empty {w : World} {lo g : Nat} {e : TypeId} (h : Blk w g [] e) (hl : lo ≤ g) : FOwn w lo e (.slice (some ⟨g, 0, none⟩) 0 0) [] :=
  ⟨[], FEs.nil, rfl, .inr ⟨g, 0, #[], rfl, hl, h.at_, Nat.le_refl _, Nat.zero_le _, rfl, rfl⟩⟩
/-- The address of such a row. -/
theorem FOwn.ptr {w : World} {B : Nat} {e : TypeId} {v : Value} {xs : List Nat} (h : FOwn w B e v xs) (hn : 0 < xs.length) : ∃ g cap, v = .slice (some ⟨g, 0, none⟩) xs.length cap ∧ B ≤ g := by
  obtain ⟨rs, h1, h2⟩ := h
  rcases h2.2 with ⟨_, h0⟩ | ⟨g, cap, cur, rfl, hb, _⟩
  · have := h1.len; omega
  · exact ⟨g, cap, by rw [h1.len], hb⟩
theorem FOwn.len {w : World} {B : Nat} {e : TypeId} {a : Option Addr} {n cap : Nat} {xs : List Nat} (h : FOwn w B e (.slice a n cap) xs) : n = xs.length := by
  obtain ⟨rs, h1, h2⟩ := h
  rcases h2.2 with ⟨h0, h3⟩ | ⟨g', cap', cur, e', _⟩
  · simp at h0; have := h1.len; omega
  · simp at e'; have := h1.len; omega
theorem FOwn.get {w : World} {B : Nat} {e : TypeId} {g n cap : Nat} {xs : List Nat} (h : FOwn w B e (.slice (some ⟨g, 0, none⟩) n cap) xs) (i : Nat) (hi : i < xs.length) : ∃ r, w.cell? ⟨g, i, none⟩ = some (.float .f32 r) ∧ FE .f32 r xs[i] := by
  obtain rfl := h.len
  obtain ⟨rs, h1, h2⟩ := h
  have hl := h1.len
  rw [hl] at h2
  refine ⟨rs[i], ?_, h1.at_ i (by omega) hi⟩
  rw [h2.cellAt i (by omega)]
  simp [hl, hi]
theorem FOwn.free {w : World} {B : Nat} {e : TypeId} {g n cap : Nat} {xs : List Nat} (h : FOwn w B e (.slice (some ⟨g, 0, none⟩) n cap) xs) (i : Nat) : w.frozen? ⟨g, i, none⟩ = false := by
  obtain rfl := h.len
  obtain ⟨rs, h1, h2⟩ := h
  rw [h1.len] at h2
  exact h2.frozenAt i
theorem FOwn.store {w : World} {B : Nat} {e : TypeId} {g n cap k r x : Nat} {xs : List Nat} (h : FOwn w B e (.slice (some ⟨g, 0, none⟩) n cap) xs) (hr : FE .f32 r x) : FOwn (w.setCell ⟨g, k, none⟩ (.float .f32 r)) B e (.slice (some ⟨g, 0, none⟩) n cap) (xs.set k x) := by
  obtain rfl := h.len
  obtain ⟨rs, h1, h2⟩ := h
  refine ⟨rs.set k r, h1.set hr k, ?_⟩
  rw [List.length_set]
  rw [h1.len] at h2 ⊢
  have := (h2.stored k (.float .f32 r)).1
  rwa [List.map_set]
/-- 'append(v, x)', one float, x laid in a block of its own. -/
theorem wpList_append_f {P : Program} {w : World} {ops : Array Oper} {rest : List Oper} {o : Oper} {a : Act} {Q : Exit → Act → World → Prop} (hgd : o.guard = none) {s x : Operand} {t : TypeId}
    (ho : o.op = .call { callee := .builtin .append, args := #[s, x], argTypes := #[t, t] }) {B : Nat} {e : TypeId} (i : TypeInfo) (ht : P.underlying t = some (.slice e)) (hi : P.info? e = some i) (hz : i.zero = some (.float .f32 0)) (hsize : i.size = 1) (hby : i.bytes = 4)
    {v : Value} {xs : List Nat} (hs : a.eval s = v) (hown : FOwn w B e v xs) {ad : Addr} {c r X : Nat} (hx : a.eval x = .slice (some ad) 1 c) (hcell : w.cell? ad = some (.float .f32 r)) (hr : FE .f32 r X) (hn : xs.length ≤ 1048576) (hB : B ≤ w.heap.size)
    (h : ∀ v' w', FOwn w' B e v' (xs ++ [X]) → w.grownBy w' v.ownBlock → wpList P ops Q rest (a.put o.dst v') w') : wpList P ops Q (o :: rest) a w := by
  obtain ⟨rs, h1, h2⟩ := hown
  have hl := h1.len
  refine wpList_append_own w hgd s x t ho B e i (.float .f32 0) 1 4 ht hi hz hsize hby rfl (by decide) v rs.length (rs.map (Value.float .f32)) hs h2 ad 1 c [.float .f32 r] hx rfl ?_ ?_ (by unfold maxLen; omega) (by omega) hB ?_
  · intro j u hj
    match j, hj with
    | 0, hj => simp at hj; subst hj; simpa [Addr.add] using hcell
  · intro u hu; simp at hu; subst hu; rfl
  · intro v' w' h3 h4 _
    refine h v' w' ⟨rs ++ [r], h1.snoc hr, ?_⟩ h4
    simpa using h3
/-- w' is w but for block b and, from lo on, blocks of type e. -/
structure Pushed (w w' : World) (e lo b : Nat) : Prop where
  os : w'.os = w.os
  tape : w'.tape = w.tape
  output : w'.output = w.output
  size : w.heap.size ≤ w'.heap.size
  block : ∀ k, k < w.heap.size → (k < lo ∨ w.okb e k = true) → k ≠ b → w'.heap[k]? = w.heap[k]?
theorem Blk.okb {w : World} {b : Nat} {cs : List Value} {t e : TypeId} (h : Blk w b cs t) (ht : t ≠ e) : w.okb e b = true := by
  simp [World.okb, h.at_, ht]
theorem Pushed.blk {w w' : World} {e lo b k : Nat} {cs : List Value} {t : TypeId} (p : Pushed w w' e lo b) (h : Blk w k cs t) (hk : k < lo ∨ t ≠ e) (hb : k ≠ b) : Blk w' k cs t :=
  h.of (p.block k h.lt (hk.imp id fun ht => h.okb ht) hb)
theorem Pushed.gr {w0 w w' : World} {e lo b : Nat} (p : Pushed w w' e lo b) (h : Gr w0 w) (hb : w0.heap.size ≤ b) (hl : w0.heap.size ≤ lo) : Gr w0 w' := by
  refine Gr.of_below ?_
  have h' := h.below
  refine ⟨p.os.trans h'.os, p.tape.trans h'.tape, p.output.trans h'.output, Nat.le_trans h'.size p.size, fun k hk => ?_⟩
  exact (p.block k (Nat.lt_of_lt_of_le hk h'.size) (.inl (by omega)) (by omega)).trans (h'.block k hk)
theorem Pushed.refl (w : World) (e lo b : Nat) : Pushed w w e lo b := ⟨rfl, rfl, rfl, Nat.le_refl _, fun _ _ _ _ => rfl⟩
theorem Pushed.trans {w w' w'' : World} {e lo b : Nat} (p : Pushed w w' e lo b) (q : Pushed w' w'' e lo b) : Pushed w w'' e lo b :=
  ⟨q.os.trans p.os, q.tape.trans p.tape, q.output.trans p.output, Nat.le_trans p.size q.size, fun k h1 h2 h3 => by
    have h4 := p.block k h1 h2 h3
    exact (q.block k (Nat.lt_of_lt_of_le h1 p.size) (h2.imp id fun h => by rw [okb_block h4]; exact h) h3).trans h4⟩
theorem Gr.pushed {w w' : World} (g : Gr w w') (e lo b : Nat) : Pushed w w' e lo b := by
  obtain ⟨os, m, rfl⟩ := g
  exact ⟨rfl, rfl, rfl, by simp, fun k hk _ _ => heap_grew w os m hk⟩
theorem Pushed.set {w w' : World} {e lo b i : Nat} (p : Pushed w w' e lo b) (u : Value) : Pushed w (w'.setCell ⟨b, i, none⟩ u) e lo b := by
  refine p.trans ⟨rfl, rfl, rfl, by simp [World.setCell], fun k _ h2 h3 => Below.heap_setCell _ _ _ _ ?_⟩
  intro e'; exact h3 e'
theorem FOwn.okb {w : World} {lo k e : Nat} {v : Value} {xs : List Nat} (h : FOwn w lo e v xs) (hk : k < lo ∨ w.okb e k = true) : v.ownBlock ≠ some k := by
  intro he
  rcases hk with hk | hk
  · exact h.notBlk hk he
  · obtain ⟨rs, h1, h2⟩ := h
    rcases h2.2 with ⟨rfl, _⟩ | ⟨g, cap, cur, rfl, _, hg, _⟩
    · simp [Value.ownBlock] at he
    · simp only [Value.ownBlock, Option.some.injEq] at he
      subst he
      simp [World.okb, hg] at hk
/-- The row itself has been written. -/
theorem FOwn.pushed {w w' : World} {lo b e : Nat} {v : Value} {xs : List Nat} (h : FOwn w lo e v xs) (g : w.grownBy w' v.ownBlock) : Pushed w w' e lo b :=
  ⟨g.os, g.tape, g.output, g.size, fun k h1 h2 _ => g.block k h1 fun e' => h.okb h2 e'.symm⟩
theorem FOwn.setBlk {w : World} {lo b e t i : Nat} {v u : Value} {xs : List Nat} {cs : List Value} (h : FOwn w lo e v xs) (hb : Blk w b cs t) (ht : t ≠ e) : FOwn (w.setCell ⟨b, i, none⟩ u) lo e v xs := by
  obtain ⟨rs, h1, h2⟩ := h
  exact ⟨rs, h1, own_setCell h2 u (FOwn.okb ⟨rs, h1, h2⟩ (.inr (hb.okb ht)))⟩
/-- A row of floats is pushed to that stands in a field. -/
theorem pushed_step {wr wm w1 : World} {lo b i : Nat} {cs : List Value} {t e : TypeId} {v u : Value} {xs xs' : List Nat} (hb : Blk wr b cs t) (ho : FOwn wr lo e v xs) (G : Gr wr wm) (g1 : wm.grownBy w1 v.ownBlock) (ho1 : FOwn w1 lo e u xs') (ht : t ≠ e) :
    Blk w1 b cs t ∧ Pushed wr (w1.setCell ⟨b, i, none⟩ u) e lo b ∧ FOwn (w1.setCell ⟨b, i, none⟩ u) lo e u xs' := by
  have hn := (ho.gr G).okb (.inr ((hb.gr G).okb ht))
  have hb1 := (hb.gr G).grown g1 hn
  exact ⟨hb1, ((G.pushed e lo b).trans ((ho.gr G).pushed g1)).set u, ho1.setBlk hb1 ht⟩
end Go.Fx
