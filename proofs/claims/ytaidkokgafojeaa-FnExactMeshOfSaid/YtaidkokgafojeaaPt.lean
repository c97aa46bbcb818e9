/- Rows of pictures that are appended to. -/
import Derived.Test.YtaidkokgafojeaaPs
import Derived.Test.YtaidkokgafojeaaGd
namespace Go.Fx
open Go Go.Soft Go.RowKit
theorem own_ne {w : World} {lo n size b : Nat} {t : TypeId} {v : Value} {cs : List Value} (h : w.ownsRow lo t size v n cs) (hb : w.okb t b = true) : v.ownBlock ≠ some b := by
  intro he
  rcases h.2 with ⟨rfl, _⟩ | ⟨g, cap, cur, rfl, _, hg, _⟩
  · simp [Value.ownBlock] at he
  · simp only [Value.ownBlock, Option.some.injEq] at he
    subst he
    simp [World.okb, hg] at hb
theorem FIn.keep {w w' : World} {lo hi : Nat} {e : TypeId} {s : Value} {xs : List Nat} {row : Option Nat} (h : FIn w lo hi e s xs) (g : w.grownBy w' row) (hr : ∀ k, row = some k → w.okb e k = true) : FIn w' lo hi e s xs := by
  obtain ⟨rs, h1, h2⟩ := h
  refine ⟨rs, h1, ⟨h2.own.kept g ?_, h2.hi⟩⟩
  cases hv : s.ownBlock with
  | none => exact .inl rfl
  | some j =>
    right
    intro heq
    exact own_ne h2.own (hr j heq.symm) hv
theorem PRow.push {w : World} {lo hi a b hi' : Nat} {e : TypeId} {cs : List Value} {ps : List Pic} {k : Nat} {s : Value} (h : PRow w lo hi e cs ps k) (hl : cs.length = k * 3) (hs : FIn w a b e s (pAt ps k).gs) (h1 : lo ≤ a) (h2 : hi ≤ a) (h3 : hi ≤ hi') (h4 : b ≤ hi') :
    PRow w lo hi' e (cs ++ [.int .i64 (pAt ps k).wide, .int .i64 (pAt ps k).high, s]) ps (k + 1) := by
  obtain ⟨L, U, h5, h6⟩ := h
  refine ⟨fun i => if i < k then L i else a, fun i => if i < k then U i else b, fun i hi => ?_, fun i j hij hj => ?_⟩
  · by_cases hik : i < k
    · obtain ⟨s', q0, q1, q2, q3, q4, q5⟩ := h5 i hik
      refine ⟨s', ?_, ?_, ?_, by simpa [hik] using q3, by simpa [hik] using q4, by simp [hik]; omega⟩
      · rw [List.getElem?_append_left (by omega)]; exact q0
      · rw [List.getElem?_append_left (by omega)]; exact q1
      · rw [List.getElem?_append_left (by omega)]; exact q2
    · obtain rfl : i = k := by omega
      refine ⟨s, ?_, ?_, ?_, by simpa using hs, by simpa using h1, by simpa using h4⟩
      · rw [List.getElem?_append_right (by omega), hl]; simp
      · rw [List.getElem?_append_right (by omega), hl, show i * 3 + 1 - i * 3 = 1 by omega]; rfl
      · rw [List.getElem?_append_right (by omega), hl, show i * 3 + 2 - i * 3 = 2 by omega]; rfl
  · by_cases hjk : j < k
    · simp only [hjk, show i < k by omega, if_true]
      exact h6 i j hij hjk
    · simp only [hjk, show i < k by omega, if_true, if_false]
      obtain ⟨s', _, _, _, _, _, q5⟩ := h5 i (by omega)
      omega
/-- Some pictures of a row. -/
def gSome (ps : List Pic) (f c : Nat) : List Pic := (List.range c).map fun i => pAt ps (f + i)
theorem gSome_length (ps : List Pic) (f c : Nat) : (gSome ps f c).length = c := by simp [gSome]
theorem gSome_at (ps : List Pic) (f : Nat) {c i : Nat} (h : i < c) : pAt (gSome ps f c) i = pAt ps (f + i) := by
  unfold pAt gSome
  rw [List.getD_eq_getElem?_getD, List.getElem?_eq_getElem (by simpa using h)]
  simp [pAt]
theorem own_empty {w : World} {lo g size : Nat} {e : TypeId} (h : Blk w g [] e) (hl : lo ≤ g) : w.ownsRow lo e size (.slice (some ⟨g, 0, none⟩) 0 0) 0 [] :=
  ⟨by simp, .inr ⟨g, 0, #[], rfl, hl, h.at_, Nat.le_refl _, Nat.zero_le _, by simp, by simp⟩⟩
theorem own_form {w : World} {lo n size : Nat} {t : TypeId} {v : Value} {cs : List Value} (h : w.ownsRow lo t size v n cs) : ∃ a c, v = .slice a n c := by
  rcases h.2 with ⟨rfl, rfl⟩ | ⟨g, cap, cur, rfl, _⟩
  · exact ⟨none, 0, rfl⟩
  · exact ⟨_, _, rfl⟩
/-- 'append(v, p)', one picture. -/
theorem wpList_append_p {P : Program} {w : World} {ops : Array Oper} {rest : List Oper} {o : Oper} {a : Act} {Q : Exit → Act → World → Prop} (hgd : o.guard = none) {s x : Operand} {t : TypeId}
    (ho : o.op = .call { callee := .builtin .append, args := #[s, x], argTypes := #[t, t] }) {B : Nat} {e : TypeId} (i : TypeInfo) (ht : P.underlying t = some (.slice e)) (hi : P.info? e = some i) (hz : i.zero = some (.agg #[.int .i64 0, .int .i64 0, .slice none 0 0])) (hsize : i.size = 3) (hby : i.bytes = 40)
    {v : Value} {k : Nat} {cs : List Value} (hs : a.eval s = v) (hown : w.ownsRow B e 3 v k cs) {b c : Nat} {W H : Int} {ga : Option Addr} {gn gc : Nat} (hx : a.eval x = .slice (some ⟨b, 0, none⟩) 1 c) (h0 : w.cell? ⟨b, 0, none⟩ = some (.int .i64 W)) (h1 : w.cell? ⟨b, 1, none⟩ = some (.int .i64 H)) (h2 : w.cell? ⟨b, 2, none⟩ = some (.slice ga gn gc))
    (hn : k ≤ 1048576) (hB : B ≤ w.heap.size)
    (h : ∀ v' w', w'.ownsRow B e 3 v' (k + 1) (cs ++ [.int .i64 W, .int .i64 H, .slice ga gn gc]) → w.grownBy w' v.ownBlock → wpList P ops Q rest (a.put o.dst v') w') : wpList P ops Q (o :: rest) a w := by
  refine wpList_append_own w hgd s x t ho B e i (.agg #[.int .i64 0, .int .i64 0, .slice none 0 0]) 3 40 ht hi hz hsize hby rfl (by decide) v k cs hs hown ⟨b, 0, none⟩ 1 c [.int .i64 W, .int .i64 H, .slice ga gn gc] hx rfl ?_ ?_ (by unfold maxLen; omega) (by omega) hB ?_
  · intro j u hj
    match j, hj with
    | 0, hj => simp at hj; subst hj; simpa [Addr.add] using h0
    | 1, hj => simp at hj; subst hj; simpa [Addr.add] using h1
    | 2, hj => simp at hj; subst hj; simpa [Addr.add] using h2
  · intro u hu; simp at hu; rcases hu with rfl | rfl | rfl <;> rfl
  · intro v' w' h3 h4 _
    exact h v' w' h3 h4
/-- A row of pictures is pushed to that stands in a field. -/
theorem pushP_step {w0 wm w1 : World} {lo lo' b hi k m : Nat} {t e tb : TypeId} {v u : Value} {cs : List Value} {W H : Int} {ga : Option Addr} {gn gc : Nat} {ps : List Pic} {csb : List Value}
    (hg : Gr w0 wm) (hlo : w0.heap.size ≤ lo) (ho : wm.ownsRow lo t 3 v k cs) (hp : PRow wm lo hi e cs ps k) (hB : Blk wm b csb tb) (hb0 : w0.heap.size ≤ b) (hte : t ≠ e) (htb : tb ≠ t) (hbe : tb ≠ e)
    (hs : FIn wm lo' wm.heap.size e (.slice ga gn gc) (pAt ps k).gs) (hl1 : lo ≤ lo') (hl2 : hi ≤ lo') (hl3 : hi ≤ wm.heap.size) (hW : W = (pAt ps k).wide) (hH : H = (pAt ps k).high)
    (g1 : wm.grownBy w1 v.ownBlock) (ho1 : w1.ownsRow lo t 3 u (k + 1) (cs ++ [.int .i64 W, .int .i64 H, .slice ga gn gc])) :
    Blk w1 b csb tb ∧ Gr w0 w1 ∧ (w1.setCell ⟨b, m, none⟩ u).ownsRow lo t 3 u (k + 1) (cs ++ [.int .i64 W, .int .i64 H, .slice ga gn gc]) ∧ PRow (w1.setCell ⟨b, m, none⟩ u) lo w1.heap.size e (cs ++ [.int .i64 W, .int .i64 H, .slice ga gn gc]) ps (k + 1) := by
  have hne := own_ne ho (hB.okb htb)
  have hB1 := hB.grown g1 hne
  have key : ∀ j, v.ownBlock = some j → wm.okb e j = true := by
    intro j hj
    rcases ho.2 with ⟨rfl, _⟩ | ⟨g, cap, cur, rfl, _, hgg, _⟩
    · simp [Value.ownBlock] at hj
    · simp only [Value.ownBlock, Option.some.injEq] at hj
      subst hj
      simp [World.okb, hgg, hte]
  have hs1 := (hs.keep g1 key).setOk (b := b) (i := m) (u := u) (hB1.okb hbe)
  have hp1 : PRow (w1.setCell ⟨b, m, none⟩ u) lo hi e cs ps k := hp.imp (Nat.le_refl _) (Nat.le_refl _) (fun _ _ _ _ _ _ f => (f.keep g1 key).setOk (hB1.okb hbe))
  refine ⟨hB1, hg.grownBy g1 (fun j hj => Nat.le_trans hlo (World.ownsRow.lt ho j hj).1), own_setCell ho1 u (own_ne ho1 (hB1.okb htb)), ?_⟩
  subst hW hH
  have hsz := g1.size
  exact hp1.push ho.1 hs1 hl1 hl2 (Nat.le_trans hl3 hsz) hsz
end Go.Fx
