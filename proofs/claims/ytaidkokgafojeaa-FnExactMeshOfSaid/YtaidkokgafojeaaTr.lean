/- Rows of rows of three whole numbers. -/
import Derived.Test.YtaidkokgafojeaaVp
import Derived.Test.YtaidkokgafojeaaGi2
import Derived.Test.YtaidkokgafojeaaGd
namespace Go.Fx
open Go Go.Soft Go.RowKit
/-- The head of a row of three. -/
def hdr3 (b : Nat) : Value := .slice (some ⟨b, 0, none⟩) 3 3
/-- v is a slice of the call's own whose elements are the rows ts, each in a block of its own below N. -/
structure TriOwn (w : World) (B N : Nat) (eo ei : TypeId) (v : Value) (ts : List (List Int)) : Prop where
  ex : ∃ bs : List Nat, bs.length = ts.length ∧ w.ownsRow B eo 1 v bs.length (bs.map hdr3) ∧ bs.Nodup ∧ ∀ i (h : i < bs.length), (B ≤ bs[i] ∧ bs[i] < N) ∧ ∃ x y z, ts[i]? = some [x, y, z] ∧ Blk w bs[i] [.int .i64 x, .int .i64 y, .int .i64 z] ei
theorem TriOwn.empty {w : World} {B N g : Nat} {eo ei : TypeId} (h : Blk w g [] eo) (hl : B ≤ g) : TriOwn w B N eo ei (.slice (some ⟨g, 0, none⟩) 0 0) [] :=
  ⟨[], rfl, ⟨rfl, .inr ⟨g, 0, #[], rfl, hl, h.at_, Nat.le_refl _, Nat.zero_le _, rfl, rfl⟩⟩, List.nodup_nil, fun i h => by simp at h⟩
theorem TriOwn.nil (w : World) (B N : Nat) (eo ei : TypeId) : TriOwn w B N eo ei (.slice none 0 0) [] :=
  ⟨[], rfl, World.ownsRow_nil _ _ _ _, List.nodup_nil, fun i h => by simp at h⟩
theorem TriOwn.gr {w w' : World} {B N : Nat} {eo ei : TypeId} {v : Value} {ts : List (List Int)} (h : TriOwn w B N eo ei v ts) (g : Gr w w') : TriOwn w' B N eo ei v ts := by
  obtain ⟨bs, h1, h2, h3, h4⟩ := h.ex
  exact ⟨bs, h1, own_gr h2 g, h3, fun i hi => by
    obtain ⟨hb, x, y, z, e, hB⟩ := h4 i hi
    exact ⟨hb, x, y, z, e, hB.gr g⟩⟩
theorem TriOwn.mono {w : World} {B N B' N' : Nat} {eo ei : TypeId} {v : Value} {ts : List (List Int)} (h : TriOwn w B N eo ei v ts) (hB : B' ≤ B) (hN : N ≤ N') : TriOwn w B' N' eo ei v ts := by
  obtain ⟨bs, h1, h2, h3, h4⟩ := h.ex
  exact ⟨bs, h1, own_base h2 hB, h3, fun i hi => by
    obtain ⟨hb, x, y, z, e, hC⟩ := h4 i hi
    exact ⟨⟨by omega, by omega⟩, x, y, z, e, hC⟩⟩
theorem TriOwn.form {w : World} {B N : Nat} {eo ei : TypeId} {v : Value} {ts : List (List Int)} (h : TriOwn w B N eo ei v ts) : ∃ a c, v = .slice a ts.length c := by
  obtain ⟨bs, h1, h2, h3, h4⟩ := h.ex
  obtain ⟨a, c, e⟩ := own_form h2
  exact ⟨a, c, by rw [← h1]; exact e⟩
theorem TriOwn.block {w : World} {B N : Nat} {eo ei : TypeId} {v : Value} {ts : List (List Int)} (h : TriOwn w B N eo ei v ts) {k : Nat} (hk : v.ownBlock = some k) : B ≤ k ∧ k < w.heap.size := by
  obtain ⟨bs, h1, h2, h3, h4⟩ := h.ex
  exact h2.lt k hk
/-- 'append(v, p, q)', two rows of three more. -/
theorem wpList_append_tri {P : Program} {w : World} {ops : Array Oper} {rest : List Oper} {o : Oper} {a : Act} {Q : Exit → Act → World → Prop} (hgd : o.guard = none) {s x : Operand} {t : TypeId}
    (ho : o.op = .call { callee := .builtin .append, args := #[s, x], argTypes := #[t, t] }) {B N : Nat} {eo ei : TypeId} (i : TypeInfo) (ht : P.underlying t = some (.slice eo)) (hi : P.info? eo = some i) (hz : i.zero = some (.slice none 0 0)) (hsize : i.size = 1) (hby : i.bytes = 24)
    {v : Value} {ts : List (List Int)} (hs : a.eval s = v) (hown : TriOwn w B N eo ei v ts) {ad : Addr} {c b1 b2 : Nat} {x1 y1 z1 x2 y2 z2 : Int} (hx : a.eval x = .slice (some ad) 2 c) (c1 : w.cell? ad = some (hdr3 b1)) (c2 : w.cell? (ad.add 1) = some (hdr3 b2))
    (k1 : Blk w b1 [.int .i64 x1, .int .i64 y1, .int .i64 z1] ei) (k2 : Blk w b2 [.int .i64 x2, .int .i64 y2, .int .i64 z2] ei) (hb1 : N ≤ b1) (hb2 : N ≤ b2) (hne : b1 ≠ b2) (hBN : B ≤ N) (hee : ei ≠ eo) (hn : ts.length ≤ 1048576) (hB : B ≤ w.heap.size)
    (h : ∀ v' w', TriOwn w' B w'.heap.size eo ei v' (ts ++ [[x1, y1, z1], [x2, y2, z2]]) → w.grownBy w' v.ownBlock → wpList P ops Q rest (a.put o.dst v') w') : wpList P ops Q (o :: rest) a w := by
  obtain ⟨bs, e1, e2, e3, e4⟩ := hown.ex
  refine wpList_append_own w hgd s x t ho B eo i (.slice none 0 0) 1 24 ht hi hz hsize hby rfl (by decide) v bs.length (bs.map hdr3) hs e2 ad 2 c [hdr3 b1, hdr3 b2] hx rfl ?_ ?_ (by unfold maxLen; omega) (by omega) hB ?_
  · intro j u hj
    match j, hj with
    | 0, hj => simp at hj; subst hj; simpa [Addr.add] using c1
    | 1, hj => simp at hj; subst hj; exact c2
  · intro u hu; simp at hu; rcases hu with rfl | rfl <;> rfl
  · intro v' w' h3 h4 _
    refine h v' w' ⟨bs ++ [b1, b2], by simp [e1], by simpa using h3, ?_, ?_⟩ h4
    · rw [List.nodup_append]
      refine ⟨e3, by simp [hne], ?_⟩
      intro p hp q hq e
      obtain ⟨i, hi, rfl⟩ := List.getElem_of_mem hp
      have := (e4 i hi).1.2
      simp only [List.mem_cons, List.not_mem_nil, or_false] at hq
      omega
    · intro i hi
      have kept : ∀ {b : Nat} {cs : List Value}, Blk w b cs ei → Blk w' b cs ei ∧ b < w'.heap.size := fun {b} {cs} hk => by
        have hh := hk.grown h4 (own_ne e2 (hk.okb hee))
        exact ⟨hh, hh.lt⟩
      by_cases hlt : i < bs.length
      · obtain ⟨hb, x, y, z, e, hC⟩ := e4 i hlt
        rw [List.getElem_append_left hlt]
        exact ⟨⟨hb.1, (kept hC).2⟩, x, y, z, by rw [List.getElem?_append_left (by omega)]; exact e, (kept hC).1⟩
      · rw [List.length_append] at hi
        simp only [List.length_cons, List.length_nil] at hi
        by_cases hi0 : i = bs.length
        · subst hi0
          have eb : (bs ++ [b1, b2])[bs.length]'(by simp) = b1 := by simp
          rw [eb]
          exact ⟨⟨by omega, (kept k1).2⟩, x1, y1, z1, by rw [e1]; simp, (kept k1).1⟩
        · obtain rfl : i = bs.length + 1 := by omega
          have eb : (bs ++ [b1, b2])[bs.length + 1]'(by simp) = b2 := by simp [List.getElem_append_right]
          rw [eb]
          exact ⟨⟨by omega, (kept k2).2⟩, x2, y2, z2, by rw [e1]; simp, (kept k2).1⟩
end Go.Fx
