/- Rows of bytes of the call's own. -/
import Derived.Test.YtaidkokgafojeaaGi2
import Derived.Laws.BytesArg
namespace Go.Fx
open Go Go.Soft Go.RowKit
def BOwn (w : World) (B : Nat) (e : TypeId) (v : Value) (xs : List Int) : Prop := w.ownsRow B e 1 v xs.length (xs.map (Value.int .u8))
section
variable {w w' : World} {B : Nat} {e : TypeId} {v : Value} {xs : List Int}
theorem BOwn.gr (h : BOwn w B e v xs) (k : Gr w w') : BOwn w' B e v xs := own_gr h k
theorem BOwn.nil (w : World) (B : Nat) (e : TypeId) : BOwn w B e (.slice none 0 0) [] := World.ownsRow_nil _ _ _ _
theorem BOwn.empty {lo g : Nat} (h : Blk w g [] e) (hl : lo ≤ g) : BOwn w lo e (.slice (some ⟨g, 0, none⟩) 0 0) [] :=
  ⟨rfl, .inr ⟨g, 0, #[], rfl, hl, h.at_, Nat.le_refl _, Nat.zero_le _, rfl, rfl⟩⟩
theorem BOwn.block (h : BOwn w B e v xs) {k : Nat} (hk : v.ownBlock = some k) : B ≤ k ∧ k < w.heap.size := World.ownsRow.lt h k hk
/-- Such a row, made a string. -/
theorem BOwn.conv {P : Program} (h : BOwn w B e v xs) (src dst : TypeId) (hs : P.underlying src = some (.slice e)) (he : P.underlying e = some (.int .u8)) (hd : P.underlying dst = some .string) :
    (convert src dst v).run P w = .ok (.string (strOfNums xs)) w := by
  rcases h.2 with ⟨rfl, hn⟩ | ⟨g, cap, cur, rfl, hb, hg, hnc, hcm, hcs, ht⟩
  · have hx : xs = [] := List.eq_nil_of_length_eq_zero hn
    subst hx
    exact run_convert_bytes_nil w src e hs he 0 0 dst hd
  · refine run_convert_bytes_arg w src e hs he g 0 xs.length cap xs rfl (fun i hi => ?_) dst hd
    have := World.ownsRow.cellAt h i (by omega)
    rw [Nat.zero_add, this]
    simp [hi]
end
/-- 'append(v, x)', one byte, two, four. -/
theorem wpList_append_b {P : Program} {w : World} {ops : Array Oper} {rest : List Oper} {o : Oper} {a : Act} {Q : Exit → Act → World → Prop} (hgd : o.guard = none) {s x : Operand} {t : TypeId}
    (ho : o.op = .call { callee := .builtin .append, args := #[s, x], argTypes := #[t, t] }) {B : Nat} {e : TypeId} (i : TypeInfo) (ht : P.underlying t = some (.slice e)) (hi : P.info? e = some i) (hz : i.zero = some (.int .u8 0)) (hsize : i.size = 1) (hby : i.bytes = 1)
    {v : Value} {xs : List Int} (hs : a.eval s = v) (hown : BOwn w B e v xs) {b f c : Nat} {X0 : Int} (hx : a.eval x = .slice (some ⟨b, f, none⟩) 1 c) (hcell : w.cell? ⟨b, f, none⟩ = some (.int .u8 X0)) (hn : xs.length ≤ 1048576) (hB : B ≤ w.heap.size)
    (h : ∀ v' w', BOwn w' B e v' (xs ++ [X0]) → w.grownBy w' v.ownBlock → wpList P ops Q rest (a.put o.dst v') w') : wpList P ops Q (o :: rest) a w := by
  refine wpList_append_own w hgd s x t ho B e i (.int .u8 0) 1 1 ht hi hz hsize hby rfl (by decide) v xs.length (xs.map (Value.int .u8)) hs hown ⟨b, f, none⟩ 1 c [.int .u8 X0] hx rfl ?_ ?_ (by unfold maxLen; omega) (by omega) hB ?_
  · intro j u hj
    match j, hj with
    | 0, hj => simp at hj; subst hj; simpa [Addr.add] using hcell
  · intro u hu; simp at hu; rcases hu with rfl <;> rfl
  · intro v' w' h3 h4 _
    refine h v' w' ?_ h4
    show w'.ownsRow B e 1 v' (xs ++ [X0]).length ((xs ++ [X0]).map (Value.int .u8))
    simpa using h3
theorem wpList_append_b2 {P : Program} {w : World} {ops : Array Oper} {rest : List Oper} {o : Oper} {a : Act} {Q : Exit → Act → World → Prop} (hgd : o.guard = none) {s x : Operand} {t : TypeId}
    (ho : o.op = .call { callee := .builtin .append, args := #[s, x], argTypes := #[t, t] }) {B : Nat} {e : TypeId} (i : TypeInfo) (ht : P.underlying t = some (.slice e)) (hi : P.info? e = some i) (hz : i.zero = some (.int .u8 0)) (hsize : i.size = 1) (hby : i.bytes = 1)
    {v : Value} {xs : List Int} (hs : a.eval s = v) (hown : BOwn w B e v xs) {b f c : Nat} {X0 X1 : Int} (hx : a.eval x = .slice (some ⟨b, f, none⟩) 2 c) (hcell : w.cell? ⟨b, f, none⟩ = some (.int .u8 X0)) (hcell2 : w.cell? ⟨b, f + 1, none⟩ = some (.int .u8 X1)) (hn : xs.length ≤ 1048576) (hB : B ≤ w.heap.size)
    (h : ∀ v' w', BOwn w' B e v' (xs ++ [X0, X1]) → w.grownBy w' v.ownBlock → wpList P ops Q rest (a.put o.dst v') w') : wpList P ops Q (o :: rest) a w := by
  refine wpList_append_own w hgd s x t ho B e i (.int .u8 0) 1 1 ht hi hz hsize hby rfl (by decide) v xs.length (xs.map (Value.int .u8)) hs hown ⟨b, f, none⟩ 2 c [.int .u8 X0, .int .u8 X1] hx rfl ?_ ?_ (by unfold maxLen; omega) (by omega) hB ?_
  · intro j u hj
    match j, hj with
    | 0, hj => simp at hj; subst hj; simpa [Addr.add] using hcell
    | 1, hj => simp at hj; subst hj; simpa [Addr.add] using hcell2
  · intro u hu; simp at hu; rcases hu with rfl | rfl <;> rfl
  · intro v' w' h3 h4 _
    refine h v' w' ?_ h4
    show w'.ownsRow B e 1 v' (xs ++ [X0, X1]).length ((xs ++ [X0, X1]).map (Value.int .u8))
    simpa using h3
theorem wpList_append_b4 {P : Program} {w : World} {ops : Array Oper} {rest : List Oper} {o : Oper} {a : Act} {Q : Exit → Act → World → Prop} (hgd : o.guard = none) {s x : Operand} {t : TypeId}
    (ho : o.op = .call { callee := .builtin .append, args := #[s, x], argTypes := #[t, t] }) {B : Nat} {e : TypeId} (i : TypeInfo) (ht : P.underlying t = some (.slice e)) (hi : P.info? e = some i) (hz : i.zero = some (.int .u8 0)) (hsize : i.size = 1) (hby : i.bytes = 1)
    {v : Value} {xs : List Int} (hs : a.eval s = v) (hown : BOwn w B e v xs) {b f c : Nat} {X0 X1 X2 X3 : Int} (hx : a.eval x = .slice (some ⟨b, f, none⟩) 4 c) (hcell : w.cell? ⟨b, f, none⟩ = some (.int .u8 X0)) (hcell2 : w.cell? ⟨b, f + 1, none⟩ = some (.int .u8 X1)) (hcell3 : w.cell? ⟨b, f + 2, none⟩ = some (.int .u8 X2)) (hcell4 : w.cell? ⟨b, f + 3, none⟩ = some (.int .u8 X3)) (hn : xs.length ≤ 1048576) (hB : B ≤ w.heap.size)
    (h : ∀ v' w', BOwn w' B e v' (xs ++ [X0, X1, X2, X3]) → w.grownBy w' v.ownBlock → wpList P ops Q rest (a.put o.dst v') w') : wpList P ops Q (o :: rest) a w := by
  refine wpList_append_own w hgd s x t ho B e i (.int .u8 0) 1 1 ht hi hz hsize hby rfl (by decide) v xs.length (xs.map (Value.int .u8)) hs hown ⟨b, f, none⟩ 4 c [.int .u8 X0, .int .u8 X1, .int .u8 X2, .int .u8 X3] hx rfl ?_ ?_ (by unfold maxLen; omega) (by omega) hB ?_
  · intro j u hj
    match j, hj with
    | 0, hj => simp at hj; subst hj; simpa [Addr.add] using hcell
    | 1, hj => simp at hj; subst hj; simpa [Addr.add] using hcell2
    | 2, hj => simp at hj; subst hj; simpa [Addr.add] using hcell3
    | 3, hj => simp at hj; subst hj; simpa [Addr.add] using hcell4
  · intro u hu; simp at hu; rcases hu with rfl | rfl | rfl | rfl <;> rfl
  · intro v' w' h3 h4 _
    refine h v' w' ?_ h4
    show w'.ownsRow B e 1 v' (xs ++ [X0, X1, X2, X3]).length ((xs ++ [X0, X1, X2, X3]).map (Value.int .u8))
    simpa using h3
end Go.Fx
