/- Rows of whole numbers: read, appended to, marked. MAXREC -/
import Derived.Test.YtaidkokgafojeaaLw
namespace Go.Fx
open Go Go.Soft Go.RowKit
/-- The slice value '.slice a n _' holds the numbers xs. -/
structure ISl (w : World) (a : Option Addr) (n : Nat) (xs : List Int) : Prop where
  len : n = xs.length
  at_ : ∀ i (h : i < xs.length), ∃ b off, a = some ⟨b, off, none⟩ ∧ w.cell? ⟨b, off + i, none⟩ = some (.int .i64 xs[i])
theorem ISl.keep {w w' : World} {a : Option Addr} {n : Nat} {xs : List Int} (h : ISl w a n xs) (k : Kp w w') : ISl w' a n xs :=
  ⟨h.len, fun i hi => by obtain ⟨b, off, e, hc⟩ := h.at_ i hi; exact ⟨b, off, e, k.cell _ _ hc⟩⟩
theorem ISl.get {w : World} {b off n : Nat} {xs : List Int} (h : ISl w (some ⟨b, off, none⟩) n xs) (i : Nat) (hi : i < xs.length) : w.cell? ⟨b, off + i, none⟩ = some (.int .i64 (xs.getD i 0)) := by
  obtain ⟨b', off', e, hc⟩ := h.at_ i hi
  simp only [Option.some.injEq, Addr.mk.injEq, and_true] at e
  obtain ⟨rfl, rfl⟩ := e
  rw [List.getD_eq_getElem?_getD, List.getElem?_eq_getElem hi]; exact hc
theorem ISl.ptr {w : World} {a : Option Addr} {n : Nat} {xs : List Int} (h : ISl w a n xs) (hn : 0 < xs.length) : ∃ b off, a = some ⟨b, off, none⟩ := by
  obtain ⟨b, off, e, _⟩ := h.at_ 0 hn
  exact ⟨b, off, e⟩
/-- v is a slice of the call's own whose elements are the numbers xs. -/
def IOwn (w : World) (B : Nat) (e : TypeId) (v : Value) (xs : List Int) : Prop := w.ownsRow B e 1 v xs.length (xs.map (Value.int .i64))
theorem IOwn.gr {w w' : World} {B : Nat} {e : TypeId} {v : Value} {xs : List Int} (h : IOwn w B e v xs) (k : Gr w w') : IOwn w' B e v xs := own_gr h k
theorem IOwn.base {w : World} {B B' : Nat} {e : TypeId} {v : Value} {xs : List Int} (h : IOwn w B e v xs) (hB : B' ≤ B) : IOwn w B' e v xs := own_base h hB
theorem IOwn.swap {w w' : World} {os : Array Obj} {m m' B : Nat} {e : TypeId} {v : Value} {xs : List Int} (h : IOwn (w.grew os m) B e v xs) (hB : w.heap.size ≤ B) (hs : w.heap.size = w'.heap.size) : IOwn (w'.grew os m') B e v xs := own_swap h hB hs
theorem IOwn.nil (w : World) (B : Nat) (e : TypeId) : IOwn w B e (.slice none 0 0) [] := World.ownsRow_nil _ _ _ _
theorem IOwn.empty {w : World} {lo g : Nat} {e : TypeId} (h : Blk w g [] e) (hl : lo ≤ g) : IOwn w lo e (.slice (some ⟨g, 0, none⟩) 0 0) [] :=
  ⟨rfl, .inr ⟨g, 0, #[], rfl, hl, h.at_, Nat.le_refl _, Nat.zero_le _, rfl, rfl⟩⟩
theorem IOwn.sl {w : World} {B : Nat} {e : TypeId} {v : Value} {xs : List Int} (h : IOwn w B e v xs) : ∃ a cap, v = .slice a xs.length cap ∧ ISl w a xs.length xs ∧ xs.length ≤ maxLen := by
  rcases h.2 with ⟨rfl, hn⟩ | ⟨g, cap, cur, rfl, hb, hg, hnc, hcm, hcs, ht⟩
  · have hx : xs = [] := List.eq_nil_of_length_eq_zero hn
    subst hx
    exact ⟨none, 0, rfl, ⟨rfl, fun i hi => by simp at hi⟩, Nat.zero_le _⟩
  · refine ⟨some ⟨g, 0, none⟩, cap, rfl, ⟨rfl, fun i hi => ?_⟩, by omega⟩
    refine ⟨g, 0, rfl, ?_⟩
    have := World.ownsRow.cellAt h i (by omega)
    rw [Nat.zero_add, this]
    simp [hi]
theorem IOwn.sl' {w : World} {B : Nat} {e : TypeId} {v : Value} {xs : List Int} (h : IOwn w B e v xs) (n : Nat) (hn : xs.length = n) : ∃ a cap, v = .slice a n cap ∧ ISl w a n xs ∧ n ≤ maxLen := by
  subst hn; exact h.sl
theorem IOwn.block {w : World} {B : Nat} {e : TypeId} {v : Value} {xs : List Int} (h : IOwn w B e v xs) {k : Nat} (hk : v.ownBlock = some k) : B ≤ k ∧ k < w.heap.size := World.ownsRow.lt h k hk
theorem IOwn.okb {w : World} {lo k e : Nat} {v : Value} {xs : List Int} (h : IOwn w lo e v xs) (hk : k < lo ∨ w.okb e k = true) : v.ownBlock ≠ some k := by
  intro he
  rcases hk with hk | hk
  · have := (h.block he).1; omega
  · rcases h.2 with ⟨rfl, _⟩ | ⟨g, cap, cur, rfl, _, hg, _⟩
    · simp [Value.ownBlock] at he
    · simp only [Value.ownBlock, Option.some.injEq] at he
      subst he
      simp [World.okb, hg] at hk
/-- 'append(v, x)', one number, x laid in a block of its own. -/
theorem wpList_append_i {P : Program} {w : World} {ops : Array Oper} {rest : List Oper} {o : Oper} {a : Act} {Q : Exit → Act → World → Prop} (hgd : o.guard = none) {s x : Operand} {t : TypeId}
    (ho : o.op = .call { callee := .builtin .append, args := #[s, x], argTypes := #[t, t] }) {B : Nat} {e : TypeId} (i : TypeInfo) (ht : P.underlying t = some (.slice e)) (hi : P.info? e = some i) (hz : i.zero = some (.int .i64 0)) (hsize : i.size = 1) (hby : i.bytes = 8)
    {v : Value} {xs : List Int} (hs : a.eval s = v) (hown : IOwn w B e v xs) {ad : Addr} {c : Nat} {X : Int} (hx : a.eval x = .slice (some ad) 1 c) (hcell : w.cell? ad = some (.int .i64 X)) (hn : xs.length ≤ 1048576) (hB : B ≤ w.heap.size)
    (h : ∀ v' w', IOwn w' B e v' (xs ++ [X]) → w.grownBy w' v.ownBlock → wpList P ops Q rest (a.put o.dst v') w') : wpList P ops Q (o :: rest) a w := by
  refine wpList_append_own w hgd s x t ho B e i (.int .i64 0) 1 8 ht hi hz hsize hby rfl (by decide) v xs.length (xs.map (Value.int .i64)) hs hown ad 1 c [.int .i64 X] hx rfl ?_ ?_ (by unfold maxLen; omega) (by omega) hB ?_
  · intro j u hj
    match j, hj with
    | 0, hj => simp at hj; subst hj; simpa [Addr.add] using hcell
  · intro u hu; simp at hu; subst hu; rfl
  · intro v' w' h3 h4 _
    refine h v' w' ?_ h4
    show w'.ownsRow B e 1 v' (xs ++ [X]).length ((xs ++ [X]).map (Value.int .i64))
    simpa using h3
/-- Numbers of the call's own between two numbers of blocks. -/
def IIn (w : World) (lo hi : Nat) (e : Nat) (v : Value) (xs : List Int) : Prop := Own w lo hi e 1 v xs.length (xs.map (Value.int .i64))
theorem IOwn.fin {w : World} {lo : Nat} {e : TypeId} {v : Value} {xs : List Int} (h : IOwn w lo e v xs) : IIn w lo w.heap.size e v xs := ⟨h, fun k hk => (h.block hk).2⟩
theorem IIn.gr {w w' : World} {lo hi : Nat} {e : TypeId} {v : Value} {xs : List Int} (h : IIn w lo hi e v xs) (g : Gr w w') : IIn w' lo hi e v xs := Own.gr h g
theorem IIn.wrote {w w' : World} {lo hi lo' hi' e' size' n' : Nat} {e : TypeId} {v v' : Value} {xs : List Int} {xs' : List Value} (h : IIn w lo hi e v xs) (h' : Own w lo' hi' e' size' v' n' xs') (g : Wrote w w' v') (hd : hi ≤ lo' ∨ hi' ≤ lo) : IIn w' lo hi e v xs := Own.wrote h h' g hd
theorem IIn.sl {w : World} {lo hi : Nat} {e : TypeId} {v : Value} {xs : List Int} (h : IIn w lo hi e v xs) : ∃ a cap, v = .slice a xs.length cap ∧ ISl w a xs.length xs ∧ xs.length ≤ maxLen := IOwn.sl (B := lo) (e := e) h.own
theorem IIn.fsl {w : World} {lo hi : Nat} {e : TypeId} {a : Option Addr} {n cap : Nat} {xs : List Int} (h : IIn w lo hi e (.slice a n cap) xs) : ISl w a n xs := by
  obtain ⟨a', cap', e', h1, _⟩ := h.sl
  simp only [Value.slice.injEq] at e'
  obtain ⟨rfl, rfl, rfl⟩ := e'
  exact h1
theorem IIn.row {w : World} {lo hi : Nat} {e : TypeId} {v : Value} {xs : List Int} (h : IIn w lo hi e v xs) : ∃ vs, Own w lo hi e 1 v xs.length vs ∧ ∀ x ∈ vs, ∃ r, x = .int .i64 r :=
  ⟨_, h, fun x hx => by obtain ⟨r, _, hr⟩ := List.mem_map.1 hx; exact ⟨r, hr.symm⟩⟩
theorem IIn.swap {w w' : World} {os : Array Obj} {m m' lo hi : Nat} {e : TypeId} {v : Value} {xs : List Int} (h : IIn (w.grew os m) lo hi e v xs) (hB : w.heap.size ≤ lo) (hs : w.heap.size = w'.heap.size) : IIn (w'.grew os m') lo hi e v xs := Own.swap h hB hs
/-- Such a row that has come behind world c. -/
structure RowInI (c w : World) (e : TypeId) (v : Value) (L : List Int) : Prop where
  at_ : ∃ lo hi, c.heap.size ≤ lo ∧ hi ≤ w.heap.size ∧ IIn w lo hi e v L
theorem RowInI.of {c w w' : World} {lo hi : Nat} {e : TypeId} {v : Value} {L : List Int} (h : IIn w lo hi e v L) (g : Gr w w') (h1 : c.heap.size ≤ lo) (h2 : hi ≤ w.heap.size) : RowInI c w' e v L :=
  ⟨lo, hi, h1, Nat.le_trans h2 g.size, h.gr g⟩
theorem RowInI.swap {c w w' : World} {os : Array Obj} {m m' lo hi : Nat} {e : TypeId} {v : Value} {L : List Int} (h : IIn (w.grew os m) lo hi e v L) (hB : w.heap.size ≤ lo) (hs : w.heap.size = w'.heap.size) (h1 : c.heap.size ≤ lo) (h2 : hi ≤ (w'.grew os m').heap.size) : RowInI c (w'.grew os m') e v L :=
  ⟨lo, hi, h1, h2, h.swap hB hs⟩
/-- The marks of a list of numbers. -/
def marksI (k : Int) (n : Nat) : List Value := (List.range n).map fun (i : Nat) => Value.int .i64 (k + (i : Int))
end Go.Fx
namespace Go.Proofs.Ytaidkokgafojeaa
open Go.RowKit Go.Fx Go.Soft
/-- What a function that hands back numbers leaves. -/
def PostI (w : World) (ok : Bool) (L : List Int) (e : Ending) (w' : World) : Prop :=
  (∃ v, e = .returned (.tuple #[v, .bool ok]) ∧ IOwn w' w.heap.size 2 v L) ∧ Gr w w'
set_option maxRecDepth 20000 in
set_option maxHeartbeats 400000 in
theorem L_eqInt64S (a b : Option Addr) (n m ca cb : Nat) (xs : List Int) (w : World) (hs : ISl w a n xs) (ht : ISl w b m xs) (hn : n ≤ maxLen) :
    Calls Try.prog 48 #[.slice a n ca, .slice b m cb] w fun e w' => e = .returned (.bool true) ∧ Gr w w' := by
  obtain rfl := hs.len
  obtain rfl := ht.len
  unfold maxLen at hn
  have Hs := Lib.hid hs.at_
  have Ht := Lib.hid ht.at_
  clear hs ht
  go_enter Try.func48, Try.ntmps48
  go_wp2
  go_loopw [5] (fun i wr => ∃ k : Nat, k ≤ xs.length ∧ i = .int .i64 k ∧ ∃ n, wr = w.drewN n) (fun i _ => xs.length - (intOf i).toNat)
  case atStart => exact ⟨0, Nat.zero_le _, rfl, (by first | exact ⟨0, rfl⟩ | exact ⟨_, rfl⟩)⟩
  case round =>
    obtain ⟨k, hk, rfl, n, rfl⟩ := hrel
    by_cases hlt : k < xs.length
    · obtain ⟨b1, off1, rfl, hc1⟩ := Hs.out k hlt
      obtain ⟨b2, off2, rfl, hc2⟩ := Ht.out k hlt
      go_wp2
      apply region_drew 8
      case hm => kernel_rfl
      case hB => kernel_rfl
      simp only [List.take_succ_cons, List.take_zero, List.drop_succ_cons, List.drop_zero]
      repeat (first
        | (apply wpSoft_skip rfl; simp only [Act.put, List.setIfInBounds_toArray, List.set_cons_succ, List.set_cons_zero])
        | (apply wpSoft_nilCheck rfl rfl; simp only [Act.put, List.setIfInBounds_toArray, List.set_cons_succ, List.set_cons_zero])
        | ((with_reducible apply wpSoft_fop); (case hw => rfl); (case hD => exact closed_drew); (case hop => rfl); (case hx => rfl); (case hy => rfl); (case hA => (first | assumption | exact FE.ofInt _ _ | exact FE.lit (by decide +kernel))); (case hB => (first | assumption | exact FE.ofInt _ _ | exact FE.lit (by decide +kernel))); (intro r hr; simp only [Act.put, List.setIfInBounds_toArray, List.set_cons_succ, List.set_cons_zero]))

        | ((with_reducible apply wpSoft_widen); (case hw => rfl); (case hD => exact closed_drew); (case hs => exact Try.underlying65); (case hd => exact Try.underlying147); (case hx => rfl); (case hA => (first | assumption | exact FE.ofInt _ _ | exact FE.lit (by decide +kernel))); (intro r hr; simp only [Act.put, List.setIfInBounds_toArray, List.set_cons_succ, List.set_cons_zero]))
        | ((with_reducible apply wpSoft_fneg); (case hw => rfl); (case hx => rfl); (case hA => (first | assumption | exact FE.ofInt _ _ | exact FE.lit (by decide +kernel))); (intro r hr; simp only [Act.put, List.setIfInBounds_toArray, List.set_cons_succ, List.set_cons_zero]))
        | ((with_reducible apply wpSoft_fcmp); (case hw => rfl); (case hop => rfl); (case hx => rfl); (case hy => rfl); (case hA => (first | assumption | exact FE.ofInt _ _ | exact FE.lit (by decide +kernel))); (case hB => (first | assumption | exact FE.ofInt _ _ | exact FE.lit (by decide +kernel))); (case hb => (first | assumption | rfl)); simp only [Act.put, List.setIfInBounds_toArray, List.set_cons_succ, List.set_cons_zero])
        | (apply wpSoft_q rfl rfl; intro K hK; go_big_quiet_op; go_big_quiet_on))
      with_reducible apply wpSoft_nil
      intro m
      go_wp2
      go_roundw
      case rel => exact ⟨k + 1, by omega, by go_num, (by first | exact ⟨0, rfl⟩ | exact ⟨_, rfl⟩)⟩
      case measure => simp [intOf]; omega
    · obtain rfl : k = xs.length := by omega
      go_wp2
      go_ret
      exact ⟨rfl, (by (try show Gr _ _); repeat (with_reducible first | exact Gr.refl _ | refine Gr.drewN ?_ _ | refine Gr.grew ?_ _ _ | refine Gr.alloc ?_ _ | refine Gr.drew ?_))⟩
theorem listSet_takeI {l : List Value} {k : Nat} {v : Value} (hk : k < l.length) : (l.set k v).take (k + 1) = l.take k ++ [v] := by
  rw [List.take_succ_eq_append_getElem (by simpa using hk)]
  simp [List.take_set_of_le]
set_option maxRecDepth 20000 in
set_option maxHeartbeats 400000 in
theorem L_markInt64S (v : Value) (lo hi n : Nat) (vs : List Value) (k0 : Int) (w : World) (h : Own w lo hi 2 1 v n vs) (hv : ∀ x ∈ vs, ∃ r, x = .int .i64 r) (hk : 0 ≤ k0) (hn : n ≤ 1048576) (hk2 : k0 ≤ 1099511627776) :
    Calls Try.prog 50 #[v, .int .i64 k0] w fun e w' => e = .returned (.int .i64 (k0 + n)) ∧ Wrote w w' v ∧ Own w' lo hi 2 1 v n (marksI k0 n) := by
  have hl : vs.length = n := by simpa using h.own.1
  have ho := h.own
  rcases h.own.2 with ⟨rfl, rfl⟩ | ⟨g, cap, cur, rfl, hb, hg, hnc, hcm, hcs, ht⟩
  · have H := Lib.hid h
    clear h ho
    go_enter Try.func50, Try.ntmps50
    go_wp2
    refine wp_loop_rounds 1 ?_
    rw [rounds_succ]
    go_wp2
    go_ret
    exact ⟨by simp, ⟨⟨rfl, rfl, rfl, Nat.le_refl _, fun _ _ _ => rfl⟩⟩, ⟨⟨rfl, .inl ⟨rfl, rfl⟩⟩, H.out.hi⟩⟩
  · have Hh := Lib.hid h.hi
    have Hv := Lib.hid hv
    have Hl := Lib.hid hl
    have Ho := Lib.hid ho
    clear h hb hg hnc hcm hcs ht hv hl ho
    go_enter Try.func50, Try.ntmps50
    go_wp2
    go_loopw [1, 5] (fun q i wr => ∃ (k : Nat) (us : List Value), k ≤ n ∧ i = .int .i64 k ∧ q = .int .i64 (k0 + k) ∧ us.length = n ∧ (∀ x ∈ us, ∃ r, x = .int .i64 r) ∧ us.take k = marksI k0 k ∧
        wr.ownsRow lo 2 1 (.slice (some ⟨g, 0, none⟩) n cap) n us ∧ w.grownBy wr (some g)) (fun _ i _ => n - (intOf i).toNat)
    case atStart => exact ⟨0, vs, Nat.zero_le _, rfl, by simp, Hl.out, Hv.out, by simp [marksI], Ho.out, ⟨rfl, rfl, rfl, Nat.le_refl _, fun _ _ _ => rfl⟩⟩
    case round =>
      obtain ⟨k, us, hkn, rfl, rfl, hul, huf, hut, hown, hgb⟩ := hrel
      by_cases hlt : k < n
      · obtain ⟨old, hc⟩ : ∃ r, wr.cell? ⟨g, k, none⟩ = some (.int .i64 r) := by
          obtain ⟨r, hr⟩ := huf us[k] (List.getElem_mem (by omega))
          exact ⟨r, by rw [hown.cellAt k (by omega), List.getElem?_eq_getElem (by omega), hr]⟩
        have hz := hown.frozenAt k
        have H1 := Lib.hid hown
        have H2 := Lib.hid huf
        have H3 := Lib.hid hut
        have H4 := Lib.hid hul
        have H5 := Lib.hid hgb
        clear hown huf hut hul hgb
        go_wp2
        go_roundw
        case rel =>
          have hst := H1.out.stored k (.int .i64 (k0 + k))
          refine ⟨k + 1, us.set k (.int .i64 (k0 + k)), by omega, by go_num, by go_num, by rw [List.length_set]; exact H4.out, ?_, ?_, hst.1, ?_⟩
          · intro x hx
            rcases List.mem_or_eq_of_mem_set hx with hx | hx
            · exact H2.out x hx
            · exact ⟨_, hx⟩
          · rw [listSet_takeI (by have := H4.out; omega), H3.out]
            simp [marksI, List.range_succ]
          · exact ⟨hst.2.os.trans H5.out.os, hst.2.tape.trans H5.out.tape, hst.2.output.trans H5.out.output, Nat.le_trans H5.out.size hst.2.size, fun b hb hne => (hst.2.block b (Nat.lt_of_lt_of_le hb H5.out.size) hne).trans (H5.out.block b hb hne)⟩
        case measure => simp [intOf]; omega
      · obtain rfl : k = n := by omega
        have H1 := Lib.hid hown
        have H3 := Lib.hid hut
        have H4 := Lib.hid hul
        have H5 := Lib.hid hgb
        clear hown huf hut hul hgb
        go_wp2
        go_ret
        refine ⟨rfl, ⟨H5.out⟩, ⟨?_, Hh.out⟩⟩
        have e := H3.out
        rw [List.take_of_length_le (by have := H4.out; omega)] at e
        rw [← e]; exact H1.out
set_option maxRecDepth 20000 in
set_option maxHeartbeats 400000 in
theorem L_heldInt64S (v : Value) (lo hi n : Nat) (k0 : Int) (w : World) (h : Own w lo hi 2 1 v n (marksI k0 n)) (hk : 0 ≤ k0) (hn : n ≤ 1048576) (hk2 : k0 ≤ 1099511627776) :
    Calls Try.prog 52 #[v, .int .i64 k0] w fun e w' => e = .returned (.int .i64 (k0 + n)) ∧ Gr w w' := by
  have ho := h.own
  rcases h.own.2 with ⟨rfl, rfl⟩ | ⟨g, cap, cur, rfl, hb, hg, hnc, hcm, hcs, ht⟩
  · clear h ho
    go_enter Try.func52, Try.ntmps52
    go_wp2
    refine wp_loop_rounds 1 ?_
    rw [rounds_succ]
    go_wp2
    go_ret
    exact ⟨by simp, (by (try show Gr _ _); repeat (with_reducible first | exact Gr.refl _ | refine Gr.drewN ?_ _ | refine Gr.grew ?_ _ _ | refine Gr.alloc ?_ _ | refine Gr.drew ?_))⟩
  · have Ho := Lib.hid ho
    clear h hb hg hnc hcm hcs ht ho
    go_enter Try.func52, Try.ntmps52
    go_wp2
    go_loopw [1, 5] (fun q i wr => ∃ (k : Nat), k ≤ n ∧ i = .int .i64 k ∧ q = .int .i64 (k0 + k) ∧ ∃ q, wr = w.drewN q) (fun _ i _ => n - (intOf i).toNat)
    case atStart => exact ⟨0, Nat.zero_le _, rfl, by simp, (by first | exact ⟨0, rfl⟩ | exact ⟨_, rfl⟩)⟩
    case round =>
      obtain ⟨k, hkn, rfl, rfl, q, rfl⟩ := hrel
      by_cases hlt : k < n
      · have hc : w.cell? ⟨g, k, none⟩ = some (.int .i64 (k0 + (k : Int))) := by
          rw [Ho.out.cellAt k (by omega)]; simp [marksI, hlt]
        go_wp2
        go_roundw
        case rel => exact ⟨k + 1, by omega, by go_num, by go_num, (by first | exact ⟨0, rfl⟩ | exact ⟨_, rfl⟩)⟩
        case measure => simp [intOf]; omega
      · obtain rfl : k = n := by omega
        go_wp2
        go_ret
        exact ⟨rfl, (by (try show Gr _ _); repeat (with_reducible first | exact Gr.refl _ | refine Gr.drewN ?_ _ | refine Gr.grew ?_ _ _ | refine Gr.alloc ?_ _ | refine Gr.drew ?_))⟩
end Go.Proofs.Ytaidkokgafojeaa
