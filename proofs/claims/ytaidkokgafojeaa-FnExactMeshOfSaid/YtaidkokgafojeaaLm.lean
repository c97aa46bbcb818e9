/- The memory of a law: slices of the call's own, marked and read again. -/
import Derived.Test.YtaidkokgafojeaaC3
namespace Go
/-- The block b holds cells of a type other than t. -/
def World.okb (w : World) (t b : Nat) : Bool := match w.heap[b]? with
  | some (.cells _ e _) => e != t
  | _ => false
end Go
namespace Go.Fx
open Go Go.Soft Go.RowKit
theorem Gr.cell {w w' : World} (h : Gr w w') {b o : Nat} {v : Value} (c : w.cell? ⟨b, o, none⟩ = some v) : w'.cell? ⟨b, o, none⟩ = some v := by
  obtain ⟨os, m, rfl⟩ := h
  exact (cell?_grew w os m (by rw [c]; rfl)).trans c
theorem okb_lt {w : World} {t b : Nat} (h : w.okb t b = true) : b < w.heap.size := by
  rcases Nat.lt_or_ge b w.heap.size with h' | h'
  · exact h'
  · simp [World.okb, Array.getElem?_eq_none h'] at h
theorem okb_block {w w' : World} {t b : Nat} (h : w'.heap[b]? = w.heap[b]?) : w'.okb t b = w.okb t b := by unfold World.okb; rw [h]
@[go_sem] theorem okb_grew (w : World) (os : Array Obj) (m t b : Nat) (h : w.okb t b = true) : (w.grew os m).okb t b = true := by
  rw [okb_block (heap_grew w os m (okb_lt h))]; exact h
@[go_sem] theorem okb_alloc (w : World) (o : Obj) (t b : Nat) (h : w.okb t b = true) : (w.alloc o).okb t b = true := by
  rw [okb_block (Below.heap_alloc w o b (okb_lt h))]; exact h
@[go_sem] theorem okb_drewN (w : World) (n t b : Nat) : (w.drewN n).okb t b = w.okb t b := rfl
@[go_sem] theorem okb_alloc_at (w : World) (c : Array Value) (e t b : Nat) (hb : b = w.heap.size) : (w.alloc (.cells c e)).okb t b = (e != t) := by
  subst hb
  show (match (w.heap.push (.cells c e))[w.heap.size]? with | some (.cells _ e _) => e != t | _ => false) = _
  simp
/-- What a write into one row leaves: every block of another type. -/
structure Kb (t : Nat) (w w' : World) : Prop where
  cell : ∀ b o, w.okb t b = true → w'.cell? ⟨b, o, none⟩ = w.cell? ⟨b, o, none⟩
  frozen : ∀ b o, w.okb t b = true → w'.frozen? ⟨b, o, none⟩ = w.frozen? ⟨b, o, none⟩
  okb : ∀ b, w.okb t b = true → w'.okb t b = true
/-- A row of the call's own between two numbers of blocks. -/
structure Own (w : World) (lo hi : Nat) (e size : Nat) (v : Value) (n : Nat) (xs : List Value) : Prop where
  own : w.ownsRow lo e size v n xs
  hi : ∀ k, v.ownBlock = some k → k < hi
theorem Own.gr {w w' : World} {lo hi e size n : Nat} {v : Value} {xs : List Value} (h : Own w lo hi e size v n xs) (g : Gr w w') : Own w' lo hi e size v n xs := ⟨own_gr h.own g, h.hi⟩
/-- The row of v has been written, nothing else of the old. -/
structure Wrote (w w' : World) (v : Value) : Prop where
  by_ : w.grownBy w' v.ownBlock
theorem Own.wrote {w w' : World} {lo hi lo' hi' e e' size size' n n' : Nat} {v v' : Value} {xs xs' : List Value} (h : Own w lo hi e size v n xs) (h' : Own w lo' hi' e' size' v' n' xs') (g : Wrote w w' v') (hd : hi ≤ lo' ∨ hi' ≤ lo) : Own w' lo hi e size v n xs := by
  refine ⟨h.own.kept g.by_ ?_, h.hi⟩
  cases hv : v.ownBlock with
  | none => exact .inl rfl
  | some k =>
    right
    intro e
    have h1 := h.own.lt k hv
    have h2 := h.hi k hv
    have h3 := h'.own.lt k e.symm
    have h4 := h'.hi k e.symm
    omega
theorem Gr.wrote {w0 w w' : World} {lo hi e size n : Nat} {v : Value} {xs : List Value} (g : Gr w0 w) (h : Own w lo hi e size v n xs) (k : Wrote w w' v) (hl : w0.heap.size ≤ lo) : Gr w0 w' :=
  g.grownBy k.by_ (fun b hb => Nat.le_trans hl (h.own.lt b hb).1)
theorem Kb.wrote {w w' : World} {lo hi e size n : Nat} {v : Value} {xs : List Value} (h : Own w lo hi e size v n xs) (k : Wrote w w' v) : Kb e w w' := by
  have key : ∀ b, w.okb e b = true → w'.heap[b]? = w.heap[b]? := by
    intro b hb
    refine k.by_.block b (okb_lt hb) ?_
    intro he
    rcases h.own.2 with ⟨rfl, _⟩ | ⟨g, cap, cur, rfl, _, hg, _⟩
    · simp [Value.ownBlock] at he
    · simp only [Value.ownBlock, Option.some.injEq] at he
      subst he
      simp [World.okb, hg] at hb
  exact ⟨fun b o hb => World.cell?_of_block (w := w) (a := ⟨b, o, none⟩) (key b hb), fun b o hb => World.frozen?_of_block (w := w) (a := ⟨b, o, none⟩) (key b hb), fun b hb => by rw [okb_block (key b hb)]; exact hb⟩
/-- Floats of the call's own. -/
def FIn (w : World) (lo hi : Nat) (e : Nat) (v : Value) (xs : List Nat) : Prop := ∃ rs, FEs rs xs ∧ Own w lo hi e 1 v rs.length (rs.map (Value.float .f32))
theorem FOwn.fin {w : World} {lo : Nat} {e : TypeId} {v : Value} {xs : List Nat} (h : FOwn w lo e v xs) : FIn w lo w.heap.size e v xs := by
  obtain ⟨rs, h1, h2⟩ := h
  exact ⟨rs, h1, h2, fun k hk => (h2.lt k hk).2⟩
theorem FIn.fown {w : World} {lo hi : Nat} {e : TypeId} {v : Value} {xs : List Nat} (h : FIn w lo hi e v xs) : FOwn w lo e v xs := by
  obtain ⟨rs, h1, h2⟩ := h; exact ⟨rs, h1, h2.own⟩
theorem FIn.gr {w w' : World} {lo hi : Nat} {e : TypeId} {v : Value} {xs : List Nat} (h : FIn w lo hi e v xs) (g : Gr w w') : FIn w' lo hi e v xs := by
  obtain ⟨rs, h1, h2⟩ := h; exact ⟨rs, h1, h2.gr g⟩
theorem FIn.wrote {w w' : World} {lo hi lo' hi' e' size' n' : Nat} {e : TypeId} {v v' : Value} {xs : List Nat} {xs' : List Value} (h : FIn w lo hi e v xs) (h' : Own w lo' hi' e' size' v' n' xs') (g : Wrote w w' v') (hd : hi ≤ lo' ∨ hi' ≤ lo) : FIn w' lo hi e v xs := by
  obtain ⟨rs, h1, h2⟩ := h; exact ⟨rs, h1, h2.wrote h' g hd⟩
/-- The marks of a list of floats. -/
def marks (k : Int) (n : Nat) : List Value := (List.range n).map fun (i : Nat) => Value.float .f32 (floatOfInt .f32 (k + (i : Int)))
theorem marks_length (k : Int) (n : Nat) : (marks k n).length = n := by simp [marks]
end Go.Fx
namespace Go.Proofs.Ytaidkokgafojeaa
open Go.RowKit Go.Fx Go.Soft
theorem listSet_take {l : List Value} {k : Nat} {v : Value} (hk : k < l.length) : (l.set k v).take (k + 1) = l.take k ++ [v] := by
  rw [List.take_succ_eq_append_getElem (by simpa using hk)]
  simp [List.take_set_of_le]
set_option maxHeartbeats 400000 in
theorem L_markFloat32S (v : Value) (lo hi n : Nat) (vs : List Value) (k0 : Int) (w : World) (h : Own w lo hi 65 1 v n vs) (hv : ∀ x ∈ vs, ∃ r, x = .float .f32 r) (hk : 0 ≤ k0) (hn : n ≤ 1048576) (hk2 : k0 ≤ 1099511627776) :
    Calls Try.prog 63 #[v, .int .i64 k0] w fun e w' => e = .returned (.int .i64 (k0 + n)) ∧ Wrote w w' v ∧ Own w' lo hi 65 1 v n (marks k0 n) := by
  have hl : vs.length = n := by simpa using h.own.1
  have ho := h.own
  rcases h.own.2 with ⟨rfl, rfl⟩ | ⟨g, cap, cur, rfl, hb, hg, hnc, hcm, hcs, ht⟩
  · have H := Lib.hid h
    clear h ho
    go_enter Try.func63, Try.ntmps63
    go_wp2
    refine wp_loop_rounds 1 ?_
    rw [rounds_succ]
    go_wp2
    go_ret
    exact ⟨by simp, ⟨⟨rfl, rfl, rfl, Nat.le_refl _, fun _ _ _ => rfl⟩⟩, ⟨⟨rfl, .inl ⟨rfl, rfl⟩⟩, H.out.hi⟩⟩
  · have Hh := Lib.hid h.hi
    have Hv := Lib.hid hv
    have Hl := Lib.hid hl
    have Ho := Lib.hid ho
    clear h hb hg hnc hcm hcs ht hv hl ho
    go_enter Try.func63, Try.ntmps63
    go_wp2
    go_loopw [1, 5] (fun q i wr => ∃ (k : Nat) (us : List Value), k ≤ n ∧ i = .int .i64 k ∧ q = .int .i64 (k0 + k) ∧ us.length = n ∧ (∀ x ∈ us, ∃ r, x = .float .f32 r) ∧ us.take k = marks k0 k ∧
        wr.ownsRow lo 65 1 (.slice (some ⟨g, 0, none⟩) n cap) n us ∧ w.grownBy wr (some g)) (fun _ i _ => n - (intOf i).toNat)
    case atStart => exact ⟨0, vs, Nat.zero_le _, rfl, by simp, Hl.out, Hv.out, by simp [marks], Ho.out, ⟨rfl, rfl, rfl, Nat.le_refl _, fun _ _ _ => rfl⟩⟩
    case round =>
      obtain ⟨k, us, hkn, rfl, rfl, hul, huf, hut, hown, hgb⟩ := hrel
      by_cases hlt : k < n
      · obtain ⟨old, hc⟩ : ∃ r, wr.cell? ⟨g, k, none⟩ = some (.float .f32 r) := by
          obtain ⟨r, hr⟩ := huf us[k] (List.getElem_mem (by omega))
          exact ⟨r, by rw [hown.cellAt k (by omega), List.getElem?_eq_getElem (by omega), hr]⟩
        have hz := hown.frozenAt k
        have H1 := Lib.hid hown
        have H2 := Lib.hid huf
        have H3 := Lib.hid hut
        have H4 := Lib.hid hul
        have H5 := Lib.hid hgb
        clear hown huf hut hul hgb
        go_wp2
        go_roundw
        case rel =>
          have hst := H1.out.stored k (.float .f32 (floatOfInt .f32 (k0 + k)))
          refine ⟨k + 1, us.set k (.float .f32 (floatOfInt .f32 (k0 + k))), by omega, by go_num, by go_num, by rw [List.length_set]; exact H4.out, ?_, ?_, hst.1, ?_⟩
          · intro x hx
            rcases List.mem_or_eq_of_mem_set hx with hx | hx
            · exact H2.out x hx
            · exact ⟨_, hx⟩
          · rw [listSet_take (by have := H4.out; omega), H3.out]
            simp [marks, List.range_succ]
          · exact ⟨hst.2.os.trans H5.out.os, hst.2.tape.trans H5.out.tape, hst.2.output.trans H5.out.output, Nat.le_trans H5.out.size hst.2.size, fun b hb hne => (hst.2.block b (Nat.lt_of_lt_of_le hb H5.out.size) hne).trans (H5.out.block b hb hne)⟩
        case measure => simp [intOf]; omega
      · obtain rfl : k = n := by omega
        have H1 := Lib.hid hown
        have H3 := Lib.hid hut
        have H4 := Lib.hid hul
        have H5 := Lib.hid hgb
        clear hown huf hut hul hgb
        go_wp2
        go_ret
        refine ⟨rfl, ⟨H5.out⟩, ⟨?_, Hh.out⟩⟩
        have e := H3.out
        rw [List.take_of_length_le (by have := H4.out; omega)] at e
        rw [← e]; exact H1.out
set_option maxHeartbeats 400000 in
theorem L_heldFloat32S (v : Value) (lo hi n : Nat) (k0 : Int) (w : World) (h : Own w lo hi 65 1 v n (marks k0 n)) (hk : 0 ≤ k0) (hn : n ≤ 1048576) (hk2 : k0 ≤ 1099511627776) :
    Calls Try.prog 64 #[v, .int .i64 k0] w fun e w' => e = .returned (.int .i64 (k0 + n)) ∧ ∃ q, w' = w.drewN q := by
  have ho := h.own
  rcases h.own.2 with ⟨rfl, rfl⟩ | ⟨g, cap, cur, rfl, hb, hg, hnc, hcm, hcs, ht⟩
  · clear h ho
    go_enter Try.func64, Try.ntmps64
    go_wp2
    refine wp_loop_rounds 1 ?_
    rw [rounds_succ]
    go_wp2
    go_ret
    exact ⟨by simp, (by first | exact ⟨0, rfl⟩ | exact ⟨_, rfl⟩)⟩
  · have Ho := Lib.hid ho
    clear h hb hg hnc hcm hcs ht ho
    go_enter Try.func64, Try.ntmps64
    go_wp2
    go_loopw [1, 5] (fun q i wr => ∃ (k : Nat), k ≤ n ∧ i = .int .i64 k ∧ q = .int .i64 (k0 + k) ∧ ∃ q, wr = w.drewN q) (fun _ i _ => n - (intOf i).toNat)
    case atStart => exact ⟨0, Nat.zero_le _, rfl, by simp, (by first | exact ⟨0, rfl⟩ | exact ⟨_, rfl⟩)⟩
    case round =>
      obtain ⟨k, hkn, rfl, rfl, q, rfl⟩ := hrel
      by_cases hlt : k < n
      · have hc : w.cell? ⟨g, k, none⟩ = some (.float .f32 (floatOfInt .f32 (k0 + (k : Int)))) := by
          rw [Ho.out.cellAt k (by omega)]; simp [marks, hlt]
        have f1 := FE.ofInt .f32 (k0 + (k : Int))
        have c1 := fcmp_neq_self (isN_ofInt .f32 (k0 + (k : Int)))
        go_wp2_with ((with_reducible apply wpList_fcmp); (case hw => rfl); (case hop => rfl); (case hx => rfl); (case hy => rfl); (case hA => assumption); (case hB => assumption); (case hb => (first | assumption | rfl)))
        go_roundw
        case rel => exact ⟨k + 1, by omega, by go_num, by go_num, (by first | exact ⟨0, rfl⟩ | exact ⟨_, rfl⟩)⟩
        case measure => simp [intOf]; omega
      · obtain rfl : k = n := by omega
        go_wp2
        go_ret
        exact ⟨rfl, (by first | exact ⟨0, rfl⟩ | exact ⟨_, rfl⟩)⟩
end Go.Proofs.Ytaidkokgafojeaa
