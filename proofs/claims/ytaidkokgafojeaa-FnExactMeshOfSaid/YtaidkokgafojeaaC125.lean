/- Contracts: rows of three that are compared, marked and read again. MAXREC -/
import Derived.Test.YtaidkokgafojeaaProg
import Derived.Test.YtaidkokgafojeaaC43
import Derived.Test.YtaidkokgafojeaaMf
import Derived.Deep.DeepCutAuto
import Derived.Test.YtaidkokgafojeaaTr
import Derived.Test.YtaidkokgafojeaaLw
import Derived.Test.YtaidkokgafojeaaC74
namespace Go.Fx
open Go Go.Soft Go.RowKit
/-- Rows of three of the call's own between two numbers of blocks. -/
structure TriIn (w : World) (lo hi : Nat) (eo ei : TypeId) (v : Value) (ts : List (List Int)) : Prop where
  ex : ∃ bs : List Nat, bs.length = ts.length ∧ Own w lo hi eo 1 v bs.length (bs.map hdr3) ∧ bs.Nodup ∧ ∀ i (h : i < bs.length), (lo ≤ bs[i] ∧ bs[i] < hi) ∧ ∃ x y z, ts[i]? = some [x, y, z] ∧ Blk w bs[i] [.int .i64 x, .int .i64 y, .int .i64 z] ei
theorem TriOwn.fin {w : World} {B : Nat} {eo ei : TypeId} {v : Value} {ts : List (List Int)} (h : TriOwn w B w.heap.size eo ei v ts) : TriIn w B w.heap.size eo ei v ts := by
  obtain ⟨bs, h1, h2, h3, h4⟩ := h.ex
  exact ⟨bs, h1, ⟨h2, fun k hk => (h2.lt k hk).2⟩, h3, h4⟩
theorem TriOwn.sl {w : World} {B N : Nat} {eo ei : TypeId} {v : Value} {ts : List (List Int)} (h : TriOwn w B N eo ei v ts) : ∃ a c, v = .slice a ts.length c ∧ True ∧ True := by
  obtain ⟨a, c, e⟩ := h.form
  exact ⟨a, c, e, trivial, trivial⟩
theorem TriIn.sl {w : World} {lo hi : Nat} {eo ei : TypeId} {v : Value} {ts : List (List Int)} (h : TriIn w lo hi eo ei v ts) : ∃ a c, v = .slice a ts.length c ∧ True ∧ True := by
  obtain ⟨bs, h1, h2, h3, h4⟩ := h.ex
  obtain ⟨a, c, e⟩ := own_form h2.own
  exact ⟨a, c, by rw [← h1]; exact e, trivial, trivial⟩
theorem TriIn.gr {w w' : World} {lo hi : Nat} {eo ei : TypeId} {v : Value} {ts : List (List Int)} (h : TriIn w lo hi eo ei v ts) (g : Gr w w') : TriIn w' lo hi eo ei v ts := by
  obtain ⟨bs, h1, h2, h3, h4⟩ := h.ex
  exact ⟨bs, h1, h2.gr g, h3, fun i hi => by
    obtain ⟨hb, x, y, z, e, hB⟩ := h4 i hi
    exact ⟨hb, x, y, z, e, hB.gr g⟩⟩
theorem TriIn.wrote {w w' : World} {lo hi lo' hi' e' size' n' : Nat} {eo ei : TypeId} {v v' : Value} {ts : List (List Int)} {xs' : List Value} (h : TriIn w lo hi eo ei v ts) (h' : Own w lo' hi' e' size' v' n' xs') (g : Wrote w w' v') (hd : hi ≤ lo' ∨ hi' ≤ lo) : TriIn w' lo hi eo ei v ts := by
  obtain ⟨bs, h1, h2, h3, h4⟩ := h.ex
  exact ⟨bs, h1, h2.wrote h' g hd, h3, fun i hi => by
    obtain ⟨hb, x, y, z, e, hB⟩ := h4 i hi
    refine ⟨hb, x, y, z, e, hB.of (g.by_.block _ hB.lt ?_)⟩
    intro he
    have a1 := (h'.own.lt _ he.symm).1
    have a2 := h'.hi _ he.symm
    omega⟩
theorem TriIn.wroteT {w w' : World} {lo hi lo' hi' e' size' n' : Nat} {eo ei : TypeId} {v v' : Value} {ts : List (List Int)} {xs' : List Value} (h : TriIn w lo hi eo ei v ts) (h' : Own w lo' hi' e' size' v' n' xs') (g : Wrote w w' v') (ht : eo ≠ e' ∧ ei ≠ e') : TriIn w' lo hi eo ei v ts := by
  obtain ⟨bs, h1, h2, h3, h4⟩ := h.ex
  exact ⟨bs, h1, h2.wroteT h' g ht.1, h3, fun i hi => by
    obtain ⟨hb, x, y, z, e, hB⟩ := h4 i hi
    exact ⟨hb, x, y, z, e, hB.wrote h' g ht.2⟩⟩
theorem Blk.swap {w w' : World} {os : Array Obj} {m m' b : Nat} {cs : List Value} {t : TypeId} (h : Blk (w.grew os m) b cs t) (hB : w.heap.size ≤ b) (hs : w.heap.size = w'.heap.size) : Blk (w'.grew os m') b cs t := by
  have h1 := h.at_
  refine ⟨?_⟩
  have e : ∀ (u : World) (k : Nat), u.heap.size ≤ b → (u.grew os k).heap[b]? = os[b - u.heap.size]? := fun u k hb => by
    show (u.heap ++ os)[b]? = _
    rw [Array.getElem?_append_right hb]
  rw [e w m hB] at h1
  rw [e w' m' (by omega), ← hs]
  exact h1
theorem TriIn.swap {w w' : World} {os : Array Obj} {m m' lo hi : Nat} {eo ei : TypeId} {v : Value} {ts : List (List Int)} (h : TriIn (w.grew os m) lo hi eo ei v ts) (hB : w.heap.size ≤ lo) (hs : w.heap.size = w'.heap.size) : TriIn (w'.grew os m') lo hi eo ei v ts := by
  obtain ⟨bs, h1, h2, h3, h4⟩ := h.ex
  exact ⟨bs, h1, h2.swap hB hs, h3, fun i hi => by
    obtain ⟨hb, x, y, z, e, hC⟩ := h4 i hi
    exact ⟨hb, x, y, z, e, hC.swap (by omega) hs⟩⟩
/-- Vectors and rows of three that have come behind world c. -/
structure RowInVT (c w : World) (e eo ei : TypeId) (v u : Value) (n : Nat) (L : List Nat) (ts : List (List Int)) : Prop where
  at_ : ∃ lo hi, c.heap.size ≤ lo ∧ hi ≤ w.heap.size ∧ VIn w lo hi e v n L ∧ TriIn w lo hi eo ei u ts
theorem RowInVT.of {c w w' : World} {lo hi n : Nat} {e eo ei : TypeId} {v u : Value} {L : List Nat} {ts : List (List Int)} (h : VIn w lo hi e v n L) (h' : TriIn w lo hi eo ei u ts) (g : Gr w w') (h1 : c.heap.size ≤ lo) (h2 : hi ≤ w.heap.size) : RowInVT c w' e eo ei v u n L ts :=
  ⟨lo, hi, h1, Nat.le_trans h2 g.size, h.gr g, h'.gr g⟩
theorem RowInVT.swap {c w w' : World} {os : Array Obj} {m m' lo hi n : Nat} {e eo ei : TypeId} {v u : Value} {L : List Nat} {ts : List (List Int)} (h : VIn (w.grew os m) lo hi e v n L) (h' : TriIn (w.grew os m) lo hi eo ei u ts) (hB : w.heap.size ≤ lo) (hs : w.heap.size = w'.heap.size) (h1 : c.heap.size ≤ lo) (h2 : hi ≤ (w'.grew os m').heap.size) : RowInVT c (w'.grew os m') e eo ei v u n L ts :=
  ⟨lo, hi, h1, h2, h.swap hB hs, h'.swap hB hs⟩
/-! ### What is written into blocks of one type -/
/-- w' is w but for blocks of the type t from lo to hi. -/
structure WroteT (w w' : World) (lo hi t : Nat) : Prop where
  os : w'.os = w.os
  tape : w'.tape = w.tape
  output : w'.output = w.output
  size : w.heap.size ≤ w'.heap.size
  block : ∀ b, b < w.heap.size → (b < lo ∨ hi ≤ b ∨ w.okb t b = true) → w'.heap[b]? = w.heap[b]?
theorem WroteT.refl (w : World) (lo hi t : Nat) : WroteT w w lo hi t := ⟨rfl, rfl, rfl, Nat.le_refl _, fun _ _ _ => rfl⟩
theorem WroteT.trans {w w' w'' : World} {lo hi t : Nat} (h : WroteT w w' lo hi t) (g : WroteT w' w'' lo hi t) : WroteT w w'' lo hi t :=
  ⟨g.os.trans h.os, g.tape.trans h.tape, g.output.trans h.output, Nat.le_trans h.size g.size, fun b hb hd => by
    have e := h.block b hb hd
    refine (g.block b (Nat.lt_of_lt_of_le hb h.size) ?_).trans e
    rcases hd with hd | hd | hd
    · exact .inl hd
    · exact .inr (.inl hd)
    · exact .inr (.inr (by rw [okb_block e]; exact hd))⟩
theorem WroteT.of {w w' : World} {lo hi b n size : Nat} {t : TypeId} {v : Value} {xs : List Value} (h : Own w b (b + 1) t size v n xs) (g : Wrote w w' v) (h1 : lo ≤ b) (h2 : b < hi) : WroteT w w' lo hi t :=
  ⟨g.by_.os, g.by_.tape, g.by_.output, g.by_.size, fun k hk hd => g.by_.block k hk (fun he => by
    have a1 := (h.own.lt k he.symm).1
    have a2 := h.hi k he.symm
    rcases hd with hd | hd | hd
    · omega
    · omega
    · exact own_ne h.own hd he.symm)⟩
theorem WroteT.blk {w w' : World} {lo hi b t : Nat} {cs : List Value} {t' : TypeId} (h : WroteT w w' lo hi t) (hB : Blk w b cs t') (ht : t' ≠ t) : Blk w' b cs t' :=
  hB.of (h.block b hB.lt (.inr (.inr (by simp [World.okb, hB.at_, ht]))))
theorem WroteT.gr {w0 w w' : World} {lo hi t : Nat} (h : WroteT w w' lo hi t) (g : Gr w0 w) (hl : w0.heap.size ≤ lo) : Gr w0 w' := by
  refine Gr.of_below ?_
  have h' := g.below
  exact ⟨h.os.trans h'.os, h.tape.trans h'.tape, h.output.trans h'.output, Nat.le_trans h'.size h.size, fun k hk => (h.block k (Nat.lt_of_lt_of_le hk h'.size) (.inl (by omega))).trans (h'.block k hk)⟩
theorem WroteT.own {w w' : World} {lo hi l u e size n t : Nat} {v : Value} {xs : List Value} (h : WroteT w w' lo hi t) (o : Own w l u e size v n xs) (hd : e ≠ t) : Own w' l u e size v n xs := by
  refine ⟨⟨o.own.1, ?_⟩, o.hi⟩
  rcases o.own.2 with h2 | ⟨g, cap, cur, hv, hb, hg, r⟩
  · exact .inl h2
  · refine .inr ⟨g, cap, cur, hv, hb, ?_, r⟩
    have hlt := o.own.lt g (by rw [hv]; rfl)
    rw [h.block g hlt.2 (.inr (.inr (by simp [World.okb, hg, hd])))]; exact hg
theorem WroteT.fin {w w' : World} {lo hi l u t : Nat} {e : TypeId} {v : Value} {xs : List Nat} (h : WroteT w w' lo hi t) (f : FIn w l u e v xs) (hd : e ≠ t) : FIn w' l u e v xs := by
  obtain ⟨rs, h1, h2⟩ := f; exact ⟨rs, h1, h.own h2 hd⟩
theorem WroteT.vin {w w' : World} {lo hi l u n t : Nat} {e : TypeId} {v : Value} {xs : List Nat} (h : WroteT w w' lo hi t) (f : VIn w l u e v n xs) (hd : e ≠ t) : VIn w' l u e v n xs := by
  obtain ⟨rs, h1, h2⟩ := f; exact ⟨rs, h1, h.own h2 hd⟩
theorem WroteT.tri {w w' : World} {lo hi l u t : Nat} {eo ei : TypeId} {v : Value} {ts : List (List Int)} (h : WroteT w w' lo hi t) (f : TriIn w l u eo ei v ts) (ho : eo ≠ t) (hd : u ≤ lo ∨ hi ≤ l) : TriIn w' l u eo ei v ts := by
  obtain ⟨bs, h1, h2, h3, h4⟩ := f.ex
  exact ⟨bs, h1, h.own h2 ho, h3, fun i hi => by
    obtain ⟨hb, x, y, z, e, hC⟩ := h4 i hi
    exact ⟨hb, x, y, z, e, hC.of (h.block _ hC.lt (by omega))⟩⟩
/-- A block of three is a row of the call's own. -/
theorem Blk.row3 {w : World} {b : Nat} {x y z : Int} {t : TypeId} (h : Blk w b [.int .i64 x, .int .i64 y, .int .i64 z] t) : Own w b (b + 1) t 1 (hdr3 b) 3 [.int .i64 x, .int .i64 y, .int .i64 z] :=
  ⟨⟨rfl, .inr ⟨b, 3, #[.int .i64 x, .int .i64 y, .int .i64 z], rfl, Nat.le_refl _, h.at_, Nat.le_refl _, by unfold maxLen; omega, rfl, rfl⟩⟩, fun k hk => by
    simp only [hdr3, Value.ownBlock, Option.some.injEq] at hk
    omega⟩
theorem Own.blk3 {w : World} {b : Nat} {x y z : Int} {t : TypeId} (h : Own w b (b + 1) t 1 (hdr3 b) 3 [.int .i64 x, .int .i64 y, .int .i64 z]) : Blk w b [.int .i64 x, .int .i64 y, .int .i64 z] t := by
  rcases h.own.2 with ⟨hv, _⟩ | ⟨g, cap, cur, hv, hb, hg, h1, h2, h3, h4⟩
  · simp [hdr3] at hv
  · simp only [hdr3, Value.slice.injEq, Option.some.injEq, Addr.mk.injEq, and_true, true_and] at hv
    obtain ⟨rfl, rfl⟩ := hv
    refine ⟨?_⟩
    rw [hg]
    have e : cur.toList = [.int .i64 x, .int .i64 y, .int .i64 z] := by
      rw [← h4, List.take_of_length_le (by simp [h3])]
    rw [← e]
/-- A block of three is read as a row. -/
theorem Blk.isl3 {w : World} {b : Nat} {x y z : Int} {t : TypeId} (h : Blk w b [.int .i64 x, .int .i64 y, .int .i64 z] t) : ISl w (some ⟨b, 0, none⟩) 3 [x, y, z] :=
  ⟨rfl, fun i hi => ⟨b, 0, rfl, by
    rw [Nat.zero_add, h.cell i]
    match i, hi with
    | 0, _ => rfl
    | 1, _ => rfl
    | 2, _ => rfl⟩⟩
/-- The marks of rows of three. -/
def tmarks (k : Int) (n : Nat) : List (List Int) := (List.range n).map fun (j : Nat) => [k + ((3 * j : Nat) : Int), k + ((3 * j : Nat) : Int) + 1, k + ((3 * j : Nat) : Int) + 2]
theorem tmarks_length (k : Int) (n : Nat) : (tmarks k n).length = n := by simp [tmarks]
theorem tmarks_get (k : Int) {n j : Nat} (h : j < n) : (tmarks k n)[j]? = some [k + ((3 * j : Nat) : Int), k + ((3 * j : Nat) : Int) + 1, k + ((3 * j : Nat) : Int) + 2] := by simp [tmarks, h]
end Go.Fx
namespace Go.Fx
open Go Go.Soft Go.RowKit
theorem TriIn.at_ {w : World} {lo hi n c : Nat} {a : Option Addr} {eo ei : TypeId} {ts : List (List Int)} (h : TriIn w lo hi eo ei (.slice a n c) ts) : n = ts.length ∧ ∀ i, i < ts.length → ∃ g b x y z, a = some ⟨g, 0, none⟩ ∧ w.cell? ⟨g, i, none⟩ = some (.slice (some ⟨b, 0, none⟩) 3 3) ∧ ts[i]? = some [x, y, z] ∧ Blk w b [.int .i64 x, .int .i64 y, .int .i64 z] ei := by
  have hl : n = ts.length := by
    obtain ⟨a', c', e, -, -⟩ := h.sl
    cases e; rfl
  refine ⟨hl, fun i hi => ?_⟩
  obtain ⟨bs, h1, h2, h3, h4⟩ := h.ex
  have hib : i < bs.length := by omega
  obtain ⟨-, x, y, z, e, hB⟩ := h4 i hib
  rcases h2.own.2 with ⟨hv, h0⟩ | ⟨g, cap, cur, hv, _⟩
  · omega
  · simp only [Value.slice.injEq] at hv
    obtain ⟨rfl, rfl, rfl⟩ := hv
    refine ⟨g, bs[i], x, y, z, rfl, ?_, e, hB⟩
    have := World.ownsRow.cellAt h2.own i (by omega)
    rw [this, List.getElem?_map, List.getElem?_eq_getElem hib]
    rfl
theorem marksI_three (K : Int) : marksI K 3 = [.int .i64 K, .int .i64 (K + 1), .int .i64 (K + 2)] := by simp [marksI, List.range_succ]
end Go.Fx
namespace Go.Proofs.Ytaidkokgafojeaa
open Go.RowKit Go.Fx Go.Soft
set_option maxRecDepth 20000 in
set_option maxHeartbeats 2000000 in
theorem L_eqInt64SS (a b : Option Addr) (n m ca cb lo hi lo' hi' : Nat) (ts : List (List Int)) (w : World) (h : TriIn w lo hi 71 2 (.slice a n ca) ts) (h' : TriIn w lo' hi' 71 2 (.slice b m cb) ts) (hn : ts.length ≤ 1048576) :
    Calls Try.prog 55 #[.slice a n ca, .slice b m cb] w fun e w' => e = .returned (.bool true) ∧ Gr w w' := by
  obtain ⟨rfl, h1⟩ := h.at_
  obtain ⟨rfl, h2⟩ := h'.at_
  have H1 := Lib.hid h1
  have H2 := Lib.hid h2
  clear h h' h1 h2
  obtain ⟨n, hnn⟩ : ∃ n, n = ts.length := ⟨_, rfl⟩
  rw [← hnn] at hn ⊢
  have HN := Lib.hid hnn
  clear hnn
  go_enter Try.func55, Try.ntmps55
  go_wp2
  go_loopw [5] (fun i wr => ∃ k : Nat, k ≤ n ∧ i = .int .i64 k ∧ Gr w wr) (fun i _ => n - (intOf i).toNat)
  case atStart => exact ⟨0, Nat.zero_le _, rfl, (by (try show Gr _ _); repeat (with_reducible first | exact Gr.refl _ | refine Gr.drewN ?_ _ | refine Gr.grew ?_ _ _ | refine Gr.alloc ?_ _ | refine Gr.drew ?_))⟩
  case round =>
    obtain ⟨k, hk, rfl, hg⟩ := hrel
    by_cases hlt : k < n
    · obtain ⟨g1, b1, x, y, z, rfl, c1, t1, B1⟩ := H1.out k (by rw [← HN.out]; exact hlt)
      obtain ⟨g2, b2, x', y', z', rfl, c2, t2, B2⟩ := H2.out k (by rw [← HN.out]; exact hlt)
      have e := t1.symm.trans t2
      simp only [Option.some.injEq, List.cons.injEq, and_true] at e
      obtain ⟨rfl, rfl, rfl⟩ := e
      have LE := Lib.hid (fun w1 (g : Gr wr w1) => show Calls Try.prog 48 #[.slice (some ⟨b1, 0, none⟩) 3 3, .slice (some ⟨b2, 0, none⟩) 3 3] w1 (fun e w' => e = .returned (.bool true) ∧ ∃ os m, w' = w1.grew os m) from L_eqInt64S (some ⟨b1, 0, none⟩) (some ⟨b2, 0, none⟩) 3 3 3 3 [x, y, z] w1 ((B1.gr hg).gr g).isl3 ((B2.gr hg).gr g).isl3 (by unfold maxLen; omega))
      have d1 := hg.cell c1
      have d2 := hg.cell c2
      have Hg := Lib.hid hg
      clear hg c1 c2 t1 t2 B1 B2
      go_wp2
      apply region_grew 9
      case hm => kernel_rfl
      case hB => kernel_rfl
      simp only [List.take_succ_cons, List.take_zero, List.drop_succ_cons, List.drop_zero]
      repeat (first
        | ((with_reducible apply wpSoft_calleq (f := 48)); (case hw => rfl); (case hc => exact Try.call48); (case hv => ((conv => lhs; simp [Act.eval]); try rfl)); (case hS => (rintro _ ⟨⟨os, m⟩, rfl⟩; with_reducible refine (LE.out _ ((Gr.refl _).grew os m)).mono ?_; rintro e w' ⟨rfl, os2, m2, rfl⟩; exact ⟨rfl, ⟨⟨_, _⟩, grew_grew _ _ _ _ _⟩⟩)); (simp only [Act.put, List.setIfInBounds_toArray, List.set_cons_succ, List.set_cons_zero]))
        | (apply wpSoft_skip rfl; simp only [Act.put, List.setIfInBounds_toArray, List.set_cons_succ, List.set_cons_zero])
        | (apply wpSoft_nilCheck rfl rfl; simp only [Act.put, List.setIfInBounds_toArray, List.set_cons_succ, List.set_cons_zero])
        | ((with_reducible apply wpSoft_fop); (case hw => rfl); (case hD => exact closed_grew); (case hop => rfl); (case hx => rfl); (case hy => rfl); (case hA => (first | assumption | exact FE.ofInt _ _ | exact FE.lit (by decide +kernel))); (case hB => (first | assumption | exact FE.ofInt _ _ | exact FE.lit (by decide +kernel))); (intro r hr; simp only [Act.put, List.setIfInBounds_toArray, List.set_cons_succ, List.set_cons_zero]))

        | ((with_reducible apply wpSoft_widen); (case hw => rfl); (case hD => exact closed_grew); (case hs => exact Try.underlying65); (case hd => exact Try.underlying147); (case hx => rfl); (case hA => (first | assumption | exact FE.ofInt _ _ | exact FE.lit (by decide +kernel))); (intro r hr; simp only [Act.put, List.setIfInBounds_toArray, List.set_cons_succ, List.set_cons_zero]))
        | ((with_reducible apply wpSoft_fneg); (case hw => rfl); (case hx => rfl); (case hA => (first | assumption | exact FE.ofInt _ _ | exact FE.lit (by decide +kernel))); (intro r hr; simp only [Act.put, List.setIfInBounds_toArray, List.set_cons_succ, List.set_cons_zero]))
        | ((with_reducible apply wpSoft_fcmp); (case hw => rfl); (case hop => rfl); (case hx => rfl); (case hy => rfl); (case hA => (first | assumption | exact FE.ofInt _ _ | exact FE.lit (by decide +kernel))); (case hB => (first | assumption | exact FE.ofInt _ _ | exact FE.lit (by decide +kernel))); (case hb => (first | assumption | rfl)); simp only [Act.put, List.setIfInBounds_toArray, List.set_cons_succ, List.set_cons_zero])
        | (apply wpSoft_q rfl rfl; intro K hK; go_big_quiet_op; go_big_quiet_on))
      with_reducible apply wpSoft_nil
      intro os m
      go_wp2
      go_roundw
      case rel => exact ⟨k + 1, by omega, by go_num, Hg.out.trans (by (try show Gr _ _); repeat (with_reducible first | exact Gr.refl _ | refine Gr.drewN ?_ _ | refine Gr.grew ?_ _ _ | refine Gr.alloc ?_ _ | refine Gr.drew ?_))⟩
      case measure => simp [intOf]; omega
    · obtain rfl : k = n := by omega
      go_wp2
      go_ret
      exact ⟨rfl, hg⟩
set_option maxRecDepth 20000 in
set_option maxHeartbeats 4000000 in
theorem L_markInt64SS (v : Value) (lo hi n : Nat) (ts : List (List Int)) (k0 : Int) (w : World) (h : TriIn w lo hi 71 2 v ts) (hl : ts.length = n) (hk : 0 ≤ k0) (hn : n ≤ 1048576) (hk2 : k0 ≤ 1000000000) :
    Calls Try.prog 56 #[v, .int .i64 k0] w fun e w' => e = .returned (.int .i64 (k0 + ((3 * n : Nat) : Int))) ∧ WroteT w w' lo hi 2 ∧ TriIn w' lo hi 71 2 v (tmarks k0 n) := by
  obtain ⟨bs, h1, h2, h3, h4⟩ := h.ex
  have hbn : bs.length = n := by omega
  have hv := h2.own.2
  rcases hv with ⟨rfl, h0⟩ | ⟨g, cap, cur, rfl, -⟩
  · obtain rfl : n = 0 := by omega
    obtain rfl : ts = [] := List.eq_nil_of_length_eq_zero hl
    have H := Lib.hid h
    clear h h1 h2 h3 h4 hbn h0
    go_enter Try.func56, Try.ntmps56
    go_wp2
    refine wp_loop_rounds 1 ?_
    rw [rounds_succ]
    go_wp2
    go_ret
    exact ⟨by simp, WroteT.refl _ _ _ _, H.out⟩
  · have H2 := Lib.hid h2
    have H3 := Lib.hid h3
    have HB := Lib.hid (fun j (hj : j < bs.length) => (h4 j hj).1)
    have H4 := Lib.hid (show ∀ j (hj : j < bs.length), ∃ x y z, Blk w bs[j] [.int .i64 x, .int .i64 y, .int .i64 z] 2 from fun j hj => by
      obtain ⟨-, x, y, z, -, hB⟩ := h4 j hj
      exact ⟨x, y, z, hB⟩)
    have HBN := Lib.hid hbn
    rw [hbn]
    clear h h1 h2 h3 h4 hl
    go_enter Try.func56, Try.ntmps56
    go_wp2
    go_loopw [1, 5] (fun q i wr => ∃ k : Nat, k ≤ n ∧ i = .int .i64 k ∧ q = .int .i64 (k0 + ((3 * k : Nat) : Int)) ∧ Own wr lo hi 71 1 (.slice (some ⟨g, 0, none⟩) bs.length cap) bs.length (bs.map hdr3) ∧ (∀ j (hj : j < bs.length), ∃ x y z, Blk wr bs[j] [.int .i64 x, .int .i64 y, .int .i64 z] 2 ∧ (j < k → x = k0 + ((3 * j : Nat) : Int) ∧ y = k0 + ((3 * j : Nat) : Int) + 1 ∧ z = k0 + ((3 * j : Nat) : Int) + 2)) ∧ WroteT w wr lo hi 2) (fun _ i _ => n - (intOf i).toNat)
    case atStart => exact ⟨0, Nat.zero_le _, rfl, by simp, H2.out, fun j hj => (by obtain ⟨x, y, z, hB⟩ := H4.out j hj; exact ⟨x, y, z, hB, fun h => by omega⟩), WroteT.refl _ _ _ _⟩
    case round =>
      clear H2 H4
      obtain ⟨k, hkn, rfl, rfl, ho, hr, hw⟩ := hrel
      by_cases hlt : k < n
      · have hkb : k < bs.length := by omega
        have hc : wr.cell? ⟨g, k, none⟩ = some (.slice (some ⟨bs[k], 0, none⟩) 3 3) := by
          have := World.ownsRow.cellAt ho.own k (by omega)
          rw [this, List.getElem?_map, List.getElem?_eq_getElem hkb]
          rfl
        obtain ⟨x, y, z, hB, -⟩ := hr k hkb
        have hb := HB.out k hkb
        obtain ⟨b, hbb⟩ : ∃ b, b = bs[k] := ⟨_, rfl⟩
        rw [← hbb] at hc hB hb
        obtain ⟨K, hK⟩ : ∃ K : Int, K = k0 + ((3 * k : Nat) : Int) := ⟨_, rfl⟩
        rw [← hK]
        have LM := Lib.hid (show Calls Try.prog 50 #[.slice (some ⟨b, 0, none⟩) 3 3, .int .i64 K] wr fun e w' => e = .returned (.int .i64 (K + ((3 : Nat) : Int))) ∧ Wrote wr w' (hdr3 b) ∧ Own w' b (b + 1) 2 1 (hdr3 b) 3 (marksI K 3) from L_markInt64S (hdr3 b) b (b + 1) 3 _ K wr hB.row3 (fun u hu => by simp only [List.mem_cons, List.not_mem_nil, or_false] at hu; rcases hu with rfl | rfl | rfl <;> exact ⟨_, rfl⟩) (by omega) (by omega) (by omega))
        have hK0 : 0 ≤ K := by omega
        have hK1 : K ≤ 10000000000 := by omega
        have HK := Lib.hid hK
        have Ho := Lib.hid ho
        have Hr := Lib.hid hr
        have Hw := Lib.hid hw
        have Hb := Lib.hid hb
        have HBB := Lib.hid hbb
        have HBo := Lib.hid hB
        clear hK ho hr hw hb hbb hB
        go_wp2_with fail
        refine LM.out.mono ?_
        rintro e w1 ⟨rfl, wr1, own1⟩
        have W1 := Lib.hid wr1
        have O1 := Lib.hid own1
        clear wr1 own1 LM
        go_wp2
        go_roundw
        case rel =>
          have wt : WroteT wr w1 lo hi 2 := WroteT.of HBo.out.row3 W1.out Hb.out.1 Hb.out.2
          have hK := HK.out
          refine ⟨k + 1, by omega, by go_num, by first | (congr 1; omega) | (simp; omega), wt.own Ho.out (by decide), fun j hj => ?_, Hw.out.trans wt⟩
          by_cases hjk : j = k
          · subst hjk
            have O := O1.out
            rw [marksI_three] at O
            refine ⟨K, K + 1, K + 2, by rw [← HBB.out]; exact O.blk3, fun _ => ⟨hK, by omega, by omega⟩⟩
          · obtain ⟨x', y', z', hB', hx⟩ := Hr.out j hj
            refine ⟨x', y', z', hB'.of (W1.out.by_.block _ hB'.lt ?_), fun h => hx (by omega)⟩
            intro he
            have he' : b = bs[j] := by simpa [hdr3, Value.ownBlock] using he.symm
            have eq : bs[j] = bs[k] := by rw [← he', HBB.out]
            rcases Nat.lt_or_gt_of_ne hjk with h | h
            · exact List.pairwise_iff_getElem.1 H3.out j k hj hkb h eq
            · exact List.pairwise_iff_getElem.1 H3.out k j hkb hj h eq.symm
        case measure => simp [intOf]; omega
      · obtain rfl : k = n := by omega
        have HT := Lib.hid (show TriIn wr lo hi 71 2 (.slice (some ⟨g, 0, none⟩) bs.length cap) (tmarks k0 k) from ⟨bs, by rw [tmarks_length]; exact HBN.out, ho, H3.out, fun j hj => by
          obtain ⟨x, y, z, hB, hx⟩ := hr j hj
          obtain ⟨rfl, rfl, rfl⟩ := hx (by omega)
          exact ⟨HB.out j hj, _, _, _, tmarks_get k0 (by omega), hB⟩⟩)
        have Hw := Lib.hid hw
        clear ho hr hw
        go_wp2
        go_ret
        exact ⟨rfl, Hw.out, by have h := HT.out; rw [HBN.out] at h; exact h⟩
set_option maxRecDepth 20000 in
set_option maxHeartbeats 2000000 in
theorem L_heldInt64SS (a : Option Addr) (c m lo hi n : Nat) (k0 : Int) (w : World) (h : TriIn w lo hi 71 2 (.slice a m c) (tmarks k0 n)) (hk : 0 ≤ k0) (hn : n ≤ 1048576) (hk2 : k0 ≤ 1000000000) :
    Calls Try.prog 57 #[.slice a m c, .int .i64 k0] w fun e w' => e = .returned (.int .i64 (k0 + ((3 * n : Nat) : Int))) ∧ Gr w w' := by
  obtain ⟨rfl, h1⟩ := h.at_
  rw [tmarks_length] at h1 ⊢
  have H1 := Lib.hid h1
  clear h h1
  go_enter Try.func57, Try.ntmps57
  go_wp2
  go_loopw [1, 5] (fun q i wr => ∃ k : Nat, k ≤ n ∧ i = .int .i64 k ∧ q = .int .i64 (k0 + ((3 * k : Nat) : Int)) ∧ Gr w wr) (fun _ i _ => n - (intOf i).toNat)
  case atStart => exact ⟨0, Nat.zero_le _, rfl, by simp, (by (try show Gr _ _); repeat (with_reducible first | exact Gr.refl _ | refine Gr.drewN ?_ _ | refine Gr.grew ?_ _ _ | refine Gr.alloc ?_ _ | refine Gr.drew ?_))⟩
  case round =>
    obtain ⟨k, hkn, rfl, rfl, hg⟩ := hrel
    by_cases hlt : k < n
    · obtain ⟨g, b, x, y, z, rfl, c1, t1, B1⟩ := H1.out k hlt
      rw [tmarks_get k0 hlt] at t1
      simp only [Option.some.injEq, List.cons.injEq, and_true] at t1
      obtain ⟨rfl, rfl, rfl⟩ := t1
      obtain ⟨K, hK⟩ : ∃ K : Int, K = k0 + ((3 * k : Nat) : Int) := ⟨_, rfl⟩
      rw [← hK] at B1 ⊢
      have LH := Lib.hid (show Calls Try.prog 52 #[.slice (some ⟨b, 0, none⟩) 3 3, .int .i64 K] wr fun e w' => e = .returned (.int .i64 (K + ((3 : Nat) : Int))) ∧ Gr wr w' from L_heldInt64S (hdr3 b) b (b + 1) 3 K wr (by rw [marksI_three]; exact (B1.gr hg).row3) (by omega) (by omega) (by omega))
      have c1 := hg.cell c1
      have hK0 : 0 ≤ K := by omega
      have hK1 : K ≤ 10000000000 := by omega
      have HK := Lib.hid hK
      have Hg := Lib.hid hg
      have k3 : ¬ K + ((3 : Nat) : Int) < 0 := by omega
      clear hK hg B1
      go_wp2_with fail
      refine LH.out.mono ?_
      rintro e w1 ⟨rfl, g1⟩
      have G1 := Lib.hid (Hg.out.trans g1)
      clear g1 LH
      go_wp2
      go_roundw
      case rel => exact ⟨k + 1, by omega, by go_num, by have := HK.out; first | (congr 1; omega) | (simp; omega), G1.out⟩
      case measure => simp [intOf]; omega
    · obtain rfl : k = n := by omega
      go_wp2
      go_ret
      exact ⟨rfl, hg⟩
end Go.Proofs.Ytaidkokgafojeaa
