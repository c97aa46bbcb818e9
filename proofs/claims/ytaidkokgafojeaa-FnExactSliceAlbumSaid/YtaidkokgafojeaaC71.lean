/- Contracts: albums that are marked and read again. MAXREC -/
import Derived.Test.YtaidkokgafojeaaProg
import Derived.Test.YtaidkokgafojeaaPt
import Derived.Test.YtaidkokgafojeaaC63
import Derived.Test.YtaidkokgafojeaaC50
import Derived.Deep.DeepCutAuto
namespace Go.Fx
open Go Go.Soft Go.RowKit
/-- w' is w but for the blocks from lo to hi. -/
structure WroteIn (w w' : World) (lo hi : Nat) : Prop where
  os : w'.os = w.os
  tape : w'.tape = w.tape
  output : w'.output = w.output
  size : w.heap.size ≤ w'.heap.size
  block : ∀ b, b < w.heap.size → (b < lo ∨ hi ≤ b) → w'.heap[b]? = w.heap[b]?
theorem WroteIn.refl (w : World) (lo hi : Nat) : WroteIn w w lo hi := ⟨rfl, rfl, rfl, Nat.le_refl _, fun _ _ _ => rfl⟩
theorem WroteIn.trans {w w' w'' : World} {lo hi : Nat} (h : WroteIn w w' lo hi) (g : WroteIn w' w'' lo hi) : WroteIn w w'' lo hi :=
  ⟨g.os.trans h.os, g.tape.trans h.tape, g.output.trans h.output, Nat.le_trans h.size g.size, fun b hb hd => (g.block b (Nat.lt_of_lt_of_le hb h.size) hd).trans (h.block b hb hd)⟩
theorem WroteIn.set {w : World} {lo hi b i : Nat} (hl : lo ≤ b) (hh : b < hi) (u : Value) : WroteIn w (w.setCell ⟨b, i, none⟩ u) lo hi :=
  ⟨rfl, rfl, rfl, by simp [World.setCell], fun k hk hd => Below.heap_setCell _ _ _ _ (by show k ≠ b; omega)⟩
theorem WroteIn.of {w w' : World} {lo hi l u e size n : Nat} {v : Value} {xs : List Value} (h : Own w l u e size v n xs) (g : Wrote w w' v) (h1 : lo ≤ l) (h2 : u ≤ hi) : WroteIn w w' lo hi :=
  ⟨g.by_.os, g.by_.tape, g.by_.output, g.by_.size, fun k hk hd => g.by_.block k hk (fun he => by have := (h.own.lt k he.symm).1; have := h.hi k he.symm; omega)⟩
theorem WroteIn.blk {w w' : World} {lo hi b : Nat} {cs : List Value} {t : TypeId} (h : WroteIn w w' lo hi) (hB : Blk w b cs t) (hd : b < lo ∨ hi ≤ b) : Blk w' b cs t := hB.of (h.block b hB.lt hd)
theorem WroteIn.gr {w0 w w' : World} {lo hi : Nat} (h : WroteIn w w' lo hi) (g : Gr w0 w) (hl : w0.heap.size ≤ lo) : Gr w0 w' := by
  refine Gr.of_below ?_
  have h' := g.below
  exact ⟨h.os.trans h'.os, h.tape.trans h'.tape, h.output.trans h'.output, Nat.le_trans h'.size h.size, fun k hk => (h.block k (Nat.lt_of_lt_of_le hk h'.size) (.inl (by omega))).trans (h'.block k hk)⟩
theorem WroteIn.own {w w' : World} {lo hi l u e size n : Nat} {v : Value} {xs : List Value} (h : WroteIn w w' lo hi) (o : Own w l u e size v n xs) (hd : u ≤ lo ∨ hi ≤ l) : Own w' l u e size v n xs := by
  refine ⟨⟨o.own.1, ?_⟩, o.hi⟩
  rcases o.own.2 with h2 | ⟨g, cap, cur, hv, hb, hg, r⟩
  · exact .inl h2
  · refine .inr ⟨g, cap, cur, hv, hb, ?_, r⟩
    have hlt := o.own.lt g (by rw [hv]; rfl)
    have hhi := o.hi g (by rw [hv]; rfl)
    rw [h.block g hlt.2 (by omega)]; exact hg
theorem WroteIn.fin {w w' : World} {lo hi l u : Nat} {e : TypeId} {v : Value} {xs : List Nat} (h : WroteIn w w' lo hi) (f : FIn w l u e v xs) (hd : u ≤ lo ∨ hi ≤ l) : FIn w' l u e v xs := by
  obtain ⟨rs, h1, h2⟩ := f; exact ⟨rs, h1, h.own h2 hd⟩
theorem WroteIn.pin {w w' : World} {lo hi l u : Nat} {t e : TypeId} {v : Value} {ps : List Pic} (h : WroteIn w w' lo hi) (p : PIn w l u t e v ps) (hd : u ≤ lo ∨ hi ≤ l) : PIn w' l u t e v ps := by
  obtain ⟨cs, h1, h2⟩ := p
  exact ⟨cs, h.own h1 hd, h2.imp (Nat.le_refl _) (Nat.le_refl _) (fun a b s xs q1 q2 f => h.fin f (by omega))⟩
theorem PIn.cap {w : World} {lo hi n c : Nat} {a : Option Addr} {t e : TypeId} {ps : List Pic} (h : PIn w lo hi t e (.slice a n c) ps) : n ≤ c := by
  obtain ⟨cs, h1, -⟩ := h
  rcases h1.own.2 with ⟨hv, hn⟩ | ⟨g, cap, cur, hv, hb, hg, hnc, _⟩
  · simp only [Value.slice.injEq] at hv; omega
  · simp only [Value.slice.injEq] at hv
    obtain ⟨-, h2, h3⟩ := hv
    omega
/-! ### Marks -/
def pOff (ps : List Pic) (i : Nat) : Nat := 2 * i + pSum ps i
def mkGs (k : Int) (n : Nat) : List Nat := (List.range n).map fun (j : Nat) => floatOfInt .f32 (k + (j : Int))
theorem mkGs_length (k : Int) (n : Nat) : (mkGs k n).length = n := by simp [mkGs]
theorem mkGs_marks (k : Int) (n : Nat) : (mkGs k n).map (Value.float .f32) = marks k n := by simp [mkGs, marks]
theorem mkGs_fe (k : Int) (n : Nat) : FEs (mkGs k n) (mkGs k n) := ⟨rfl, fun i h1 h2 => by simp only [mkGs, List.getElem_map, List.getElem_range]; exact FE.ofInt _ _⟩
/-- A row of marks can be read as such. -/
theorem FIn.marks {w : World} {lo hi n : Nat} {e : TypeId} {v : Value} {k : Int} (h : FIn w lo hi e v (mkGs k n)) : Own w lo hi e 1 v n (marks k n) := by
  obtain ⟨rs, h1, h2⟩ := h
  have e1 : rs = mkGs k n := by
    apply List.ext_getElem
    · exact h1.len
    · intro i q1 q2
      have := h1.at_ i q1 q2
      refine FE.numF this ?_
      simp only [mkGs, List.getElem_map, List.getElem_range]
      exact isN_ofInt .f32 _
  subst e1
  rw [mkGs_length, mkGs_marks] at h2
  exact h2
def mkPic (ps : List Pic) (k0 : Int) (i : Nat) : Pic := ((k0 + (pOff ps i : Int), k0 + (pOff ps i : Int) + 1, mkGs (k0 + (pOff ps i : Int) + 2) (pAt ps i).gs.length) : Int × Int × List Nat)
/-- The first m pictures are marked. -/
def gMix (ps : List Pic) (k0 : Int) (m : Nat) : List Pic := (List.range ps.length).map fun i => if i < m then mkPic ps k0 i else pAt ps i
theorem gMix_length (ps : List Pic) (k0 : Int) (m : Nat) : (gMix ps k0 m).length = ps.length := by simp [gMix]
theorem gMix_at (ps : List Pic) (k0 : Int) (m : Nat) {i : Nat} (h : i < ps.length) : pAt (gMix ps k0 m) i = if i < m then mkPic ps k0 i else pAt ps i := by
  show (gMix ps k0 m).getD i pic0 = _
  rw [List.getD_eq_getElem?_getD, List.getElem?_eq_getElem (by rw [gMix_length]; exact h)]
  simp [gMix]
theorem gMix_0 (ps : List Pic) (k0 : Int) {i : Nat} (h : i < ps.length) : pAt (gMix ps k0 0) i = pAt ps i := by rw [gMix_at ps k0 0 h]; simp
theorem gMix_old (ps : List Pic) (k0 : Int) {m i : Nat} (h : i < ps.length) (hm : m ≤ i) : pAt (gMix ps k0 m) i = pAt ps i := by rw [gMix_at ps k0 m h, if_neg (by omega)]
theorem gMix_ne (ps : List Pic) (k0 : Int) {m i : Nat} (h : i < ps.length) (hm : i ≠ m) : pAt (gMix ps k0 (m + 1)) i = pAt (gMix ps k0 m) i := by
  rw [gMix_at ps k0 m h, gMix_at ps k0 (m + 1) h]
  by_cases hi : i < m
  · rw [if_pos hi, if_pos (by omega)]
  · rw [if_neg hi, if_neg (by omega)]
theorem gMix_self (ps : List Pic) (k0 : Int) {m : Nat} (h : m < ps.length) : pAt (gMix ps k0 (m + 1)) m = mkPic ps k0 m := by rw [gMix_at ps k0 (m + 1) h, if_pos (by omega)]
theorem pOff_succ (ps : List Pic) (i : Nat) : pOff ps (i + 1) = pOff ps i + 2 + (pAt ps i).gs.length := by unfold pOff; rw [pSum]; omega
end Go.Fx
namespace Go.Proofs.Ytaidkokgafojeaa
open Go.RowKit Go.Fx Go.Soft
set_option maxRecDepth 20000 in
set_option maxHeartbeats 4000000 in
theorem L_markPictureS (v : Value) (lo hi n : Nat) (ps : List Pic) (k0 : Int) (w : World) (h : PIn w lo hi 35 65 v ps) (hl : ps.length = n) (hk : 0 ≤ k0) (hn : n + pSum ps n ≤ 1048576) (hk2 : k0 ≤ 1000000) :
    Calls Try.prog 86 #[v, .int .i64 k0] w fun e w' => e = .returned (.int .i64 (k0 + (pOff ps n : Int))) ∧ WroteIn w w' lo hi ∧ PIn w' lo hi 35 65 v (gMix ps k0 n) := by
  obtain ⟨a, c, rfl⟩ := h.sl' hl
  obtain ⟨cs, hown, hrow⟩ := h
  rw [hl] at hown hrow
  have Hl := Lib.hid hl
  have Hhi := Lib.hid hown.hi
  have Ho := Lib.hid hown.own
  have Hp := Lib.hid (show PRow w lo hi 65 cs (gMix ps k0 0) n from by
    obtain ⟨L, U, h3, h4⟩ := hrow
    refine ⟨L, U, fun i hi => ?_, h4⟩
    rw [gMix_0 ps k0 (by omega)]
    exact h3 i hi)
  have HB := Lib.hid (fun i (_ : i ≤ n) => show pOff ps i ≤ 2 * n + pSum ps n from by
    have := pSum_mono ps i (n - i)
    rw [show i + (n - i) = n by omega] at this
    unfold pOff; omega)
  clear hown hrow hl
  go_enter Try.func86, Try.ntmps86
  go_wp2
  go_loopw [1, 5] (fun t i wr => ∃ k : Nat, k ≤ n ∧ i = .int .i64 k ∧ t = .int .i64 (k0 + (pOff ps k : Int)) ∧ (∃ cs, wr.ownsRow lo 35 3 (.slice a n c) n cs ∧ PRow wr lo hi 65 cs (gMix ps k0 k) n) ∧ WroteIn w wr lo hi) (fun _ i _ => n - (intOf i).toNat)
  case atStart => exact ⟨0, Nat.zero_le _, rfl, by simp [pOff, pSum], ⟨cs, Ho.out, Hp.out⟩, WroteIn.refl _ _ _⟩
  case round =>
    clear Ho Hp
    obtain ⟨k, hkn, rfl, rfl, ⟨cs, ho, hp⟩, hw⟩ := hrel
    by_cases hlt : k < n
    · obtain ⟨g, cap, hv⟩ : ∃ g cap, Value.slice a n c = .slice (some ⟨g, 0, none⟩) n cap := by
        rcases ho.2 with ⟨_, h0⟩ | ⟨g, cap, cur, hv, _⟩
        · omega
        · exact ⟨g, cap, hv⟩
      simp only [Value.slice.injEq, true_and] at hv
      obtain ⟨rfl, rfl⟩ := hv
      have hgh := Hhi.out g rfl
      have hgl := (World.ownsRow.lt ho g rfl).1
      have hcl : cs.length = n * 3 := ho.1
      have d0 := World.ownsRow.cellAt ho (k * 3) (by omega)
      have d1 := World.ownsRow.cellAt ho (k * 3 + 1) (by omega)
      have d2 := World.ownsRow.cellAt ho (k * 3 + 2) (by omega)
      have z0 := World.ownsRow.frozenAt ho (k * 3)
      have z1 := World.ownsRow.frozenAt ho (k * 3 + 1)
      obtain ⟨L, U, h3, h4⟩ := hp
      obtain ⟨s, q0, q1, q2, fk, l1, l2⟩ := h3 k hlt
      rw [q0] at d0
      rw [q1] at d1
      rw [q2] at d2
      rw [gMix_old ps k0 (by rw [Hl.out]; exact hlt) (Nat.le_refl _)] at fk d0 d1
      have hB := HB.out k (by omega)
      have hB2 := HB.out (k + 1) (by omega)
      have hB3 : (pAt ps k).gs.length ≤ pSum ps n := pSum_le hlt
      have HS := Lib.hid (pOff_succ ps k)
      rw [HS.out] at hB2
      have o1 := (World.ownsRow.stored ho (k * 3) (.int .i64 (k0 + (pOff ps k : Int)))).1
      have o2 := (World.ownsRow.stored o1 (k * 3 + 1) (.int .i64 (k0 + (pOff ps k : Int) + 1))).1
      have k0' := ownsRow_okb (t := 65) ho (by decide)
      have k1' := ownsRow_okb (t := 65) o1 (by decide)
      have k2' := ownsRow_okb (t := 65) o2 (by decide)
      have f2 := (fk.setOk (i := k * 3) (u := .int .i64 (k0 + (pOff ps k : Int))) k0').setOk (i := k * 3 + 1) (u := .int .i64 (k0 + (pOff ps k : Int) + 1)) k1'
      obtain ⟨vs, fo, fv⟩ := f2.row
      obtain ⟨q, hq⟩ : ∃ q, q = (pAt ps k).gs.length := ⟨_, rfl⟩
      obtain ⟨m, hm⟩ : ∃ m, m = k0 + (pOff ps k : Int) := ⟨_, rfl⟩
      have HQ := Lib.hid hq
      have HM := Lib.hid hm
      rw [← hq] at fo hB2 hB3
      rw [← hm] at o1 o2 k1' k2' fo
      have LM := Lib.hid (L_markFloat32S s (L k) (U k) q vs (m + 1 + 1) _ fo fv (by omega) (by omega) (by omega))
      have H3 := Lib.hid h3
      have H4 := Lib.hid h4
      have Ho := Lib.hid ho
      have O2 := Lib.hid o2
      have Hw := Lib.hid hw
      have Fo := Lib.hid fo
      have Hcl := Lib.hid hcl
      have K2 := Lib.hid k2'
      have K1 := Lib.hid k1'
      have K0 := Lib.hid k0'
      have hm0 : 0 ≤ m := by omega
      have hm1 : m ≤ 1099515000000 := by omega
      rw [← hm]
      generalize (pAt ps k).wide = y0 at d0
      generalize (pAt ps k).high = y1 at d1
      have hq1 : q ≤ 1048576 := by omega
      clear h3 h4 ho o1 o2 hw fo fv f2 fk k0' k1' k2' q0 q1 q2 hq hm hB hB2 hB3 hcl
      go_wp2_with fail
      refine LM.out.mono ?_
      rintro e w1 ⟨rfl, wr1, own1⟩
      have W1 := Lib.hid wr1
      have N1 := Lib.hid own1
      clear wr1 own1 LM
      go_wp2
      go_roundw
      case rel =>
        have w01 : WroteIn wr w1 lo hi := ((WroteIn.set (i := k * 3) hgl hgh (.int .i64 m)).trans (WroteIn.set (i := k * 3 + 1) hgl hgh (.int .i64 (m + 1)))).trans (WroteIn.of Fo.out W1.out l1 l2)
        have o3 : w1.ownsRow lo 35 3 (.slice (some ⟨g, 0, none⟩) n c) n ((cs.set (k * 3) (.int .i64 m)).set (k * 3 + 1) (.int .i64 (m + 1))) := by
          refine O2.out.kept W1.out.by_ (.inr ?_)
          intro he
          exact own_ne Fo.out.own K2.out he.symm
        refine ⟨k + 1, by omega, by go_num, ?_, ⟨_, o3, L, U, fun i hi => ?_, H4.out⟩, Hw.out.trans w01⟩
        · rw [HS.out, ← HQ.out, HM.out]; congr 1; omega
        · have hil : i < ps.length := by rw [Hl.out]; exact hi
          have hcl := Hcl.out
          by_cases hik : i = k
          · subst hik
            rw [gMix_self ps k0 hil]
            refine ⟨s, ?_, ?_, ?_, ?_, l1, l2⟩
            · rw [List.getElem?_set_ne (by omega), List.getElem?_set_self (by omega), HM.out]; rfl
            · rw [List.getElem?_set_self (by simp; omega), HM.out]; rfl
            · rw [List.getElem?_set_ne (by omega), List.getElem?_set_ne (by omega)]
              obtain ⟨s', _, _, q2, _⟩ := H3.out i hi
              have d2' := World.ownsRow.cellAt Ho.out (i * 3 + 2) (by omega)
              rw [d2] at d2'
              exact d2'.symm
            · show FIn w1 (L i) (U i) 65 s (mkGs (k0 + (pOff ps i : Int) + 2) (pAt ps i).gs.length)
              rw [← HQ.out, ← HM.out]
              refine ⟨mkGs (m + 2) q, mkGs_fe _ _, ?_⟩
              rw [mkGs_length, mkGs_marks, show m + 2 = m + 1 + 1 by omega]
              exact N1.out
          · rw [gMix_ne ps k0 hil hik]
            obtain ⟨s', q0, q1, q2, f, l3, l4⟩ := H3.out i hi
            refine ⟨s', ?_, ?_, ?_, ?_, l3, l4⟩
            · rw [List.getElem?_set_ne (by omega), List.getElem?_set_ne (by omega)]; exact q0
            · rw [List.getElem?_set_ne (by omega), List.getElem?_set_ne (by omega)]; exact q1
            · rw [List.getElem?_set_ne (by omega), List.getElem?_set_ne (by omega)]; exact q2
            · refine ((f.setOk (i := k * 3) (u := .int .i64 m) K0.out).setOk (i := k * 3 + 1) (u := .int .i64 (m + 1)) K1.out).wrote Fo.out W1.out ?_
              rcases Nat.lt_or_ge i k with h | h
              · exact .inl (H4.out i k h hlt)
              · exact .inr (H4.out k i (by omega) hi)
      case measure => simp [intOf]; omega
    · obtain rfl : k = n := by omega
      have Hw := Lib.hid hw
      have HP := Lib.hid (show PIn wr lo hi 35 65 (.slice a k c) (gMix ps k0 k) from ⟨cs, ⟨by rw [gMix_length, Hl.out]; exact ho, Hhi.out⟩, by rw [gMix_length, Hl.out]; exact hp⟩)
      clear ho hp hw
      go_wp2
      go_ret
      exact ⟨rfl, Hw.out, HP.out⟩
set_option maxRecDepth 20000 in
set_option maxHeartbeats 4000000 in
theorem L_heldPictureS (v : Value) (lo hi n : Nat) (ps : List Pic) (k0 : Int) (w : World) (h : PIn w lo hi 35 65 v (gMix ps k0 n)) (hl : ps.length = n) (hk : 0 ≤ k0) (hn : n + pSum ps n ≤ 1048576) (hk2 : k0 ≤ 1000000) :
    Calls Try.prog 87 #[v, .int .i64 k0] w fun e w' => e = .returned (.int .i64 (k0 + (pOff ps n : Int))) ∧ ∃ q, w' = w.drewN q := by
  obtain ⟨a, c, rfl⟩ := h.sl' (show _ = n by rw [gMix_length]; exact hl)
  obtain ⟨cs, hown, L, U, h3, -⟩ := h
  rw [gMix_length, hl] at hown h3
  have Hl := Lib.hid hl
  have Ho := Lib.hid hown.own
  have H3 := Lib.hid h3
  have HB := Lib.hid (fun i (_ : i ≤ n) => show pOff ps i ≤ 2 * n + pSum ps n from by
    have := pSum_mono ps i (n - i)
    rw [show i + (n - i) = n by omega] at this
    unfold pOff; omega)
  clear hown h3 hl
  go_enter Try.func87, Try.ntmps87
  go_wp2
  go_loopw [1, 5] (fun t i wr => ∃ k : Nat, k ≤ n ∧ i = .int .i64 k ∧ t = .int .i64 (k0 + (pOff ps k : Int)) ∧ ∃ q, wr = w.drewN q) (fun _ i _ => n - (intOf i).toNat)
  case atStart => exact ⟨0, Nat.zero_le _, rfl, by simp [pOff, pSum], 0, rfl⟩
  case round =>
    obtain ⟨k, hkn, rfl, rfl, q, rfl⟩ := hrel
    by_cases hlt : k < n
    · obtain ⟨g, cap, hv⟩ : ∃ g cap, Value.slice a n c = .slice (some ⟨g, 0, none⟩) n cap := by
        rcases Ho.out.2 with ⟨_, h0⟩ | ⟨g, cap, cur, hv, _⟩
        · omega
        · exact ⟨g, cap, hv⟩
      simp only [Value.slice.injEq, true_and] at hv
      obtain ⟨rfl, rfl⟩ := hv
      have d0 := World.ownsRow.cellAt Ho.out (k * 3) (by omega)
      have d1 := World.ownsRow.cellAt Ho.out (k * 3 + 1) (by omega)
      have d2 := World.ownsRow.cellAt Ho.out (k * 3 + 2) (by omega)
      obtain ⟨s, q0, q1, q2, fk, -, -⟩ := H3.out k hlt
      rw [q0] at d0
      rw [q1] at d1
      rw [q2] at d2
      have hmx : pAt (gMix ps k0 n) k = mkPic ps k0 k := by rw [gMix_at ps k0 n (by rw [Hl.out]; exact hlt), if_pos hlt]
      rw [hmx] at fk d0 d1
      replace d0 : w.cell? ⟨g, k * 3, none⟩ = some (.int .i64 (k0 + (pOff ps k : Int))) := d0
      replace d1 : w.cell? ⟨g, k * 3 + 1, none⟩ = some (.int .i64 (k0 + (pOff ps k : Int) + 1)) := d1
      replace fk : FIn w (L k) (U k) 65 s (mkGs (k0 + (pOff ps k : Int) + 2) (pAt ps k).gs.length) := fk
      have hB := HB.out k (by omega)
      have hB2 := HB.out (k + 1) (by omega)
      have hB3 : (pAt ps k).gs.length ≤ pSum ps n := pSum_le hlt
      have HS := Lib.hid (pOff_succ ps k)
      rw [HS.out] at hB2
      obtain ⟨m, hm⟩ : ∃ m, m = k0 + (pOff ps k : Int) := ⟨_, rfl⟩
      have HM := Lib.hid hm
      rw [← hm] at d0 d1 fk ⊢
      have hq1 : (pAt ps k).gs.length ≤ 1048576 := by omega
      have hm0 : 0 ≤ m := by omega
      have hm1 : m ≤ 10000000 := by omega
      have fm := fk.marks
      rw [show m + 2 = m + 1 + 1 by omega] at fm
      obtain ⟨z, hz⟩ : ∃ z, z = (pAt ps k).gs.length := ⟨_, rfl⟩
      have HZ := Lib.hid hz
      rw [← hz] at fm hq1
      have LM := Lib.hid (fun q2 => L_heldFloat32S s (L k) (U k) z (m + 1 + 1) (w.drewN q2) (fm.gr ((Gr.refl w).drewN q2)) (by omega) hq1 (by omega))
      clear fm fk q0 q1 q2 hmx hB hB2 hB3 hm hz
      go_wp2_with fail
      refine (LM.out _).mono ?_
      rintro e w1 ⟨rfl, q3, rfl⟩
      go_wp2
      go_roundw
      case rel => exact ⟨k + 1, by omega, by go_num, by rw [HS.out, ← HZ.out, HM.out]; congr 1; omega, (by first | exact ⟨0, rfl⟩ | exact ⟨_, rfl⟩)⟩
      case measure => simp [intOf]; omega
    · obtain rfl : k = n := by omega
      go_wp2
      go_ret
      exact ⟨rfl, (by first | exact ⟨0, rfl⟩ | exact ⟨_, rfl⟩)⟩
theorem WroteIn.alloc {w w' : World} {lo hi : Nat} {o : Obj} (h : WroteIn (w.alloc o) w' lo hi) : WroteIn w w' lo hi :=
  ⟨h.os, h.tape, h.output, Nat.le_trans (by simp) h.size, fun b hb hd => (h.block b (by simp; omega) hd).trans (Below.heap_alloc w o b hb)⟩
set_option maxRecDepth 20000 in
set_option maxHeartbeats 1000000 in
theorem L_markAlbum (v : Value) (lo hi n : Nat) (ps : List Pic) (k0 : Int) (w : World) (h : PIn w lo hi 35 65 v ps) (hl : ps.length = n) (hk : 0 ≤ k0) (hn : n + pSum ps n ≤ 1048576) (hk2 : k0 ≤ 1000000) :
    Calls Try.prog 36 #[.agg #[v], .int .i64 k0] w fun e w' => e = .returned (.int .i64 (k0 + (pOff ps n : Int))) ∧ WroteIn w w' lo hi ∧ PIn w' lo hi 35 65 v (gMix ps k0 n) := by
  have LM := Lib.hid (fun w1 (g : Gr w w1) => L_markPictureS v lo hi n ps k0 w1 (h.gr g) hl hk hn hk2)
  obtain ⟨a, c, rfl⟩ := h.sl' hl
  clear h
  go_enter Try.func36, Try.ntmps36
  go_wp2_with fail
  refine (LM.out _ (by (try show Gr _ _); repeat (with_reducible first | exact Gr.refl _ | refine Gr.drewN ?_ _ | refine Gr.grew ?_ _ _ | refine Gr.alloc ?_ _ | refine Gr.drew ?_))).mono ?_
  rintro e w1 ⟨rfl, hw, hp⟩
  have HW := Lib.hid (WroteIn.alloc hw)
  have HP := Lib.hid hp
  clear hw hp LM
  go_wp2
  go_ret
  exact ⟨rfl, HW.out, HP.out⟩
set_option maxRecDepth 20000 in
set_option maxHeartbeats 1000000 in
theorem L_heldAlbum (v : Value) (lo hi n : Nat) (ps : List Pic) (k0 : Int) (w : World) (h : PIn w lo hi 35 65 v (gMix ps k0 n)) (hl : ps.length = n) (hk : 0 ≤ k0) (hn : n + pSum ps n ≤ 1048576) (hk2 : k0 ≤ 1000000) :
    Calls Try.prog 37 #[.agg #[v], .int .i64 k0] w fun e w' => e = .returned (.int .i64 (k0 + (pOff ps n : Int))) ∧ ∃ os m, w' = w.grew os m := by
  have LM := Lib.hid (fun w1 (g : Gr w w1) => L_heldPictureS v lo hi n ps k0 w1 (h.gr g) hl hk hn hk2)
  obtain ⟨a, c, rfl⟩ := h.sl' (show _ = n by rw [gMix_length]; exact hl)
  have hp0 : 0 ≤ k0 + (pOff ps n : Int) := by omega
  generalize k0 + (pOff ps n : Int) = R at *
  clear h
  go_enter Try.func37, Try.ntmps37
  go_wp2_with fail
  refine (LM.out _ (by (try show Gr _ _); repeat (with_reducible first | exact Gr.refl _ | refine Gr.drewN ?_ _ | refine Gr.grew ?_ _ _ | refine Gr.alloc ?_ _ | refine Gr.drew ?_))).mono ?_
  rintro e w1 ⟨rfl, q, rfl⟩
  go_wp2
  go_ret
  exact ⟨rfl, (by (try show Gr _ _); repeat (with_reducible first | exact Gr.refl _ | refine Gr.drewN ?_ _ | refine Gr.grew ?_ _ _ | refine Gr.alloc ?_ _ | refine Gr.drew ?_))⟩
end Go.Proofs.Ytaidkokgafojeaa
