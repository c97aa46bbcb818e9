/- Rows of pictures: two numbers and a row of floats each. -/
import Derived.Test.YtaidkokgafojeaaLw
import Derived.Test.YtaidkokgafojeaaGd
import Derived.Laws.MakeOwn
import Derived.Laws.OwnMore
namespace Go.Fx
open Go Go.Soft Go.RowKit
def Pic : Type := Int × Int × List Nat
def pic0 : Pic := ((0, 0, []) : Int × Int × List Nat)
def pAt (ps : List Pic) (i : Nat) : Pic := ps.getD i pic0
def Pic.wide (p : Pic) : Int := p.1
def Pic.high (p : Pic) : Int := p.2.1
def Pic.gs (p : Pic) : List Nat := p.2.2
/-- A row of pictures that can be read. -/
def PSl (w : World) (a : Option Addr) (ps : List Pic) : Prop := ∀ i, i < ps.length → ∃ bl off ga gc, a = some ⟨bl, off, none⟩ ∧ w.cell? ⟨bl, off + i * 3, none⟩ = some (.int .i64 (pAt ps i).wide) ∧
  w.cell? ⟨bl, off + i * 3 + 1, none⟩ = some (.int .i64 (pAt ps i).high) ∧ w.cell? ⟨bl, off + i * 3 + 2, none⟩ = some (.slice ga (pAt ps i).gs.length gc) ∧ FSl w ga (pAt ps i).gs.length (pAt ps i).gs ∧ (pAt ps i).gs.length ≤ maxLen
theorem PSl.keep {w w' : World} {a : Option Addr} {ps : List Pic} (h : PSl w a ps) (k : Kp w w') : PSl w' a ps := fun i hi => by
  obtain ⟨bl, off, ga, gc, h1, h2, h3, h4, h5, h6⟩ := h i hi
  exact ⟨bl, off, ga, gc, h1, k.cell _ _ h2, k.cell _ _ h3, k.cell _ _ h4, h5.keep k, h6⟩
theorem PSl.ptr {w : World} {a : Option Addr} {ps : List Pic} (h : PSl w a ps) (hn : 0 < ps.length) : ∃ bl off, a = some ⟨bl, off, none⟩ := by
  obtain ⟨bl, off, ga, gc, h1, -⟩ := h 0 hn
  exact ⟨bl, off, h1⟩
theorem PSl.get {w : World} {bl off : Nat} {ps : List Pic} (h : PSl w (some ⟨bl, off, none⟩) ps) {i : Nat} (hi : i < ps.length) : ∃ ga gc, w.cell? ⟨bl, off + i * 3, none⟩ = some (.int .i64 (pAt ps i).wide) ∧
    w.cell? ⟨bl, off + i * 3 + 1, none⟩ = some (.int .i64 (pAt ps i).high) ∧ w.cell? ⟨bl, off + i * 3 + 2, none⟩ = some (.slice ga (pAt ps i).gs.length gc) ∧ FSl w ga (pAt ps i).gs.length (pAt ps i).gs ∧ (pAt ps i).gs.length ≤ maxLen := by
  obtain ⟨bl', off', ga, gc, h1, h2, h3, h4, h5, h6⟩ := h i hi
  simp only [Option.some.injEq, Addr.mk.injEq, and_true] at h1
  obtain ⟨rfl, rfl⟩ := h1
  exact ⟨ga, gc, h2, h3, h4, h5, h6⟩
/-- How much the first k pictures hold. -/
def pSum (ps : List Pic) : Nat → Nat
  | 0 => 0
  | k + 1 => pSum ps k + (pAt ps k).gs.length
theorem pSum_mono (ps : List Pic) (k : Nat) : ∀ d, pSum ps k ≤ pSum ps (k + d)
  | 0 => Nat.le_refl _
  | d + 1 => by have := pSum_mono ps k d; rw [← Nat.add_assoc, pSum]; omega
theorem pSum_le {ps : List Pic} {i n : Nat} (h : i < n) : (pAt ps i).gs.length ≤ pSum ps n := by
  have := pSum_mono ps (i + 1) (n - (i + 1))
  rw [show i + 1 + (n - (i + 1)) = n by omega, pSum] at this
  omega
/-! ### Rows of the call's own -/
theorem ownsRow_okb {w : World} {lo g n c size : Nat} {e t : TypeId} {cs : List Value} (h : w.ownsRow lo e size (.slice (some ⟨g, 0, none⟩) n c) n cs) (ht : e ≠ t) : w.okb t g = true := by
  rcases h.2 with ⟨h', _⟩ | ⟨g', cap', cur, h', _, hg, _⟩
  · simp at h'
  · simp only [Value.slice.injEq, Option.some.injEq, Addr.mk.injEq, and_true, true_and] at h'
    obtain ⟨rfl, rfl⟩ := h'
    simp [World.okb, hg, ht]
theorem FIn.setOk {w : World} {lo hi b i : Nat} {e : TypeId} {v u : Value} {xs : List Nat} (h : FIn w lo hi e v xs) (hb : w.okb e b = true) : FIn (w.setCell ⟨b, i, none⟩ u) lo hi e v xs := by
  obtain ⟨rs, h1, h2⟩ := h
  exact ⟨rs, h1, ⟨own_setCell h2.own u (FOwn.okb ⟨rs, h1, h2.own⟩ (.inr hb)), h2.hi⟩⟩
/-- The first k pictures of the cells cs. -/
def PRow (w : World) (lo hi : Nat) (e : TypeId) (cs : List Value) (ps : List Pic) (k : Nat) : Prop :=
  ∃ L U : Nat → Nat, (∀ i, i < k → ∃ s, cs[i * 3]? = some (.int .i64 (pAt ps i).wide) ∧ cs[i * 3 + 1]? = some (.int .i64 (pAt ps i).high) ∧ cs[i * 3 + 2]? = some s ∧ FIn w (L i) (U i) e s (pAt ps i).gs ∧ lo ≤ L i ∧ U i ≤ hi) ∧ ∀ i j, i < j → j < k → U i ≤ L j
theorem PRow.zero (w : World) (lo hi : Nat) (e : TypeId) (cs : List Value) (ps : List Pic) : PRow w lo hi e cs ps 0 := ⟨fun _ => 0, fun _ => 0, fun i h => absurd h (Nat.not_lt_zero _), fun i j _ h => absurd h (Nat.not_lt_zero _)⟩
theorem PRow.imp {w w' : World} {lo hi lo' hi' : Nat} {e : TypeId} {cs : List Value} {ps : List Pic} {k : Nat} (h : PRow w lo hi e cs ps k) (h1 : lo' ≤ lo) (h2 : hi ≤ hi')
    (hf : ∀ l u s xs, lo ≤ l → u ≤ hi → FIn w l u e s xs → FIn w' l u e s xs) : PRow w' lo' hi' e cs ps k := by
  obtain ⟨L, U, h3, h4⟩ := h
  refine ⟨L, U, fun i hi => ?_, h4⟩
  obtain ⟨s, a, b, c, d, e1, e2⟩ := h3 i hi
  exact ⟨s, a, b, c, hf _ _ _ _ e1 e2 d, by omega, by omega⟩
theorem PRow.gr {w w' : World} {lo hi hi' : Nat} {e : TypeId} {cs : List Value} {ps : List Pic} {k : Nat} (h : PRow w lo hi e cs ps k) (g : Gr w w') (h2 : hi ≤ hi') : PRow w' lo hi' e cs ps k :=
  h.imp (Nat.le_refl _) h2 (fun _ _ _ _ _ _ f => f.gr g)
theorem PRow.step {w : World} {lo hi a b hi' : Nat} {e : TypeId} {cs : List Value} {ps : List Pic} {k : Nat} {s : Value} (h : PRow w lo hi e cs ps k) (hl : k * 3 + 2 < cs.length) (hs : FIn w a b e s (pAt ps k).gs) (h1 : lo ≤ a) (h2 : hi ≤ a) (h3 : hi ≤ hi') (h4 : b ≤ hi') :
    PRow w lo hi' e (((cs.set (k * 3) (.int .i64 (pAt ps k).wide)).set (k * 3 + 1) (.int .i64 (pAt ps k).high)).set (k * 3 + 2) s) ps (k + 1) := by
  obtain ⟨L, U, h5, h6⟩ := h
  refine ⟨fun i => if i < k then L i else a, fun i => if i < k then U i else b, fun i hi => ?_, fun i j hij hj => ?_⟩
  · by_cases hik : i < k
    · obtain ⟨s', q0, q1, q2, q3, q4, q5⟩ := h5 i hik
      refine ⟨s', ?_, ?_, ?_, by simpa [hik] using q3, by simpa [hik] using q4, by simp [hik]; omega⟩
      · rw [List.getElem?_set_ne (by omega), List.getElem?_set_ne (by omega), List.getElem?_set_ne (by omega)]; exact q0
      · rw [List.getElem?_set_ne (by omega), List.getElem?_set_ne (by omega), List.getElem?_set_ne (by omega)]; exact q1
      · rw [List.getElem?_set_ne (by omega), List.getElem?_set_ne (by omega), List.getElem?_set_ne (by omega)]; exact q2
    · obtain rfl : i = k := by omega
      refine ⟨s, ?_, ?_, ?_, by simpa using hs, by simpa using h1, by simpa using h4⟩
      · rw [List.getElem?_set_ne (by omega), List.getElem?_set_ne (by omega), List.getElem?_set_self (by omega)]
      · rw [List.getElem?_set_ne (by omega), List.getElem?_set_self (by simp; omega)]
      · rw [List.getElem?_set_self (by simp; omega)]
  · by_cases hjk : j < k
    · simp only [hjk, show i < k by omega, if_true]
      exact h6 i j hij hjk
    · simp only [hjk, show i < k by omega, if_true, if_false]
      obtain ⟨s', _, _, _, _, _, q5⟩ := h5 i (by omega)
      omega
/-- A row of pictures between two numbers of blocks. -/
def PIn (w : World) (lo hi : Nat) (t e : TypeId) (v : Value) (ps : List Pic) : Prop := ∃ cs, Own w lo hi t 3 v ps.length cs ∧ PRow w lo hi e cs ps ps.length
theorem PIn.gr {w w' : World} {lo hi : Nat} {t e : TypeId} {v : Value} {ps : List Pic} (h : PIn w lo hi t e v ps) (g : Gr w w') : PIn w' lo hi t e v ps := by
  obtain ⟨cs, h1, h2⟩ := h; exact ⟨cs, h1.gr g, h2.gr g (Nat.le_refl _)⟩
theorem PIn.wrote {w w' : World} {lo hi lo' hi' e' size' n' : Nat} {t e : TypeId} {v v' : Value} {ps : List Pic} {xs' : List Value} (h : PIn w lo hi t e v ps) (h' : Own w lo' hi' e' size' v' n' xs') (g : Wrote w w' v') (hd : hi ≤ lo' ∨ hi' ≤ lo) : PIn w' lo hi t e v ps := by
  obtain ⟨cs, h1, h2⟩ := h
  exact ⟨cs, h1.wrote h' g hd, h2.imp (Nat.le_refl _) (Nat.le_refl _) (fun l u s xs a b f => f.wrote h' g (by omega))⟩
theorem PIn.base {w : World} {lo hi lo' hi' : Nat} {t e : TypeId} {v : Value} {ps : List Pic} (h : PIn w lo hi t e v ps) (h1 : lo' ≤ lo) (h2 : hi ≤ hi') : PIn w lo' hi' t e v ps := by
  obtain ⟨cs, h3, h4⟩ := h
  exact ⟨cs, ⟨own_base h3.own h1, fun k hk => Nat.lt_of_lt_of_le (h3.hi k hk) h2⟩, h4.imp h1 h2 (fun _ _ _ _ _ _ f => f)⟩
theorem PIn.swap {w w' : World} {os : Array Obj} {m m' lo hi : Nat} {t e : TypeId} {v : Value} {ps : List Pic} (h : PIn (w.grew os m) lo hi t e v ps) (hB : w.heap.size ≤ lo) (hs : w.heap.size = w'.heap.size) : PIn (w'.grew os m') lo hi t e v ps := by
  obtain ⟨cs, h1, h2⟩ := h
  exact ⟨cs, h1.swap hB hs, h2.imp (Nat.le_refl _) (Nat.le_refl _) (fun l u s xs a b f => f.swap (by omega) hs)⟩
theorem PIn.sl {w : World} {lo hi : Nat} {t e : TypeId} {v : Value} {ps : List Pic} (h : PIn w lo hi t e v ps) : ∃ a c, v = .slice a ps.length c ∧ PSl w a ps := by
  obtain ⟨cs, h1, L, U, h2, -⟩ := h
  have h3 := h1.own
  rcases h3.2 with ⟨rfl, hn⟩ | ⟨g, cap, cur, rfl, hb, hg, hnc, hcm, hcs, ht⟩
  · rw [hn]; exact ⟨none, 0, rfl, fun i hi => by omega⟩
  · refine ⟨some ⟨g, 0, none⟩, cap, rfl, fun i hi => ?_⟩
    obtain ⟨s, q0, q1, q2, q3, -, -⟩ := h2 i hi
    obtain ⟨ga, gc, rfl, q4, q5⟩ := q3.sl
    refine ⟨g, 0, ga, gc, rfl, ?_, ?_, ?_, q4, q5⟩
    · rw [Nat.zero_add, World.ownsRow.cellAt h3 _ (by omega)]; exact q0
    · rw [Nat.zero_add, World.ownsRow.cellAt h3 _ (by omega)]; exact q1
    · rw [Nat.zero_add, World.ownsRow.cellAt h3 _ (by omega)]; exact q2
theorem PIn.psl {w : World} {lo hi n c : Nat} {a : Option Addr} {t e : TypeId} {ps : List Pic} (h : PIn w lo hi t e (.slice a n c) ps) : PSl w a ps := by
  obtain ⟨a', c', h1, h2⟩ := h.sl
  simp only [Value.slice.injEq] at h1
  obtain ⟨rfl, rfl, rfl⟩ := h1
  exact h2
theorem PIn.sl' {w : World} {lo hi n : Nat} {t e : TypeId} {v : Value} {ps : List Pic} (h : PIn w lo hi t e v ps) (hn : ps.length = n) : ∃ a c, v = .slice a n c := by
  obtain ⟨a, c, h1, -⟩ := h.sl
  exact ⟨a, c, by rw [← hn]; exact h1⟩
theorem PIn.sl2 {w : World} {lo hi n : Nat} {t e : TypeId} {v : Value} {ps : List Pic} (h : PIn w lo hi t e v ps) (hn : ps.length = n) : ∃ a c, v = .slice a n c ∧ PSl w a ps := by
  obtain ⟨a, c, h1, h2⟩ := h.sl
  exact ⟨a, c, by rw [← hn]; exact h1, h2⟩
theorem alb_len {ps : List Pic} {n m : Nat} (_ : ps.length = n) (h : pSum ps n ≤ m) : ∀ i, i < n → (pAt ps i).gs.length ≤ m := fun i hi => Nat.le_trans (pSum_le hi) h
end Go.Fx
