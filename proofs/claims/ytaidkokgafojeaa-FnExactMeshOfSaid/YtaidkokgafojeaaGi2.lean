/- Rows of whole numbers: made, read and stored into. -/
import Derived.Test.YtaidkokgafojeaaGi
import Derived.Laws.MakeOwn
import Derived.Laws.OwnMore
namespace Go.Fx
open Go Go.Soft Go.RowKit
theorem IOwn.ptr {w : World} {B : Nat} {e : TypeId} {v : Value} {xs : List Int} (h : IOwn w B e v xs) (hn : 0 < xs.length) : ∃ g cap, v = .slice (some ⟨g, 0, none⟩) xs.length cap ∧ B ≤ g := by
  rcases h.2 with ⟨_, h0⟩ | ⟨g, cap, cur, rfl, hb, _⟩
  · omega
  · exact ⟨g, cap, rfl, hb⟩
theorem IOwn.len {w : World} {B : Nat} {e : TypeId} {a : Option Addr} {n cap : Nat} {xs : List Int} (h : IOwn w B e (.slice a n cap) xs) : n = xs.length := by
  rcases h.2 with ⟨h0, h3⟩ | ⟨g', cap', cur, e', _⟩
  · simp at h0; omega
  · simp at e'; omega
theorem IOwn.get {w : World} {B : Nat} {e : TypeId} {g n cap : Nat} {xs : List Int} (h : IOwn w B e (.slice (some ⟨g, 0, none⟩) n cap) xs) (i : Nat) (hi : i < xs.length) : w.cell? ⟨g, i, none⟩ = some (.int .i64 (xs.getD i 0)) := by
  obtain rfl := h.len
  have h' : w.ownsRow B e 1 (.slice (some ⟨g, 0, none⟩) xs.length cap) xs.length (xs.map (Value.int .i64)) := h
  rw [h'.cellAt i (by omega), List.getD_eq_getElem?_getD, List.getElem?_eq_getElem hi]
  simp [hi]
theorem IOwn.free {w : World} {B : Nat} {e : TypeId} {g n cap : Nat} {xs : List Int} (h : IOwn w B e (.slice (some ⟨g, 0, none⟩) n cap) xs) (i : Nat) : w.frozen? ⟨g, i, none⟩ = false := by
  obtain rfl := h.len
  exact World.ownsRow.frozenAt h i
theorem IOwn.store {w : World} {B : Nat} {e : TypeId} {g n cap : Nat} {xs : List Int} (h : IOwn w B e (.slice (some ⟨g, 0, none⟩) n cap) xs) (k : Nat) (x : Int) : IOwn (w.setCell ⟨g, k, none⟩ (.int .i64 x)) B e (.slice (some ⟨g, 0, none⟩) n cap) (xs.set k x) := by
  obtain rfl := h.len
  have := (World.ownsRow.stored h k (.int .i64 x)).1
  unfold IOwn
  rw [List.length_set, List.map_set]
  exact this
theorem IOwn.grown {w w' : World} {B : Nat} {e : TypeId} {v : Value} {xs : List Int} {row : Option Nat} (h : IOwn w B e v xs) (g : w.grownBy w' row) (hr : v.ownBlock = none ∨ v.ownBlock ≠ row) : IOwn w' B e v xs := World.ownsRow.kept h g hr
theorem IOwn.setOther {w : World} {B : Nat} {e : TypeId} {v : Value} {xs : List Int} (h : IOwn w B e v xs) {p : Addr} (u : Value) (hp : v.ownBlock ≠ some p.block) : IOwn (w.setCell p u) B e v xs := own_setCell h u hp
theorem IOwn.notBlk {w : World} {B b : Nat} {e : TypeId} {v : Value} {xs : List Int} (h : IOwn w B e v xs) (hb : b < B) : v.ownBlock ≠ some b := by
  intro hk; have := (h.block hk).1; omega
theorem IOwn.made {w : World} {B : Nat} {e : TypeId} (n : Nat) (hb : B ≤ w.heap.size) (hm : n ≤ maxLen) : IOwn (w.alloc (.cells (madeCells #[.int .i64 0] n) e)) B e (.slice (some ⟨w.heap.size, 0, none⟩) n n) (List.replicate n 0) := by
  have h := World.ownsRow_lit (base := B) (e := e) (size := 1) w (madeCells #[.int .i64 0] n) n hb hm (by rw [size_madeCells, Nat.mul_one])
  have e1 : (madeCells #[.int .i64 0] n).toList = (List.replicate n (0 : Int)).map (Value.int .i64) := by
    rw [List.map_replicate]; exact toList_madeCells_one _ n
  rw [e1] at h
  unfold IOwn
  rw [List.length_replicate]
  exact h
end Go.Fx
