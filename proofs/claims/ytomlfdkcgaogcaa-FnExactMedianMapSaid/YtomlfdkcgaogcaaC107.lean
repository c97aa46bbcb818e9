/- Contracts: rows of floats that are sorted: two parts change places. MAXREC -/
import Derived.Test.YtomlfdkcgaogcaaProg
import Derived.Test.YtomlfdkcgaogcaaSo
import Derived.Test.YtomlfdkcgaogcaaSl
import Derived.Test.YtomlfdkcgaogcaaGd
import Derived.Sort.Row
import Derived.BigRegion
import Derived.BigQuiet
import Derived.BigCall
import Derived.BigGuard
import Derived.Deep.QuietTactic
import Derived.Deep.LoopGhost
namespace Go.Fx
open Go Go.Soft Go.RowKit Go.Sort
/-- A number with the place it came from, as it lies in memory. -/
def encF (x : Nat × Nat) : Value := .float .f32 x.1
/-- Block g of w0 holds n0 numbers; w is w0 but that these are d, and for draws. -/
structure SRow (w0 : World) (g n0 : Nat) (d : Array (Nat × Nat)) (w : World) : Prop where
  size : d.size = n0
  good : ∀ i, i < n0 → FE .f32 d[i]!.1 d[i]!.1 ∧ isN .f32 d[i]!.1 = false
  is : ∃ d0 : Array (Nat × Nat), d0.size = n0 ∧ Holds encF w0 g 0 d0 ∧ ∃ n, w = (putRow encF w0 g 0 d).drewN n
theorem SRow.cell {w0 w : World} {g n0 : Nat} {d : Array (Nat × Nat)} (h : SRow w0 g n0 d w) {i : Nat} (hi : i < n0) : w.cell? ⟨g, i, none⟩ = some (.float .f32 d[i]!.1) := by
  obtain ⟨d0, hs, hh, n, rfl⟩ := h.is
  have := cell?_putRow encF w0 g 0 d0 d hh (by rw [h.size, hs]) i (by rw [h.size]; exact hi)
  rw [Nat.zero_add] at this
  exact this
theorem SRow.free {w0 w : World} {g n0 : Nat} {d : Array (Nat × Nat)} (h : SRow w0 g n0 d w) {i : Nat} (hi : i < n0) : w.frozen? ⟨g, i, none⟩ = false := by
  obtain ⟨d0, hs, hh, n, rfl⟩ := h.is
  have h1 := (holds_putRow encF w0 g 0 d0 d hh (by rw [h.size, hs]) i (by rw [h.size]; exact hi)).2
  rw [Nat.zero_add] at h1
  exact h1
theorem SRow.drewN {w0 w : World} {g n0 : Nat} {d : Array (Nat × Nat)} (h : SRow w0 g n0 d w) (m : Nat) : SRow w0 g n0 d (w.drewN m) := by
  obtain ⟨d0, hs, hh, n, rfl⟩ := h.is
  exact ⟨h.size, h.good, d0, hs, hh, n + m, by rw [World.drewN_drewN]⟩
theorem SRow.drew {w0 w : World} {g n0 : Nat} {d : Array (Nat × Nat)} (h : SRow w0 g n0 d w) : SRow w0 g n0 d w.drew := h.drewN 1
theorem swp_at {d : Array (Nat × Nat)} {i j p : Nat} (hi : i < d.size) (hj : j < d.size) : (swp d i j)[p]! = d[if p = j then i else if p = i then j else p]! := by
  rw [swp_get d hi hj]
  repeat' split
  all_goals rfl
theorem SRow.swap {w0 w : World} {g n0 : Nat} {d : Array (Nat × Nat)} (h : SRow w0 g n0 d w) {i j : Nat} (hi : i < n0) (hj : j < n0) : SRow w0 g n0 (swp d i j) ((w.setCell ⟨g, i, none⟩ (.float .f32 d[j]!.1)).setCell ⟨g, j, none⟩ (.float .f32 d[i]!.1)) := by
  obtain ⟨d0, hs, hh, n, rfl⟩ := h.is
  have e := putRow_swp encF w0 g 0 d i j (by rw [h.size]; exact hi) (by rw [h.size]; exact hj)
  rw [Nat.zero_add, Nat.zero_add] at e
  refine ⟨by rw [size_swp]; exact h.size, (fun p hp => by
    rw [swp_at (by rw [h.size]; exact hi) (by rw [h.size]; exact hj)]
    refine h.good _ ?_
    repeat' split
    all_goals assumption), d0, hs, hh, n, ?_⟩
  rw [← e]
  rfl
end Go.Fx
namespace Go.Proofs.Ytomlfdkcgaogcaa
open Go.RowKit Go.Fx Go.Soft Go.Sort
set_option maxRecDepth 20000 in
set_option maxHeartbeats 8000000 in
theorem I_swapRange (w0 : World) (g n0 cap a b n : Nat) (d : Array (Nat × Nat)) (w : World) (f : Value) (S : SRow w0 g n0 d w) (hab : a + n ≤ b) (hb : b + n ≤ n0) (hn : n0 ≤ 4096) :
    Calls Try.prog 140 #[.slice (some ⟨g, 0, none⟩) n0 cap, .int .i64 a, .int .i64 b, .int .i64 n, f] w fun e w' => e = .returned (.tuple #[]) ∧ ∃ d', SRow w0 g n0 d' w' ∧ PermIn a (b + n) d d' ∧ ∀ p, d'[p]! = d[swpI a b n p]! := by
  have HS := Lib.hid S
  clear S
  go_enter Try.func140, Try.ntmps140
  go_wp2
  go_loopg [10] n (fun g1 s wr => ∃ (i : Nat) (e : Array (Nat × Nat)), s = .int .i64 i ∧ i ≤ n ∧ g1 = n - i ∧ SRow w0 g n0 e wr ∧ Hid (PermIn a (b + n) d e) ∧ Hid (∀ p, e[p]! = d[swpI a b i p]!))
  case atStart => exact ⟨0, d, rfl, Nat.zero_le _, by omega, HS.out, permIn_refl d _ _, fun p => by rw [swpI_zero]⟩
  case round =>
    obtain ⟨i, e, rfl, hi, rfl, hs, hp, hq⟩ := hrel
    by_cases hlt : i < n
    · obtain ⟨p, hpp⟩ : ∃ p, p = a + i := ⟨_, rfl⟩
      obtain ⟨q, hqq⟩ : ∃ q, q = b + i := ⟨_, rfl⟩
      have hp0 : p < n0 := by omega
      have hq0 : q < n0 := by omega
      have cp := hs.cell hp0
      have cq := hs.cell hq0
      have fp := hs.free hp0
      have fq := hs.free hq0
      have wp : IntKind.i64.wrap ((a : Int) + (i : Int)) = (p : Int) := by rw [hpp, IntKind.wrap_i64]; omega
      have wq : IntKind.i64.wrap ((b : Int) + (i : Int)) = (q : Int) := by rw [hqq, IntKind.wrap_i64]; omega
      have kp : (p : Int) < (n0 : Int) := by omega
      have kq : (q : Int) < (n0 : Int) := by omega
      have hne : p ≠ q := by omega
      have HP := Lib.hid hpp
      have HQ := Lib.hid hqq
      have HR := Lib.hid hs
      clear hpp hqq hs
      go_wp2
      go_big_region
      all_goals go_wp2
      go_roundg (n - (i + 1))
      case measure => omega
      case rel =>
        refine ⟨i + 1, swp e p q, by go_num, by omega, rfl, ?_, ?_, ?_⟩
        · exact (HR.out.swap hp0 hq0).drew
        · have hz := HR.out.size
          exact permIn_trans _ _ _ _ _ hp.out (swp_permIn e a (b + n) p q (by have := HP.out; omega) (by have := HP.out; omega) (by have := HQ.out; omega) (by have := HQ.out; omega) (by omega))
        · intro r
          have hz := HR.out.size
          rw [swp_at (by omega) (by omega), hq.out]
          congr 1
          rw [HP.out, HQ.out, ← swpI_succ (show a + i < b by omega)]
          repeat' split
          all_goals rfl
    · obtain rfl : i = n := by omega
      go_wp2
      exact bodyPost_end (v := .tuple #[]) (by simp [results, Try.results140, go_sem]) rfl ⟨rfl, e, hs, hp.out, hq.out⟩
end Go.Proofs.Ytomlfdkcgaogcaa
