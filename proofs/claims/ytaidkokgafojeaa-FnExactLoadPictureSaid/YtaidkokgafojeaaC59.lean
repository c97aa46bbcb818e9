/- Contracts: floats out of four bytes. MAXREC -/
import Derived.Test.YtaidkokgafojeaaProg
import Derived.Test.YtaidkokgafojeaaC58
import Derived.Test.YtaidkokgafojeaaUp
import Derived.Deep.DeepCutAuto
namespace Go.Fx
open Go Go.Soft Go.RowKit
theorem str_eqb (a b : ByteArray) : (a.toList == b.toList) = decide (a = b) := by
  rw [ByteArray.toList_eq, ByteArray.toList_eq]
  by_cases h : a = b
  · subst h; simp
  · rw [decide_eq_false h, beq_eq_false_iff_ne]
    intro e
    exact h (by cases a; cases b; congr 1; exact Array.toList_inj.1 e)
theorem i64_or_join {x y : Nat} (i : Nat) (hy : y < 2 ^ i) (hx : x % 2 ^ i = 0) (hb : x + y < 4294967296) : bits .or .i64 (y : Int) (x : Int) = ((y + x : Nat) : Int) := by
  have e : y ||| x = y + x := by rw [Nat.or_comm, nat_join i x y hx hy, Nat.add_comm]
  show IntKind.i64.wrap ((BitVec.ofInt 64 (y : Int) ||| BitVec.ofInt 64 (x : Int)).toNat : Int) = _
  rw [BitVec.toNat_or, ofInt_u64 y (by omega), ofInt_u64 x (by omega), e, IntKind.wrap_i64]
  omega
/-- The number that four bytes of a text say, the least first. -/
def gN (s : ByteArray) (b : Nat) : Nat := gB s b + gB s (b + 1) * 256 + gB s (b + 2) * 65536 + gB s (b + 3) * 16777216
theorem gN_lt (s : ByteArray) (b : Nat) : gN s b < 4294967296 := by
  have h0 := gB_lt s b
  have h1 := gB_lt s (b + 1)
  have h2 := gB_lt s (b + 2)
  have h3 := gB_lt s (b + 3)
  unfold gN; omega
theorem or4 {a b c d : Nat} (ha : a < 256) (hb : b < 256) (hc : c < 256) (hd : d < 256) :
    bits .or .i64 (bits .or .i64 (bits .or .i64 (a : Int) ((b : Int) * 256)) ((c : Int) * 65536)) ((d : Int) * 16777216) = ((a + b * 256 + c * 65536 + d * 16777216 : Nat) : Int) := by
  have e1 : bits .or .i64 (a : Int) ((b : Int) * 256) = ((a + b * 256 : Nat) : Int) := i64_or_join (x := b * 256) 8 (by omega) (by omega) (by omega)
  have e2 : bits .or .i64 ((a + b * 256 : Nat) : Int) ((c : Int) * 65536) = ((a + b * 256 + c * 65536 : Nat) : Int) := i64_or_join (x := c * 65536) 16 (by omega) (by omega) (by omega)
  have e3 : bits .or .i64 ((a + b * 256 + c * 65536 : Nat) : Int) ((d : Int) * 16777216) = ((a + b * 256 + c * 65536 + d * 16777216 : Nat) : Int) := i64_or_join (x := d * 16777216) 24 (by omega) (by omega) (by omega)
  rw [e1, e2, e3]
/-- The first j bytes, the greatest first. -/
def gNp (s : ByteArray) (b : Nat) : Nat → Nat
  | 0 => 0
  | j + 1 => gNp s b j * 256 + gB s (b + (3 - j))
theorem gNp_4 (s : ByteArray) (b : Nat) : gNp s b 4 = gN s b := by
  show (((0 * 256 + gB s (b + 3)) * 256 + gB s (b + 2)) * 256 + gB s (b + 1)) * 256 + gB s (b + 0) = _
  simp only [Nat.add_zero]; unfold gN; omega
theorem gNp_lt (s : ByteArray) (b : Nat) : ∀ j, j ≤ 3 → gNp s b j < 16777216
  | 0, _ => by simp [gNp]
  | 1, _ => by have := gB_lt s (b + 3); simp [gNp]; omega
  | 2, _ => by have := gB_lt s (b + 3); have := gB_lt s (b + 2); simp [gNp]; omega
  | 3, _ => by have := gB_lt s (b + 3); have := gB_lt s (b + 2); have := gB_lt s (b + 1); simp [gNp]; omega
  | j + 4, h => by omega
/-- The i-th grey of a stored picture. -/
def gLoad (s : ByteArray) (i : Nat) : Nat := cz .f32 (gN s (6 + 4 * i))
theorem gLoad_fe (s : ByteArray) (i : Nat) : FE .f32 (gN s (6 + 4 * i)) (gLoad s i) := FE.self (gN_lt _ _)
end Go.Fx
namespace Go.Proofs.Ytaidkokgafojeaa
open Go.RowKit Go.Fx Go.Soft
set_option maxRecDepth 20000 in
set_option maxHeartbeats 1000000 in
theorem S_l01From (n : Nat) (w : World) (hn : n < 4294967296) :
    Calls Try.prog 125 #[.int .i64 n] w fun e w' => e = .returned (.float .f32 n) ∧ w' = w := by
  have cf := call_from n
  go_enter Try.func125, Try.ntmps125
  go_wp2_with (simp only [cf])
  go_ret
  exact ⟨rfl, rfl⟩
set_option maxRecDepth 20000 in
set_option maxHeartbeats 1000000 in
theorem I_FromBits (n : Nat) (w : World) (hn : n < 4294967296) :
    Calls Try.prog 129 #[.int .i64 n] w fun e w' => e = .returned (.tuple #[.float .f32 n, .bool true]) ∧ ∃ os m, w' = w.grew os m := by
  have cf := call_from n
  have h1 : decide ((n : Int) ≤ 4294967295) = true := by simp; omega
  have h0 : decide ((0 : Int) ≤ (n : Int)) = true := by simp
  go_enter Try.func129, Try.ntmps129
  go_wp2_with (first
      | (simp only [cf])
      | go_in)
  exact bodyPost_ret (v := .tuple #[.float .f32 n, .bool true]) (by simp [results, Try.results129, go_sem]) rfl ⟨rfl, (by (try show Gr _ _); repeat (with_reducible first | exact Gr.refl _ | refine Gr.drewN ?_ _ | refine Gr.grew ?_ _ _ | refine Gr.alloc ?_ _ | refine Gr.drew ?_))⟩
set_option maxRecDepth 20000 in
set_option maxHeartbeats 4000000 in
theorem I_load_1 (s : ByteArray) (W x y b1 b2 : Nat) (w : World) (hl : 6 + 4 * (x + W * y) + 4 ≤ s.size) (hs : s.size ≤ 1048576) (c1 : w.cell? ⟨b1, 0, none⟩ = some (.int .i64 W)) (c2 : w.cell? ⟨b2, 0, none⟩ = some (.string s)) (hW : W ≤ 24) (hy : y ≤ 24) :
    Calls Try.prog 128 #[.int .i64 x, .int .i64 y, .pointer (some ⟨b1, 0, none⟩), .pointer (some ⟨b2, 0, none⟩)] w fun e w' => (∃ r, e = .returned (.float .f32 r) ∧ FE .f32 r (gLoad s (x + W * y))) ∧ Gr w w' := by
  have e1 : IntKind.i64.wrap ((W : Int) * y) = (W : Int) * y := IntWalk.i64_in _ (by have : W * y ≤ 576 := Nat.mul_le_mul hW hy; omega)
  have e2 : IntKind.i64.wrap ((x : Int) + (W : Int) * y) = ((x + W * y : Nat) : Int) := by
    rw [show (x : Int) + (W : Int) * y = ((x + W * y : Nat) : Int) by simp]
    exact IntWalk.i64_in _ (by omega)
  have fe := gLoad_fe s (x + W * y)
  generalize x + W * y = i at *
  go_enter Try.func128, Try.ntmps128
  go_wp2
  clear e1 e2 c1
  go_loopw [8, 9] (fun a t wr => ∃ j : Nat, j ≤ 4 ∧ a = .int .i64 (gNp s (6 + 4 * i) j) ∧ t = .int .i64 (3 - (j : Int)) ∧ Gr w wr) (fun _ t _ => (intOf t + 1).toNat)
  case atStart => exact ⟨0, by omega, rfl, rfl, Gr.refl w⟩
  case round =>
    obtain ⟨j, hj, rfl, rfl, hg⟩ := hrel
    have p2 := hg.cell c2
    by_cases hlt : j < 4
    · have hb := gNp_lt s (6 + 4 * i) j (by omega)
      have hE := Lib.hid (show gNp s (6 + 4 * i) (j + 1) = gNp s (6 + 4 * i) j * 256 + gB s (6 + 4 * i + (3 - j)) from rfl)
      have hq := gB_eq (show 6 + 4 * i + (3 - j) < s.size by omega)
      have hq2 := gB_lt s (6 + 4 * i + (3 - j))
      have Hg := Lib.hid hg
      generalize gNp s (6 + 4 * i) j = N at *
      clear hg
      rw [hq] at hq2 hE
      clear hq
      go_wp2
      go_roundw
      case rel => exact ⟨j + 1, by omega, by rw [hE.out]; go_num, by go_num, Hg.out⟩
      case measure => simp [intOf]; omega
    · obtain rfl : j = 4 := by omega
      rw [gNp_4]
      have hn := gN_lt s (6 + 4 * i)
      generalize gN s (6 + 4 * i) = N at *
      clear p2
      go_wp2_with (first
      | (go_at_call 129; with_reducible refine (I_FromBits N _ hn).mono ?_; rintro e w' ⟨rfl, os, m, rfl⟩))
      go_ret
      exact ⟨⟨_, rfl, fe⟩, hg.trans (by (try show Gr _ _); repeat (with_reducible first | exact Gr.refl _ | refine Gr.drewN ?_ _ | refine Gr.grew ?_ _ _ | refine Gr.alloc ?_ _ | refine Gr.drew ?_))⟩
theorem tells_load (s : ByteArray) (W H b1 b2 : Nat) (w : World) (he : 6 + 4 * (W * H) ≤ s.size) (hs : s.size ≤ 1048576) (c1 : w.cell? ⟨b1, 0, none⟩ = some (.int .i64 W)) (c2 : w.cell? ⟨b2, 0, none⟩ = some (.string s)) (hW : W ≤ 24) (hH : H ≤ 24) :
    Tells w 128 #[.pointer (some ⟨b1, 0, none⟩), .pointer (some ⟨b2, 0, none⟩)] W H (fun x y => gLoad s (x + W * y)) :=
  ⟨Try.call128, fun x y hx hy w1 g => I_load_1 s W x y b1 b2 w1 (by have := cell_lt hx hy; omega) hs (g.cell c1) (g.cell c2) hW (by omega)⟩
end Go.Proofs.Ytaidkokgafojeaa
