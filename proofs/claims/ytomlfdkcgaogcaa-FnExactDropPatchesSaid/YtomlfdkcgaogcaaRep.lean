/- Contracts: bits.Mul, slices.Repeat of one number. MAXREC -/
import Derived.Test.YtomlfdkcgaogcaaProg
import Derived.Test.YtomlfdkcgaogcaaC39
import Derived.Shelf.Bits.Mul64
import Derived.Laws.CopyOwn
import Derived.Deep.DeepCutAuto
import Derived.Deep.RegionHeld3
namespace Go.Proofs.Ytomlfdkcgaogcaa
open Go.RowKit Go.Fx Go.Soft Go.Shelf
def lays212_ren : Go.Shelf.Ren := ⟨fun | 212 => 119 | 263 => 132 | 264 => 133 | n => n, fun | 46 => 128 | 51 => 136 | 53 => 139 | 146 => 137 | 148 => 140 | n => n, fun | n => n⟩
theorem lays212 : Go.Proofs.Lays.n212 Try.prog lays212_ren := {
  mixed := by kernel_rfl
  f212 := Try.func119.trans (congrArg some (by kernel_rfl))
  f263 := Try.func132.trans (congrArg some (by kernel_rfl))
  f264 := Try.func133.trans (congrArg some (by kernel_rfl))
  t46 := Try.underlying128
  a46 := Try.isAgg128
  z46 := Try.sizeOf128
  v46 := Try.zeroValue128
  t51 := Try.underlying136
  a51 := Try.isAgg136
  z51 := Try.sizeOf136
  v51 := Try.zeroValue136
  t53 := Try.underlying139
  a53 := Try.isAgg139
  z53 := Try.sizeOf139
  v53 := Try.zeroValue139
  t146 := Try.underlying137
  a146 := Try.isAgg137
  z146 := Try.sizeOf137
  v146 := Try.zeroValue137
  t148 := Try.underlying140
  a148 := Try.isAgg140
  z148 := Try.sizeOf140
  v148 := Try.zeroValue140 }
theorem X_Mul_one (n : Nat) (w : World) (hn : n ≤ 4096) :
    Calls Try.prog 119 #[.int .u64 1, .int .u64 n] w fun e w' => e = .returned (.tuple #[.int .u64 0, .int .u64 n]) ∧ w' = w := by
  refine (Any.bits_Mul lays212 1 n (by omega) (by omega) w).mono ?_
  rintro e w' ⟨rfl, rfl⟩
  rw [show 1 * n / 18446744073709551616 = 0 by omega, show 1 * n % 18446744073709551616 = n by omega]
  exact ⟨rfl, rfl⟩
/-- k of n numbers are -1, the rest 0. -/
def gRep (n k : Nat) : List Value := List.replicate k (.int .i64 (-1)) ++ List.replicate (n - k) (.int .i64 0)
theorem gRep_length {n k : Nat} (h : k ≤ n) : (gRep n k).length = n := by simp [gRep]; omega
theorem gRep_splice {n k m : Nat} (h : k + m ≤ n) : splice (gRep n k) k (List.replicate m (.int .i64 (-1))) = gRep n (k + m) := by
  unfold splice gRep
  rw [List.take_append_of_le_length (by simp), List.take_of_length_le (by simp), List.length_replicate, List.drop_append, List.length_replicate, List.drop_eq_nil_of_le (by simp), List.nil_append,
    show k + m - k = m by omega, List.drop_replicate, show n - k - m = n - (k + m) by omega, ← List.append_assoc, List.replicate_append_replicate]
theorem gRep_at {n k j : Nat} (h : j < k) : (gRep n k)[j]? = some (.int .i64 (-1)) := by
  unfold gRep
  rw [List.getElem?_append_left (by simpa using h)]; simp [h]
theorem gRep_start (n : Nat) : (madeCells #[.int .i64 0] n) = (gRep n 0).toArray := by
  apply Array.ext'
  rw [toList_madeCells_one]; simp [gRep]
theorem gRep_own {w : World} {g n : Nat} {e : TypeId} (hm : n ≤ maxLen) (h : w.heap[g]? = some (.cells (gRep n n).toArray e (0, 0))) : IOwn w g e (.slice (some ⟨g, 0, none⟩) n n) (List.replicate n (-1)) := by
  unfold IOwn
  rw [List.length_replicate]
  refine ⟨by simp, .inr ⟨g, n, _, rfl, Nat.le_refl _, h, Nat.le_refl _, by omega, by simp [gRep], ?_⟩⟩
  simp [gRep]
theorem gRep_src {w : World} {b j : Nat} {v : Value} (hj : (List.replicate 1 (Value.int .i64 (-1)))[j]? = some v) (h : w.cell? ⟨b, 0, none⟩ = some (.int .i64 (-1))) : w.cell? ((⟨b, 0, none⟩ : Addr).add j) = some v := by
  rcases j with _ | j
  · simp at hj; subst hj; simpa [Addr.add] using h
  · simp at hj
theorem gRep_src2 {w : World} {g n k m j : Nat} {t : TypeId} {v : Value} (hm : m ≤ k) (hj : (List.replicate m (Value.int .i64 (-1)))[j]? = some v) (h : w.heap[g]? = some (.cells (gRep n k).toArray t (0, 0))) : w.cell? ((⟨g, 0, none⟩ : Addr).add j) = some v := by
  have hjm : j < m := by
    rcases Nat.lt_or_ge j m with h | h
    · exact h
    · rw [List.getElem?_eq_none (by simpa using h)] at hj; cases hj
  have := (Blk.mk (cs := gRep n k) h).cell j
  rw [gRep_at (by omega)] at this
  rw [show v = .int .i64 (-1) by simp [hjm] at hj; exact hj.symm]
  have e : (⟨g, 0, none⟩ : Addr).add j = ⟨g, j, none⟩ := by unfold Addr.add; split <;> simp_all
  rw [e]; exact this
theorem below_on {B : Nat} {w0 w w' : World} (h : Below B w0 w) (g : Gr w w') (hB : B ≤ w.heap.size) : Below B w0 w' := by
  have h' := g.below
  exact ⟨h'.os.trans h.os, h'.tape.trans h.tape, h'.output.trans h.output, Nat.le_trans h.size h'.size, fun k hk => (h'.block k (by omega)).trans (h.block k hk)⟩
theorem below_heap {B g : Nat} {w w' : World} {o : Option Obj} (h : Below B w w') (hg : g < B) (ho : w.heap[g]? = o) : w'.heap[g]? = o := by
  rw [h.block g hg]; exact ho
set_option maxRecDepth 20000 in
set_option maxHeartbeats 3000000 in
theorem X_Repeat (b n : Nat) (w : World) (hx : w.cell? ⟨b, 0, none⟩ = some (.int .i64 (-1))) (h1 : 1 ≤ n) (hn : n ≤ 4096) :
    Calls Try.prog 78 #[.slice (some ⟨b, 0, none⟩) 1 1, .int .i64 n] w fun e w' => (∃ v, e = .returned v ∧ IOwn w' w.heap.size 2 v (List.replicate n (-1))) ∧ Gr w w' := by
  have mk := run_make_ints n (by omega)
  have w1 : IntKind.u64.wrap (n : Int) = (n : Int) := by rw [IntKind.wrap_u64]; omega
  have w2 : IntKind.u64.wrap (1 : Int) = (1 : Int) := by rw [IntKind.wrap_u64]; omega
  have w3 : IntKind.i64.wrap (n : Int) = (n : Int) := IntWalk.i64_in _ (by omega)
  have n1 : ¬ ((9223372036854775807 : Int) < (n : Int)) := by omega
  have n2 : ¬ ((n : Int) < 0) := by omega
  have HX := Lib.hid hx
  clear hx
  have HZ : (Try.prog.info? 2).map (·.size) = some 1 := by kernel_rfl
  go_enter Try.func78, Try.ntmps78
  go_wp2_with (first | (go_at_call 119; (with_reducible refine (X_Mul_one n _ hn).mono ?_); rintro e w' ⟨rfl, hw⟩; rw [hw]; clear hw w') | (apply wpList_copy_splice (hgd := rfl) (ho := rfl) (elem := 2) (hu := Try.underlying27) (hsz := HZ) (g := w.heap.size) (off := 0) (cur := gRep n 0) (t := 2) (cs := List.replicate 1 (.int .i64 (-1))) (B := w.heap.size) (w0 := w); (case hd => rfl); (case hs => rfl); (case hg => (rw [gRep_start]; exact (Blk.atNew rfl).at_)); (case hn => (rw [List.length_replicate]; exact (Nat.min_eq_left h1).symm)); (case hpos => exact fun _ => ⟨rfl, _, rfl, fun j v hj => gRep_src hj ((show Gr w _ from (Gr.refl w).alloc _).cell HX.out)⟩); (case hfit => (rw [gRep_length (Nat.zero_le _)]; simp; omega)); (case h1 => (intro v hv; rw [List.eq_of_mem_replicate hv]; rfl)); (case hb => exact (show Gr w _ from (Gr.refl w).alloc _).below); (case hBg => exact Nat.le_refl _); intro w2 hw2 hb2))
  have HW2 := Lib.hid (show w2.heap[w.heap.size]? = some (.cells (gRep n 1).toArray 2 (0, 0)) by rw [hw2.out, gRep_splice (by omega)])
  have HB2 := Lib.hid hb2
  clear hw2 hb2
  go_loopw [8] (fun i wr => ∃ k : Nat, 1 ≤ k ∧ k ≤ n ∧ i = .int .i64 k ∧ wr.heap[w.heap.size]? = some (.cells (gRep n k).toArray 2 (0, 0)) ∧ Below w.heap.size w wr) (fun i _ => n - (intOf i).toNat)
  case atStart => exact ⟨1, Nat.le_refl _, h1, rfl, HW2.out, HB2.out⟩
  case round =>
    obtain ⟨k, hk1, hk, rfl, hw, hb⟩ := hrel
    have HWk := Lib.hid hw
    have HBk := Lib.hid hb
    clear hw hb
    by_cases hlt : k < n
    · obtain ⟨m, hm⟩ : ∃ m, m = min k (n - k) := ⟨_, rfl⟩
      have hmk : k + m ≤ n := by omega
      have hm1 : 1 ≤ m := by omega
      have HM := Lib.hid hm
      clear hm
      have ew : IntKind.i64.wrap ((k : Int) + (m : Int)) = ((k + m : Nat) : Int) := by rw [IntWalk.i64_in _ (by omega)]; simp
      go_upto_region 9 with fail
      go_region_held3 (fun w' => True)
      (first | (simp (maxDischargeDepth := 12) [go_sem]; done) | (simp (maxDischargeDepth := 12) [go_sem, *]; done)) (first
      | (apply step_copy_splice (hgd := rfl) (ho := rfl) (elem := 2) (hu := Try.underlying27) (hsz := HZ) (g := w.heap.size) (off := k) (cur := gRep n k) (t := 2) (cs := List.replicate m (.int .i64 (-1))) (B := w.heap.size) (w0 := w); (case hd => rfl); (case hs => rfl); (case hg => exact HWk.out); (case hn => (rw [List.length_replicate]; exact HM.out)); (case hpos => exact fun _ => ⟨by first | rfl | (rw [if_neg (by omega)]), _, rfl, fun j v hj => gRep_src2 (by have := HM.out; omega) hj HWk.out⟩); (case hfit => (rw [gRep_length hk]; simp; omega)); (case h1 => (intro v hv; rw [List.eq_of_mem_replicate hv]; rfl)); (case hb => exact below_on HBk.out (by (try show Gr _ _); repeat (with_reducible first | exact Gr.refl _ | refine Gr.drewN ?_ _ | refine Gr.grew ?_ _ _ | refine Gr.alloc ?_ _ | refine Gr.drew ?_)) HBk.out.size); (case hBg => exact Nat.le_refl _); intro w2 hw2 hb2))
      have HW3 := Lib.hid (show w2.heap[w.heap.size]? = some (.cells (gRep n (k + m)).toArray 2 (0, 0)) by rw [hw2.out, gRep_splice hmk])
      have HB3 := Lib.hid hb2
      clear hw2 hb2
      go_wp2
      go_roundw
      case rel => exact ⟨k + m, by omega, hmk, by first | rw [ew] | (simp only [Value.int.injEq, true_and]; first | exact ew | omega), HW3.out, HB3.out⟩
      case measure => have e2 := ew; simp only [intOf]; (try rw [e2]); omega
    · obtain rfl : k = n := by omega
      go_wp2
      exact bodyPost_ret (v := .slice (some ⟨w.heap.size, 0, none⟩) k k) (by simp [results, Try.results78, go_sem]) rfl ⟨⟨_, rfl, gRep_own (by unfold maxLen; omega) HWk.out⟩, Gr.of_below HBk.out⟩
end Go.Proofs.Ytomlfdkcgaogcaa
