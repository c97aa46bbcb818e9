/- Contracts: windows of a map, gone through by a function value that may write. MAXREC -/
import Derived.Test.YtomlfdkcgaogcaaProg
import Derived.Test.YtomlfdkcgaogcaaC19
import Derived.Deep.DeepCutAuto
namespace Go.Fx
/-- The first k cells of a window n wide, from (x0, y0) on, row by row. -/
def wl (x0 y0 n k : Nat) : List (Nat × Nat) := (List.range k).map fun p => (x0 + p % n, y0 + p / n)
theorem wl_succ {x0 y0 n i j : Nat} (hi : i < n) : wl x0 y0 n (i + 1 + n * j) = wl x0 y0 n (i + n * j) ++ [(x0 + i, y0 + j)] := by
  unfold wl
  rw [show i + 1 + n * j = (i + n * j) + 1 by omega, List.range_succ, List.map_append]
  simp only [List.map_cons, List.map_nil]
  rw [Nat.add_mul_mod_self_left, Nat.mod_eq_of_lt hi, Nat.add_mul_div_left _ _ (by omega), Nat.div_eq_of_lt hi, Nat.zero_add]
end Go.Fx
namespace Go.Proofs.Ytomlfdkcgaogcaa
open Go.RowKit Go.Fx Go.Soft
/-- A function value that takes cells, one by one: J tells what has become of the world. -/
structure Does (f : FuncId) (cs : Array Value) (W H : Nat) (J : List (Nat × Nat) → World → Prop) : Prop where
  call : ∀ args w, (callFunc f args).run Try.prog w = .ok (.enter f args) w
  does : ∀ l (u v : Nat) w, J l w → l.length ≤ 4096 → u < W → v < H → Calls Try.prog f (#[.int .i64 u, .int .i64 v] ++ cs) w fun e w' => (∃ x, e = .returned x) ∧ J (l ++ [(u, v)]) w'
set_option maxRecDepth 20000 in
set_option maxHeartbeats 4000000 in
theorem I_window (W H b x y r : Nat) (f : FuncId) (cs : Array Value) (J : List (Nat × Nat) → World → Prop) (w : World) (hd : Does f cs W H J) (h0 : ∀ l w, J l w → w.cell? ⟨b, 0, none⟩ = some (.int .i64 W)) (h1 : ∀ l w, J l w → w.cell? ⟨b, 1, none⟩ = some (.int .i64 H)) (hJ : J [] w) (hx : x < W) (hy : y < H) (hr : r ≤ 24) (hW : W ≤ 24) (hH : H ≤ 24) :
    Calls Try.prog 113 #[.pointer (some ⟨b, 0, none⟩), .int .i64 x, .int .i64 y, .int .i64 r, .func (.func f) #[] cs] w fun e w' => (∃ v, e = .returned v) ∧ J (wl (x - r) (y - r) (min (x + r) (W - 1) + 1 - (x - r)) ((min (x + r) (W - 1) + 1 - (x - r)) * (min (y + r) (H - 1) + 1 - (y - r)))) w' := by
  have HD := Lib.hid hd.does
  have hcall := hd.call
  have H0 := Lib.hid h0
  have H1 := Lib.hid h1
  have HJ := Lib.hid hJ
  obtain ⟨x0, hx0⟩ : ∃ x0, x0 = x - r := ⟨_, rfl⟩
  obtain ⟨y0, hy0⟩ : ∃ y0, y0 = y - r := ⟨_, rfl⟩
  obtain ⟨x1, hx1⟩ : ∃ x1, x1 = min (x + r) (W - 1) := ⟨_, rfl⟩
  obtain ⟨y1, hy1⟩ : ∃ y1, y1 = min (y + r) (H - 1) := ⟨_, rfl⟩
  rw [← hx0, ← hy0, ← hx1, ← hy1]
  have ex1 : (if (W : Int) - 1 < (x : Int) + (r : Int) then (W : Int) - 1 else (x : Int) + (r : Int)) = (x1 : Int) := by split <;> omega
  have ey1 : (if (H : Int) - 1 < (y : Int) + (r : Int) then (H : Int) - 1 else (y : Int) + (r : Int)) = (y1 : Int) := by split <;> omega
  have hx01 : x0 ≤ x1 := by omega
  have hy01 : y0 ≤ y1 := by omega
  have hx1W : x1 < W := by omega
  have hy1H : y1 < H := by omega
  obtain ⟨n, hn⟩ : ∃ n, n = x1 + 1 - x0 := ⟨_, rfl⟩
  obtain ⟨m, hm⟩ : ∃ m, m = y1 + 1 - y0 := ⟨_, rfl⟩
  rw [← hn, ← hm]
  have X0 := Lib.hid hx0
  have Y0 := Lib.hid hy0
  have HN := Lib.hid hn
  have HM := Lib.hid hm
  have c1 := h1 _ _ hJ
  clear hd h0 h1 hJ hx0 hy0 hx1 hy1 hn hm
  go_enter Try.func113, Try.ntmps113
  go_upto_region 0 with fail
  go_cut [10] (fun v wq => v = .int .i64 (y0 : Int) ∧ wq = w)
  case first =>
    go_wp2
    all_goals
      go_meet
      exact ⟨congrArg (Value.int .i64) (by have := Y0.out; omega), rfl⟩
  case rest =>
  obtain ⟨rfl, rfl⟩ := hcut
  go_wp2
  go_loopw [10] (fun i wr => ∃ q j : Nat, q = y0 + j ∧ j ≤ m ∧ i = .int .i64 q ∧ J (wl x0 y0 n (0 + n * j)) wr) (fun i _ => 50 - (intOf i).toNat)
  case atStart => exact ⟨y0, 0, rfl, Nat.zero_le _, rfl, HJ.out⟩
  case round =>
    obtain ⟨q, j, hq, hj, rfl, hJ⟩ := hrel
    have c1 := H1.out _ _ hJ
    have HJ := Lib.hid hJ
    have HQ := Lib.hid hq
    clear hJ hq
    go_upto_region 1 with fail
    go_cut [26] (fun v wq => v = .bool (decide (q ≤ y1)) ∧ wq = wr)
    case first =>
      go_wp2
      all_goals
        go_meet
        first | exact ⟨congrArg Value.bool (decide_eq_decide.2 (by omega)), rfl⟩ | (refine ⟨congrArg Value.bool ?_, rfl⟩; simp; omega)
    case rest =>
    obtain ⟨rfl, hw⟩ := hcut
    obtain rfl := hw.symm
    have hm' := HM.out
    have hq' := HQ.out
    by_cases hjm : j < m
    · have hqy : q ≤ y1 := by omega
      clear hm' hq'
      go_upto_region 3 with fail
      go_cut [11] (fun v wq => v = .int .i64 (x0 : Int) ∧ wq = wr)
      case first =>
        go_wp2
        all_goals
          go_meet
          exact ⟨congrArg (Value.int .i64) (by have := X0.out; omega), rfl⟩
      case rest =>
      obtain ⟨rfl, hw⟩ := hcut
      obtain rfl := hw.symm
      clear c1
      go_wp2
      go_loopw [11] (fun i wx => ∃ p i' : Nat, p = x0 + i' ∧ i' ≤ n ∧ i = .int .i64 p ∧ J (wl x0 y0 n (i' + n * j)) wx) (fun i _ => 50 - (intOf i).toNat)
      case atStart => exact ⟨x0, 0, rfl, Nat.zero_le _, rfl, HJ.out⟩
      case round =>
        clear HJ
        obtain ⟨p, i', hp, hi, rfl, hJ⟩ := hrel
        have c0 := H0.out _ _ hJ
        have HJ := Lib.hid hJ
        have HP := Lib.hid hp
        clear hJ hp
        go_upto_region 4 with fail
        go_cut [43] (fun v wq => v = .bool (decide (p ≤ x1)) ∧ wq = wr)
        case first =>
          go_wp2
          all_goals
            go_meet
            first | exact ⟨congrArg Value.bool (decide_eq_decide.2 (by omega)), rfl⟩ | (refine ⟨congrArg Value.bool ?_, rfl⟩; simp; omega)
        case rest =>
        obtain ⟨rfl, hw⟩ := hcut
        obtain rfl := hw.symm
        have hn' := HN.out
        have hp' := HP.out
        by_cases hin : i' < n
        · have hpx : p ≤ x1 := by omega
          have hlen : (wl x0 y0 n (i' + n * j)).length ≤ 4096 := by
            unfold wl
            rw [List.length_map, List.length_range]
            have := Nat.mul_le_mul (show n ≤ 24 by omega) (show j ≤ 24 by have := HM.out; omega)
            omega
          have huW : p < W := by omega
          have hvH : q < H := by omega
          clear hn' hp' hqy
          go_wp2
          refine (HD.out _ p q _ HJ.out hlen huW hvH).mono ?_
          rintro e u ⟨⟨v, rfl⟩, hJ⟩
          have HJ2 := Lib.hid hJ
          clear hJ
          go_wp2
          go_roundw
          case rel => exact ⟨p + 1, i' + 1, by have := HP.out; omega, by omega, by go_num, by have h := HJ2.out; rw [HP.out, HQ.out, ← wl_succ hin] at h; exact h⟩
          case measure => simp [intOf]; omega
        · have hpx : ¬ p ≤ x1 := by omega
          obtain rfl : i' = n := by omega
          clear hn' hp'
          go_wp2
          go_roundw
          case rel => exact ⟨q + 1, j + 1, by have := HQ.out; omega, by omega, by go_num, by rw [show 0 + i' * (j + 1) = i' + i' * j by rw [Nat.mul_add, Nat.mul_one, Nat.zero_add, Nat.add_comm]]; exact HJ.out⟩
          case measure => simp [intOf]; omega
    · have hqy : ¬ q ≤ y1 := by omega
      obtain rfl : j = m := by omega
      clear hm' hq'
      go_wp2
      refine bodyPost_end (v := .tuple #[]) (by simp [results, Try.results113, go_sem]) rfl ⟨⟨_, rfl⟩, ?_⟩
      have h := HJ.out
      rw [Nat.zero_add] at h
      exact h
end Go.Proofs.Ytomlfdkcgaogcaa
