/- Contracts: a stored picture is read (the reference). MAXREC -/
import Derived.Test.YtaidkokgafojeaaProg
import Derived.Test.YtaidkokgafojeaaC59
import Derived.Deep.DeepCutAuto
import Derived.Deep.RegionHeld3
namespace Go.Fx
open Go Go.Soft Go.RowKit
def eye1 : ByteArray := ⟨#[69, 89, 69, 49]⟩
end Go.Fx
namespace Go.Proofs.Ytaidkokgafojeaa
open Go.RowKit Go.Fx Go.Soft
/-- A text that begins as a stored picture does. -/
def gHead (s : ByteArray) : Bool := decide (6 ≤ s.size) && decide (s.extract 0 4 = eye1) && gSize (gB s 4) (gB s 5)
def gLoads (s : ByteArray) : List Nat := lst (gB s 4 * gB s 5) (gLoad s)
/-- A text that is a stored picture. -/
def gLdOk (s : ByteArray) : Bool := gHead s && decide (6 + 4 * (gB s 4 * gB s 5) = s.size) && decide (strOfNums (gStore (gB s 4) (gB s 5) (gLoads s)) = s)
/-- What the two loaders hand back. -/
def PostLd (s : ByteArray) (w : World) (e : Ending) (w' : World) : Prop :=
  ∃ (A B E : Int) (ok : Bool) (v : Value) (L : List Nat), e = .returned (.tuple #[.agg #[.int .i64 A, .int .i64 B, v], .int .i64 E, .bool ok]) ∧ FOwn w' w.heap.size 65 v L ∧
    Hid ((ok && decide (E = (s.size : Int))) = gLdOk s) ∧ Hid (gLdOk s = true → A = (gB s 4 : Int) ∧ B = (gB s 5 : Int) ∧ L = gLoads s) ∧ Gr w w'
theorem hid_no {s : ByteArray} {E : Int} (h : gLdOk s = false) : Hid ((false && decide (E = (s.size : Int))) = gLdOk s) := Lib.hid (by rw [h]; rfl)
theorem hid_not {s : ByteArray} {A B : Int} {L : List Nat} (h : gLdOk s = false) : Hid (gLdOk s = true → A = (gB s 4 : Int) ∧ B = (gB s 5 : Int) ∧ L = gLoads s) := Lib.hid (by rw [h]; intro h'; cases h')
theorem eye_beq (s : ByteArray) : ((s.extract 0 4).toList == [69, 89, 69, 49]) = decide (s.extract 0 4 = eye1) := by
  rw [← str_eqb, show eye1.toList = [69, 89, 69, 49] by rw [ByteArray.toList_eq]; rfl]
set_option maxRecDepth 20000 in
set_option maxHeartbeats 8000000 in
theorem S_l07Begin (s : ByteArray) (w : World) (hs : s.size ≤ 1048576) :
    Calls Try.prog 71 #[.string s, .int .i64 0] w (PostLd s w) := by
  obtain ⟨i0, hi, hz0, hz1, hz2⟩ := info_parts info_float32
  by_cases h6 : s.size < 6
  · have hno : gLdOk s = false := by unfold gLdOk gHead; rw [decide_eq_false (by omega)]; rfl
    have hd : decide ((s.size : Int) < 6) = true := decide_eq_true (by omega)
    go_enter Try.func71, Try.ntmps71
    go_wp2
    apply region_drew 26
    case hm => kernel_rfl
    case hB => kernel_rfl
    simp only [List.take_succ_cons, List.take_zero, List.drop_succ_cons, List.drop_zero]
    repeat (first
      | (simp only [hd])
      | (apply wpSoft_skip rfl; simp only [Act.put, List.setIfInBounds_toArray, List.set_cons_succ, List.set_cons_zero])
      | (apply wpSoft_nilCheck rfl rfl; simp only [Act.put, List.setIfInBounds_toArray, List.set_cons_succ, List.set_cons_zero])
      | ((with_reducible apply wpSoft_fop); (case hw => rfl); (case hD => exact closed_drew); (case hop => rfl); (case hx => rfl); (case hy => rfl); (case hA => (first | assumption | exact FE.ofInt _ _ | exact FE.lit (by decide +kernel))); (case hB => (first | assumption | exact FE.ofInt _ _ | exact FE.lit (by decide +kernel))); (intro r hr; simp only [Act.put, List.setIfInBounds_toArray, List.set_cons_succ, List.set_cons_zero]))

      | ((with_reducible apply wpSoft_widen); (case hw => rfl); (case hD => exact closed_drew); (case hs => exact Try.underlying65); (case hd => exact Try.underlying147); (case hx => rfl); (case hA => (first | assumption | exact FE.ofInt _ _ | exact FE.lit (by decide +kernel))); (intro r hr; simp only [Act.put, List.setIfInBounds_toArray, List.set_cons_succ, List.set_cons_zero]))
      | ((with_reducible apply wpSoft_fneg); (case hw => rfl); (case hx => rfl); (case hA => (first | assumption | exact FE.ofInt _ _ | exact FE.lit (by decide +kernel))); (intro r hr; simp only [Act.put, List.setIfInBounds_toArray, List.set_cons_succ, List.set_cons_zero]))
      | ((with_reducible apply wpSoft_fcmp); (case hw => rfl); (case hop => rfl); (case hx => rfl); (case hy => rfl); (case hA => (first | assumption | exact FE.ofInt _ _ | exact FE.lit (by decide +kernel))); (case hB => (first | assumption | exact FE.ofInt _ _ | exact FE.lit (by decide +kernel))); (case hb => (first | assumption | rfl)); simp only [Act.put, List.setIfInBounds_toArray, List.set_cons_succ, List.set_cons_zero])
      | (apply wpSoft_q rfl rfl; intro K hK; go_big_quiet_op; go_big_quiet_on))
    with_reducible apply wpSoft_nil
    intro m
    go_wp2
    exact bodyPost_ret (v := .tuple #[.agg #[.int .i64 0, .int .i64 0, .slice (some ⟨w.heap.size + 1, 0, none⟩) 0 0], .int .i64 0, .bool false]) (by simp [results, Try.results71, go_sem]) rfl ⟨0, 0, 0, false, _, [], rfl, FOwn.empty (by repeat (with_reducible first | assumption | exact Blk.atNew (by simp) | refine Blk.alloc ?_ _ | refine Blk.grew ?_ _ _ | refine Blk.drewN ?_ _ | refine Blk.drew ?_)) (by omega), hid_no hno, hid_not hno, (by (try show Gr _ _); repeat (with_reducible first | exact Gr.refl _ | refine Gr.drewN ?_ _ | refine Gr.grew ?_ _ _ | refine Gr.alloc ?_ _ | refine Gr.drew ?_))⟩
  have hd : decide ((s.size : Int) < 6) = false := decide_eq_false (by omega)
  have hq := eye_beq s
  cases hp : decide (s.extract 0 4 = eye1)
  · have hno : gLdOk s = false := by unfold gLdOk gHead; rw [hp]; simp
    rw [hp] at hq
    go_enter Try.func71, Try.ntmps71
    go_wp2
    apply region_drew 26
    case hm => kernel_rfl
    case hB => kernel_rfl
    simp only [List.take_succ_cons, List.take_zero, List.drop_succ_cons, List.drop_zero]
    repeat (first
      | (simp only [hd])
      | (simp only [hq, Bool.not_false])
      | (apply wpSoft_skip rfl; simp only [Act.put, List.setIfInBounds_toArray, List.set_cons_succ, List.set_cons_zero])
      | (apply wpSoft_nilCheck rfl rfl; simp only [Act.put, List.setIfInBounds_toArray, List.set_cons_succ, List.set_cons_zero])
      | ((with_reducible apply wpSoft_fop); (case hw => rfl); (case hD => exact closed_drew); (case hop => rfl); (case hx => rfl); (case hy => rfl); (case hA => (first | assumption | exact FE.ofInt _ _ | exact FE.lit (by decide +kernel))); (case hB => (first | assumption | exact FE.ofInt _ _ | exact FE.lit (by decide +kernel))); (intro r hr; simp only [Act.put, List.setIfInBounds_toArray, List.set_cons_succ, List.set_cons_zero]))

      | ((with_reducible apply wpSoft_widen); (case hw => rfl); (case hD => exact closed_drew); (case hs => exact Try.underlying65); (case hd => exact Try.underlying147); (case hx => rfl); (case hA => (first | assumption | exact FE.ofInt _ _ | exact FE.lit (by decide +kernel))); (intro r hr; simp only [Act.put, List.setIfInBounds_toArray, List.set_cons_succ, List.set_cons_zero]))
      | ((with_reducible apply wpSoft_fneg); (case hw => rfl); (case hx => rfl); (case hA => (first | assumption | exact FE.ofInt _ _ | exact FE.lit (by decide +kernel))); (intro r hr; simp only [Act.put, List.setIfInBounds_toArray, List.set_cons_succ, List.set_cons_zero]))
      | ((with_reducible apply wpSoft_fcmp); (case hw => rfl); (case hop => rfl); (case hx => rfl); (case hy => rfl); (case hA => (first | assumption | exact FE.ofInt _ _ | exact FE.lit (by decide +kernel))); (case hB => (first | assumption | exact FE.ofInt _ _ | exact FE.lit (by decide +kernel))); (case hb => (first | assumption | rfl)); simp only [Act.put, List.setIfInBounds_toArray, List.set_cons_succ, List.set_cons_zero])
      | (apply wpSoft_q rfl rfl; intro K hK; go_big_quiet_op; go_big_quiet_on))
    with_reducible apply wpSoft_nil
    intro m
    go_wp2
    exact bodyPost_ret (v := .tuple #[.agg #[.int .i64 0, .int .i64 0, .slice (some ⟨w.heap.size + 1, 0, none⟩) 0 0], .int .i64 0, .bool false]) (by simp [results, Try.results71, go_sem]) rfl ⟨0, 0, 0, false, _, [], rfl, FOwn.empty (by repeat (with_reducible first | assumption | exact Blk.atNew (by simp) | refine Blk.alloc ?_ _ | refine Blk.grew ?_ _ _ | refine Blk.drewN ?_ _ | refine Blk.drew ?_)) (by omega), hid_no hno, hid_not hno, (by (try show Gr _ _); repeat (with_reducible first | exact Gr.refl _ | refine Gr.drewN ?_ _ | refine Gr.grew ?_ _ _ | refine Gr.alloc ?_ _ | refine Gr.drew ?_))⟩
  rw [hp] at hq
  have l4 : 4 < s.size := by omega
  have l5 : 5 < s.size := by omega
  have EW := Lib.hid (gB_eq l4)
  have EH := Lib.hid (gB_eq l5)
  have bW := gB_lt s 4
  have bH := gB_lt s 5
  obtain ⟨W, hW⟩ : ∃ W, W = gB s 4 := ⟨_, rfl⟩
  obtain ⟨H, hH⟩ : ∃ H, H = gB s 5 := ⟨_, rfl⟩
  have HW := Lib.hid hW
  have HH := Lib.hid hH
  rw [← hW] at EW bW
  rw [← hH] at EH bH
  have q4 : (s[4]'l4).toNat = W := EW.out.symm
  have q5 : (s[5]'l5).toNat = H := EH.out.symm
  clear hW hH
  cases hS : gSize W H
  · have hno : gLdOk s = false := by unfold gLdOk gHead; rw [← HW.out, ← HH.out, hS]; simp
    go_enter Try.func71, Try.ntmps71
    go_wp2
    apply region_drew 26
    case hm => kernel_rfl
    case hB => kernel_rfl
    simp only [List.take_succ_cons, List.take_zero, List.drop_succ_cons, List.drop_zero]
    repeat (first
      | (simp only [hd])
      | (simp only [hq, Bool.not_true])
      | (simp only [q4])
      | (simp only [q5])
      | ((with_reducible apply wpSoft_calleq (f := 58)); (case hw => rfl); (case hc => exact Try.call58); (case hv => ((conv => lhs; simp [Act.eval]); try rfl)); (case hS => (rintro _ ⟨m, rfl⟩; with_reducible refine (S_l02Size _ _ _).mono ?_; rintro e w' ⟨rfl, rfl⟩; exact ⟨rfl, ⟨_, rfl⟩⟩)); (simp only [Act.put, List.setIfInBounds_toArray, List.set_cons_succ, List.set_cons_zero]; (try simp only [hS, Bool.not_false])))
      | (apply wpSoft_skip rfl; simp only [Act.put, List.setIfInBounds_toArray, List.set_cons_succ, List.set_cons_zero])
      | (apply wpSoft_nilCheck rfl rfl; simp only [Act.put, List.setIfInBounds_toArray, List.set_cons_succ, List.set_cons_zero])
      | ((with_reducible apply wpSoft_fop); (case hw => rfl); (case hD => exact closed_drew); (case hop => rfl); (case hx => rfl); (case hy => rfl); (case hA => (first | assumption | exact FE.ofInt _ _ | exact FE.lit (by decide +kernel))); (case hB => (first | assumption | exact FE.ofInt _ _ | exact FE.lit (by decide +kernel))); (intro r hr; simp only [Act.put, List.setIfInBounds_toArray, List.set_cons_succ, List.set_cons_zero]))

      | ((with_reducible apply wpSoft_widen); (case hw => rfl); (case hD => exact closed_drew); (case hs => exact Try.underlying65); (case hd => exact Try.underlying147); (case hx => rfl); (case hA => (first | assumption | exact FE.ofInt _ _ | exact FE.lit (by decide +kernel))); (intro r hr; simp only [Act.put, List.setIfInBounds_toArray, List.set_cons_succ, List.set_cons_zero]))
      | ((with_reducible apply wpSoft_fneg); (case hw => rfl); (case hx => rfl); (case hA => (first | assumption | exact FE.ofInt _ _ | exact FE.lit (by decide +kernel))); (intro r hr; simp only [Act.put, List.setIfInBounds_toArray, List.set_cons_succ, List.set_cons_zero]))
      | ((with_reducible apply wpSoft_fcmp); (case hw => rfl); (case hop => rfl); (case hx => rfl); (case hy => rfl); (case hA => (first | assumption | exact FE.ofInt _ _ | exact FE.lit (by decide +kernel))); (case hB => (first | assumption | exact FE.ofInt _ _ | exact FE.lit (by decide +kernel))); (case hb => (first | assumption | rfl)); simp only [Act.put, List.setIfInBounds_toArray, List.set_cons_succ, List.set_cons_zero])
      | (apply wpSoft_q rfl rfl; intro K hK; go_big_quiet_op; go_big_quiet_on))
    with_reducible apply wpSoft_nil
    intro m
    go_wp2
    exact bodyPost_ret (v := .tuple #[.agg #[.int .i64 0, .int .i64 0, .slice (some ⟨w.heap.size + 1, 0, none⟩) 0 0], .int .i64 0, .bool false]) (by simp [results, Try.results71, go_sem]) rfl ⟨0, 0, 0, false, _, [], rfl, FOwn.empty (by repeat (with_reducible first | assumption | exact Blk.atNew (by simp) | refine Blk.alloc ?_ _ | refine Blk.grew ?_ _ _ | refine Blk.drewN ?_ _ | refine Blk.drew ?_)) (by omega), hid_no hno, hid_not hno, (by (try show Gr _ _); repeat (with_reducible first | exact Gr.refl _ | refine Gr.drewN ?_ _ | refine Gr.grew ?_ _ _ | refine Gr.alloc ?_ _ | refine Gr.drew ?_))⟩
  obtain ⟨s1, s2, s3, s4, s5, s6⟩ := gSize_true hS
  have hW : W ≤ 24 := by omega
  have hH : H ≤ 24 := by omega
  have h576 : W * H ≤ 24 * 24 := Nat.mul_le_mul hW hH
  have EM := Lib.hid (show ((W : Int) * (H : Int)) = ((W * H : Nat) : Int) from (Int.natCast_mul W H).symm)
  have w2 : IntKind.i64.wrap ((W : Int) * (H : Int)) = ((W * H : Nat) : Int) := by rw [EM.out]; exact IntWalk.i64_in _ (by omega)
  clear s5 s6
  have HP := Lib.hid hp
  clear hp
  by_cases hl : s.size < 6 + 4 * (W * H)
  · have hno : gLdOk s = false := by unfold gLdOk; rw [← HW.out, ← HH.out, decide_eq_false (by omega)]; simp
    obtain ⟨n, hn⟩ : ∃ n, n = W * H := ⟨_, rfl⟩
    rw [← hn] at w2 hl h576
    clear hn
    go_enter Try.func71, Try.ntmps71
    go_wp2
    apply region_drew 26
    case hm => kernel_rfl
    case hB => kernel_rfl
    simp only [List.take_succ_cons, List.take_zero, List.drop_succ_cons, List.drop_zero]
    repeat (first
      | (simp only [hd])
      | (simp only [hq, Bool.not_true])
      | (simp only [q4])
      | (simp only [q5])
      | ((with_reducible apply wpSoft_calleq (f := 58)); (case hw => rfl); (case hc => exact Try.call58); (case hv => ((conv => lhs; simp [Act.eval]); try rfl)); (case hS => (rintro _ ⟨m, rfl⟩; with_reducible refine (S_l02Size _ _ _).mono ?_; rintro e w' ⟨rfl, rfl⟩; exact ⟨rfl, ⟨_, rfl⟩⟩)); (simp only [Act.put, List.setIfInBounds_toArray, List.set_cons_succ, List.set_cons_zero]; (try simp only [hS, Bool.not_true])))
      | (apply wpSoft_skip rfl; simp only [Act.put, List.setIfInBounds_toArray, List.set_cons_succ, List.set_cons_zero])
      | (apply wpSoft_nilCheck rfl rfl; simp only [Act.put, List.setIfInBounds_toArray, List.set_cons_succ, List.set_cons_zero])
      | ((with_reducible apply wpSoft_fop); (case hw => rfl); (case hD => exact closed_drew); (case hop => rfl); (case hx => rfl); (case hy => rfl); (case hA => (first | assumption | exact FE.ofInt _ _ | exact FE.lit (by decide +kernel))); (case hB => (first | assumption | exact FE.ofInt _ _ | exact FE.lit (by decide +kernel))); (intro r hr; simp only [Act.put, List.setIfInBounds_toArray, List.set_cons_succ, List.set_cons_zero]))

      | ((with_reducible apply wpSoft_widen); (case hw => rfl); (case hD => exact closed_drew); (case hs => exact Try.underlying65); (case hd => exact Try.underlying147); (case hx => rfl); (case hA => (first | assumption | exact FE.ofInt _ _ | exact FE.lit (by decide +kernel))); (intro r hr; simp only [Act.put, List.setIfInBounds_toArray, List.set_cons_succ, List.set_cons_zero]))
      | ((with_reducible apply wpSoft_fneg); (case hw => rfl); (case hx => rfl); (case hA => (first | assumption | exact FE.ofInt _ _ | exact FE.lit (by decide +kernel))); (intro r hr; simp only [Act.put, List.setIfInBounds_toArray, List.set_cons_succ, List.set_cons_zero]))
      | ((with_reducible apply wpSoft_fcmp); (case hw => rfl); (case hop => rfl); (case hx => rfl); (case hy => rfl); (case hA => (first | assumption | exact FE.ofInt _ _ | exact FE.lit (by decide +kernel))); (case hB => (first | assumption | exact FE.ofInt _ _ | exact FE.lit (by decide +kernel))); (case hb => (first | assumption | rfl)); simp only [Act.put, List.setIfInBounds_toArray, List.set_cons_succ, List.set_cons_zero])
      | (apply wpSoft_q rfl rfl; intro K hK; go_big_quiet_op; go_big_quiet_on))
    with_reducible apply wpSoft_nil
    intro m
    go_wp2
    exact bodyPost_ret (v := .tuple #[.agg #[.int .i64 W, .int .i64 H, .slice (some ⟨w.heap.size + 1, 0, none⟩) 0 0], .int .i64 0, .bool false]) (by simp [results, Try.results71, go_sem]) rfl ⟨W, H, 0, false, _, [], rfl, FOwn.empty (by repeat (with_reducible first | assumption | exact Blk.atNew (by simp) | refine Blk.alloc ?_ _ | refine Blk.grew ?_ _ _ | refine Blk.drewN ?_ _ | refine Blk.drew ?_)) (by omega), hid_no hno, hid_not hno, (by (try show Gr _ _); repeat (with_reducible first | exact Gr.refl _ | refine Gr.drewN ?_ _ | refine Gr.grew ?_ _ _ | refine Gr.alloc ?_ _ | refine Gr.drew ?_))⟩
  obtain ⟨n, hn⟩ : ∃ n, n = W * H := ⟨_, rfl⟩
  have HNW := Lib.hid hn
  rw [← hn] at w2 hl h576
  clear hn
  go_enter Try.func71, Try.ntmps71
  go_wp2
  apply region_drew 26
  case hm => kernel_rfl
  case hB => kernel_rfl
  simp only [List.take_succ_cons, List.take_zero, List.drop_succ_cons, List.drop_zero]
  repeat (first
    | (simp only [hd])
    | (simp only [hq, Bool.not_true])
    | (simp only [q4])
    | (simp only [q5])
    | ((with_reducible apply wpSoft_calleq (f := 58)); (case hw => rfl); (case hc => exact Try.call58); (case hv => ((conv => lhs; simp [Act.eval]); try rfl)); (case hS => (rintro _ ⟨m, rfl⟩; with_reducible refine (S_l02Size _ _ _).mono ?_; rintro e w' ⟨rfl, rfl⟩; exact ⟨rfl, ⟨_, rfl⟩⟩)); (simp only [Act.put, List.setIfInBounds_toArray, List.set_cons_succ, List.set_cons_zero]; (try simp only [hS, Bool.not_true])))
    | (apply wpSoft_skip rfl; simp only [Act.put, List.setIfInBounds_toArray, List.set_cons_succ, List.set_cons_zero])
    | (apply wpSoft_nilCheck rfl rfl; simp only [Act.put, List.setIfInBounds_toArray, List.set_cons_succ, List.set_cons_zero])
    | ((with_reducible apply wpSoft_fop); (case hw => rfl); (case hD => exact closed_drew); (case hop => rfl); (case hx => rfl); (case hy => rfl); (case hA => (first | assumption | exact FE.ofInt _ _ | exact FE.lit (by decide +kernel))); (case hB => (first | assumption | exact FE.ofInt _ _ | exact FE.lit (by decide +kernel))); (intro r hr; simp only [Act.put, List.setIfInBounds_toArray, List.set_cons_succ, List.set_cons_zero]))

    | ((with_reducible apply wpSoft_widen); (case hw => rfl); (case hD => exact closed_drew); (case hs => exact Try.underlying65); (case hd => exact Try.underlying147); (case hx => rfl); (case hA => (first | assumption | exact FE.ofInt _ _ | exact FE.lit (by decide +kernel))); (intro r hr; simp only [Act.put, List.setIfInBounds_toArray, List.set_cons_succ, List.set_cons_zero]))
    | ((with_reducible apply wpSoft_fneg); (case hw => rfl); (case hx => rfl); (case hA => (first | assumption | exact FE.ofInt _ _ | exact FE.lit (by decide +kernel))); (intro r hr; simp only [Act.put, List.setIfInBounds_toArray, List.set_cons_succ, List.set_cons_zero]))
    | ((with_reducible apply wpSoft_fcmp); (case hw => rfl); (case hop => rfl); (case hx => rfl); (case hy => rfl); (case hA => (first | assumption | exact FE.ofInt _ _ | exact FE.lit (by decide +kernel))); (case hB => (first | assumption | exact FE.ofInt _ _ | exact FE.lit (by decide +kernel))); (case hb => (first | assumption | rfl)); simp only [Act.put, List.setIfInBounds_toArray, List.set_cons_succ, List.set_cons_zero])
    | (apply wpSoft_q rfl rfl; intro K hK; go_big_quiet_op; go_big_quiet_on))
  with_reducible apply wpSoft_nil
  intro m
  go_wp2
  clear w2 hd hq q4 q5
  go_loopw [9, 10] (fun i j wr => ∃ k : Nat, k ≤ n ∧ i = .int .i64 k ∧ ∃ v, Blk wr (w.heap.size + 2) [.int .i64 W, .int .i64 H, v] 35 ∧ Blk wr w.heap.size [.int .i64 0, .int .i64 0, .slice none 0 0] 35 ∧ FOwn wr (w.heap.size + 1) 65 v (lst k (gLoad s)) ∧ Gr w wr) (fun i _ _ => n - (intOf i).toNat)
  case atStart => exact ⟨0, Nat.zero_le _, rfl, _, (by repeat (with_reducible first | assumption | exact Blk.atNew (by simp) | refine Blk.alloc ?_ _ | refine Blk.grew ?_ _ _ | refine Blk.drewN ?_ _ | refine Blk.drew ?_)), (by repeat (with_reducible first | assumption | exact Blk.atNew (by simp) | refine Blk.alloc ?_ _ | refine Blk.grew ?_ _ _ | refine Blk.drewN ?_ _ | refine Blk.drew ?_)), FOwn.empty (by repeat (with_reducible first | assumption | exact Blk.atNew (by simp) | refine Blk.alloc ?_ _ | refine Blk.grew ?_ _ _ | refine Blk.drewN ?_ _ | refine Blk.drew ?_)) (by simp), (by (try show Gr _ _); repeat (with_reducible first | exact Gr.refl _ | refine Gr.drewN ?_ _ | refine Gr.grew ?_ _ _ | refine Gr.alloc ?_ _ | refine Gr.drew ?_))⟩
  case round =>
    obtain ⟨k, hk, rfl, v, hb, hb0, ho, hg⟩ := hrel
    have Hb := Lib.hid hb
    have Hb0 := Lib.hid hb0
    have Ho := Lib.hid ho
    have Hg := Lib.hid hg
    have p2 := hb.cellv 2
    clear hb hb0 ho hg
    have Hl := Lib.hid (show w.heap.size + 1 ≤ w.heap.size + 2 + 1 by omega)
    by_cases hlt : k < n
    · have hN := gN_lt s (6 + 4 * k)
      have hr := gLoad_fe s k
      have x3 : 6 + 4 * k + 3 < s.size := by omega
      have x2 : 6 + 4 * k + 2 < s.size := by omega
      have x1 : 6 + 4 * k + 1 < s.size := by omega
      have x0 : 6 + 4 * k < s.size := by omega
      have a0 : (0 : Int) ≤ 6 + 4 * (k : Int) := by omega
      have b0 : 6 + 4 * (k : Int) < (s.size : Int) := by omega
      have c0 : (6 + 4 * (k : Int)).toNat = 6 + 4 * k := by omega
      have a1 : (0 : Int) ≤ 6 + 4 * (k : Int) + 1 := by omega
      have b1 : 6 + 4 * (k : Int) + 1 < (s.size : Int) := by omega
      have c1 : (6 + 4 * (k : Int) + 1).toNat = 6 + 4 * k + 1 := by omega
      have a2 : (0 : Int) ≤ 6 + 4 * (k : Int) + 2 := by omega
      have b2 : 6 + 4 * (k : Int) + 2 < (s.size : Int) := by omega
      have c2 : (6 + 4 * (k : Int) + 2).toNat = 6 + 4 * k + 2 := by omega
      have a3 : (0 : Int) ≤ 6 + 4 * (k : Int) + 3 := by omega
      have b3 : 6 + 4 * (k : Int) + 3 < (s.size : Int) := by omega
      have c3 : (6 + 4 * (k : Int) + 3).toNat = 6 + 4 * k + 3 := by omega
      have HOR : bits .or .i64 (bits .or .i64 (bits .or .i64 ((s[6 + 4 * k]'x0).toNat : Int) (((s[6 + 4 * k + 1]'x1).toNat : Int) * 256)) (((s[6 + 4 * k + 2]'x2).toNat : Int) * 65536)) (((s[6 + 4 * k + 3]'x3).toNat : Int) * 16777216) = ((gN s (6 + 4 * k) : Nat) : Int) := by
        rw [or4 (UInt8.toNat_lt _) (UInt8.toNat_lt _) (UInt8.toNat_lt _) (UInt8.toNat_lt _)]
        unfold gN
        rw [gB_eq x0, gB_eq x1, gB_eq x2, gB_eq x3]
      have e0 := UInt8.toNat_lt (s[6 + 4 * k]'x0)
      have e1 := UInt8.toNat_lt (s[6 + 4 * k + 1]'x1)
      have e2 := UInt8.toNat_lt (s[6 + 4 * k + 2]'x2)
      have e3 := UInt8.toNat_lt (s[6 + 4 * k + 3]'x3)
      obtain ⟨r, hr0⟩ : ∃ r, r = gN s (6 + 4 * k) := ⟨_, rfl⟩
      rw [← hr0] at hN hr HOR
      clear hr0
      go_wp2
      apply region_facts 29 [28] (fun _ v w' => ∃ b r, v = .slice (some ⟨b, 0, none⟩) 1 1 ∧ Blk w' b [.float .f32 r] 65 ∧ FE .f32 r (gLoad s k))
      case hm => kernel_rfl
      case hB => kernel_rfl
      case hR => rfl
      case hP => (intro k hk v w1 w2 hg hv; obtain ⟨b, r, hv, hB, hr⟩ := hv; exact ⟨b, r, hv, hB.gr hg, hr⟩)
      simp only [List.take_succ_cons, List.take_zero, List.drop_succ_cons, List.drop_zero]
      repeat (first
        | ((with_reducible apply wpF_call (f := 125) (vs := #[.int .i64 (r : Int)]) (S := fun v => v = .float .f32 r)); (case hw => rfl); (case hc => exact Try.call125); (case hv => (simp [Act.eval]; done)); (case hS => (intro os m _; refine (S_l01From r _ hN).mono ?_; rintro e w' ⟨rfl, rfl⟩; exact ⟨_, rfl, Gr.refl _, fun h => absurd h (by decide), rfl⟩)); (case hne => exact ⟨_, rfl⟩); (rintro v rfl; simp only [Act.put, List.setIfInBounds_toArray, List.set_cons_succ, List.set_cons_zero]))
        | ((with_reducible apply wpF_new (c := #[.float .f32 r]) (e := 65) (fun b => .slice (some ⟨b, 0, none⟩) 1 1)); (case hw => rfl); (case hx => (intro w; simp [execOp, go_sem])); (case hF => (intro w b hb hc _; exact ⟨b, _, rfl, ⟨hc⟩, hr⟩)); (intro b hb; simp only [Act.put, List.setIfInBounds_toArray, List.set_cons_succ, List.set_cons_zero]))
        | (apply wpF_skip rfl (by decide); simp only [Act.put, List.setIfInBounds_toArray, List.set_cons_succ, List.set_cons_zero])
        | (apply wpF_nilCheck rfl (by decide) rfl; simp only [Act.put, List.setIfInBounds_toArray, List.set_cons_succ, List.set_cons_zero])
        | ((with_reducible apply wpF_fop); (case hw => rfl); (case hT => decide); (case hop => rfl); (case hx => rfl); (case hy => rfl); (case hA => (first | assumption | exact FE.ofInt _ _ | exact FE.lit (by decide +kernel))); (case hB => (first | assumption | exact FE.ofInt _ _ | exact FE.lit (by decide +kernel))); (intro r hr; simp only [Act.put, List.setIfInBounds_toArray, List.set_cons_succ, List.set_cons_zero]))
        | ((with_reducible apply wpF_fneg); (case hw => rfl); (case hT => decide); (case hx => rfl); (case hA => (first | assumption | exact FE.ofInt _ _ | exact FE.lit (by decide +kernel))); (intro r hr; simp only [Act.put, List.setIfInBounds_toArray, List.set_cons_succ, List.set_cons_zero]))
        | ((with_reducible apply wpF_fcmp); (case hw => rfl); (case hT => decide); (case hop => rfl); (case hx => rfl); (case hy => rfl); (case hA => (first | assumption | exact FE.ofInt _ _ | exact FE.lit (by decide +kernel))); (case hB => (first | assumption | exact FE.ofInt _ _ | exact FE.lit (by decide +kernel))); (case hb => (first | assumption | rfl)); simp only [Act.put, List.setIfInBounds_toArray, List.set_cons_succ, List.set_cons_zero])
        | (apply wpF_q rfl (by decide) rfl; intro K hK; go_big_quiet_op; go_big_quiet_on))
      with_reducible apply wpF_nil
      intro os m hf
      obtain ⟨b', r', hb', hB', hr'⟩ := hf.1
      obtain rfl : b' = _ := by simpa using hb'.symm
      have G : Gr wr (wr.grew os m) := ⟨os, m, rfl⟩
      have ho' := Ho.out.gr G
      have c' := hB'.cellv 0
      clear hf hb'
      refine wpList_append_f rfl rfl i0 Try.underlying22 hi hz0 hz1 hz2 rfl ho' rfl c' hr' (by simp <;> omega) (by have := Hb.out.lt; have := Hl.out; simp <;> omega) ?_
      intro v1 w1 ho1 hg1
      obtain ⟨a1, c1, rfl, -, -⟩ := ho1.sl' (k + 1) (by simp)
      obtain ⟨hb1, P, ho2⟩ := pushed_step (i := 2) (u := .slice a1 (k + 1) c1) Hb.out Ho.out G hg1 ho1 (by decide)
      have q2 := hb1.cellv 2
      have z2 := hb1.frozen 2
      have Hb2 := Lib.hid hb1
      have Ho2 := Lib.hid ho2
      have HP := Lib.hid P
      clear G hg1 hb1 ho' ho1 ho2 P hB' c'
      go_wp2
      go_roundw
      case rel => exact ⟨k + 1, by omega, by go_num, _, Hb2.out.set _, HP.out.blk Hb0.out (by omega) (by omega), by rw [← lst_succ]; exact Ho2.out, HP.out.gr Hg.out (by omega) (by omega)⟩
      case measure => simp [intOf]; omega
    · obtain rfl : k = n := by omega
      obtain ⟨a1, c1, rfl, hf, -⟩ := Ho.out.sl' k (by simp)
      have Hf := Lib.hid hf
      clear hf p2
      have hE1 : (0 : Int) ≤ 6 + 4 * (k : Int) := by omega
      have hE2 : 6 + 4 * (k : Int) ≤ (s.size : Int) := by omega
      have hE3 : (6 + 4 * (k : Int)).toNat = 6 + 4 * k := by omega
      go_wp2
      have p0 := Hb.out.cellv 0
      have p1 := Hb.out.cellv 1
      have p2 := Hb.out.cellv 2
      have q0 := Hb0.out.cellv 0
      have q1 := Hb0.out.cellv 1
      have q2 := Hb0.out.cellv 2
      have z0 := Hb0.out.frozen 0
      have z1 := Hb0.out.frozen 1
      have z2 := Hb0.out.frozen 2
      obtain ⟨R, hR⟩ : ∃ R, R = strOfNums (gStore W H (lst k (gLoad s))) := ⟨_, rfl⟩
      have HR := Lib.hid hR
      have LP := Lib.hid (fun w1 (g : Gr wr w1) c0 c1' c2 => S_l07Store W H (w.heap.size + 2) c1 a1 (lst k (gLoad s)) w1 c0 c1' (by rw [lst_length]; exact c2) (by rw [lst_length]; exact Hf.out.keep g.kp) hW hH (by rw [lst_length]; omega))
      rw [← hR] at LP
      clear hR Hf
      go_region_held3 (fun w' => w'.cell? ⟨w.heap.size + 2, 0, none⟩ = some (.int .i64 W) ∧ w'.cell? ⟨w.heap.size + 2, 1, none⟩ = some (.int .i64 H) ∧ w'.cell? ⟨w.heap.size + 2, 2, none⟩ = some (.slice a1 k c1))
      (first | (simp (maxDischargeDepth := 12) [go_sem]; done) | (simp (maxDischargeDepth := 12) [go_sem, *]; done)) (first
      | (go_at_call 67; refine (LP.out _ (by (try show Gr _ _); repeat (with_reducible first | exact Gr.refl _ | refine Gr.drewN ?_ _ | refine Gr.grew ?_ _ _ | refine Gr.alloc ?_ _ | refine Gr.drew ?_)) (by first | (simp (maxDischargeDepth := 12) [go_sem]; done) | (simp (maxDischargeDepth := 12) [go_sem, *]; done)) (by first | (simp (maxDischargeDepth := 12) [go_sem]; done) | (simp (maxDischargeDepth := 12) [go_sem, *]; done)) (by first | (simp (maxDischargeDepth := 12) [go_sem]; done) | (simp (maxDischargeDepth := 12) [go_sem, *]; done))).mono ?_; rintro e w1 ⟨rfl, os3, m3, rfl⟩))
      go_wp2
      clear LP p0 p1 p2 hE1 hE2 hE3
      have BF : Blk ((((wr.setCell ⟨w.heap.size, 0, none⟩ (.int .i64 W)).setCell ⟨w.heap.size, 1, none⟩ (.int .i64 H)).setCell ⟨w.heap.size, 2, none⟩ (.slice a1 k c1)).drew.grew os3 m3) w.heap.size [.int .i64 W, .int .i64 H, .slice a1 k c1] 35 := ((((Hb0.out.set (i := 0) _).set (i := 1) _).set (i := 2) _).drew).grew _ _
      have r0 := BF.cellv 0
      have r1 := BF.cellv 1
      have r2 := BF.cellv 2
      clear BF q0 q1 q2
      have HG := Lib.hid (show gLoads s = lst k (gLoad s) by unfold gLoads; rw [← HW.out, ← HH.out, ← HNW.out])
      have HK := Lib.hid (show gLdOk s = (decide (6 + 4 * k = s.size) && decide (R = s)) by
        unfold gLdOk gHead
        rw [HG.out, ← HW.out, ← HH.out, ← HNW.out, ← HR.out, hS, HP.out, decide_eq_true (show 6 ≤ s.size by omega)]
        rfl)
      refine bodyPost_ret (v := .tuple #[.agg #[.int .i64 W, .int .i64 H, .slice a1 k c1], .int .i64 (6 + 4 * (k : Int)), .bool (R.toList == (s.extract 0 (6 + 4 * k)).toList)]) (by simp [results, Try.results71, go_sem, r0, r1, r2]) rfl ⟨W, H, 6 + 4 * (k : Int), R.toList == (s.extract 0 (6 + 4 * k)).toList, _, lst k (gLoad s), rfl, ?_, ?_, ?_, ?_⟩
      · have h := Ho.out
        have hh : FOwn (((wr.setCell ⟨w.heap.size, 0, none⟩ (.int .i64 W)).setCell ⟨w.heap.size, 1, none⟩ (.int .i64 H)).setCell ⟨w.heap.size, 2, none⟩ (.slice a1 k c1)) (w.heap.size + 1) 65 (.slice a1 k c1) (lst k (gLoad s)) := (by repeat (with_reducible first | assumption | refine FOwn.setOther ?_ _ (by simp <;> omega)))
        exact FOwn.base (B := w.heap.size + 1) (hh.gr (by (try show Gr _ _); repeat (with_reducible first | exact Gr.refl _ | refine Gr.drewN ?_ _ | refine Gr.grew ?_ _ _ | refine Gr.alloc ?_ _ | refine Gr.drew ?_))) (by omega)
      · refine Lib.hid ?_
        rw [HK.out, str_eqb]
        by_cases hz : 6 + 4 * k = s.size
        · rw [decide_eq_true hz, hz, decide_eq_true (show 6 + 4 * (k : Int) = (s.size : Int) by omega), ByteArray.extract_zero_size]
          simp
        · rw [decide_eq_false hz, decide_eq_false (show ¬ 6 + 4 * (k : Int) = (s.size : Int) by omega)]
          simp
      · refine Lib.hid fun _ => ⟨?_, ?_, HG.out.symm⟩
        · rw [← HW.out]
        · rw [← HH.out]
      · have h := Hg.out
        have hh : Gr w (((wr.setCell ⟨w.heap.size, 0, none⟩ (.int .i64 W)).setCell ⟨w.heap.size, 1, none⟩ (.int .i64 H)).setCell ⟨w.heap.size, 2, none⟩ (.slice a1 k c1)) := (by repeat (with_reducible first | assumption | refine Gr.setCell ?_ (by simp <;> omega) _))
        exact hh.trans (by (try show Gr _ _); repeat (with_reducible first | exact Gr.refl _ | refine Gr.drewN ?_ _ | refine Gr.grew ?_ _ _ | refine Gr.alloc ?_ _ | refine Gr.drew ?_))
end Go.Proofs.Ytaidkokgafojeaa
