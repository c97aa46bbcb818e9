/- Contracts: flat maps; LessMaps. MAXREC -/
import Derived.Test.YtaidkokgafojeaaProg
import Derived.Test.YtaidkokgafojeaaC15
namespace Go.Proofs.Ytaidkokgafojeaa
open Go.RowKit Go.Fx Go.Soft
set_option maxRecDepth 20000 in
set_option maxHeartbeats 1000000 in
theorem S_l03Flat (W H n r X : Nat) (w : World) (hr : FE .f32 r X) (hW : W ≤ 24) (hH : H ≤ 24) (hn : n = W * H) :
    Calls Try.prog 93 #[.int .i64 W, .int .i64 H, .float .f32 r] w fun e w' => (∃ v, e = .returned (.agg #[.int .i64 W, .int .i64 H, v]) ∧ FOwn w' w.heap.size 65 v (lst n fun _ => X)) ∧ Gr w w' := by
  obtain ⟨i0, hi, hz0, hz1, hz2⟩ := info_parts info_float32
  have h24 : W * H ≤ 576 := Nat.mul_le_mul hW hH
  have hn6 : n ≤ 576 := by omega
  have Hn := Lib.hid hn
  have em : IntKind.i64.wrap ((W : Int) * (H : Int)) = (n : Int) := by
    rw [show (W : Int) * (H : Int) = (n : Int) by rw [hn]; simp]
    exact IntWalk.i64_in _ (by omega)
  clear hn h24
  go_enter Try.func93, Try.ntmps93
  go_wp2
  go_loopw [8] (fun i wr => ∃ k : Nat, k ≤ n ∧ i = .int .i64 k ∧ ∃ v, Blk wr (w.heap.size + 1) [.int .i64 W, .int .i64 H, v] 24 ∧ Blk wr w.heap.size [.int .i64 0, .int .i64 0, .slice none 0 0] 24 ∧ FOwn wr (w.heap.size + 2) 65 v (lst k fun _ => X) ∧ Gr w wr) (fun i _ => n - (intOf i).toNat)
  case atStart => exact ⟨0, Nat.zero_le _, rfl, _, (by repeat (with_reducible first | assumption | exact Blk.atNew (by simp) | refine Blk.alloc ?_ _ | refine Blk.grew ?_ _ _ | refine Blk.drewN ?_ _ | refine Blk.drew ?_)), (by repeat (with_reducible first | assumption | exact Blk.atNew (by simp) | refine Blk.alloc ?_ _ | refine Blk.grew ?_ _ _ | refine Blk.drewN ?_ _ | refine Blk.drew ?_)), FOwn.nil _ _ _, (by (try show Gr _ _); repeat (with_reducible first | exact Gr.refl _ | refine Gr.drewN ?_ _ | refine Gr.grew ?_ _ _ | refine Gr.alloc ?_ _ | refine Gr.drew ?_))⟩
  case round =>
    obtain ⟨k, hk, rfl, v, hb, hb0, ho, hg⟩ := hrel
    have Hb := Lib.hid hb
    have Hb0 := Lib.hid hb0
    have Ho := Lib.hid ho
    have Hg := Lib.hid hg
    have Hl : Hid (w.heap.size + 2 ≤ (w.heap.size + 1) + 1) := by simp [Hid]
    by_cases hlt : k < n
    · have p2 := hb.cellv 2
      clear hb hb0 ho hg


      go_wp2_with (first
        | (refine wpList_append_f rfl rfl i0 Try.underlying22 hi hz0 hz1 hz2 rfl (Ho.out.gr (by (try show Gr _ _); repeat (with_reducible first | exact Gr.refl _ | refine Gr.drewN ?_ _ | refine Gr.grew ?_ _ _ | refine Gr.alloc ?_ _ | refine Gr.drew ?_))) rfl ((Blk.atNew rfl).cellv 0 rfl) hr (by simp <;> omega) (by have := Hb.out.lt; have := Hl.out; simp <;> omega) ?_
           intro v1 w1 ho1 hg1
           obtain ⟨a1, c1, rfl, -, -⟩ := ho1.sl' (k + 1) (by simp)
           obtain ⟨hb1, P, ho2⟩ := pushed_step (i := 2) (u := .slice a1 (k + 1) c1) Hb.out Ho.out (by (try show Gr _ _); repeat (with_reducible first | exact Gr.refl _ | refine Gr.drewN ?_ _ | refine Gr.grew ?_ _ _ | refine Gr.alloc ?_ _ | refine Gr.drew ?_)) hg1 ho1 (by decide)
           have q2 := hb1.cellv 2
           have z2 := hb1.frozen 2
           have Hb2 := Lib.hid hb1
           have Ho2 := Lib.hid ho2
           have HP := Lib.hid P
           clear hg1 hb1 ho1 ho2 P))
      go_roundw
      case rel => exact ⟨k + 1, by omega, by go_num, _, Hb2.out.set _, HP.out.blk Hb0.out (by omega) (by omega), by rw [← lst_succ]; exact Ho2.out, HP.out.gr Hg.out (by omega) (by omega)⟩
      case measure => simp [intOf]; omega
    · obtain rfl : k = n := by omega
      clear Hb Hb0 Ho Hg
      have p0 := hb.cellv 0
      have p1 := hb.cellv 1
      have p2 := hb.cellv 2
      have q0 := hb0.cellv 0
      have q1 := hb0.cellv 1
      have q2 := hb0.cellv 2
      have z0 := hb0.frozen 0
      have z1 := hb0.frozen 1
      have z2 := hb0.frozen 2
      obtain ⟨a1, c1, rfl, -, -⟩ := ho.sl' (k) (by simp)
      have Ho := Lib.hid ho
      have Hg := Lib.hid hg
      clear hb hb0 ho hg
      go_wp2
      refine bodyPost_ret (v := .agg #[.int .i64 W, .int .i64 H, .slice a1 k c1]) (by simp [results, Try.results93, go_sem, *]) rfl ⟨⟨_, rfl, ?_⟩, ?_⟩
      · have h := Ho.out
        exact FOwn.base (B := w.heap.size + 2) (by repeat (with_reducible first | assumption | refine FOwn.setOther ?_ _ (by simp <;> omega))) (by omega)
      · have h := Hg.out
        exact (by repeat (with_reducible first | assumption | refine Gr.setCell ?_ (by simp <;> omega) _))
end Go.Proofs.Ytaidkokgafojeaa
