/- The memory of a law: pictures and maps that are copied, compared, marked. -/
import Derived.Test.YtkaikcabnhhciaaLm
namespace Go.Proofs.Ytkaikcabnhhciaa
open Go.RowKit Go.Fx Go.Soft
theorem Wrote.alloc {w w' : World} {o : Obj} {v : Value} (h : Wrote (w.alloc o) w' v) : Wrote w w' v :=
  ⟨⟨h.by_.os, h.by_.tape, h.by_.output, Nat.le_trans (by simp) h.by_.size, fun k hk hne => (h.by_.block k (by simp; omega) hne).trans (Below.heap_alloc w o k hk)⟩⟩
set_option maxHeartbeats 400000 in
theorem L_szFloat32S_ok (a : Option Addr) (n cap : Nat) (left : Int) (w : World) (h1 : left ≤ 1048576) (h2 : (n : Int) ≤ left) :
    Calls Try.prog 88 #[.slice a n cap, .int .i64 left] w fun e w' => e = .returned (.int .i64 (left - n)) ∧ w = w' := by
  go_enter Try.func88, Try.ntmps88
  go_wp2
  go_ret
  exact ⟨rfl, rfl⟩
set_option maxHeartbeats 400000 in
theorem L_szFloat32S_no (a : Option Addr) (n cap : Nat) (left : Int) (w : World) (h1 : left ≤ 1048576) (h0 : 0 ≤ left) (h2 : left < (n : Int)) (hn : n ≤ maxLen) :
    Calls Try.prog 88 #[.slice a n cap, .int .i64 left] w fun e w' => e = .returned (.int .i64 (-1)) ∧ w = w' := by
  unfold maxLen at hn
  go_enter Try.func88, Try.ntmps88
  go_wp2
  go_ret
  exact ⟨rfl, rfl⟩
set_option maxHeartbeats 400000 in
theorem L_szPicture_ok (x y : Value) (wd hg : Int) (a : Option Addr) (n cap : Nat) (left : Int) (w : World) (hx : x = .int .i64 wd) (hy : y = .int .i64 hg) (h1 : left ≤ 1048576) (h2 : (n : Int) ≤ left) :
    Calls Try.prog 53 #[.agg #[x, y, .slice a n cap], .int .i64 left] w fun e w' => e = .returned (.int .i64 (left - n)) ∧ ∃ os m, w' = w.grew os m := by
  subst hx hy
  have h3 : 0 ≤ left - n := by omega
  go_enter Try.func53, Try.ntmps53
  go_wp2_with ((go_at_call 88; refine (L_szFloat32S_ok _ _ _ _ _ h1 h2).mono ?_; rintro e w' ⟨rfl, rfl⟩))
  go_ret
  exact ⟨rfl, (by repeat (first | exact Gr.refl _ | refine Gr.drewN ?_ _ | refine Gr.grew ?_ _ _ | refine Gr.alloc ?_ _ | refine Gr.drew ?_))⟩
set_option maxHeartbeats 400000 in
theorem L_szPicture_no (x y : Value) (wd hg : Int) (a : Option Addr) (n cap : Nat) (left : Int) (w : World) (hx : x = .int .i64 wd) (hy : y = .int .i64 hg) (h1 : left ≤ 1048576) (h0 : 0 ≤ left) (h2 : left < (n : Int)) (hn : n ≤ maxLen) :
    Calls Try.prog 53 #[.agg #[x, y, .slice a n cap], .int .i64 left] w fun e w' => e = .returned (.int .i64 (-1)) ∧ ∃ os m, w' = w.grew os m := by
  subst hx hy
  go_enter Try.func53, Try.ntmps53
  go_wp2_with ((go_at_call 88; refine (L_szFloat32S_no _ _ _ _ _ h1 h0 h2 hn).mono ?_; rintro e w' ⟨rfl, rfl⟩))
  go_ret
  exact ⟨rfl, (by repeat (first | exact Gr.refl _ | refine Gr.drewN ?_ _ | refine Gr.grew ?_ _ _ | refine Gr.alloc ?_ _ | refine Gr.drew ?_))⟩
set_option maxHeartbeats 400000 in
theorem L_toPicture (wd hg : Int) (a : Option Addr) (n cap : Nat) (xs : List Nat) (w : World) (hs : FSl w a n xs) (hn : n ≤ 1048576) :
    Calls Try.prog 55 #[.agg #[.int .i64 wd, .int .i64 hg, .slice a n cap]] w fun e w' => (∃ v, e = .returned (.agg #[.int .i64 wd, .int .i64 hg, v]) ∧ FOwn w' w.heap.size 22 v xs) ∧ ∃ os m, w' = w.grew os m := by
  go_enter Try.func55, Try.ntmps55
  go_wp2_with fail
  refine (L_toFloat32S _ _ cap xs _ (hs.keep (by (repeat (first | exact Kp.refl _ | exact kp_same | exact kp_pre (by simp only [Array.append_assoc]; exact ⟨_, rfl⟩) | refine Kp.grew ?_ _ _ | refine Kp.drewN ?_ _ | refine Kp.alloc ?_ _)))) hn).mono ?_
  rintro e w1 ⟨⟨v, rfl, ho⟩, os, m, rfl⟩
  obtain ⟨a1, c1, rfl, -, -⟩ := ho.sl
  have H := Lib.hid ho
  clear ho
  go_wp2
  refine bodyPost_ret (v := .agg #[.int .i64 wd, .int .i64 hg, .slice a1 xs.length c1]) (by simp [results, Try.results55, go_sem]) rfl ⟨⟨_, rfl, ?_⟩, (by repeat (first | exact Gr.refl _ | refine Gr.drewN ?_ _ | refine Gr.grew ?_ _ _ | refine Gr.alloc ?_ _ | refine Gr.drew ?_))⟩
  exact (H.out.swap (Nat.le_refl _) (by simp)).base (by simp; omega)
set_option maxHeartbeats 400000 in
theorem L_eqPicture (wd hg : Int) (a b : Option Addr) (n m ca cb : Nat) (xs : List Nat) (w : World) (hs : FSl w a n xs) (ht : FSl w b m xs) (hn : n ≤ maxLen) :
    Calls Try.prog 58 #[.agg #[.int .i64 wd, .int .i64 hg, .slice a n ca], .agg #[.int .i64 wd, .int .i64 hg, .slice b m cb]] w fun e w' => e = .returned (.bool true) ∧ ∃ os m, w' = w.grew os m := by
  go_enter Try.func58, Try.ntmps58
  go_wp2_with ((go_at_call 28; refine (L_eqFloat32S _ _ _ _ _ _ xs _ (hs.keep (by (repeat (first | exact Kp.refl _ | exact kp_same | exact kp_pre (by simp only [Array.append_assoc]; exact ⟨_, rfl⟩) | refine Kp.grew ?_ _ _ | refine Kp.drewN ?_ _ | refine Kp.alloc ?_ _)))) (ht.keep (by (repeat (first | exact Kp.refl _ | exact kp_same | exact kp_pre (by simp only [Array.append_assoc]; exact ⟨_, rfl⟩) | refine Kp.grew ?_ _ _ | refine Kp.drewN ?_ _ | refine Kp.alloc ?_ _)))) hn).mono ?_; rintro e w' ⟨rfl, n, rfl⟩))
  go_ret
  exact ⟨rfl, (by repeat (first | exact Gr.refl _ | refine Gr.drewN ?_ _ | refine Gr.grew ?_ _ _ | refine Gr.alloc ?_ _ | refine Gr.drew ?_))⟩
end Go.Proofs.Ytkaikcabnhhciaa
