/- The memory of a law: volumes that are copied, compared, marked. -/
import Derived.Test.YtomlfdkcgaogcaaLp
namespace Go.Proofs.Ytomlfdkcgaogcaa
open Go.RowKit Go.Fx Go.Soft
set_option maxHeartbeats 400000 in
theorem L_szVolume_ok (x y z : Value) (wd hg dp : Int) (a : Option Addr) (n cap : Nat) (left : Int) (w : World) (hx : x = .int .i64 wd) (hy : y = .int .i64 hg) (hz : z = .int .i64 dp) (h1 : left ≤ 1048576) (h2 : (n : Int) ≤ left) :
    Calls Try.prog 21 #[.agg #[x, y, z, .slice a n cap], .int .i64 left] w fun e w' => e = .returned (.int .i64 (left - n)) ∧ ∃ os m, w' = w.grew os m := by
  subst hx hy hz
  have h3 : 0 ≤ left - n := by omega
  go_enter Try.func21, Try.ntmps21
  go_wp2_with ((go_at_call 38; with_reducible refine (L_szFloat32S_ok _ _ _ _ _ h1 h2).mono ?_; rintro e w' ⟨rfl, rfl⟩))
  go_ret
  exact ⟨rfl, (by (try show Gr _ _); repeat (with_reducible first | exact Gr.refl _ | refine Gr.drewN ?_ _ | refine Gr.grew ?_ _ _ | refine Gr.alloc ?_ _ | refine Gr.drew ?_))⟩
set_option maxHeartbeats 400000 in
theorem L_szVolume_no (x y z : Value) (wd hg dp : Int) (a : Option Addr) (n cap : Nat) (left : Int) (w : World) (hx : x = .int .i64 wd) (hy : y = .int .i64 hg) (hz : z = .int .i64 dp) (h1 : left ≤ 1048576) (h0 : 0 ≤ left) (h2 : left < (n : Int)) (hn : n ≤ maxLen) :
    Calls Try.prog 21 #[.agg #[x, y, z, .slice a n cap], .int .i64 left] w fun e w' => e = .returned (.int .i64 (-1)) ∧ ∃ os m, w' = w.grew os m := by
  subst hx hy hz
  go_enter Try.func21, Try.ntmps21
  go_wp2_with ((go_at_call 38; with_reducible refine (L_szFloat32S_no _ _ _ _ _ h1 h0 h2 hn).mono ?_; rintro e w' ⟨rfl, rfl⟩))
  go_ret
  exact ⟨rfl, (by (try show Gr _ _); repeat (with_reducible first | exact Gr.refl _ | refine Gr.drewN ?_ _ | refine Gr.grew ?_ _ _ | refine Gr.alloc ?_ _ | refine Gr.drew ?_))⟩
set_option maxHeartbeats 400000 in
theorem L_toVolume (wd hg dp : Int) (a : Option Addr) (n cap : Nat) (xs : List Nat) (w : World) (hs : FSl w a n xs) (hn : n ≤ 1048576) :
    Calls Try.prog 23 #[.agg #[.int .i64 wd, .int .i64 hg, .int .i64 dp, .slice a n cap]] w fun e w' => (∃ v, e = .returned (.agg #[.int .i64 wd, .int .i64 hg, .int .i64 dp, v]) ∧ FOwn w' w.heap.size 25 v xs) ∧ ∃ os m, w' = w.grew os m := by
  go_enter Try.func23, Try.ntmps23
  go_wp2_with fail
  refine (L_toFloat32S _ _ cap xs _ (hs.keep (by (repeat (with_reducible first | exact Kp.refl _ | exact kp_same | exact kp_app1 | exact kp_app2 | exact kp_app3 | refine Kp.grew ?_ _ _ | refine Kp.drewN ?_ _ | refine Kp.drew ?_ | refine Kp.alloc ?_ _)))) hn).mono ?_
  rintro e w1 ⟨⟨v, rfl, ho⟩, os, m, rfl⟩
  obtain ⟨a1, c1, rfl, -, -⟩ := ho.sl
  have H := Lib.hid ho
  clear ho
  go_wp2
  refine bodyPost_ret (v := .agg #[.int .i64 wd, .int .i64 hg, .int .i64 dp, .slice a1 xs.length c1]) (by simp [results, Try.results23, go_sem]) rfl ⟨⟨_, rfl, ?_⟩, (by (try show Gr _ _); repeat (with_reducible first | exact Gr.refl _ | refine Gr.drewN ?_ _ | refine Gr.grew ?_ _ _ | refine Gr.alloc ?_ _ | refine Gr.drew ?_))⟩
  exact (H.out.swap (Nat.le_refl _) (by simp)).base (by simp; omega)
set_option maxHeartbeats 400000 in
theorem L_eqVolume (wd hg dp : Int) (a b : Option Addr) (n m ca cb : Nat) (xs : List Nat) (w : World) (hs : FSl w a n xs) (ht : FSl w b m xs) (hn : n ≤ maxLen) :
    Calls Try.prog 25 #[.agg #[.int .i64 wd, .int .i64 hg, .int .i64 dp, .slice a n ca], .agg #[.int .i64 wd, .int .i64 hg, .int .i64 dp, .slice b m cb]] w fun e w' => e = .returned (.bool true) ∧ ∃ os m, w' = w.grew os m := by
  go_enter Try.func25, Try.ntmps25
  go_wp2_with ((go_at_call 44; with_reducible refine (L_eqFloat32S _ _ _ _ _ _ xs _ (hs.keep (by (repeat (with_reducible first | exact Kp.refl _ | exact kp_same | exact kp_app1 | exact kp_app2 | exact kp_app3 | refine Kp.grew ?_ _ _ | refine Kp.drewN ?_ _ | refine Kp.drew ?_ | refine Kp.alloc ?_ _)))) (ht.keep (by (repeat (with_reducible first | exact Kp.refl _ | exact kp_same | exact kp_app1 | exact kp_app2 | exact kp_app3 | refine Kp.grew ?_ _ _ | refine Kp.drewN ?_ _ | refine Kp.drew ?_ | refine Kp.alloc ?_ _)))) hn).mono ?_; rintro e w' ⟨rfl, n, rfl⟩))
  go_ret
  exact ⟨rfl, (by (try show Gr _ _); repeat (with_reducible first | exact Gr.refl _ | refine Gr.drewN ?_ _ | refine Gr.grew ?_ _ _ | refine Gr.alloc ?_ _ | refine Gr.drew ?_))⟩
set_option maxHeartbeats 400000 in
theorem L_markVolume (wd hg dp : Int) (v : Value) (lo hi n : Nat) (vs : List Value) (k0 : Int) (w : World) (h : Own w lo hi 25 1 v n vs) (hv : ∀ x ∈ vs, ∃ r, x = .float .f32 r) (hk : 0 ≤ k0) (hn : n ≤ 1048576) (hk2 : k0 ≤ 1099511627776) :
    Calls Try.prog 26 #[.agg #[.int .i64 wd, .int .i64 hg, .int .i64 dp, v], .int .i64 k0] w fun e w' => e = .returned (.int .i64 (k0 + n)) ∧ Wrote w w' v ∧ Own w' lo hi 25 1 v n (marks k0 n) := by
  rcases h.own.2 with ⟨rfl, rfl⟩ | ⟨g, cap, cur, rfl, _⟩
  all_goals
    have H := Lib.hid h
    clear h
    go_enter Try.func26, Try.ntmps26
    go_wp2_with fail
    refine (L_markFloat32S _ lo hi _ vs k0 _ (H.out.gr (by (repeat (with_reducible first | exact Gr.refl _ | exact gr_same | exact gr_app1 | exact gr_app2 | exact gr_app3 | refine Gr.grew ?_ _ _ | refine Gr.drewN ?_ _ | refine Gr.drew ?_ | refine Gr.alloc ?_ _)))) hv hk hn hk2).mono ?_
    rintro e w1 ⟨rfl, h1, h2⟩
    have H1 := Lib.hid h1
    have H2 := Lib.hid h2
    clear h1 h2
    go_wp2
    go_ret
    exact ⟨by simp, H1.out.alloc, H2.out⟩
end Go.Proofs.Ytomlfdkcgaogcaa
