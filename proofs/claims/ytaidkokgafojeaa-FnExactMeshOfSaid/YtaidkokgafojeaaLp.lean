/- The memory of a law: pictures and maps that are copied, compared, marked. -/
import Derived.Test.YtaidkokgafojeaaLm
namespace Go.Fx
open Go Go.Soft Go.RowKit
theorem Wrote.alloc {w w' : World} {o : Obj} {v : Value} (h : Wrote (w.alloc o) w' v) : Wrote w w' v :=
  ⟨⟨h.by_.os, h.by_.tape, h.by_.output, Nat.le_trans (by simp) h.by_.size, fun k hk hne => (h.by_.block k (by simp; omega) hne).trans (Below.heap_alloc w o k hk)⟩⟩
end Go.Fx
namespace Go.Proofs.Ytaidkokgafojeaa
open Go.RowKit Go.Fx Go.Soft
set_option maxHeartbeats 400000 in
theorem L_szFloat32S_ok (a : Option Addr) (n cap : Nat) (left : Int) (w : World) (h1 : left ≤ 1048576) (h2 : (n : Int) ≤ left) :
    Calls Try.prog 65 #[.slice a n cap, .int .i64 left] w fun e w' => e = .returned (.int .i64 (left - n)) ∧ w = w' := by
  go_enter Try.func65, Try.ntmps65
  go_wp2
  go_ret
  exact ⟨rfl, rfl⟩
set_option maxHeartbeats 400000 in
theorem L_szFloat32S_no (a : Option Addr) (n cap : Nat) (left : Int) (w : World) (h1 : left ≤ 1048576) (h0 : 0 ≤ left) (h2 : left < (n : Int)) (hn : n ≤ maxLen) :
    Calls Try.prog 65 #[.slice a n cap, .int .i64 left] w fun e w' => e = .returned (.int .i64 (-1)) ∧ w = w' := by
  unfold maxLen at hn
  go_enter Try.func65, Try.ntmps65
  go_wp2
  go_ret
  exact ⟨rfl, rfl⟩
set_option maxHeartbeats 400000 in
theorem L_szMap_ok (x y : Value) (wd hg : Int) (a : Option Addr) (n cap : Nat) (left : Int) (w : World) (hx : x = .int .i64 wd) (hy : y = .int .i64 hg) (h1 : left ≤ 1048576) (h2 : (n : Int) ≤ left) :
    Calls Try.prog 38 #[.agg #[x, y, .slice a n cap], .int .i64 left] w fun e w' => e = .returned (.int .i64 (left - n)) ∧ ∃ os m, w' = w.grew os m := by
  subst hx hy
  have h3 : 0 ≤ left - n := by omega
  go_enter Try.func38, Try.ntmps38
  go_wp2_with ((go_at_call 65; with_reducible refine (L_szFloat32S_ok _ _ _ _ _ h1 h2).mono ?_; rintro e w' ⟨rfl, rfl⟩))
  go_ret
  exact ⟨rfl, (by (try show Gr _ _); repeat (with_reducible first | exact Gr.refl _ | refine Gr.drewN ?_ _ | refine Gr.grew ?_ _ _ | refine Gr.alloc ?_ _ | refine Gr.drew ?_))⟩
set_option maxHeartbeats 400000 in
theorem L_szMap_no (x y : Value) (wd hg : Int) (a : Option Addr) (n cap : Nat) (left : Int) (w : World) (hx : x = .int .i64 wd) (hy : y = .int .i64 hg) (h1 : left ≤ 1048576) (h0 : 0 ≤ left) (h2 : left < (n : Int)) (hn : n ≤ maxLen) :
    Calls Try.prog 38 #[.agg #[x, y, .slice a n cap], .int .i64 left] w fun e w' => e = .returned (.int .i64 (-1)) ∧ ∃ os m, w' = w.grew os m := by
  subst hx hy
  go_enter Try.func38, Try.ntmps38
  go_wp2_with ((go_at_call 65; with_reducible refine (L_szFloat32S_no _ _ _ _ _ h1 h0 h2 hn).mono ?_; rintro e w' ⟨rfl, rfl⟩))
  go_ret
  exact ⟨rfl, (by (try show Gr _ _); repeat (with_reducible first | exact Gr.refl _ | refine Gr.drewN ?_ _ | refine Gr.grew ?_ _ _ | refine Gr.alloc ?_ _ | refine Gr.drew ?_))⟩
set_option maxHeartbeats 400000 in
theorem L_toMap (wd hg : Int) (a : Option Addr) (n cap : Nat) (xs : List Nat) (w : World) (hs : FSl w a n xs) (hn : n ≤ 1048576) :
    Calls Try.prog 40 #[.agg #[.int .i64 wd, .int .i64 hg, .slice a n cap]] w fun e w' => (∃ v, e = .returned (.agg #[.int .i64 wd, .int .i64 hg, v]) ∧ FOwn w' w.heap.size 65 v xs) ∧ ∃ os m, w' = w.grew os m := by
  go_enter Try.func40, Try.ntmps40
  go_wp2_with fail
  refine (L_toFloat32S _ _ cap xs _ (hs.keep (by (repeat (with_reducible first | exact Kp.refl _ | exact kp_same | exact kp_app1 | exact kp_app2 | exact kp_app3 | refine Kp.grew ?_ _ _ | refine Kp.drewN ?_ _ | refine Kp.drew ?_ | refine Kp.alloc ?_ _)))) hn).mono ?_
  rintro e w1 ⟨⟨v, rfl, ho⟩, os, m, rfl⟩
  obtain ⟨a1, c1, rfl, -, -⟩ := ho.sl
  have H := Lib.hid ho
  clear ho
  go_wp2
  refine bodyPost_ret (v := .agg #[.int .i64 wd, .int .i64 hg, .slice a1 xs.length c1]) (by simp [results, Try.results40, go_sem]) rfl ⟨⟨_, rfl, ?_⟩, (by (try show Gr _ _); repeat (with_reducible first | exact Gr.refl _ | refine Gr.drewN ?_ _ | refine Gr.grew ?_ _ _ | refine Gr.alloc ?_ _ | refine Gr.drew ?_))⟩
  exact (H.out.swap (Nat.le_refl _) (by simp)).base (by simp; omega)
set_option maxHeartbeats 400000 in
theorem L_eqMap (wd hg : Int) (a b : Option Addr) (n m ca cb : Nat) (xs : List Nat) (w : World) (hs : FSl w a n xs) (ht : FSl w b m xs) (hn : n ≤ maxLen) :
    Calls Try.prog 15 #[.agg #[.int .i64 wd, .int .i64 hg, .slice a n ca], .agg #[.int .i64 wd, .int .i64 hg, .slice b m cb]] w fun e w' => e = .returned (.bool true) ∧ ∃ os m, w' = w.grew os m := by
  go_enter Try.func15, Try.ntmps15
  go_wp2_with ((go_at_call 62; with_reducible refine (L_eqFloat32S _ _ _ _ _ _ xs _ (hs.keep (by (repeat (with_reducible first | exact Kp.refl _ | exact kp_same | exact kp_app1 | exact kp_app2 | exact kp_app3 | refine Kp.grew ?_ _ _ | refine Kp.drewN ?_ _ | refine Kp.drew ?_ | refine Kp.alloc ?_ _)))) (ht.keep (by (repeat (with_reducible first | exact Kp.refl _ | exact kp_same | exact kp_app1 | exact kp_app2 | exact kp_app3 | refine Kp.grew ?_ _ _ | refine Kp.drewN ?_ _ | refine Kp.drew ?_ | refine Kp.alloc ?_ _)))) hn).mono ?_; rintro e w' ⟨rfl, n, rfl⟩))
  go_ret
  exact ⟨rfl, (by (try show Gr _ _); repeat (with_reducible first | exact Gr.refl _ | refine Gr.drewN ?_ _ | refine Gr.grew ?_ _ _ | refine Gr.alloc ?_ _ | refine Gr.drew ?_))⟩
set_option maxHeartbeats 400000 in
theorem L_markMap (wd hg : Int) (v : Value) (lo hi n : Nat) (vs : List Value) (k0 : Int) (w : World) (h : Own w lo hi 65 1 v n vs) (hv : ∀ x ∈ vs, ∃ r, x = .float .f32 r) (hk : 0 ≤ k0) (hn : n ≤ 1048576) (hk2 : k0 ≤ 1099511627776) :
    Calls Try.prog 16 #[.agg #[.int .i64 wd, .int .i64 hg, v], .int .i64 k0] w fun e w' => e = .returned (.int .i64 (k0 + n)) ∧ Wrote w w' v ∧ Own w' lo hi 65 1 v n (marks k0 n) := by
  rcases h.own.2 with ⟨rfl, rfl⟩ | ⟨g, cap, cur, rfl, _⟩
  all_goals
    have H := Lib.hid h
    clear h
    go_enter Try.func16, Try.ntmps16
    go_wp2_with fail
    refine (L_markFloat32S _ lo hi _ vs k0 _ (H.out.gr (by (repeat (with_reducible first | exact Gr.refl _ | exact gr_same | exact gr_app1 | exact gr_app2 | exact gr_app3 | refine Gr.grew ?_ _ _ | refine Gr.drewN ?_ _ | refine Gr.drew ?_ | refine Gr.alloc ?_ _)))) hv hk hn hk2).mono ?_
    rintro e w1 ⟨rfl, h1, h2⟩
    have H1 := Lib.hid h1
    have H2 := Lib.hid h2
    clear h1 h2
    go_wp2
    go_ret
    exact ⟨by simp, H1.out.alloc, H2.out⟩
set_option maxHeartbeats 400000 in
theorem L_heldMap (wd hg : Int) (v : Value) (lo hi n : Nat) (k0 : Int) (w : World) (h : Own w lo hi 65 1 v n (marks k0 n)) (hk : 0 ≤ k0) (hn : n ≤ 1048576) (hk2 : k0 ≤ 1099511627776) :
    Calls Try.prog 17 #[.agg #[.int .i64 wd, .int .i64 hg, v], .int .i64 k0] w fun e w' => e = .returned (.int .i64 (k0 + n)) ∧ ∃ os m, w' = w.grew os m := by
  rcases h.own.2 with ⟨rfl, rfl⟩ | ⟨g, cap, cur, rfl, _⟩
  all_goals
    have H := Lib.hid h
    clear h
    go_enter Try.func17, Try.ntmps17
    go_wp2_with fail
    refine (L_heldFloat32S _ lo hi _ k0 _ (H.out.gr (by (repeat (with_reducible first | exact Gr.refl _ | exact gr_same | exact gr_app1 | exact gr_app2 | exact gr_app3 | refine Gr.grew ?_ _ _ | refine Gr.drewN ?_ _ | refine Gr.drew ?_ | refine Gr.alloc ?_ _)))) hk hn hk2).mono ?_
    rintro e w1 ⟨rfl, q, rfl⟩
    go_wp2
    go_ret
    exact ⟨by simp, (by (try show Gr _ _); repeat (with_reducible first | exact Gr.refl _ | refine Gr.drewN ?_ _ | refine Gr.grew ?_ _ _ | refine Gr.alloc ?_ _ | refine Gr.drew ?_))⟩
set_option maxHeartbeats 400000 in
theorem L_szPicture_ok (x y : Value) (wd hg : Int) (a : Option Addr) (n cap : Nat) (left : Int) (w : World) (hx : x = .int .i64 wd) (hy : y = .int .i64 hg) (h1 : left ≤ 1048576) (h2 : (n : Int) ≤ left) :
    Calls Try.prog 18 #[.agg #[x, y, .slice a n cap], .int .i64 left] w fun e w' => e = .returned (.int .i64 (left - n)) ∧ ∃ os m, w' = w.grew os m := by
  subst hx hy
  have h3 : 0 ≤ left - n := by omega
  go_enter Try.func18, Try.ntmps18
  go_wp2_with ((go_at_call 65; with_reducible refine (L_szFloat32S_ok _ _ _ _ _ h1 h2).mono ?_; rintro e w' ⟨rfl, rfl⟩))
  go_ret
  exact ⟨rfl, (by (try show Gr _ _); repeat (with_reducible first | exact Gr.refl _ | refine Gr.drewN ?_ _ | refine Gr.grew ?_ _ _ | refine Gr.alloc ?_ _ | refine Gr.drew ?_))⟩
set_option maxHeartbeats 400000 in
theorem L_szPicture_no (x y : Value) (wd hg : Int) (a : Option Addr) (n cap : Nat) (left : Int) (w : World) (hx : x = .int .i64 wd) (hy : y = .int .i64 hg) (h1 : left ≤ 1048576) (h0 : 0 ≤ left) (h2 : left < (n : Int)) (hn : n ≤ maxLen) :
    Calls Try.prog 18 #[.agg #[x, y, .slice a n cap], .int .i64 left] w fun e w' => e = .returned (.int .i64 (-1)) ∧ ∃ os m, w' = w.grew os m := by
  subst hx hy
  go_enter Try.func18, Try.ntmps18
  go_wp2_with ((go_at_call 65; with_reducible refine (L_szFloat32S_no _ _ _ _ _ h1 h0 h2 hn).mono ?_; rintro e w' ⟨rfl, rfl⟩))
  go_ret
  exact ⟨rfl, (by (try show Gr _ _); repeat (with_reducible first | exact Gr.refl _ | refine Gr.drewN ?_ _ | refine Gr.grew ?_ _ _ | refine Gr.alloc ?_ _ | refine Gr.drew ?_))⟩
set_option maxHeartbeats 400000 in
theorem L_toPicture (wd hg : Int) (a : Option Addr) (n cap : Nat) (xs : List Nat) (w : World) (hs : FSl w a n xs) (hn : n ≤ 1048576) :
    Calls Try.prog 20 #[.agg #[.int .i64 wd, .int .i64 hg, .slice a n cap]] w fun e w' => (∃ v, e = .returned (.agg #[.int .i64 wd, .int .i64 hg, v]) ∧ FOwn w' w.heap.size 65 v xs) ∧ ∃ os m, w' = w.grew os m := by
  go_enter Try.func20, Try.ntmps20
  go_wp2_with fail
  refine (L_toFloat32S _ _ cap xs _ (hs.keep (by (repeat (with_reducible first | exact Kp.refl _ | exact kp_same | exact kp_app1 | exact kp_app2 | exact kp_app3 | refine Kp.grew ?_ _ _ | refine Kp.drewN ?_ _ | refine Kp.drew ?_ | refine Kp.alloc ?_ _)))) hn).mono ?_
  rintro e w1 ⟨⟨v, rfl, ho⟩, os, m, rfl⟩
  obtain ⟨a1, c1, rfl, -, -⟩ := ho.sl
  have H := Lib.hid ho
  clear ho
  go_wp2
  refine bodyPost_ret (v := .agg #[.int .i64 wd, .int .i64 hg, .slice a1 xs.length c1]) (by simp [results, Try.results20, go_sem]) rfl ⟨⟨_, rfl, ?_⟩, (by (try show Gr _ _); repeat (with_reducible first | exact Gr.refl _ | refine Gr.drewN ?_ _ | refine Gr.grew ?_ _ _ | refine Gr.alloc ?_ _ | refine Gr.drew ?_))⟩
  exact (H.out.swap (Nat.le_refl _) (by simp)).base (by simp; omega)
set_option maxHeartbeats 400000 in
theorem L_eqPicture (wd hg : Int) (a b : Option Addr) (n m ca cb : Nat) (xs : List Nat) (w : World) (hs : FSl w a n xs) (ht : FSl w b m xs) (hn : n ≤ maxLen) :
    Calls Try.prog 22 #[.agg #[.int .i64 wd, .int .i64 hg, .slice a n ca], .agg #[.int .i64 wd, .int .i64 hg, .slice b m cb]] w fun e w' => e = .returned (.bool true) ∧ ∃ os m, w' = w.grew os m := by
  go_enter Try.func22, Try.ntmps22
  go_wp2_with ((go_at_call 62; with_reducible refine (L_eqFloat32S _ _ _ _ _ _ xs _ (hs.keep (by (repeat (with_reducible first | exact Kp.refl _ | exact kp_same | exact kp_app1 | exact kp_app2 | exact kp_app3 | refine Kp.grew ?_ _ _ | refine Kp.drewN ?_ _ | refine Kp.drew ?_ | refine Kp.alloc ?_ _)))) (ht.keep (by (repeat (with_reducible first | exact Kp.refl _ | exact kp_same | exact kp_app1 | exact kp_app2 | exact kp_app3 | refine Kp.grew ?_ _ _ | refine Kp.drewN ?_ _ | refine Kp.drew ?_ | refine Kp.alloc ?_ _)))) hn).mono ?_; rintro e w' ⟨rfl, n, rfl⟩))
  go_ret
  exact ⟨rfl, (by (try show Gr _ _); repeat (with_reducible first | exact Gr.refl _ | refine Gr.drewN ?_ _ | refine Gr.grew ?_ _ _ | refine Gr.alloc ?_ _ | refine Gr.drew ?_))⟩
set_option maxHeartbeats 400000 in
theorem L_markPicture (wd hg : Int) (v : Value) (lo hi n : Nat) (vs : List Value) (k0 : Int) (w : World) (h : Own w lo hi 65 1 v n vs) (hv : ∀ x ∈ vs, ∃ r, x = .float .f32 r) (hk : 0 ≤ k0) (hn : n ≤ 1048576) (hk2 : k0 ≤ 1099511627776) :
    Calls Try.prog 25 #[.agg #[.int .i64 wd, .int .i64 hg, v], .int .i64 k0] w fun e w' => e = .returned (.int .i64 (k0 + n)) ∧ Wrote w w' v ∧ Own w' lo hi 65 1 v n (marks k0 n) := by
  rcases h.own.2 with ⟨rfl, rfl⟩ | ⟨g, cap, cur, rfl, _⟩
  all_goals
    have H := Lib.hid h
    clear h
    go_enter Try.func25, Try.ntmps25
    go_wp2_with fail
    refine (L_markFloat32S _ lo hi _ vs k0 _ (H.out.gr (by (repeat (with_reducible first | exact Gr.refl _ | exact gr_same | exact gr_app1 | exact gr_app2 | exact gr_app3 | refine Gr.grew ?_ _ _ | refine Gr.drewN ?_ _ | refine Gr.drew ?_ | refine Gr.alloc ?_ _)))) hv hk hn hk2).mono ?_
    rintro e w1 ⟨rfl, h1, h2⟩
    have H1 := Lib.hid h1
    have H2 := Lib.hid h2
    clear h1 h2
    go_wp2
    go_ret
    exact ⟨by simp, H1.out.alloc, H2.out⟩
set_option maxHeartbeats 400000 in
theorem L_heldPicture (wd hg : Int) (v : Value) (lo hi n : Nat) (k0 : Int) (w : World) (h : Own w lo hi 65 1 v n (marks k0 n)) (hk : 0 ≤ k0) (hn : n ≤ 1048576) (hk2 : k0 ≤ 1099511627776) :
    Calls Try.prog 26 #[.agg #[.int .i64 wd, .int .i64 hg, v], .int .i64 k0] w fun e w' => e = .returned (.int .i64 (k0 + n)) ∧ ∃ os m, w' = w.grew os m := by
  rcases h.own.2 with ⟨rfl, rfl⟩ | ⟨g, cap, cur, rfl, _⟩
  all_goals
    have H := Lib.hid h
    clear h
    go_enter Try.func26, Try.ntmps26
    go_wp2_with fail
    refine (L_heldFloat32S _ lo hi _ k0 _ (H.out.gr (by (repeat (with_reducible first | exact Gr.refl _ | exact gr_same | exact gr_app1 | exact gr_app2 | exact gr_app3 | refine Gr.grew ?_ _ _ | refine Gr.drewN ?_ _ | refine Gr.drew ?_ | refine Gr.alloc ?_ _)))) hk hn hk2).mono ?_
    rintro e w1 ⟨rfl, q, rfl⟩
    go_wp2
    go_ret
    exact ⟨by simp, (by (try show Gr _ _); repeat (with_reducible first | exact Gr.refl _ | refine Gr.drewN ?_ _ | refine Gr.grew ?_ _ _ | refine Gr.alloc ?_ _ | refine Gr.drew ?_))⟩
end Go.Proofs.Ytaidkokgafojeaa
