/- Two rows of numbers in one result. MAXREC -/
import Derived.Test.YtomlfdkcgaogcaaProg
import Derived.Test.YtomlfdkcgaogcaaC77
import Derived.Test.YtomlfdkcgaogcaaC79
namespace Go.Fx
open Go Go.Soft Go.RowKit
end Go.Fx
namespace Go.Proofs.Ytomlfdkcgaogcaa
open Go.RowKit Go.Fx Go.Soft
/-- What a function that hands back two rows of numbers and whether there are any leaves. -/
def PostII (w : World) (ok : Bool) (L I : List Int) (e : Ending) (w' : World) : Prop :=
  (∃ v u lo, e = .returned (.tuple #[v, u, .bool ok]) ∧ w.heap.size ≤ lo ∧ lo ≤ w'.heap.size ∧ IIn w' w.heap.size lo 2 v L ∧ IIn w' lo w'.heap.size 2 u I) ∧ Gr w w'
def gPatchL (W H : Int) (N : Nat) (xs : List Nat) : List Int := if gPic W H xs.length then (gPats W.toNat H.toNat N xs (W.toNat * H.toNat)).1 else []
def gPatchI (W H : Int) (N : Nat) (xs : List Nat) : List Int := if gPic W H xs.length then (gPats W.toNat H.toNat N xs (W.toNat * H.toNat)).2 else []
theorem gPats_pos {W H : Nat} (N : Nat) (xs : List Nat) (hW : 1 ≤ W) (hH : 1 ≤ H) : 0 < (gPats W H N xs (W * H)).1.length := by
  have h := gPat_len (hole := fun i => gHole (xs.getD i 0)) (h := gHg xs N) (nb := gNb W H) (n := W * H) (fun c h0 h1 j hj => gNb_in h0 h1 hj) (W * H) (Nat.le_refl _)
  have : 0 < W * H := Nat.mul_pos hW hH
  unfold gPats
  omega
theorem gPatch_len (W H : Int) (N : Nat) {xs : List Nat} (h : xs.length ≤ 1048576) : (gPatchL W H N xs).length ≤ 1048576 ∧ (gPatchI W H N xs).length ≤ 1048576 := by
  unfold gPatchL gPatchI
  cases hT : gPic W H xs.length
  · simp
  · have hp1 := (gPic_true hT).2
    obtain ⟨s1, s2, s3, s4, s5, s6⟩ := gSize_true (gPic_true hT).1
    obtain ⟨W, rfl⟩ := Int.eq_ofNat_of_zero_le (show 0 ≤ W by omega)
    obtain ⟨H, rfl⟩ := Int.eq_ofNat_of_zero_le (show 0 ≤ H by omega)
    have hl : xs.length = W * H := by exact_mod_cast hp1
    have := gPat_len (hole := fun i => gHole (xs.getD i 0)) (h := gHg xs N) (nb := gNb W H) (n := W * H) (fun c h0 h1 j hj => gNb_in h0 h1 hj) (W * H) (Nat.le_refl _)
    simp only [if_true, Int.toNat_natCast]
    unfold gPats
    omega
set_option maxRecDepth 20000 in
set_option maxHeartbeats 2000000 in
theorem S_PatchesOf (W H : Int) (a : Option Addr) (ca near N : Nat) (xs : List Nat) (w : World) (fx : FSl w a xs.length xs) (hn : xs.length ≤ 1048576) (hN : FE .f32 near N) :
    Calls Try.prog 10 #[.agg #[.int .i64 W, .int .i64 H, .slice a xs.length ca], .float .f32 near] w
      (PostII w (gPic W H xs.length) (gPatchL W H N xs) (gPatchI W H N xs)) := by
  have hn' : xs.length ≤ maxLen := by unfold maxLen; omega
  have Fx := Lib.hid fx
  clear fx
  unfold gPatchL gPatchI
  cases hT : gPic W H xs.length
  · go_enter Try.func10, Try.ntmps10
    go_wp2_with (first
      | (go_at_call 39; with_reducible refine (S_l03IsMap W H a _ ca _ _ _ hn' (by first | (simp (maxDischargeDepth := 12) [go_sem]; done) | (simp (maxDischargeDepth := 12) [go_sem, *]; done)) (by first | (simp (maxDischargeDepth := 12) [go_sem]; done) | (simp (maxDischargeDepth := 12) [go_sem, *]; done)) (by first | (simp (maxDischargeDepth := 12) [go_sem]; done) | (simp (maxDischargeDepth := 12) [go_sem, *]; done))).mono ?_; rintro e w' ⟨rfl, n, rfl⟩; rw [hT]))
    exact bodyPost_ret (v := .tuple #[.slice none 0 0, .slice none 0 0, .bool false]) (by simp [results, Try.results10, go_sem]) rfl ⟨⟨_, _, _, rfl, Gr.size (by (try show Gr _ _); repeat (with_reducible first | exact Gr.refl _ | refine Gr.drewN ?_ _ | refine Gr.grew ?_ _ _ | refine Gr.alloc ?_ _ | refine Gr.drew ?_)), Nat.le_refl _, (IOwn.nil _ _ _).fin, (IOwn.nil _ _ _).fin⟩, (by (try show Gr _ _); repeat (with_reducible first | exact Gr.refl _ | refine Gr.drewN ?_ _ | refine Gr.grew ?_ _ _ | refine Gr.alloc ?_ _ | refine Gr.drew ?_))⟩
  · have hp1 := (gPic_true hT).2
    obtain ⟨s1, s2, s3, s4, s5, s6⟩ := gSize_true (gPic_true hT).1
    obtain ⟨W, rfl⟩ := Int.eq_ofNat_of_zero_le (show 0 ≤ W by omega)
    obtain ⟨H, rfl⟩ := Int.eq_ofNat_of_zero_le (show 0 ≤ H by omega)
    have hl : xs.length = W * H := by exact_mod_cast hp1
    simp only [if_true, Int.toNat_natCast]
    have HC := Lib.hid (fun (b : Nat) (u : World) m => S_l05Patches W H b ca near N a xs u m (by omega) (by omega) (by omega) hl hN)
    obtain ⟨L, hL⟩ : ∃ L, L = (gPats W H N xs (W * H)).1 := ⟨_, rfl⟩
    obtain ⟨I, hI⟩ : ∃ I, I = (gPats W H N xs (W * H)).2 := ⟨_, rfl⟩
    have hLp := gPats_pos (W := W) (H := H) N xs (by omega) (by omega)
    rw [← hL, ← hI] at HC ⊢
    rw [← hL] at hLp
    have HLp := Lib.hid hLp
    clear hLp
    clear hL hI hp1 hl s1 s2 s3 s4 s5 s6
    go_enter Try.func10, Try.ntmps10
    go_wp2_with (first
      | (go_at_call 39; with_reducible refine (S_l03IsMap W H a _ ca _ _ _ hn' (by first | (simp (maxDischargeDepth := 12) [go_sem]; done) | (simp (maxDischargeDepth := 12) [go_sem, *]; done)) (by first | (simp (maxDischargeDepth := 12) [go_sem]; done) | (simp (maxDischargeDepth := 12) [go_sem, *]; done)) (by first | (simp (maxDischargeDepth := 12) [go_sem]; done) | (simp (maxDischargeDepth := 12) [go_sem, *]; done))).mono ?_; rintro e w' ⟨rfl, n, rfl⟩; rw [hT])
      | (go_at_call 40; refine (HC.out w.heap.size _ ⟨(by first | (simp (maxDischargeDepth := 12) [go_sem]; done) | (simp (maxDischargeDepth := 12) [go_sem, *]; done)), (by first | (simp (maxDischargeDepth := 12) [go_sem]; done) | (simp (maxDischargeDepth := 12) [go_sem, *]; done)), (by first | (simp (maxDischargeDepth := 12) [go_sem]; done) | (simp (maxDischargeDepth := 12) [go_sem, *]; done)), Fx.out.keep (by (repeat (with_reducible first | exact Kp.refl _ | exact kp_same | exact kp_app1 | exact kp_app2 | exact kp_app3 | refine Kp.grew ?_ _ _ | refine Kp.drewN ?_ _ | refine Kp.drew ?_ | refine Kp.alloc ?_ _)))⟩).mono ?_; rintro e w1 ⟨⟨v, u, rfl, h1, h2⟩, hg1⟩))
    obtain ⟨gz, cz, rfl, hgz⟩ := IOwn.ptr h1.own HLp.out
    have Zb := (IOwn.block h1.own (k := gz) rfl)
    have Z := Gr.size hg1
    simp at Z h1 h2 Zb
    exact bodyPost_ret (v := .tuple #[_, u, .bool true]) (by simp [results, Try.results10, go_sem]) rfl ⟨⟨_, _, _, rfl, by (try simp) <;> omega, by (try simp) <;> omega, ⟨IOwn.base h1.own (by (try simp) <;> omega), h1.hi⟩, h2⟩, Gr.trans (by (try show Gr _ _); repeat (with_reducible first | exact Gr.refl _ | refine Gr.drewN ?_ _ | refine Gr.grew ?_ _ _ | refine Gr.alloc ?_ _ | refine Gr.drew ?_)) hg1⟩
set_option maxRecDepth 20000 in
set_option maxHeartbeats 2000000 in
theorem I_PatchesOf (W H : Int) (a : Option Addr) (ca near N : Nat) (xs : List Nat) (w : World) (fx : FSl w a xs.length xs) (hn : xs.length ≤ 1048576) (hN : FE .f32 near N) :
    Calls Try.prog 12 #[.agg #[.int .i64 W, .int .i64 H, .slice a xs.length ca], .float .f32 near] w
      (PostII w (gPic W H xs.length) (gPatchL W H N xs) (gPatchI W H N xs)) := by
  have hn' : xs.length ≤ maxLen := by unfold maxLen; omega
  have Fx := Lib.hid fx
  clear fx
  unfold gPatchL gPatchI
  cases hT : gPic W H xs.length
  · go_enter Try.func12, Try.ntmps12
    go_wp2_with (first
      | (go_at_call 42; with_reducible refine (I_ValidMap _ _ _ _ _ _ hn').mono ?_; rintro e w' ⟨rfl, os, m, rfl⟩; rw [hT]))
    exact bodyPost_ret (v := .tuple #[.slice none 0 0, .slice none 0 0, .bool false]) (by simp [results, Try.results12, go_sem]) rfl ⟨⟨_, _, _, rfl, Gr.size (by (try show Gr _ _); repeat (with_reducible first | exact Gr.refl _ | refine Gr.drewN ?_ _ | refine Gr.grew ?_ _ _ | refine Gr.alloc ?_ _ | refine Gr.drew ?_)), Nat.le_refl _, (IOwn.nil _ _ _).fin, (IOwn.nil _ _ _).fin⟩, (by (try show Gr _ _); repeat (with_reducible first | exact Gr.refl _ | refine Gr.drewN ?_ _ | refine Gr.grew ?_ _ _ | refine Gr.alloc ?_ _ | refine Gr.drew ?_))⟩
  · have hp1 := (gPic_true hT).2
    obtain ⟨s1, s2, s3, s4, s5, s6⟩ := gSize_true (gPic_true hT).1
    obtain ⟨W, rfl⟩ := Int.eq_ofNat_of_zero_le (show 0 ≤ W by omega)
    obtain ⟨H, rfl⟩ := Int.eq_ofNat_of_zero_le (show 0 ≤ H by omega)
    have hl : xs.length = W * H := by exact_mod_cast hp1
    simp only [if_true, Int.toNat_natCast]
    have HC := Lib.hid (fun (b : Nat) (u : World) m => I_Map_patches W H b ca near N a xs u m (by omega) (by omega) (by omega) (by omega) hl hN)
    obtain ⟨L, hL⟩ : ∃ L, L = (gPats W H N xs (W * H)).1 := ⟨_, rfl⟩
    obtain ⟨I, hI⟩ : ∃ I, I = (gPats W H N xs (W * H)).2 := ⟨_, rfl⟩
    rw [← hL, ← hI] at HC ⊢
    clear hL hI hp1 hl s1 s2 s3 s4 s5 s6
    go_enter Try.func12, Try.ntmps12
    go_wp2_with (first
      | (go_at_call 42; with_reducible refine (I_ValidMap _ _ _ _ _ _ hn').mono ?_; rintro e w' ⟨rfl, os, m, rfl⟩; rw [hT])
      | (go_at_call 43; refine (HC.out w.heap.size _ ⟨(by first | (simp (maxDischargeDepth := 12) [go_sem]; done) | (simp (maxDischargeDepth := 12) [go_sem, *]; done)), (by first | (simp (maxDischargeDepth := 12) [go_sem]; done) | (simp (maxDischargeDepth := 12) [go_sem, *]; done)), (by first | (simp (maxDischargeDepth := 12) [go_sem]; done) | (simp (maxDischargeDepth := 12) [go_sem, *]; done)), Fx.out.keep (by (repeat (with_reducible first | exact Kp.refl _ | exact kp_same | exact kp_app1 | exact kp_app2 | exact kp_app3 | refine Kp.grew ?_ _ _ | refine Kp.drewN ?_ _ | refine Kp.drew ?_ | refine Kp.alloc ?_ _)))⟩).mono ?_; rintro e w1 ⟨⟨v, u, lo, rfl, z1, z2, h1, h2⟩, hg1⟩))
    have Z := Gr.size hg1
    simp at Z h1 h2 z1
    exact bodyPost_ret (v := .tuple #[v, u, .bool true]) (by simp [results, Try.results12, go_sem]) rfl ⟨⟨_, _, _, rfl, by (try simp) <;> omega, by (try simp) <;> omega, ⟨IOwn.base h1.own (by (try simp) <;> omega), h1.hi⟩, h2⟩, Gr.trans (by (try show Gr _ _); repeat (with_reducible first | exact Gr.refl _ | refine Gr.drewN ?_ _ | refine Gr.grew ?_ _ _ | refine Gr.alloc ?_ _ | refine Gr.drew ?_)) hg1⟩
end Go.Proofs.Ytomlfdkcgaogcaa
