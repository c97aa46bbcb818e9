/- Contracts: the rows that a tile needs. -/
import Derived.Test.YthbcadppbkglnaaProg
import Derived.Test.YthbcadppbkglnaaC9
namespace Go.Proofs.Ythbcadppbkglnaa
open Go.RowKit Go.Fx Go.Soft
set_option maxHeartbeats 400000 in
theorem S_l00Max (a b : Int) (w : World) :
    Calls Try.prog 124 #[.int .i64 a, .int .i64 b] w fun e w' => e = .returned (.int .i64 (max a b)) ∧ w' = w := by
  by_cases h : b < a
  · have e : max a b = a := by omega
    rw [e]
    go_enter Try.func124, Try.ntmps124
    go_wp2
    go_ret
    exact ⟨rfl, rfl⟩
  · have e : max a b = b := by omega
    rw [e]
    go_enter Try.func124, Try.ntmps124
    go_wp2
    go_ret
    exact ⟨rfl, rfl⟩
set_option maxHeartbeats 400000 in
theorem S_l00Min (a b : Int) (w : World) :
    Calls Try.prog 125 #[.int .i64 a, .int .i64 b] w fun e w' => e = .returned (.int .i64 (min a b)) ∧ w' = w := by
  by_cases h : a < b
  · have e : min a b = a := by omega
    rw [e]
    go_enter Try.func125, Try.ntmps125
    go_wp2
    go_ret
    exact ⟨rfl, rfl⟩
  · have e : min a b = b := by omega
    rw [e]
    go_enter Try.func125, Try.ntmps125
    go_wp2
    go_ret
    exact ⟨rfl, rfl⟩
theorem gTile_true {h f c : Int} (H : gTile h f c = true) : 0 ≤ f ∧ f ≤ h - 1 ∧ 1 ≤ c ∧ c ≤ h - f := by
  simp only [gTile, Bool.and_eq_true] at H
  have h1 := gIn_true H.1
  have h2 := gIn_true H.2
  exact ⟨h1.1, h1.2, h2.1, h2.2⟩
def gHalo (h f c r : Int) : Int × Int := (max 0 (f - r), min h (f + c + r) - max 0 (f - r))
def gHaloOk (w h : Int) (n : Nat) (f c r : Int) : Bool := gPic w h n && gTile h f c && gIn r 0 3
set_option maxHeartbeats 1000000 in
theorem S_l07Halo (h f c r : Int) (bl of : Nat) (w : World) (h1 : 1 ≤ h) (h2 : h ≤ 24) (ht : gTile h f c = true) (hr : gIn r 0 3 = true)
    (c0 : w.cell? ⟨bl, of, none⟩ = some (.int .i64 f)) (c1 : w.cell? ⟨bl, of + 1, none⟩ = some (.int .i64 c)) :
    Calls Try.prog 88 #[.int .i64 h, .pointer (some ⟨bl, of, none⟩), .int .i64 r] w fun e w' => e = .returned (.agg #[.int .i64 (gHalo h f c r).1, .int .i64 (gHalo h f c r).2]) ∧ ∃ os m, w' = w.grew os m := by
  obtain ⟨t1, t2, t3, t4⟩ := gTile_true ht
  obtain ⟨r1, r2⟩ := gIn_true hr
  have e1 : IntKind.i64.wrap (f - r) = f - r := IntWalk.i64_in _ (by omega)
  have e2 : IntKind.i64.wrap (f + c) = f + c := IntWalk.i64_in _ (by omega)
  have e3 : IntKind.i64.wrap (f + c + r) = f + c + r := IntWalk.i64_in _ (by omega)
  have e4 : IntKind.i64.wrap (min h (f + c + r) - max 0 (f - r)) = min h (f + c + r) - max 0 (f - r) := IntWalk.i64_in _ (by omega)
  clear ht hr t1 t2 t3 t4 r1 r2 h1 h2
  go_enter Try.func88, Try.ntmps88
  go_wp2_with (first
      | (go_at_call 124; refine (S_l00Max _ _ _).mono ?_; rintro e w' ⟨rfl, rfl⟩))
  apply region_drew 16
  case hm => kernel_rfl
  case hB => kernel_rfl
  simp only [List.take_succ_cons, List.take_zero, List.drop_succ_cons, List.drop_zero]
  repeat (first
    | ((with_reducible apply wpSoft_calleq (f := 125)); (case hw => rfl); (case hc => exact Try.call125); (case hv => ((conv => lhs; simp [Act.eval]); try rfl)); (case hS => (rintro _ ⟨m, rfl⟩; refine (S_l00Min _ _ _).mono ?_; rintro e w' ⟨rfl, rfl⟩; exact ⟨rfl, ⟨_, rfl⟩⟩)); (simp only [Act.put, List.setIfInBounds_toArray, List.set_cons_succ, List.set_cons_zero]))
    | (apply wpSoft_skip rfl; simp only [Act.put, List.setIfInBounds_toArray, List.set_cons_succ, List.set_cons_zero])
    | (apply wpSoft_nilCheck rfl rfl; simp only [Act.put, List.setIfInBounds_toArray, List.set_cons_succ, List.set_cons_zero])
    | ((with_reducible apply wpSoft_fop); (case hw => rfl); (case hD => exact closed_drew); (case hop => rfl); (case hx => rfl); (case hy => rfl); (case hA => assumption); (case hB => assumption); (intro r hr; simp only [Act.put, List.setIfInBounds_toArray, List.set_cons_succ, List.set_cons_zero]))

    | ((with_reducible apply wpSoft_widen); (case hw => rfl); (case hD => exact closed_drew); (case hs => exact Try.underlying30); (case hd => exact Try.underlying57); (case hx => rfl); (case hA => assumption); (intro r hr; simp only [Act.put, List.setIfInBounds_toArray, List.set_cons_succ, List.set_cons_zero]))
    | ((with_reducible apply wpSoft_fneg); (case hw => rfl); (case hx => rfl); (case hA => assumption); (intro r hr; simp only [Act.put, List.setIfInBounds_toArray, List.set_cons_succ, List.set_cons_zero]))
    | ((with_reducible apply wpSoft_fcmp); (case hw => rfl); (case hop => rfl); (case hx => rfl); (case hy => rfl); (case hA => assumption); (case hB => assumption); (case hb => (first | assumption | rfl)); simp only [Act.put, List.setIfInBounds_toArray, List.set_cons_succ, List.set_cons_zero])
    | (apply wpSoft_q rfl rfl; intro K hK; go_big_quiet_op; go_big_quiet_on))
  with_reducible apply wpSoft_nil
  intro m
  go_wp2
  exact bodyPost_ret (v := .agg #[.int .i64 (gHalo h f c r).1, .int .i64 (gHalo h f c r).2]) (by simp [results, Try.results88, go_sem, gHalo]) rfl ⟨rfl, (by repeat (first | exact Gr.refl _ | refine Gr.drewN ?_ _ | refine Gr.grew ?_ _ _ | refine Gr.alloc ?_ _ | refine Gr.drew ?_))⟩
set_option maxHeartbeats 1000000 in
theorem S_HaloOf (wd hg f c r : Int) (a : Option Addr) (k cap : Nat) (w : World) (hk : k ≤ maxLen) :
    Calls Try.prog 38 #[.agg #[.int .i64 wd, .int .i64 hg, .slice a k cap], .agg #[.int .i64 f, .int .i64 c], .int .i64 r] w fun e w' =>
      e = .returned (.tuple #[.agg #[.int .i64 (if gHaloOk wd hg k f c r then (gHalo hg f c r).1 else 0), .int .i64 (if gHaloOk wd hg k f c r then (gHalo hg f c r).2 else 0)], .bool (gHaloOk wd hg k f c r)]) ∧ ∃ os m, w' = w.grew os m := by
  cases hS : gPic wd hg k
  · have e : gHaloOk wd hg k f c r = false := by simp [gHaloOk, hS]
    simp only [e, Bool.false_eq_true, if_false]
    go_enter Try.func38, Try.ntmps38
    go_wp2_with (first
      | (go_at_call 85; refine (S_l02Is wd hg a k cap _ _ _ hk (by simp [go_sem]) (by simp [go_sem]) (by simp [go_sem])).mono ?_; rintro e w' ⟨rfl, n, rfl⟩; rw [hS]))
    exact bodyPost_ret (v := .tuple #[.agg #[.int .i64 0, .int .i64 0], .bool false]) (by simp [results, Try.results38, go_sem]) rfl ⟨rfl, (by repeat (first | exact Gr.refl _ | refine Gr.drewN ?_ _ | refine Gr.grew ?_ _ _ | refine Gr.alloc ?_ _ | refine Gr.drew ?_))⟩
  · obtain ⟨h1, h2⟩ := gPic_high hS
    cases hT : gTile hg f c
    · have e : gHaloOk wd hg k f c r = false := by simp [gHaloOk, hT]
      simp only [e, Bool.false_eq_true, if_false]
      go_enter Try.func38, Try.ntmps38
      go_wp2_with (first
      | (go_at_call 85; refine (S_l02Is wd hg a k cap _ _ _ hk (by simp [go_sem]) (by simp [go_sem]) (by simp [go_sem])).mono ?_; rintro e w' ⟨rfl, n, rfl⟩; rw [hS])
      | (go_at_call 86; refine (S_l07Tile hg f c _ _ _ h1 h2 (by simp [go_sem]) (by simp [go_sem])).mono ?_; rintro e w' ⟨rfl, n, rfl⟩; rw [hT]))
      exact bodyPost_ret (v := .tuple #[.agg #[.int .i64 0, .int .i64 0], .bool false]) (by simp [results, Try.results38, go_sem]) rfl ⟨rfl, (by repeat (first | exact Gr.refl _ | refine Gr.drewN ?_ _ | refine Gr.grew ?_ _ _ | refine Gr.alloc ?_ _ | refine Gr.drew ?_))⟩
    · cases hR : gIn r 0 3
      · have e : gHaloOk wd hg k f c r = false := by simp [gHaloOk, hR]
        simp only [e, Bool.false_eq_true, if_false]
        go_enter Try.func38, Try.ntmps38
        go_wp2_with (first
      | (go_at_call 85; refine (S_l02Is wd hg a k cap _ _ _ hk (by simp [go_sem]) (by simp [go_sem]) (by simp [go_sem])).mono ?_; rintro e w' ⟨rfl, n, rfl⟩; rw [hS])
      | (go_at_call 86; refine (S_l07Tile hg f c _ _ _ h1 h2 (by simp [go_sem]) (by simp [go_sem])).mono ?_; rintro e w' ⟨rfl, n, rfl⟩; rw [hT])
      | (go_at_call 87; refine (S_l00In _ _ _ _).mono ?_; rintro e w' ⟨rfl, rfl⟩; rw [hR]))
        exact bodyPost_ret (v := .tuple #[.agg #[.int .i64 0, .int .i64 0], .bool false]) (by simp [results, Try.results38, go_sem]) rfl ⟨rfl, (by repeat (first | exact Gr.refl _ | refine Gr.drewN ?_ _ | refine Gr.grew ?_ _ _ | refine Gr.alloc ?_ _ | refine Gr.drew ?_))⟩
      · have e : gHaloOk wd hg k f c r = true := by simp [gHaloOk, hS, hT, hR]
        simp only [e, if_true]
        go_enter Try.func38, Try.ntmps38
        go_wp2_with (first
      | (go_at_call 85; refine (S_l02Is wd hg a k cap _ _ _ hk (by simp [go_sem]) (by simp [go_sem]) (by simp [go_sem])).mono ?_; rintro e w' ⟨rfl, n, rfl⟩; rw [hS])
      | (go_at_call 86; refine (S_l07Tile hg f c _ _ _ h1 h2 (by simp [go_sem]) (by simp [go_sem])).mono ?_; rintro e w' ⟨rfl, n, rfl⟩; rw [hT])
      | (go_at_call 87; refine (S_l00In _ _ _ _).mono ?_; rintro e w' ⟨rfl, rfl⟩; rw [hR])
      | (go_at_call 88; refine (S_l07Halo hg f c r _ _ _ h1 h2 hT hR (by simp [go_sem]) (by simp [go_sem])).mono ?_; rintro e w' ⟨rfl, os, m, rfl⟩))
        exact bodyPost_ret (v := .tuple #[.agg #[.int .i64 (gHalo hg f c r).1, .int .i64 (gHalo hg f c r).2], .bool true]) (by simp [results, Try.results38, go_sem]) rfl ⟨rfl, (by repeat (first | exact Gr.refl _ | refine Gr.drewN ?_ _ | refine Gr.grew ?_ _ _ | refine Gr.alloc ?_ _ | refine Gr.drew ?_))⟩
set_option maxHeartbeats 1000000 in
theorem I_HaloOf (wd hg f c r : Int) (a : Option Addr) (k cap : Nat) (w : World) (hk : k ≤ maxLen) :
    Calls Try.prog 41 #[.agg #[.int .i64 wd, .int .i64 hg, .slice a k cap], .agg #[.int .i64 f, .int .i64 c], .int .i64 r] w fun e w' =>
      e = .returned (.tuple #[.agg #[.int .i64 (if gHaloOk wd hg k f c r then (gHalo hg f c r).1 else 0), .int .i64 (if gHaloOk wd hg k f c r then (gHalo hg f c r).2 else 0)], .bool (gHaloOk wd hg k f c r)]) ∧ ∃ os m, w' = w.grew os m := by
  cases hS : gPic wd hg k && gTile hg f c
  · have e : gHaloOk wd hg k f c r = false := by rw [gHaloOk, hS]; rfl
    simp only [e, Bool.false_eq_true, if_false]
    go_enter Try.func41, Try.ntmps41
    go_wp2_with (first
      | (go_at_call 89; refine (I_IsTile wd hg f c a k cap _ hk).mono ?_; rintro e w' ⟨rfl, os, m, rfl⟩; rw [hS]))
    exact bodyPost_ret (v := .tuple #[.agg #[.int .i64 0, .int .i64 0], .bool false]) (by simp [results, Try.results41, go_sem]) rfl ⟨rfl, (by repeat (first | exact Gr.refl _ | refine Gr.drewN ?_ _ | refine Gr.grew ?_ _ _ | refine Gr.alloc ?_ _ | refine Gr.drew ?_))⟩
  · cases hR : gIn r 0 3
    · have e : gHaloOk wd hg k f c r = false := by simp [gHaloOk, hR]
      simp only [e, Bool.false_eq_true, if_false]
      go_enter Try.func41, Try.ntmps41
      go_wp2_with (first
      | (go_at_call 89; refine (I_IsTile wd hg f c a k cap _ hk).mono ?_; rintro e w' ⟨rfl, os, m, rfl⟩; rw [hS])
      | (go_at_call 90; refine (I_in _ _ _ _).mono ?_; rintro e w' ⟨rfl, rfl⟩; rw [hR]))
      exact bodyPost_ret (v := .tuple #[.agg #[.int .i64 0, .int .i64 0], .bool false]) (by simp [results, Try.results41, go_sem]) rfl ⟨rfl, (by repeat (first | exact Gr.refl _ | refine Gr.drewN ?_ _ | refine Gr.grew ?_ _ _ | refine Gr.alloc ?_ _ | refine Gr.drew ?_))⟩
    · have e : gHaloOk wd hg k f c r = true := by rw [gHaloOk, hS, hR]; rfl
      simp only [e, if_true]
      have hS' := hS
      rw [Bool.and_eq_true] at hS'
      obtain ⟨h1, h2⟩ := gPic_high hS'.1
      obtain ⟨t1, t2, t3, t4⟩ := gTile_true hS'.2
      obtain ⟨r1, r2⟩ := gIn_true hR
      have e1 : IntKind.i64.wrap (f - r) = f - r := IntWalk.i64_in _ (by omega)
      have e2 : IntKind.i64.wrap (f + c) = f + c := IntWalk.i64_in _ (by omega)
      have e3 : IntKind.i64.wrap (f + c + r) = f + c + r := IntWalk.i64_in _ (by omega)
      have E1 : (gHalo hg f c r).1 = max (f - r) 0 := by simp only [gHalo]; omega
      have E2 : (gHalo hg f c r).2 = min (f + c + r) hg - max (f - r) 0 := by simp only [gHalo]; omega
      rw [E1, E2]
      clear hS' E1 E2
      by_cases b1 : f - r < 0
      · have m1 : max (f - r) 0 = 0 := by omega
        by_cases b2 : f + c + r ≤ hg
        · have m2 : min (f + c + r) hg = f + c + r := by omega
          have e4 : IntKind.i64.wrap (f + c + r - 0) = f + c + r := by rw [Int.sub_zero]; exact e3
          rw [m1, m2]
          clear m1 m2 h1 h2 t1 t2 t3 t4 r1 r2
          go_enter Try.func41, Try.ntmps41
          go_wp2_with (first
      | (go_at_call 89; refine (I_IsTile wd hg f c a k cap _ hk).mono ?_; rintro e w' ⟨rfl, os, m, rfl⟩; rw [hS])
      | (go_at_call 90; refine (I_in _ _ _ _).mono ?_; rintro e w' ⟨rfl, rfl⟩; rw [hR]))
          exact bodyPost_ret (v := .tuple #[.agg #[.int .i64 (0), .int .i64 (f + c + r - 0)], .bool true]) (by simp [results, Try.results41, go_sem, e3, e4]) rfl ⟨rfl, (by repeat (first | exact Gr.refl _ | refine Gr.drewN ?_ _ | refine Gr.grew ?_ _ _ | refine Gr.alloc ?_ _ | refine Gr.drew ?_))⟩
        · have m2 : min (f + c + r) hg = hg := by omega
          have e4 : IntKind.i64.wrap hg = hg := IntWalk.i64_in _ (by omega)
          rw [m1, m2]
          clear m1 m2 h1 h2 t1 t2 t3 t4 r1 r2
          go_enter Try.func41, Try.ntmps41
          go_wp2_with (first
      | (go_at_call 89; refine (I_IsTile wd hg f c a k cap _ hk).mono ?_; rintro e w' ⟨rfl, os, m, rfl⟩; rw [hS])
      | (go_at_call 90; refine (I_in _ _ _ _).mono ?_; rintro e w' ⟨rfl, rfl⟩; rw [hR]))
          exact bodyPost_ret (v := .tuple #[.agg #[.int .i64 (0), .int .i64 (hg - 0)], .bool true]) (by simp [results, Try.results41, go_sem, e3, e4]) rfl ⟨rfl, (by repeat (first | exact Gr.refl _ | refine Gr.drewN ?_ _ | refine Gr.grew ?_ _ _ | refine Gr.alloc ?_ _ | refine Gr.drew ?_))⟩
      · have m1 : max (f - r) 0 = f - r := by omega
        by_cases b2 : f + c + r ≤ hg
        · have m2 : min (f + c + r) hg = f + c + r := by omega
          have e4 : IntKind.i64.wrap (f + c + r - (f - r)) = f + c + r - (f - r) := IntWalk.i64_in _ (by omega)
          rw [m1, m2]
          clear m1 m2 h1 h2 t1 t2 t3 t4 r1 r2
          go_enter Try.func41, Try.ntmps41
          go_wp2_with (first
      | (go_at_call 89; refine (I_IsTile wd hg f c a k cap _ hk).mono ?_; rintro e w' ⟨rfl, os, m, rfl⟩; rw [hS])
      | (go_at_call 90; refine (I_in _ _ _ _).mono ?_; rintro e w' ⟨rfl, rfl⟩; rw [hR]))
          exact bodyPost_ret (v := .tuple #[.agg #[.int .i64 (f - r), .int .i64 (f + c + r - (f - r))], .bool true]) (by simp [results, Try.results41, go_sem, e3, e4]) rfl ⟨rfl, (by repeat (first | exact Gr.refl _ | refine Gr.drewN ?_ _ | refine Gr.grew ?_ _ _ | refine Gr.alloc ?_ _ | refine Gr.drew ?_))⟩
        · have m2 : min (f + c + r) hg = hg := by omega
          have e4 : IntKind.i64.wrap (hg - (f - r)) = hg - (f - r) := IntWalk.i64_in _ (by omega)
          rw [m1, m2]
          clear m1 m2 h1 h2 t1 t2 t3 t4 r1 r2
          go_enter Try.func41, Try.ntmps41
          go_wp2_with (first
      | (go_at_call 89; refine (I_IsTile wd hg f c a k cap _ hk).mono ?_; rintro e w' ⟨rfl, os, m, rfl⟩; rw [hS])
      | (go_at_call 90; refine (I_in _ _ _ _).mono ?_; rintro e w' ⟨rfl, rfl⟩; rw [hR]))
          exact bodyPost_ret (v := .tuple #[.agg #[.int .i64 (f - r), .int .i64 (hg - (f - r))], .bool true]) (by simp [results, Try.results41, go_sem, e3, e4]) rfl ⟨rfl, (by repeat (first | exact Gr.refl _ | refine Gr.drewN ?_ _ | refine Gr.grew ?_ _ _ | refine Gr.alloc ?_ _ | refine Gr.drew ?_))⟩
set_option maxHeartbeats 400000 in
theorem L_eqTile (a b : Int) (w : World) :
    Calls Try.prog 42 #[.agg #[.int .i64 a, .int .i64 b], .agg #[.int .i64 a, .int .i64 b]] w fun e w' => e = .returned (.bool true) ∧ ∃ os m, w' = w.grew os m := by
  go_enter Try.func42, Try.ntmps42
  go_wp2
  go_ret
  exact ⟨rfl, (by repeat (first | exact Gr.refl _ | refine Gr.drewN ?_ _ | refine Gr.grew ?_ _ _ | refine Gr.alloc ?_ _ | refine Gr.drew ?_))⟩
end Go.Proofs.Ythbcadppbkglnaa
