/- Contracts: prices and jobs. -/
import Derived.Test.YtkaikcabnhhciaaProg
import Derived.Test.YtkaikcabnhhciaaC2
namespace Go.Proofs.Ytkaikcabnhhciaa
open Go.RowKit Go.Fx Go.Soft
def gIn (n a b : Int) : Bool := decide (a ≤ n) && decide (n ≤ b)
theorem gIn_true {n a b : Int} (h : gIn n a b = true) : a ≤ n ∧ n ≤ b := by simpa [gIn] using h
theorem gIn_false {n a b : Int} (h : gIn n a b = false) : n < a ∨ b < n := by
  simp only [gIn, Bool.and_eq_false_iff, decide_eq_false_iff_not, Int.not_le] at h; exact h
set_option maxHeartbeats 400000 in
theorem I_in (n a b : Int) (w : World) :
    Calls Try.prog 67 #[.int .i64 n, .int .i64 a, .int .i64 b] w fun e w' => e = .returned (.bool (gIn n a b)) ∧ w' = w := by
  by_cases h1 : a ≤ n
  all_goals
    go_enter Try.func67, Try.ntmps67
    go_wp2_with (first
      | ((with_reducible apply wpList_fop); (case hw => rfl); (case hop => rfl); (case hx => rfl); (case hy => rfl); (case hA => assumption); (case hB => assumption); intro r n hr)
      | ((with_reducible apply wpList_fcmp); (case hw => rfl); (case hop => rfl); (case hx => rfl); (case hy => rfl); (case hA => assumption); (case hB => assumption); (case hb => (first | assumption | rfl)))
      | ((with_reducible apply wpList_widen); (case hw => rfl); (case hs => exact Try.underlying22); (case hd => exact Try.underlying29); (case hx => rfl); (case hA => assumption); intro r n hr)
      | ((with_reducible apply wpList_fneg); (case hw => rfl); (case hx => rfl); (case hA => assumption); intro r hr))
    go_ret
    exact ⟨by simp [gIn, h1] <;> omega, rfl⟩
set_option maxHeartbeats 400000 in
theorem S_l00In (n a b : Int) (w : World) :
    Calls Try.prog 83 #[.int .i64 n, .int .i64 a, .int .i64 b] w fun e w' => e = .returned (.bool (gIn n a b)) ∧ w' = w := by
  by_cases h1 : a ≤ n
  all_goals
    go_enter Try.func83, Try.ntmps83
    go_wp2_with (first
      | ((with_reducible apply wpList_fop); (case hw => rfl); (case hop => rfl); (case hx => rfl); (case hy => rfl); (case hA => assumption); (case hB => assumption); intro r n hr)
      | ((with_reducible apply wpList_fcmp); (case hw => rfl); (case hop => rfl); (case hx => rfl); (case hy => rfl); (case hA => assumption); (case hB => assumption); (case hb => (first | assumption | rfl)))
      | ((with_reducible apply wpList_widen); (case hw => rfl); (case hs => exact Try.underlying22); (case hd => exact Try.underlying29); (case hx => rfl); (case hA => assumption); intro r n hr)
      | ((with_reducible apply wpList_fneg); (case hw => rfl); (case hx => rfl); (case hA => assumption); intro r hr))
    go_ret
    exact ⟨by simp [gIn, h1] <;> omega, rfl⟩
def gPrices (o m : Nat) : Bool := gFin o && gFin m && fcmp .geq .f32 o 0 && fcmp .leq .f32 o m
set_option maxHeartbeats 400000 in
theorem S_l04Is (o m O M bl of : Nat) (w : World) (ho : FE .f32 o O) (hm : FE .f32 m M)
    (c0 : w.cell? ⟨bl, of, none⟩ = some (.float .f32 o)) (c1 : w.cell? ⟨bl, of + 1, none⟩ = some (.float .f32 m)) :
    Calls Try.prog 97 #[.pointer (some ⟨bl, of, none⟩)] w fun e w' => e = .returned (.bool (gPrices O M)) ∧ ∃ n, w' = w.drewN n := by
  have h0 := FE0
  rcases (show (gFin O = false) ∨ (gFin O = true ∧ gFin M = false) ∨ (gFin O = true ∧ gFin M = true ∧ fcmp .geq .f32 O 0 = false) ∨ (gFin O = true ∧ gFin M = true ∧ fcmp .geq .f32 O 0 = true ∧ fcmp .leq .f32 O M = false) ∨ (gFin O = true ∧ gFin M = true ∧ fcmp .geq .f32 O 0 = true ∧ fcmp .leq .f32 O M = true) by cases gFin O <;> cases gFin M <;> cases fcmp .geq .f32 O 0 <;> cases fcmp .leq .f32 O M <;> simp) with t1 | ⟨t1, t2⟩ | ⟨t1, t2, t3⟩ | ⟨t1, t2, t3, t4⟩ | ⟨t1, t2, t3, t4⟩
  all_goals
    go_enter Try.func97, Try.ntmps97
    go_wp2_with (first
      | ((with_reducible apply wpList_fop); (case hw => rfl); (case hop => rfl); (case hx => rfl); (case hy => rfl); (case hA => assumption); (case hB => assumption); intro r n hr)
      | ((with_reducible apply wpList_fcmp); (case hw => rfl); (case hop => rfl); (case hx => rfl); (case hy => rfl); (case hA => assumption); (case hB => assumption); (case hb => (first | assumption | rfl)))
      | ((with_reducible apply wpList_widen); (case hw => rfl); (case hs => exact Try.underlying22); (case hd => exact Try.underlying29); (case hx => rfl); (case hA => assumption); intro r n hr)
      | ((with_reducible apply wpList_fneg); (case hw => rfl); (case hx => rfl); (case hA => assumption); intro r hr))
    apply region_drew 30
    case hm => kernel_rfl
    case hB => kernel_rfl
    simp only [List.take_succ_cons, List.take_zero, List.drop_succ_cons, List.drop_zero]
    repeat (first
      | ((with_reducible apply wpSoft_calleq (f := 93)); (case hw => rfl); (case hc => exact Try.call93); (case hv => ((conv => lhs; simp [Act.eval]); try rfl)); (case hS => (rintro _ ⟨m, rfl⟩; refine (S_l01Finite _ _ _ ‹_›).mono ?_; rintro e w' ⟨rfl, n, rfl⟩; exact ⟨rfl, ⟨_, World.drewN_drewN _ _ _⟩⟩)); (simp only [Act.put, List.setIfInBounds_toArray, List.set_cons_succ, List.set_cons_zero]; try simp only [*]))
      | (apply wpSoft_skip rfl; simp only [Act.put, List.setIfInBounds_toArray, List.set_cons_succ, List.set_cons_zero])
      | (apply wpSoft_nilCheck rfl rfl; simp only [Act.put, List.setIfInBounds_toArray, List.set_cons_succ, List.set_cons_zero])
      | ((with_reducible apply wpSoft_fop); (case hw => rfl); (case hD => exact closed_drew); (case hop => rfl); (case hx => rfl); (case hy => rfl); (case hA => assumption); (case hB => assumption); (intro r hr; simp only [Act.put, List.setIfInBounds_toArray, List.set_cons_succ, List.set_cons_zero]))

      | ((with_reducible apply wpSoft_widen); (case hw => rfl); (case hD => exact closed_drew); (case hs => exact Try.underlying22); (case hd => exact Try.underlying29); (case hx => rfl); (case hA => assumption); (intro r hr; simp only [Act.put, List.setIfInBounds_toArray, List.set_cons_succ, List.set_cons_zero]))
      | ((with_reducible apply wpSoft_fneg); (case hw => rfl); (case hx => rfl); (case hA => assumption); (intro r hr; simp only [Act.put, List.setIfInBounds_toArray, List.set_cons_succ, List.set_cons_zero]))
      | ((with_reducible apply wpSoft_fcmp); (case hw => rfl); (case hop => rfl); (case hx => rfl); (case hy => rfl); (case hA => assumption); (case hB => assumption); (case hb => (first | assumption | rfl)); simp only [Act.put, List.setIfInBounds_toArray, List.set_cons_succ, List.set_cons_zero])
      | (apply wpSoft_q rfl rfl; intro K hK; go_big_quiet_op; go_big_quiet_on))
    with_reducible apply wpSoft_nil
    intro m
    go_wp2_with (first
      | ((with_reducible apply wpList_fop); (case hw => rfl); (case hop => rfl); (case hx => rfl); (case hy => rfl); (case hA => assumption); (case hB => assumption); intro r n hr)
      | ((with_reducible apply wpList_fcmp); (case hw => rfl); (case hop => rfl); (case hx => rfl); (case hy => rfl); (case hA => assumption); (case hB => assumption); (case hb => (first | assumption | rfl)))
      | ((with_reducible apply wpList_widen); (case hw => rfl); (case hs => exact Try.underlying22); (case hd => exact Try.underlying29); (case hx => rfl); (case hA => assumption); intro r n hr)
      | ((with_reducible apply wpList_fneg); (case hw => rfl); (case hx => rfl); (case hA => assumption); intro r hr))
    go_ret
    exact ⟨by simp [gPrices, *], (by first | exact ⟨0, rfl⟩ | exact ⟨_, rfl⟩)⟩
set_option maxHeartbeats 400000 in
theorem I_ValidPrices (o m O M : Nat) (w : World) (ho : FE .f32 o O) (hm : FE .f32 m M) :
    Calls Try.prog 68 #[.agg #[.float .f32 o, .float .f32 m]] w fun e w' => e = .returned (.bool (gPrices O M)) ∧ ∃ os m, w' = w.grew os m := by
  have h0 := FE0
  have e1 : gPrices O M = (gFinAll [O, M] && fcmp .geq .f32 O 0 && fcmp .leq .f32 O M) := by simp [gPrices, gFinAll]
  rw [e1]
  clear e1
  rcases (show (gFinAll [O, M] = false) ∨ (gFinAll [O, M] = true ∧ fcmp .geq .f32 O 0 = false) ∨ (gFinAll [O, M] = true ∧ fcmp .geq .f32 O 0 = true ∧ fcmp .leq .f32 O M = false) ∨ (gFinAll [O, M] = true ∧ fcmp .geq .f32 O 0 = true ∧ fcmp .leq .f32 O M = true) by cases gFinAll [O, M] <;> cases fcmp .geq .f32 O 0 <;> cases fcmp .leq .f32 O M <;> simp) with t1 | ⟨t1, t2⟩ | ⟨t1, t2, t3⟩ | ⟨t1, t2, t3⟩
  all_goals
    go_enter Try.func68, Try.ntmps68
    go_wp2_with (first
      | (go_at_call 64; refine (I_finite _ _ _ [O, M] _ (by exact FSl.two ho hm (by simp [go_sem]) (by simp [go_sem])) (by unfold maxLen; omega)).mono ?_; rintro e w' ⟨rfl, os, m, rfl⟩)
      | ((with_reducible apply wpList_fop); (case hw => rfl); (case hop => rfl); (case hx => rfl); (case hy => rfl); (case hA => assumption); (case hB => assumption); intro r n hr)
      | ((with_reducible apply wpList_fcmp); (case hw => rfl); (case hop => rfl); (case hx => rfl); (case hy => rfl); (case hA => assumption); (case hB => assumption); (case hb => (first | assumption | rfl)))
      | ((with_reducible apply wpList_widen); (case hw => rfl); (case hs => exact Try.underlying22); (case hd => exact Try.underlying29); (case hx => rfl); (case hA => assumption); intro r n hr)
      | ((with_reducible apply wpList_fneg); (case hw => rfl); (case hx => rfl); (case hA => assumption); intro r hr))
    go_ret
    exact ⟨by simp [*], (by repeat (first | exact Gr.refl _ | refine Gr.drewN ?_ _ | refine Gr.grew ?_ _ _ | refine Gr.alloc ?_ _ | refine Gr.drew ?_))⟩
def gJob (k r d : Int) (O M : Nat) : Bool := gIn k 0 1 && gIn r 0 3 && gIn d 1 8 && gPrices O M
set_option maxHeartbeats 400000 in
theorem S_l07Is (k r d : Int) (o m O M bl of : Nat) (w : World) (ho : FE .f32 o O) (hm : FE .f32 m M)
    (c0 : w.cell? ⟨bl, of, none⟩ = some (.int .i64 k)) (c1 : w.cell? ⟨bl, of + 1, none⟩ = some (.int .i64 r)) (c2 : w.cell? ⟨bl, of + 2, none⟩ = some (.int .i64 d)) (c4 : w.cell? ⟨bl, of + 4, none⟩ = some (.float .f32 o)) (c5 : w.cell? ⟨bl, of + 4 + 1, none⟩ = some (.float .f32 m)) :
    Calls Try.prog 65 #[.pointer (some ⟨bl, of, none⟩)] w fun e w' => e = .returned (.bool (gJob k r d O M)) ∧ ∃ n, w' = w.drewN n := by
  rcases (show (gIn k 0 1 = false) ∨ (gIn k 0 1 = true ∧ gIn r 0 3 = false) ∨ (gIn k 0 1 = true ∧ gIn r 0 3 = true ∧ gIn d 1 8 = false) ∨ (gIn k 0 1 = true ∧ gIn r 0 3 = true ∧ gIn d 1 8 = true) by cases gIn k 0 1 <;> cases gIn r 0 3 <;> cases gIn d 1 8 <;> simp) with t1 | ⟨t1, t2⟩ | ⟨t1, t2, t3⟩ | ⟨t1, t2, t3⟩
  all_goals
    go_enter Try.func65, Try.ntmps65
    go_wp2_with (first
      | (go_at_call 83; refine (S_l00In _ _ _ _).mono ?_; rintro e w' ⟨rfl, rfl⟩)
      | (go_at_call 97; refine (S_l04Is _ _ _ _ _ _ _ ho hm (by first | assumption | simp [go_sem]) (by first | assumption | simp [go_sem])).mono ?_; rintro e w' ⟨rfl, n, rfl⟩)
      | ((with_reducible apply wpList_fop); (case hw => rfl); (case hop => rfl); (case hx => rfl); (case hy => rfl); (case hA => assumption); (case hB => assumption); intro r n hr)
      | ((with_reducible apply wpList_fcmp); (case hw => rfl); (case hop => rfl); (case hx => rfl); (case hy => rfl); (case hA => assumption); (case hB => assumption); (case hb => (first | assumption | rfl)))
      | ((with_reducible apply wpList_widen); (case hw => rfl); (case hs => exact Try.underlying22); (case hd => exact Try.underlying29); (case hx => rfl); (case hA => assumption); intro r n hr)
      | ((with_reducible apply wpList_fneg); (case hw => rfl); (case hx => rfl); (case hA => assumption); intro r hr))
    go_ret
    exact ⟨by simp [gJob, *], (by first | exact ⟨0, rfl⟩ | exact ⟨_, rfl⟩)⟩
set_option maxHeartbeats 400000 in
theorem S_ValidJob (k r d : Int) (s : Bool) (o m O M : Nat) (w : World) (ho : FE .f32 o O) (hm : FE .f32 m M) :
    Calls Try.prog 22 #[.agg #[.int .i64 k, .int .i64 r, .int .i64 d, .bool s, .float .f32 o, .float .f32 m]] w fun e w' => e = .returned (.bool (gJob k r d O M)) ∧ ∃ os m, w' = w.grew os m := by
  go_enter Try.func22, Try.ntmps22
  go_wp2_with (first
      | (go_at_call 65; refine (S_l07Is k r d _ _ _ _ _ _ _ ho hm (by simp [go_sem]) (by simp [go_sem]) (by simp [go_sem]) (by simp [go_sem]) (by simp [go_sem])).mono ?_; rintro e w' ⟨rfl, n, rfl⟩)
      | ((with_reducible apply wpList_fop); (case hw => rfl); (case hop => rfl); (case hx => rfl); (case hy => rfl); (case hA => assumption); (case hB => assumption); intro r n hr)
      | ((with_reducible apply wpList_fcmp); (case hw => rfl); (case hop => rfl); (case hx => rfl); (case hy => rfl); (case hA => assumption); (case hB => assumption); (case hb => (first | assumption | rfl)))
      | ((with_reducible apply wpList_widen); (case hw => rfl); (case hs => exact Try.underlying22); (case hd => exact Try.underlying29); (case hx => rfl); (case hA => assumption); intro r n hr)
      | ((with_reducible apply wpList_fneg); (case hw => rfl); (case hx => rfl); (case hA => assumption); intro r hr))
  go_ret
  exact ⟨rfl, (by repeat (first | exact Gr.refl _ | refine Gr.drewN ?_ _ | refine Gr.grew ?_ _ _ | refine Gr.alloc ?_ _ | refine Gr.drew ?_))⟩
set_option maxHeartbeats 400000 in
theorem I_ValidJob (k r d : Int) (s : Bool) (o m O M : Nat) (w : World) (ho : FE .f32 o O) (hm : FE .f32 m M) :
    Calls Try.prog 24 #[.agg #[.int .i64 k, .int .i64 r, .int .i64 d, .bool s, .float .f32 o, .float .f32 m]] w fun e w' => e = .returned (.bool (gJob k r d O M)) ∧ ∃ os m, w' = w.grew os m := by
  rcases (show (gIn k 0 1 = false) ∨ (gIn k 0 1 = true ∧ gIn r 0 3 = false) ∨ (gIn k 0 1 = true ∧ gIn r 0 3 = true ∧ gIn d 1 8 = false) ∨ (gIn k 0 1 = true ∧ gIn r 0 3 = true ∧ gIn d 1 8 = true) by cases gIn k 0 1 <;> cases gIn r 0 3 <;> cases gIn d 1 8 <;> simp) with t1 | ⟨t1, t2⟩ | ⟨t1, t2, t3⟩ | ⟨t1, t2, t3⟩
  all_goals
    go_enter Try.func24, Try.ntmps24
    go_wp2_with (first
      | (go_at_call 67; refine (I_in _ _ _ _).mono ?_; rintro e w' ⟨rfl, rfl⟩)
      | (go_at_call 68; refine (I_ValidPrices _ _ _ _ _ ho hm).mono ?_; rintro e w' ⟨rfl, os, m, rfl⟩)
      | ((with_reducible apply wpList_fop); (case hw => rfl); (case hop => rfl); (case hx => rfl); (case hy => rfl); (case hA => assumption); (case hB => assumption); intro r n hr)
      | ((with_reducible apply wpList_fcmp); (case hw => rfl); (case hop => rfl); (case hx => rfl); (case hy => rfl); (case hA => assumption); (case hB => assumption); (case hb => (first | assumption | rfl)))
      | ((with_reducible apply wpList_widen); (case hw => rfl); (case hs => exact Try.underlying22); (case hd => exact Try.underlying29); (case hx => rfl); (case hA => assumption); intro r n hr)
      | ((with_reducible apply wpList_fneg); (case hw => rfl); (case hx => rfl); (case hA => assumption); intro r hr))
    go_ret
    exact ⟨by simp [gJob, *], (by repeat (first | exact Gr.refl _ | refine Gr.drewN ?_ _ | refine Gr.grew ?_ _ _ | refine Gr.alloc ?_ _ | refine Gr.drew ?_))⟩
set_option maxHeartbeats 400000 in
theorem L_toPrices (a b : Nat) (w : World) :
    Calls Try.prog 66 #[.agg #[.float .f32 a, .float .f32 b]] w fun e w' => e = .returned (.agg #[.float .f32 a, .float .f32 b]) ∧ ∃ os m, w' = w.grew os m := by
  go_enter Try.func66, Try.ntmps66
  go_wp2_with (first
      | ((with_reducible apply wpList_fop); (case hw => rfl); (case hop => rfl); (case hx => rfl); (case hy => rfl); (case hA => assumption); (case hB => assumption); intro r n hr)
      | ((with_reducible apply wpList_fcmp); (case hw => rfl); (case hop => rfl); (case hx => rfl); (case hy => rfl); (case hA => assumption); (case hB => assumption); (case hb => (first | assumption | rfl)))
      | ((with_reducible apply wpList_widen); (case hw => rfl); (case hs => exact Try.underlying22); (case hd => exact Try.underlying29); (case hx => rfl); (case hA => assumption); intro r n hr)
      | ((with_reducible apply wpList_fneg); (case hw => rfl); (case hx => rfl); (case hA => assumption); intro r hr))
  exact bodyPost_ret (v := .agg #[.float .f32 a, .float .f32 b]) (by simp [results, Try.results66, go_sem]) rfl ⟨rfl, (by repeat (first | exact Gr.refl _ | refine Gr.drewN ?_ _ | refine Gr.grew ?_ _ _ | refine Gr.alloc ?_ _ | refine Gr.drew ?_))⟩
set_option maxHeartbeats 400000 in
theorem L_toJob (k r d : Int) (s : Bool) (a b : Nat) (w : World) :
    Calls Try.prog 23 #[.agg #[.int .i64 k, .int .i64 r, .int .i64 d, .bool s, .float .f32 a, .float .f32 b]] w fun e w' => e = .returned (.agg #[.int .i64 k, .int .i64 r, .int .i64 d, .bool s, .float .f32 a, .float .f32 b]) ∧ ∃ os m, w' = w.grew os m := by
  go_enter Try.func23, Try.ntmps23
  go_wp2_with (first
      | (go_at_call 66; refine (L_toPrices _ _ _).mono ?_; rintro e w' ⟨rfl, os, m, rfl⟩)
      | ((with_reducible apply wpList_fop); (case hw => rfl); (case hop => rfl); (case hx => rfl); (case hy => rfl); (case hA => assumption); (case hB => assumption); intro r n hr)
      | ((with_reducible apply wpList_fcmp); (case hw => rfl); (case hop => rfl); (case hx => rfl); (case hy => rfl); (case hA => assumption); (case hB => assumption); (case hb => (first | assumption | rfl)))
      | ((with_reducible apply wpList_widen); (case hw => rfl); (case hs => exact Try.underlying22); (case hd => exact Try.underlying29); (case hx => rfl); (case hA => assumption); intro r n hr)
      | ((with_reducible apply wpList_fneg); (case hw => rfl); (case hx => rfl); (case hA => assumption); intro r hr))
  exact bodyPost_ret (v := .agg #[.int .i64 k, .int .i64 r, .int .i64 d, .bool s, .float .f32 a, .float .f32 b]) (by simp [results, Try.results23, go_sem]) rfl ⟨rfl, (by repeat (first | exact Gr.refl _ | refine Gr.drewN ?_ _ | refine Gr.grew ?_ _ _ | refine Gr.alloc ?_ _ | refine Gr.drew ?_))⟩
end Go.Proofs.Ytkaikcabnhhciaa
