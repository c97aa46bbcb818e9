/- Contracts: cells and points of a camera. -/
import Derived.Test.YtkaikcabnhhciaaProg
import Derived.Test.YtkaikcabnhhciaaC3
namespace Go.Proofs.Ytkaikcabnhhciaa
open Go.RowKit Go.Fx Go.Soft
set_option maxHeartbeats 400000 in
theorem L_toVector (a b c : Nat) (w : World) :
    Calls Try.prog 51 #[.agg #[.float .f32 a, .float .f32 b, .float .f32 c]] w fun e w' => e = .returned (.agg #[.float .f32 a, .float .f32 b, .float .f32 c]) ∧ ∃ os m, w' = w.grew os m := by
  go_enter Try.func51, Try.ntmps51
  go_wp2_with (first
      | ((with_reducible apply wpList_fop); (case hw => rfl); (case hop => rfl); (case hx => rfl); (case hy => rfl); (case hA => assumption); (case hB => assumption); intro r n hr)
      | ((with_reducible apply wpList_fcmp); (case hw => rfl); (case hop => rfl); (case hx => rfl); (case hy => rfl); (case hA => assumption); (case hB => assumption); (case hb => (first | assumption | rfl)))
      | ((with_reducible apply wpList_widen); (case hw => rfl); (case hs => exact Try.underlying22); (case hd => exact Try.underlying29); (case hx => rfl); (case hA => assumption); intro r n hr)
      | ((with_reducible apply wpList_fneg); (case hw => rfl); (case hx => rfl); (case hA => assumption); intro r hr))
  exact bodyPost_ret (v := .agg #[.float .f32 a, .float .f32 b, .float .f32 c]) (by simp [results, Try.results51, go_sem]) rfl ⟨rfl, (by repeat (first | exact Gr.refl _ | refine Gr.drewN ?_ _ | refine Gr.grew ?_ _ _ | refine Gr.alloc ?_ _ | refine Gr.drew ?_))⟩
/-- CellOf: a coordinate; 0 where there is no depth. -/
def gCell (f m p z : Nat) (d : Option Nat) : Nat := match d with
  | some _ => fop .add .f32 m (fop .mul .f32 f (fop .quo .f32 p z))
  | none => 0
set_option maxHeartbeats 400000 in
theorem S_CellOf (f b x y F B X Y p q z P Q Z : Nat) (w : World) (hf : FE .f32 f F) (hb : FE .f32 b B) (hx : FE .f32 x X) (hy : FE .f32 y Y) (hp : FE .f32 p P) (hq : FE .f32 q Q) (hz : FE .f32 z Z) :
    Calls Try.prog 59 #[.agg #[.float .f32 f, .float .f32 b, .float .f32 x, .float .f32 y], .agg #[.float .f32 p, .float .f32 q, .float .f32 z]] w fun e w' =>
      (∃ r s t, e = .returned (.tuple #[.float .f32 r, .float .f32 s, .float .f32 t, .bool (gDepth F B X Y Z).isSome]) ∧ FE .f32 r (gCell F X P Z (gDepth F B X Y Z)) ∧ FE .f32 s (gCell F Y Q Z (gDepth F B X Y Z)) ∧ FE .f32 t ((gDepth F B X Y Z).getD 0)) ∧ ∃ os m, w' = w.grew os m := by
  have h0 := FE0
  cases hc : gCam F B X Y
  · have hd : gDepth F B X Y Z = none := by simp [gDepth, hc]
    rw [hd]
    go_enter Try.func59, Try.ntmps59
    go_wp2_with (first
      | (go_at_call 62; refine (S_l06Is _ _ _ _ _ _ _ _ _ _ _ hf hb hx hy (by simp [go_sem]) (by simp [go_sem]) (by simp [go_sem]) (by simp [go_sem])).mono ?_; rintro e w' ⟨rfl, n, rfl⟩)
      | ((with_reducible apply wpList_fop); (case hw => rfl); (case hop => rfl); (case hx => rfl); (case hy => rfl); (case hA => assumption); (case hB => assumption); intro r n hr)
      | ((with_reducible apply wpList_fcmp); (case hw => rfl); (case hop => rfl); (case hx => rfl); (case hy => rfl); (case hA => assumption); (case hB => assumption); (case hb => (first | assumption | rfl)))
      | ((with_reducible apply wpList_widen); (case hw => rfl); (case hs => exact Try.underlying22); (case hd => exact Try.underlying29); (case hx => rfl); (case hA => assumption); intro r n hr)
      | ((with_reducible apply wpList_fneg); (case hw => rfl); (case hx => rfl); (case hA => assumption); intro r hr))
    ((try simp only [Exit.inBlock, Exit.then]); refine bodyPost_ret (results_tmp4 rfl _ _ _) rfl ?_)
    exact ⟨⟨_, _, _, rfl, h0, h0, h0⟩, (by repeat (first | exact Gr.refl _ | refine Gr.drewN ?_ _ | refine Gr.grew ?_ _ _ | refine Gr.alloc ?_ _ | refine Gr.drew ?_))⟩
  · have hd : gDepth F B X Y Z = gFar F B Z := by simp [gDepth, hc]
    rw [hd]
    clear hd
    cases hg : gFar F B Z with
    | none =>
      have H := Lib.hid hg
      clear hg
      go_enter Try.func59, Try.ntmps59
      go_wp2_with (first
      | (go_at_call 62; refine (S_l06Is _ _ _ _ _ _ _ _ _ _ _ hf hb hx hy (by simp [go_sem]) (by simp [go_sem]) (by simp [go_sem]) (by simp [go_sem])).mono ?_; rintro e w' ⟨rfl, n, rfl⟩)
      | (go_at_call 70; refine (S_l06Depth _ _ _ _ _ _ _ _ _ hf hb hz (by simp [go_sem]) (by simp [go_sem])).mono ?_; rintro e w' ⟨⟨r, rfl, hr⟩, n, rfl⟩; rw [H.out] at hr ⊢)
      | ((with_reducible apply wpList_fop); (case hw => rfl); (case hop => rfl); (case hx => rfl); (case hy => rfl); (case hA => assumption); (case hB => assumption); intro r n hr)
      | ((with_reducible apply wpList_fcmp); (case hw => rfl); (case hop => rfl); (case hx => rfl); (case hy => rfl); (case hA => assumption); (case hB => assumption); (case hb => (first | assumption | rfl)))
      | ((with_reducible apply wpList_widen); (case hw => rfl); (case hs => exact Try.underlying22); (case hd => exact Try.underlying29); (case hx => rfl); (case hA => assumption); intro r n hr)
      | ((with_reducible apply wpList_fneg); (case hw => rfl); (case hx => rfl); (case hA => assumption); intro r hr))
      ((try simp only [Exit.inBlock, Exit.then]); refine bodyPost_ret (results_tmp4 rfl _ _ _) rfl ?_)
      exact ⟨⟨_, _, _, rfl, h0, h0, h0⟩, (by repeat (first | exact Gr.refl _ | refine Gr.drewN ?_ _ | refine Gr.grew ?_ _ _ | refine Gr.alloc ?_ _ | refine Gr.drew ?_))⟩
    | some g =>
      have H := Lib.hid hg
      clear hg
      go_enter Try.func59, Try.ntmps59
      go_wp2_with (first
      | (go_at_call 62; refine (S_l06Is _ _ _ _ _ _ _ _ _ _ _ hf hb hx hy (by simp [go_sem]) (by simp [go_sem]) (by simp [go_sem]) (by simp [go_sem])).mono ?_; rintro e w' ⟨rfl, n, rfl⟩)
      | (go_at_call 70; refine (S_l06Depth _ _ _ _ _ _ _ _ _ hf hb hz (by simp [go_sem]) (by simp [go_sem])).mono ?_; rintro e w' ⟨⟨r, rfl, hr⟩, n, rfl⟩; rw [H.out] at hr ⊢)
      | ((with_reducible apply wpList_fop); (case hw => rfl); (case hop => rfl); (case hx => rfl); (case hy => rfl); (case hA => assumption); (case hB => assumption); intro r n hr)
      | ((with_reducible apply wpList_fcmp); (case hw => rfl); (case hop => rfl); (case hx => rfl); (case hy => rfl); (case hA => assumption); (case hB => assumption); (case hb => (first | assumption | rfl)))
      | ((with_reducible apply wpList_widen); (case hw => rfl); (case hs => exact Try.underlying22); (case hd => exact Try.underlying29); (case hx => rfl); (case hA => assumption); intro r n hr)
      | ((with_reducible apply wpList_fneg); (case hw => rfl); (case hx => rfl); (case hA => assumption); intro r hr))
      apply region_drew 26
      case hm => kernel_rfl
      case hB => kernel_rfl
      simp only [List.take_succ_cons, List.take_zero, List.drop_succ_cons, List.drop_zero]
      repeat (first
        | (apply wpSoft_skip rfl; simp only [Act.put, List.setIfInBounds_toArray, List.set_cons_succ, List.set_cons_zero])
        | (apply wpSoft_nilCheck rfl rfl; simp only [Act.put, List.setIfInBounds_toArray, List.set_cons_succ, List.set_cons_zero])
        | ((with_reducible apply wpSoft_fop); (case hw => rfl); (case hD => exact closed_drew); (case hop => rfl); (case hx => rfl); (case hy => rfl); (case hA => assumption); (case hB => assumption); (intro r hr; simp only [Act.put, List.setIfInBounds_toArray, List.set_cons_succ, List.set_cons_zero]))

        | ((with_reducible apply wpSoft_widen); (case hw => rfl); (case hD => exact closed_drew); (case hs => exact Try.underlying22); (case hd => exact Try.underlying29); (case hx => rfl); (case hA => assumption); (intro r hr; simp only [Act.put, List.setIfInBounds_toArray, List.set_cons_succ, List.set_cons_zero]))
        | ((with_reducible apply wpSoft_fneg); (case hw => rfl); (case hx => rfl); (case hA => assumption); (intro r hr; simp only [Act.put, List.setIfInBounds_toArray, List.set_cons_succ, List.set_cons_zero]))
        | ((with_reducible apply wpSoft_fcmp); (case hw => rfl); (case hop => rfl); (case hx => rfl); (case hy => rfl); (case hA => assumption); (case hB => assumption); (case hb => (first | assumption | rfl)); simp only [Act.put, List.setIfInBounds_toArray, List.set_cons_succ, List.set_cons_zero])
        | (apply wpSoft_q rfl rfl; intro K hK; go_big_quiet_op; go_big_quiet_on))
      apply wpSoft_nil
      intro m
      go_wp2_with (first
      | ((with_reducible apply wpList_fop); (case hw => rfl); (case hop => rfl); (case hx => rfl); (case hy => rfl); (case hA => assumption); (case hB => assumption); intro r n hr)
      | ((with_reducible apply wpList_fcmp); (case hw => rfl); (case hop => rfl); (case hx => rfl); (case hy => rfl); (case hA => assumption); (case hB => assumption); (case hb => (first | assumption | rfl)))
      | ((with_reducible apply wpList_widen); (case hw => rfl); (case hs => exact Try.underlying22); (case hd => exact Try.underlying29); (case hx => rfl); (case hA => assumption); intro r n hr)
      | ((with_reducible apply wpList_fneg); (case hw => rfl); (case hx => rfl); (case hA => assumption); intro r hr))
      ((try simp only [Exit.inBlock, Exit.then]); refine bodyPost_ret (results_tmp4 rfl _ _ _) rfl ?_)
      exact ⟨⟨_, _, _, rfl, ‹_›, ‹_›, ‹_›⟩, (by repeat (first | exact Gr.refl _ | refine Gr.drewN ?_ _ | refine Gr.grew ?_ _ _ | refine Gr.alloc ?_ _ | refine Gr.drew ?_))⟩
set_option maxHeartbeats 400000 in
theorem I_CellOf (f b x y F B X Y p q z P Q Z : Nat) (w : World) (hf : FE .f32 f F) (hb : FE .f32 b B) (hx : FE .f32 x X) (hy : FE .f32 y Y) (hp : FE .f32 p P) (hq : FE .f32 q Q) (hz : FE .f32 z Z) :
    Calls Try.prog 60 #[.agg #[.float .f32 f, .float .f32 b, .float .f32 x, .float .f32 y], .agg #[.float .f32 p, .float .f32 q, .float .f32 z]] w fun e w' =>
      (∃ r s t, e = .returned (.tuple #[.float .f32 r, .float .f32 s, .float .f32 t, .bool (gDepth F B X Y Z).isSome]) ∧ FE .f32 r (gCell F X P Z (gDepth F B X Y Z)) ∧ FE .f32 s (gCell F Y Q Z (gDepth F B X Y Z)) ∧ FE .f32 t ((gDepth F B X Y Z).getD 0)) ∧ ∃ os m, w' = w.grew os m := by
  have h0 := FE0
  cases hg : gDepth F B X Y Z with
  | none =>
    have H := Lib.hid hg
    clear hg
    go_enter Try.func60, Try.ntmps60
    go_wp2_with (first
      | (go_at_call 32; refine (I_DisparityOf _ _ _ _ _ _ _ _ _ _ _ hf hb hx hy hz).mono ?_; rintro e w' ⟨⟨r, rfl, hr⟩, os, m, rfl⟩; rw [H.out] at hr ⊢)
      | ((with_reducible apply wpList_fop); (case hw => rfl); (case hop => rfl); (case hx => rfl); (case hy => rfl); (case hA => assumption); (case hB => assumption); intro r n hr)
      | ((with_reducible apply wpList_fcmp); (case hw => rfl); (case hop => rfl); (case hx => rfl); (case hy => rfl); (case hA => assumption); (case hB => assumption); (case hb => (first | assumption | rfl)))
      | ((with_reducible apply wpList_widen); (case hw => rfl); (case hs => exact Try.underlying22); (case hd => exact Try.underlying29); (case hx => rfl); (case hA => assumption); intro r n hr)
      | ((with_reducible apply wpList_fneg); (case hw => rfl); (case hx => rfl); (case hA => assumption); intro r hr))
    ((try simp only [Exit.inBlock, Exit.then]); refine bodyPost_ret (results_tmp4 rfl _ _ _) rfl ?_)
    exact ⟨⟨_, _, _, rfl, h0, h0, h0⟩, (by repeat (first | exact Gr.refl _ | refine Gr.drewN ?_ _ | refine Gr.grew ?_ _ _ | refine Gr.alloc ?_ _ | refine Gr.drew ?_))⟩
  | some g =>
    have H := Lib.hid hg
    clear hg
    go_enter Try.func60, Try.ntmps60
    go_wp2_with (first
      | (go_at_call 32; refine (I_DisparityOf _ _ _ _ _ _ _ _ _ _ _ hf hb hx hy hz).mono ?_; rintro e w' ⟨⟨r, rfl, hr⟩, os, m, rfl⟩; rw [H.out] at hr ⊢)
      | ((with_reducible apply wpList_fop); (case hw => rfl); (case hop => rfl); (case hx => rfl); (case hy => rfl); (case hA => assumption); (case hB => assumption); intro r n hr)
      | ((with_reducible apply wpList_fcmp); (case hw => rfl); (case hop => rfl); (case hx => rfl); (case hy => rfl); (case hA => assumption); (case hB => assumption); (case hb => (first | assumption | rfl)))
      | ((with_reducible apply wpList_widen); (case hw => rfl); (case hs => exact Try.underlying22); (case hd => exact Try.underlying29); (case hx => rfl); (case hA => assumption); intro r n hr)
      | ((with_reducible apply wpList_fneg); (case hw => rfl); (case hx => rfl); (case hA => assumption); intro r hr))
    apply region_drew 26
    case hm => kernel_rfl
    case hB => kernel_rfl
    simp only [List.take_succ_cons, List.take_zero, List.drop_succ_cons, List.drop_zero]
    repeat (first
      | (apply wpSoft_skip rfl; simp only [Act.put, List.setIfInBounds_toArray, List.set_cons_succ, List.set_cons_zero])
      | (apply wpSoft_nilCheck rfl rfl; simp only [Act.put, List.setIfInBounds_toArray, List.set_cons_succ, List.set_cons_zero])
      | ((with_reducible apply wpSoft_fop); (case hw => rfl); (case hD => exact closed_drew); (case hop => rfl); (case hx => rfl); (case hy => rfl); (case hA => assumption); (case hB => assumption); (intro r hr; simp only [Act.put, List.setIfInBounds_toArray, List.set_cons_succ, List.set_cons_zero]))

      | ((with_reducible apply wpSoft_widen); (case hw => rfl); (case hD => exact closed_drew); (case hs => exact Try.underlying22); (case hd => exact Try.underlying29); (case hx => rfl); (case hA => assumption); (intro r hr; simp only [Act.put, List.setIfInBounds_toArray, List.set_cons_succ, List.set_cons_zero]))
      | ((with_reducible apply wpSoft_fneg); (case hw => rfl); (case hx => rfl); (case hA => assumption); (intro r hr; simp only [Act.put, List.setIfInBounds_toArray, List.set_cons_succ, List.set_cons_zero]))
      | ((with_reducible apply wpSoft_fcmp); (case hw => rfl); (case hop => rfl); (case hx => rfl); (case hy => rfl); (case hA => assumption); (case hB => assumption); (case hb => (first | assumption | rfl)); simp only [Act.put, List.setIfInBounds_toArray, List.set_cons_succ, List.set_cons_zero])
      | (apply wpSoft_q rfl rfl; intro K hK; go_big_quiet_op; go_big_quiet_on))
    apply wpSoft_nil
    intro m
    go_wp2_with (first
      | ((with_reducible apply wpList_fop); (case hw => rfl); (case hop => rfl); (case hx => rfl); (case hy => rfl); (case hA => assumption); (case hB => assumption); intro r n hr)
      | ((with_reducible apply wpList_fcmp); (case hw => rfl); (case hop => rfl); (case hx => rfl); (case hy => rfl); (case hA => assumption); (case hB => assumption); (case hb => (first | assumption | rfl)))
      | ((with_reducible apply wpList_widen); (case hw => rfl); (case hs => exact Try.underlying22); (case hd => exact Try.underlying29); (case hx => rfl); (case hA => assumption); intro r n hr)
      | ((with_reducible apply wpList_fneg); (case hw => rfl); (case hx => rfl); (case hA => assumption); intro r hr))
    ((try simp only [Exit.inBlock, Exit.then]); refine bodyPost_ret (results_tmp4 rfl _ _ _) rfl ?_)
    exact ⟨⟨_, _, _, rfl, ‹_›, ‹_›, ‹_›⟩, (by repeat (first | exact Gr.refl _ | refine Gr.drewN ?_ _ | refine Gr.grew ?_ _ _ | refine Gr.alloc ?_ _ | refine Gr.drew ?_))⟩
end Go.Proofs.Ytkaikcabnhhciaa
