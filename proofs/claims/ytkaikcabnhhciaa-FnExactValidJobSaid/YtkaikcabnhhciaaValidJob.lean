/- For every job FnExactValidJob returns true. No conditions. -/
import Derived.Test.YtkaikcabnhhciaaRow
import Derived.Test.YtkaikcabnhhciaaC7
namespace Go.Proofs.Ytkaikcabnhhciaa
open Go.ChangeShapes Go.WideShapes Go.ChangeAt Go.RowKit Go.Joins Go.Deep Go.Fx Go.Soft

set_option maxHeartbeats 400000 in
theorem L_FnExactValidJob (k r d : Int) (s : Bool) (o m O M : Nat) (w : World) (ho : FE .f32 o O) (hm : FE .f32 m M) :
    Calls Try.prog 5 #[.agg #[.int .i64 k, .int .i64 r, .int .i64 d, .bool s, .float .f32 o, .float .f32 m]] w fun e w' => e = .returned (.bool true) ∧ ∃ os m, w' = w.grew os m := by
  go_enter Try.func5, Try.ntmps5
  go_wp2_with (first
      | (go_at_call 23; refine (L_toJob _ _ _ _ _ _ _).mono ?_; rintro e w' ⟨rfl, os, m, rfl⟩)
      | (go_at_call 22; refine (S_ValidJob _ _ _ _ _ _ _ _ _ ho hm).mono ?_; rintro e w' ⟨rfl, os, m, rfl⟩)
      | (go_at_call 24; refine (I_ValidJob _ _ _ _ _ _ _ _ _ ho hm).mono ?_; rintro e w' ⟨rfl, os, m, rfl⟩)
      | ((with_reducible apply wpList_fop); (case hw => rfl); (case hop => rfl); (case hx => rfl); (case hy => rfl); (case hA => assumption); (case hB => assumption); intro r n hr)
      | ((with_reducible apply wpList_fcmp); (case hw => rfl); (case hop => rfl); (case hx => rfl); (case hy => rfl); (case hA => assumption); (case hB => assumption); (case hb => (first | assumption | rfl)))
      | ((with_reducible apply wpList_widen); (case hw => rfl); (case hs => exact Try.underlying22); (case hd => exact Try.underlying29); (case hx => rfl); (case hA => assumption); intro r n hr)
      | ((with_reducible apply wpList_fneg); (case hw => rfl); (case hx => rfl); (case hA => assumption); intro r hr))
  go_ret
  exact ⟨by simp, (by repeat (first | exact Gr.refl _ | refine Gr.drewN ?_ _ | refine Gr.grew ?_ _ _ | refine Gr.alloc ?_ _ | refine Gr.drew ?_))⟩

set_option maxRecDepth 100000 in
theorem fnExactValidJob_lifted (os : Os) (started : os.Started) (H : Type) (enc : TypeId × Value → H) :
    ReturnsInHanded {} Try.checked os 5 .any (Rows.fnExactValidJobSpec.pre6 enc Try.prog Try.f5 Rows.fnExactValidJobRow.domain false) (Rows.fnExactValidJobSpec.post enc Try.prog Try.f5 false true false false) := by
  refine returnsInHanded_of_change (C := Try.checked) own started (by kernel_rfl) Try.func5
    (ChangeSpec.witness6 (enc := enc) (C := Try.checked) false ⟨#[], #[.agg #[.int .i64 0, .int .i64 0, .int .i64 0, .bool false, .float .f32 0, .float .f32 0]], []⟩ 12 (by kernel_rfl) (by kernel_rfl) (by kernel_rfl) (by kernel_rfl)) ?_
  intro W base args ds gs before hval0 hW hcnd _
  have hval : ∀ (j : Nat) t v, Try.f5.params[j]? = some t → args[j]? = some v → Value.okWide Try.prog W .any base t v := hval0
  have hW' := hW
  obtain ⟨p, q, hA0, hV, rfl, hfz, hnd⟩ := hW
  have hA : DataW.TrodAll enc Try.prog W 0 (fun _ => true) true Try.f5.params.toList args.toList ds p := hA0
  rw [Try.params5] at hA hval
  obtain ⟨v0, vs0, d0, ds0, p0, q0, ha0, rfl, rfl, h0, r0⟩ := trodAll_cons hA
  obtain ⟨rfl, rfl, rfl⟩ := trodAll_nil r0
  obtain rfl : args = #[v0] := by cases args; simp_all
  obtain ⟨rfl, rfl⟩ := trodVars_none hV
  obtain ⟨k, r, d, s, o, m, rfl, wo, wm⟩ := open_job Try.underlying40 Try.underlying38 (by kernel_rfl) Try.underlying2 Try.underlying4 Try.underlying22 (by kernel_rfl) (by kernel_rfl) (by kernel_rfl) (by kernel_rfl) (hval 0 40 v0 rfl rfl) h0
  refine (L_FnExactValidJob k r d s o m _ _ W wo wm).mono fun e W' ⟨he, hg⟩ => ?_
  exact ⟨_, he, post_true laidOut (by kernel_rfl) (by kernel_rfl) Try.underlying4 rfl hW' rfl rfl rfl (Gr.below hg)⟩

theorem fnExactValidJob_holds : Rows.FnExactValidJobSaid :=
  OpenClaim.holds_of_wide 5 Try.f5 rfl rfl rfl rfl rfl rfl rfl ⟨rfl, rfl, rfl, rfl, rfl⟩ rfl rfl rfl rfl rfl (by kernel_rfl) Try.func5 (by kernel_rfl)
    (of_decide_eq_true (by kernel_rfl)) (by unfold Func.isWrapper; first | (rw [if_pos (by decide +kernel)]; kernel_rfl) | (rw [if_neg (by decide +kernel)]; exact ⟨rfl, rfl⟩))
    (fun os started H enc _ => fnExactValidJob_lifted os started H enc)
#print axioms fnExactValidJob_holds
end Go.Proofs.Ytkaikcabnhhciaa
