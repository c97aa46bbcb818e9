/- For every camera and every number FnExactDisparityOf returns true. No conditions. -/
import Derived.Test.YtkaikcabnhhciaaRow
import Derived.Test.YtkaikcabnhhciaaC2
namespace Go.Proofs.Ytkaikcabnhhciaa
open Go.ChangeShapes Go.WideShapes Go.ChangeAt Go.RowKit Go.Joins Go.Deep Go.Fx Go.Soft

set_option maxHeartbeats 400000 in
theorem L_FnExactDisparityOf (f b x y d F B X Y D : Nat) (w : World) (hf : FE .f32 f F) (hb : FE .f32 b B) (hx : FE .f32 x X) (hy : FE .f32 y Y) (hd : FE .f32 d D) :
    Calls Try.prog 8 #[.agg #[.float .f32 f, .float .f32 b, .float .f32 x, .float .f32 y], .float .f32 d] w fun e w' => e = .returned (.bool true) ∧ ∃ os m, w' = w.grew os m := by
  go_enter Try.func8, Try.ntmps8
  go_wp2_with (first
      | (go_at_call 20; refine (L_toCamera _ _ _ _ _).mono ?_; rintro e w' ⟨rfl, os, m, rfl⟩)
      | (go_at_call 31; refine (S_DisparityOf _ _ _ _ _ _ _ _ _ _ _ hf hb hx hy hd).mono ?_; rintro e w' ⟨⟨r, rfl, hr⟩, os, m, rfl⟩)
      | (go_at_call 32; refine (I_DisparityOf _ _ _ _ _ _ _ _ _ _ _ hf hb hx hy hd).mono ?_; rintro e w' ⟨⟨r, rfl, hr⟩, os, m, rfl⟩)
      | (go_at_call 18; refine (L_sameFloat _ _ _ _ ‹_› ‹_›).mono ?_; rintro e w' ⟨rfl, n, rfl⟩)
      | ((with_reducible apply wpList_fop); (case hw => rfl); (case hop => rfl); (case hx => rfl); (case hy => rfl); (case hA => assumption); (case hB => assumption); intro r n hr)
      | ((with_reducible apply wpList_fcmp); (case hw => rfl); (case hop => rfl); (case hx => rfl); (case hy => rfl); (case hA => assumption); (case hB => assumption); (case hb => (first | assumption | rfl)))
      | ((with_reducible apply wpList_widen); (case hw => rfl); (case hs => exact Try.underlying22); (case hd => exact Try.underlying29); (case hx => rfl); (case hA => assumption); intro r n hr)
      | ((with_reducible apply wpList_fneg); (case hw => rfl); (case hx => rfl); (case hA => assumption); intro r hr))
  go_ret
  exact ⟨by simp, (by repeat (first | exact Gr.refl _ | refine Gr.drewN ?_ _ | refine Gr.grew ?_ _ _ | refine Gr.alloc ?_ _ | refine Gr.drew ?_))⟩

set_option maxRecDepth 100000 in
theorem fnExactDisparityOf_lifted (os : Os) (started : os.Started) (H : Type) (enc : TypeId × Value → H) :
    ReturnsInHanded {} Try.checked os 8 .any (Rows.fnExactDisparityOfSpec.pre6 enc Try.prog Try.f8 Rows.fnExactDisparityOfRow.domain false) (Rows.fnExactDisparityOfSpec.post enc Try.prog Try.f8 false true false false) := by
  refine returnsInHanded_of_change (C := Try.checked) own started (by kernel_rfl) Try.func8
    (ChangeSpec.witness6 (enc := enc) (C := Try.checked) false ⟨#[], #[.agg #[.float .f32 0, .float .f32 0, .float .f32 0, .float .f32 0], .float .f32 0], []⟩ 12 (by kernel_rfl) (by kernel_rfl) (by kernel_rfl) (by kernel_rfl)) ?_
  intro W base args ds gs before hval0 hW hcnd _
  have hval : ∀ (j : Nat) t v, Try.f8.params[j]? = some t → args[j]? = some v → Value.okWide Try.prog W .any base t v := hval0
  have hW' := hW
  obtain ⟨p, q, hA0, hV, rfl, hfz, hnd⟩ := hW
  have hA : DataW.TrodAll enc Try.prog W 0 (fun _ => true) true Try.f8.params.toList args.toList ds p := hA0
  rw [Try.params8] at hA hval
  obtain ⟨v0, vs0, d0, ds0, p0, q0, ha0, rfl, rfl, h0, r0⟩ := trodAll_cons hA
  obtain ⟨v1, vs1, d1, ds1, p1, q1, rfl, rfl, rfl, h1, r1⟩ := trodAll_cons r0
  obtain ⟨rfl, rfl, rfl⟩ := trodAll_nil r1
  obtain rfl : args = #[v0, v1] := by cases args; simp_all
  obtain ⟨rfl, rfl⟩ := trodVars_none hV
  obtain ⟨f, b, x, y, rfl, wf, wb, wx, wy⟩ := open_f4 Try.underlying32 (by kernel_rfl) (by kernel_rfl) Try.underlying22 (hval 0 32 v0 rfl rfl) h0
  obtain ⟨d, rfl, -, -, wd⟩ := open_float Try.underlying22 (hval 1 22 v1 rfl rfl) h1
  refine (L_FnExactDisparityOf f b x y d _ _ _ _ _ W wf wb wx wy (FE.wf wd)).mono fun e W' ⟨he, hg⟩ => ?_
  exact ⟨_, he, post_true laidOut (by kernel_rfl) (by kernel_rfl) Try.underlying4 rfl hW' rfl rfl rfl (Gr.below hg)⟩

theorem fnExactDisparityOf_holds : Rows.FnExactDisparityOfSaid :=
  OpenClaim.holds_of_wide 8 Try.f8 rfl rfl rfl rfl rfl rfl rfl ⟨rfl, rfl, rfl, rfl, rfl⟩ rfl rfl rfl rfl rfl (by kernel_rfl) Try.func8 (by kernel_rfl)
    (of_decide_eq_true (by kernel_rfl)) (by unfold Func.isWrapper; first | (rw [if_pos (by decide +kernel)]; kernel_rfl) | (rw [if_neg (by decide +kernel)]; exact ⟨rfl, rfl⟩))
    (fun os started H enc _ => fnExactDisparityOf_lifted os started H enc)
#print axioms fnExactDisparityOf_holds
end Go.Proofs.Ytkaikcabnhhciaa
