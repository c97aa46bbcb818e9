/- For every plane and every two numbers FnExactHeightAt returns true. No conditions. -/
import Derived.Test.YtkaikcabnhhciaaRow
import Derived.Test.YtkaikcabnhhciaaC1
namespace Go.Proofs.Ytkaikcabnhhciaa
open Go.ChangeShapes Go.WideShapes Go.ChangeAt Go.RowKit Go.Joins Go.Fx

set_option maxHeartbeats 400000 in
theorem L_FnExactHeightAt (a b c x y : Nat) (w : World) (ha : FE .f32 a (cz .f32 a)) (hb : FE .f32 b (cz .f32 b)) (hc : FE .f32 c (cz .f32 c)) (hx : FE .f32 x (cz .f32 x)) (hy : FE .f32 y (cz .f32 y)) :
    Calls Try.prog 3 #[.agg #[.float .f32 a, .float .f32 b, .float .f32 c], .float .f32 x, .float .f32 y] w fun e w' => e = .returned (.bool true) ∧ ∃ os m, w' = w.grew os m := by
  go_enter Try.func3, Try.ntmps3
  go_wp2_with (first
      | (go_at_call 16; refine (L_toPlane _ _ _ _).mono ?_; rintro e w' ⟨rfl, os, m, rfl⟩)
      | (go_at_call 15; refine (S_HeightAt _ _ _ _ _ _ _ _ _ _ _ ha hb hc hx hy).mono ?_; rintro e w' ⟨r, rfl, hr, os, m, rfl⟩)
      | (go_at_call 17; refine (I_HeightAt _ _ _ _ _ _ _ _ _ _ _ ha hb hc hx hy).mono ?_; rintro e w' ⟨r, rfl, hr, os, m, rfl⟩)
      | (go_at_call 18; refine (L_sameFloat _ _ _ _ ‹_› ‹_›).mono ?_; rintro e w' ⟨rfl, n, rfl⟩)
      | ((with_reducible apply wpList_fop); (case hw => rfl); (case hop => rfl); (case hx => rfl); (case hy => rfl); (case hA => assumption); (case hB => assumption); intro r n hr)
      | ((with_reducible apply wpList_fcmp); (case hw => rfl); (case hop => rfl); (case hx => rfl); (case hy => rfl); (case hA => assumption); (case hB => assumption); (case hb => (first | assumption | rfl)))
      | ((with_reducible apply wpList_widen); (case hw => rfl); (case hs => exact Try.underlying22); (case hd => exact Try.underlying29); (case hx => rfl); (case hA => assumption); intro r n hr)
      | ((with_reducible apply wpList_fneg); (case hw => rfl); (case hx => rfl); (case hA => assumption); intro r hr))
  go_ret
  exact ⟨rfl, (by repeat (first | exact Gr.refl _ | refine Gr.drewN ?_ _ | refine Gr.grew ?_ _ _ | refine Gr.alloc ?_ _ | refine Gr.drew ?_))⟩

set_option maxRecDepth 100000 in
theorem fnExactHeightAt_lifted (os : Os) (started : os.Started) (H : Type) (enc : TypeId × Value → H) :
    ReturnsInHanded {} Try.checked os 3 .any (Rows.fnExactHeightAtSpec.pre6 enc Try.prog Try.f3 Rows.fnExactHeightAtRow.domain false) (Rows.fnExactHeightAtSpec.post enc Try.prog Try.f3 false true false false) := by
  refine returnsInHanded_of_change (C := Try.checked) own started (by kernel_rfl) Try.func3
    (ChangeSpec.witness6 (enc := enc) (C := Try.checked) false ⟨#[], #[.agg #[.float .f32 0, .float .f32 0, .float .f32 0], .float .f32 0, .float .f32 0], []⟩ 8 (by kernel_rfl) (by kernel_rfl) (by kernel_rfl) (by kernel_rfl)) ?_
  intro W base args ds gs before hval0 hW hcnd _
  have hval : ∀ (j : Nat) t v, Try.f3.params[j]? = some t → args[j]? = some v → Value.okWide Try.prog W .any base t v := hval0
  have hW' := hW
  obtain ⟨p, q, hA0, hV, rfl, hfz, hnd⟩ := hW
  have hA : DataW.TrodAll enc Try.prog W 0 (fun _ => true) true Try.f3.params.toList args.toList ds p := hA0
  rw [Try.params3] at hA hval
  obtain ⟨v0, vs0, d0, ds0, p0, q0, ha0, rfl, rfl, h0, r0⟩ := trodAll_cons hA
  obtain ⟨v1, vs1, d1, ds1, p1, q1, rfl, rfl, rfl, h1, r1⟩ := trodAll_cons r0
  obtain ⟨v2, vs2, d2, ds2, p2, q2, rfl, rfl, rfl, h2, r2⟩ := trodAll_cons r1
  obtain ⟨rfl, rfl, rfl⟩ := trodAll_nil r2
  obtain rfl : args = #[v0, v1, v2] := by cases args; simp_all
  obtain ⟨rfl, rfl⟩ := trodVars_none hV
  obtain ⟨c0, c1, c2, y0, y1, y2, m, rfl, -, -, hy0, hy1, hy2⟩ := open_agg3 Try.underlying24 (by kernel_rfl) (by kernel_rfl) (hval 0 24 v0 rfl rfl) h0
  obtain ⟨a, ea, wa⟩ := trod_float Try.underlying22 hy0
  obtain ⟨b, eb, wb⟩ := trod_float Try.underlying22 hy1
  obtain ⟨c, ec, wc⟩ := trod_float Try.underlying22 hy2
  simp only [List.cons.injEq, and_true] at ea eb ec
  subst ea eb ec
  obtain ⟨x, rfl, -, -, wx⟩ := open_float Try.underlying22 (hval 1 22 v1 rfl rfl) h1
  obtain ⟨y, rfl, -, -, wy⟩ := open_float Try.underlying22 (hval 2 22 v2 rfl rfl) h2
  refine (L_FnExactHeightAt a b c x y W (FE.self wa) (FE.self wb) (FE.self wc) (FE.wf wx) (FE.wf wy)).mono fun e W' ⟨he, hg⟩ => ?_
  exact ⟨_, he, post_true laidOut (by kernel_rfl) (by kernel_rfl) Try.underlying4 rfl hW' rfl rfl rfl (Gr.below hg)⟩

theorem fnExactHeightAt_holds : Rows.FnExactHeightAtSaid :=
  OpenClaim.holds_of_wide 3 Try.f3 rfl rfl rfl rfl rfl rfl rfl ⟨rfl, rfl, rfl, rfl, rfl⟩ rfl rfl rfl rfl rfl (by kernel_rfl) Try.func3 (by kernel_rfl)
    (of_decide_eq_true (by kernel_rfl)) (by unfold Func.isWrapper; first | (rw [if_pos (by decide +kernel)]; kernel_rfl) | (rw [if_neg (by decide +kernel)]; exact ⟨rfl, rfl⟩))
    (fun os started H enc _ => fnExactHeightAt_lifted os started H enc)
#print axioms fnExactHeightAt_holds
end Go.Proofs.Ytkaikcabnhhciaa
