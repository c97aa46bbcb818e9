/- For every camera and every point FnExactCellOf returns true. No conditions. -/
import Derived.Test.YtkaikcabnhhciaaRow
import Derived.Test.YtkaikcabnhhciaaC4
namespace Go.Proofs.Ytkaikcabnhhciaa
open Go.ChangeShapes Go.WideShapes Go.ChangeAt Go.RowKit Go.Joins Go.Deep Go.Fx Go.Soft

set_option maxHeartbeats 400000 in
theorem L_FnExactCellOf (f b x y F B X Y p q z P Q Z : Nat) (w : World) (hf : FE .f32 f F) (hb : FE .f32 b B) (hx : FE .f32 x X) (hy : FE .f32 y Y) (hp : FE .f32 p P) (hq : FE .f32 q Q) (hz : FE .f32 z Z) :
    Calls Try.prog 14 #[.agg #[.float .f32 f, .float .f32 b, .float .f32 x, .float .f32 y], .agg #[.float .f32 p, .float .f32 q, .float .f32 z]] w fun e w' => e = .returned (.bool true) ∧ ∃ os m, w' = w.grew os m := by
  go_enter Try.func14, Try.ntmps14
  go_wp2_with (first
      | ((with_reducible apply wpList_fop); (case hw => rfl); (case hop => rfl); (case hx => rfl); (case hy => rfl); (case hA => assumption); (case hB => assumption); intro r n hr)
      | ((with_reducible apply wpList_fcmp); (case hw => rfl); (case hop => rfl); (case hx => rfl); (case hy => rfl); (case hA => assumption); (case hB => assumption); (case hb => (first | assumption | rfl)))
      | ((with_reducible apply wpList_widen); (case hw => rfl); (case hs => exact Try.underlying22); (case hd => exact Try.underlying29); (case hx => rfl); (case hA => assumption); intro r n hr)
      | ((with_reducible apply wpList_fneg); (case hw => rfl); (case hx => rfl); (case hA => assumption); intro r hr))
  apply region_grew 13
  case hm => kernel_rfl
  case hB => kernel_rfl
  simp only [List.take_succ_cons, List.take_zero, List.drop_succ_cons, List.drop_zero]
  repeat (first
    | ((with_reducible apply wpSoft_calleq (f := 20)); (case hw => rfl); (case hc => exact Try.call20); (case hv => ((conv => lhs; simp [Act.eval]); try rfl)); (case hS => (rintro _ ⟨⟨os, m⟩, rfl⟩; refine (L_toCamera _ _ _ _ _).mono ?_; rintro e w' ⟨rfl, os2, m2, rfl⟩; exact ⟨rfl, ⟨⟨_, _⟩, grew_grew _ _ _ _ _⟩⟩)); (simp only [Act.put, List.setIfInBounds_toArray, List.set_cons_succ, List.set_cons_zero]))
    | ((with_reducible apply wpSoft_calleq (f := 51)); (case hw => rfl); (case hc => exact Try.call51); (case hv => ((conv => lhs; simp [Act.eval]); try rfl)); (case hS => (rintro _ ⟨⟨os, m⟩, rfl⟩; refine (L_toVector _ _ _ _).mono ?_; rintro e w' ⟨rfl, os2, m2, rfl⟩; exact ⟨rfl, ⟨⟨_, _⟩, grew_grew _ _ _ _ _⟩⟩)); (simp only [Act.put, List.setIfInBounds_toArray, List.set_cons_succ, List.set_cons_zero]))
    | ((with_reducible apply wpSoft_call (f := 59) (S := fun v => ∃ r s t, v = Value.tuple #[.float .f32 r, .float .f32 s, .float .f32 t, .bool (gDepth F B X Y Z).isSome] ∧ FE .f32 r (gCell F X P Z (gDepth F B X Y Z)) ∧ FE .f32 s (gCell F Y Q Z (gDepth F B X Y Z)) ∧ FE .f32 t ((gDepth F B X Y Z).getD 0))); (case hw => rfl); (case hc => exact Try.call59); (case hv => ((conv => lhs; simp [Act.eval]); try rfl)); (case hS => (rintro _ ⟨⟨os, m⟩, rfl⟩; refine (S_CellOf _ _ _ _ _ _ _ _ _ _ _ _ _ _ _ hf hb hx hy hp hq hz).mono ?_; rintro e w' ⟨⟨r, s, t, rfl, hr, hs, ht⟩, os2, m2, rfl⟩; exact ⟨_, rfl, ⟨⟨_, _⟩, grew_grew _ _ _ _ _⟩, r, s, t, rfl, hr, hs, ht⟩)); (rintro v ⟨r, s, t, rfl, hr, hs, ht⟩; simp only [Act.put, List.setIfInBounds_toArray, List.set_cons_succ, List.set_cons_zero]))
    | (apply wpSoft_skip rfl; simp only [Act.put, List.setIfInBounds_toArray, List.set_cons_succ, List.set_cons_zero])
    | (apply wpSoft_nilCheck rfl rfl; simp only [Act.put, List.setIfInBounds_toArray, List.set_cons_succ, List.set_cons_zero])
    | ((with_reducible apply wpSoft_fop); (case hw => rfl); (case hD => exact closed_grew); (case hop => rfl); (case hx => rfl); (case hy => rfl); (case hA => assumption); (case hB => assumption); (intro r hr; simp only [Act.put, List.setIfInBounds_toArray, List.set_cons_succ, List.set_cons_zero]))

    | ((with_reducible apply wpSoft_widen); (case hw => rfl); (case hD => exact closed_grew); (case hs => exact Try.underlying22); (case hd => exact Try.underlying29); (case hx => rfl); (case hA => assumption); (intro r hr; simp only [Act.put, List.setIfInBounds_toArray, List.set_cons_succ, List.set_cons_zero]))
    | ((with_reducible apply wpSoft_fneg); (case hw => rfl); (case hx => rfl); (case hA => assumption); (intro r hr; simp only [Act.put, List.setIfInBounds_toArray, List.set_cons_succ, List.set_cons_zero]))
    | ((with_reducible apply wpSoft_fcmp); (case hw => rfl); (case hop => rfl); (case hx => rfl); (case hy => rfl); (case hA => assumption); (case hB => assumption); (case hb => (first | assumption | rfl)); simp only [Act.put, List.setIfInBounds_toArray, List.set_cons_succ, List.set_cons_zero])
    | (apply wpSoft_q rfl rfl; intro K hK; go_big_quiet_op; go_big_quiet_on))
  apply wpSoft_nil
  intro os m
  go_wp2_with (first
      | ((with_reducible apply wpList_fop); (case hw => rfl); (case hop => rfl); (case hx => rfl); (case hy => rfl); (case hA => assumption); (case hB => assumption); intro r n hr)
      | ((with_reducible apply wpList_fcmp); (case hw => rfl); (case hop => rfl); (case hx => rfl); (case hy => rfl); (case hA => assumption); (case hB => assumption); (case hb => (first | assumption | rfl)))
      | ((with_reducible apply wpList_widen); (case hw => rfl); (case hs => exact Try.underlying22); (case hd => exact Try.underlying29); (case hx => rfl); (case hA => assumption); intro r n hr)
      | ((with_reducible apply wpList_fneg); (case hw => rfl); (case hx => rfl); (case hA => assumption); intro r hr))
  apply region_grew 13
  case hm => kernel_rfl
  case hB => kernel_rfl
  simp only [List.take_succ_cons, List.take_zero, List.drop_succ_cons, List.drop_zero]
  repeat (first
    | ((with_reducible apply wpSoft_calleq (f := 20)); (case hw => rfl); (case hc => exact Try.call20); (case hv => ((conv => lhs; simp [Act.eval]); try rfl)); (case hS => (rintro _ ⟨⟨os, m⟩, rfl⟩; refine (L_toCamera _ _ _ _ _).mono ?_; rintro e w' ⟨rfl, os2, m2, rfl⟩; exact ⟨rfl, ⟨⟨_, _⟩, grew_grew _ _ _ _ _⟩⟩)); (simp only [Act.put, List.setIfInBounds_toArray, List.set_cons_succ, List.set_cons_zero]))
    | ((with_reducible apply wpSoft_calleq (f := 51)); (case hw => rfl); (case hc => exact Try.call51); (case hv => ((conv => lhs; simp [Act.eval]); try rfl)); (case hS => (rintro _ ⟨⟨os, m⟩, rfl⟩; refine (L_toVector _ _ _ _).mono ?_; rintro e w' ⟨rfl, os2, m2, rfl⟩; exact ⟨rfl, ⟨⟨_, _⟩, grew_grew _ _ _ _ _⟩⟩)); (simp only [Act.put, List.setIfInBounds_toArray, List.set_cons_succ, List.set_cons_zero]))
    | ((with_reducible apply wpSoft_call (f := 60) (S := fun v => ∃ r s t, v = Value.tuple #[.float .f32 r, .float .f32 s, .float .f32 t, .bool (gDepth F B X Y Z).isSome] ∧ FE .f32 r (gCell F X P Z (gDepth F B X Y Z)) ∧ FE .f32 s (gCell F Y Q Z (gDepth F B X Y Z)) ∧ FE .f32 t ((gDepth F B X Y Z).getD 0))); (case hw => rfl); (case hc => exact Try.call60); (case hv => ((conv => lhs; simp [Act.eval]); try rfl)); (case hS => (rintro _ ⟨⟨os, m⟩, rfl⟩; refine (I_CellOf _ _ _ _ _ _ _ _ _ _ _ _ _ _ _ hf hb hx hy hp hq hz).mono ?_; rintro e w' ⟨⟨r, s, t, rfl, hr, hs, ht⟩, os2, m2, rfl⟩; exact ⟨_, rfl, ⟨⟨_, _⟩, grew_grew _ _ _ _ _⟩, r, s, t, rfl, hr, hs, ht⟩)); (rintro v ⟨r, s, t, rfl, hr, hs, ht⟩; simp only [Act.put, List.setIfInBounds_toArray, List.set_cons_succ, List.set_cons_zero]))
    | (apply wpSoft_skip rfl; simp only [Act.put, List.setIfInBounds_toArray, List.set_cons_succ, List.set_cons_zero])
    | (apply wpSoft_nilCheck rfl rfl; simp only [Act.put, List.setIfInBounds_toArray, List.set_cons_succ, List.set_cons_zero])
    | ((with_reducible apply wpSoft_fop); (case hw => rfl); (case hD => exact closed_grew); (case hop => rfl); (case hx => rfl); (case hy => rfl); (case hA => assumption); (case hB => assumption); (intro r hr; simp only [Act.put, List.setIfInBounds_toArray, List.set_cons_succ, List.set_cons_zero]))

    | ((with_reducible apply wpSoft_widen); (case hw => rfl); (case hD => exact closed_grew); (case hs => exact Try.underlying22); (case hd => exact Try.underlying29); (case hx => rfl); (case hA => assumption); (intro r hr; simp only [Act.put, List.setIfInBounds_toArray, List.set_cons_succ, List.set_cons_zero]))
    | ((with_reducible apply wpSoft_fneg); (case hw => rfl); (case hx => rfl); (case hA => assumption); (intro r hr; simp only [Act.put, List.setIfInBounds_toArray, List.set_cons_succ, List.set_cons_zero]))
    | ((with_reducible apply wpSoft_fcmp); (case hw => rfl); (case hop => rfl); (case hx => rfl); (case hy => rfl); (case hA => assumption); (case hB => assumption); (case hb => (first | assumption | rfl)); simp only [Act.put, List.setIfInBounds_toArray, List.set_cons_succ, List.set_cons_zero])
    | (apply wpSoft_q rfl rfl; intro K hK; go_big_quiet_op; go_big_quiet_on))
  apply wpSoft_nil
  intro os m
  go_wp2_with (first
      | (go_at_call 18; refine (L_sameFloat _ _ _ _ ‹_› ‹_›).mono ?_; rintro e w' ⟨rfl, n, rfl⟩)
      | ((with_reducible apply wpList_fop); (case hw => rfl); (case hop => rfl); (case hx => rfl); (case hy => rfl); (case hA => assumption); (case hB => assumption); intro r n hr)
      | ((with_reducible apply wpList_fcmp); (case hw => rfl); (case hop => rfl); (case hx => rfl); (case hy => rfl); (case hA => assumption); (case hB => assumption); (case hb => (first | assumption | rfl)))
      | ((with_reducible apply wpList_widen); (case hw => rfl); (case hs => exact Try.underlying22); (case hd => exact Try.underlying29); (case hx => rfl); (case hA => assumption); intro r n hr)
      | ((with_reducible apply wpList_fneg); (case hw => rfl); (case hx => rfl); (case hA => assumption); intro r hr))
  go_ret
  exact ⟨by simp, (by repeat (first | exact Gr.refl _ | refine Gr.drewN ?_ _ | refine Gr.grew ?_ _ _ | refine Gr.alloc ?_ _ | refine Gr.drew ?_))⟩

set_option maxRecDepth 100000 in
theorem fnExactCellOf_lifted (os : Os) (started : os.Started) (H : Type) (enc : TypeId × Value → H) :
    ReturnsInHanded {} Try.checked os 14 .any (Rows.fnExactCellOfSpec.pre6 enc Try.prog Try.f14 Rows.fnExactCellOfRow.domain false) (Rows.fnExactCellOfSpec.post enc Try.prog Try.f14 false true false false) := by
  refine returnsInHanded_of_change (C := Try.checked) own started (by kernel_rfl) Try.func14
    (ChangeSpec.witness6 (enc := enc) (C := Try.checked) false ⟨#[], #[.agg #[.float .f32 0, .float .f32 0, .float .f32 0, .float .f32 0], .agg #[.float .f32 0, .float .f32 0, .float .f32 0]], []⟩ 12 (by kernel_rfl) (by kernel_rfl) (by kernel_rfl) (by kernel_rfl)) ?_
  intro W base args ds gs before hval0 hW hcnd _
  have hval : ∀ (j : Nat) t v, Try.f14.params[j]? = some t → args[j]? = some v → Value.okWide Try.prog W .any base t v := hval0
  have hW' := hW
  obtain ⟨p, q, hA0, hV, rfl, hfz, hnd⟩ := hW
  have hA : DataW.TrodAll enc Try.prog W 0 (fun _ => true) true Try.f14.params.toList args.toList ds p := hA0
  rw [Try.params14] at hA hval
  obtain ⟨v0, vs0, d0, ds0, p0, q0, ha0, rfl, rfl, h0, r0⟩ := trodAll_cons hA
  obtain ⟨v1, vs1, d1, ds1, p1, q1, rfl, rfl, rfl, h1, r1⟩ := trodAll_cons r0
  obtain ⟨rfl, rfl, rfl⟩ := trodAll_nil r1
  obtain rfl : args = #[v0, v1] := by cases args; simp_all
  obtain ⟨rfl, rfl⟩ := trodVars_none hV
  obtain ⟨f, b, x, y, rfl, wf, wb, wx, wy⟩ := open_f4 Try.underlying32 (by kernel_rfl) (by kernel_rfl) Try.underlying22 (hval 0 32 v0 rfl rfl) h0
  obtain ⟨p, q, z, rfl, wp, wq, wz⟩ := open_f3 Try.underlying81 (by kernel_rfl) (by kernel_rfl) Try.underlying22 (hval 1 81 v1 rfl rfl) h1
  refine (L_FnExactCellOf f b x y _ _ _ _ p q z _ _ _ W wf wb wx wy wp wq wz).mono fun e W' ⟨he, hg⟩ => ?_
  exact ⟨_, he, post_true laidOut (by kernel_rfl) (by kernel_rfl) Try.underlying4 rfl hW' rfl rfl rfl (Gr.below hg)⟩

theorem fnExactCellOf_holds : Rows.FnExactCellOfSaid :=
  OpenClaim.holds_of_wide 14 Try.f14 rfl rfl rfl rfl rfl rfl rfl ⟨rfl, rfl, rfl, rfl, rfl⟩ rfl rfl rfl rfl rfl (by kernel_rfl) Try.func14 (by kernel_rfl)
    (of_decide_eq_true (by kernel_rfl)) (by unfold Func.isWrapper; first | (rw [if_pos (by decide +kernel)]; kernel_rfl) | (rw [if_neg (by decide +kernel)]; exact ⟨rfl, rfl⟩))
    (fun os started H enc _ => fnExactCellOf_lifted os started H enc)
#print axioms fnExactCellOf_holds
end Go.Proofs.Ytkaikcabnhhciaa
