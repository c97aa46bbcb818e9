/- For every list and every two numbers FnExactWarpPoint returns true. No conditions. -/
import Derived.Test.YtkaikcabnhhciaaRow
import Derived.Test.YtkaikcabnhhciaaC6
namespace Go.Proofs.Ytkaikcabnhhciaa
open Go.ChangeShapes Go.WideShapes Go.ChangeAt Go.RowKit Go.Joins Go.Deep Go.Fx Go.Soft

set_option maxHeartbeats 1000000 in
theorem L_FnExactWarpPoint (a : Option Addr) (n cap : Nat) (xs : List Nat) (x y X Y : Nat) (w : World) (hs : FSl w a n xs) (hm : n ≤ maxLen) (hx : FE .f32 x X) (hy : FE .f32 y Y) :
    Calls Try.prog 9 #[.slice a n cap, .float .f32 x, .float .f32 y] w fun e w' => e = .returned (.bool true) ∧ ∃ os m, w' = w.grew os m := by
  obtain rfl := hs.len
  unfold maxLen at hm
  by_cases hn : xs.length ≤ 1048576
  · go_enter Try.func9, Try.ntmps9
    go_wp2_with fail
    refine (L_toFloat32S _ _ cap xs _ hs hn).mono ?_
    rintro e w1 ⟨⟨v, rfl, ho⟩, os1, m1, rfl⟩
    (try simp only [grew_grew, drewN_grew, grew_drewN, Array.append_assoc] at ho)
    have O1 := Lib.hid ho
    obtain ⟨a1, c1, rfl, h, hm1⟩ := ho.sl
    have H1 := Lib.hid h
    clear ho h
    go_wp2_with fail
    refine (S_WarpPoint _ _ _ _ _ _ _ _ _ H1.out hm1 hx hy).mono ?_
    rintro e w1 ⟨⟨r1, s1, rfl, hr1, hs1⟩, n, rfl⟩
    go_wp2_with fail
    refine (L_toFloat32S _ _ cap xs _ (hs.keep (by (first | exact Kp.refl _ | exact kp_same | exact kp_pre (by simp only [Array.append_assoc]; exact ⟨_, rfl⟩) | (repeat (first | exact Kp.refl _ | refine Kp.grew ?_ _ _ | refine Kp.drewN ?_ _ | refine Kp.alloc ?_ _))))) hn).mono ?_
    rintro e w1 ⟨⟨v, rfl, ho⟩, os2, m2, rfl⟩
    (try simp only [grew_grew, drewN_grew, grew_drewN, Array.append_assoc] at ho)
    have O2 := Lib.hid ho
    obtain ⟨a2, c2, rfl, h, hm2⟩ := ho.sl
    have H2 := Lib.hid h
    clear ho h
    go_wp2_with fail
    refine (I_WarpPoint _ _ _ _ _ _ _ _ _ H2.out hm2 hx hy).mono ?_
    rintro e w1 ⟨⟨r2, s2, rfl, hr2, hs2⟩, os3, m3, rfl⟩
    go_wp2_with (first
      | (go_at_call 18; refine (L_sameFloat _ _ _ _ ‹_› ‹_›).mono ?_; rintro e w' ⟨rfl, n, rfl⟩)
      | ((with_reducible apply wpList_fop); (case hw => rfl); (case hop => rfl); (case hx => rfl); (case hy => rfl); (case hA => assumption); (case hB => assumption); intro r n hr)
      | ((with_reducible apply wpList_fcmp); (case hw => rfl); (case hop => rfl); (case hx => rfl); (case hy => rfl); (case hA => assumption); (case hB => assumption); (case hb => (first | assumption | rfl)))
      | ((with_reducible apply wpList_widen); (case hw => rfl); (case hs => exact Try.underlying22); (case hd => exact Try.underlying29); (case hx => rfl); (case hA => assumption); intro r n hr)
      | ((with_reducible apply wpList_fneg); (case hw => rfl); (case hx => rfl); (case hA => assumption); intro r hr))
    go_wp2_with fail
    refine (L_toFloat32S _ _ cap xs _ (hs.keep (by (first | exact Kp.refl _ | exact kp_same | exact kp_pre (by simp only [Array.append_assoc]; exact ⟨_, rfl⟩) | (repeat (first | exact Kp.refl _ | refine Kp.grew ?_ _ _ | refine Kp.drewN ?_ _ | refine Kp.alloc ?_ _))))) hn).mono ?_
    rintro e w1 ⟨⟨v, rfl, ho⟩, os4, m4, rfl⟩
    (try simp only [grew_grew, drewN_grew, grew_drewN, Array.append_assoc] at ho)
    have O4 := Lib.hid ho
    obtain ⟨a4, c4, rfl, h, hm4⟩ := ho.sl
    have H4 := Lib.hid h
    clear ho h
    go_wp2_with fail
    refine (L_eqFloat32S _ _ _ _ _ _ xs _ (H2.out.keep (by (first | exact Kp.refl _ | exact kp_same | exact kp_pre (by simp only [Array.append_assoc]; exact ⟨_, rfl⟩) | (repeat (first | exact Kp.refl _ | refine Kp.grew ?_ _ _ | refine Kp.drewN ?_ _ | refine Kp.alloc ?_ _))))) H4.out hm2).mono ?_
    rintro e w1 ⟨rfl, n, rfl⟩
    go_wp2
    go_ret
    exact ⟨by simp, (by repeat (first | exact Gr.refl _ | refine Gr.drewN ?_ _ | refine Gr.grew ?_ _ _ | refine Gr.alloc ?_ _ | refine Gr.drew ?_))⟩
  · go_enter Try.func9, Try.ntmps9
    go_wp2
    go_ret
    exact ⟨rfl, (by repeat (first | exact Gr.refl _ | refine Gr.drewN ?_ _ | refine Gr.grew ?_ _ _ | refine Gr.alloc ?_ _ | refine Gr.drew ?_))⟩

set_option maxRecDepth 100000 in
theorem fnExactWarpPoint_lifted (os : Os) (started : os.Started) (H : Type) (enc : TypeId × Value → H) :
    ReturnsInHanded {} Try.checked os 9 .any (Rows.fnExactWarpPointSpec.pre6 enc Try.prog Try.f9 Rows.fnExactWarpPointRow.domain false) (Rows.fnExactWarpPointSpec.post enc Try.prog Try.f9 false true false false) := by
  refine returnsInHanded_of_change (C := Try.checked) own started (by kernel_rfl) Try.func9
    (ChangeSpec.witness6 (enc := enc) (C := Try.checked) false ⟨#[], #[.slice none 0 0, .float .f32 0, .float .f32 0], []⟩ 12 (by kernel_rfl) (by kernel_rfl) (by kernel_rfl) (by kernel_rfl)) ?_
  intro W base args ds gs before hval0 hW hcnd _
  have hval : ∀ (j : Nat) t v, Try.f9.params[j]? = some t → args[j]? = some v → Value.okWide Try.prog W .any base t v := hval0
  have hW' := hW
  obtain ⟨p, q, hA0, hV, rfl, hfz, hnd⟩ := hW
  have hA : DataW.TrodAll enc Try.prog W 0 (fun _ => true) true Try.f9.params.toList args.toList ds p := hA0
  rw [Try.params9] at hA hval
  obtain ⟨v0, vs0, d0, ds0, p0, q0, ha0, rfl, rfl, h0, r0⟩ := trodAll_cons hA
  obtain ⟨v1, vs1, d1, ds1, p1, q1, rfl, rfl, rfl, h1, r1⟩ := trodAll_cons r0
  obtain ⟨v2, vs2, d2, ds2, p2, q2, rfl, rfl, rfl, h2, r2⟩ := trodAll_cons r1
  obtain ⟨rfl, rfl, rfl⟩ := trodAll_nil r2
  obtain rfl : args = #[v0, v1, v2] := by cases args; simp_all
  obtain ⟨rfl, rfl⟩ := trodVars_none hV
  obtain ⟨a, n, cap, xs, rfl, hs, hm⟩ := open_fsl Try.underlying47 Try.underlying22 (by kernel_rfl) (hval 0 47 v0 rfl rfl) h0
  obtain ⟨x, rfl, -, -, wx⟩ := open_float Try.underlying22 (hval 1 22 v1 rfl rfl) h1
  obtain ⟨y, rfl, -, -, wy⟩ := open_float Try.underlying22 (hval 2 22 v2 rfl rfl) h2
  refine (L_FnExactWarpPoint a n cap xs x y _ _ W hs hm (FE.wf wx) (FE.wf wy)).mono fun e W' ⟨he, hg⟩ => ?_
  exact ⟨_, he, post_true laidOut (by kernel_rfl) (by kernel_rfl) Try.underlying4 rfl hW' rfl rfl rfl (Gr.below hg)⟩

theorem fnExactWarpPoint_holds : Rows.FnExactWarpPointSaid :=
  OpenClaim.holds_of_wide 9 Try.f9 rfl rfl rfl rfl rfl rfl rfl ⟨rfl, rfl, rfl, rfl, rfl⟩ rfl rfl rfl rfl rfl (by kernel_rfl) Try.func9 (by kernel_rfl)
    (of_decide_eq_true (by kernel_rfl)) (by unfold Func.isWrapper; first | (rw [if_pos (by decide +kernel)]; kernel_rfl) | (rw [if_neg (by decide +kernel)]; exact ⟨rfl, rfl⟩))
    (fun os started H enc _ => fnExactWarpPoint_lifted os started H enc)
#print axioms fnExactWarpPoint_holds
end Go.Proofs.Ytkaikcabnhhciaa
