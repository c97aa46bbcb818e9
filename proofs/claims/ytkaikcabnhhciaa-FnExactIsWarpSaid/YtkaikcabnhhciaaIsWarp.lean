/- For every list of numbers FnExactIsWarp returns true. No conditions. -/
import Derived.Test.YtkaikcabnhhciaaRow
import Derived.Test.YtkaikcabnhhciaaC3
namespace Go.Proofs.Ytkaikcabnhhciaa
open Go.ChangeShapes Go.WideShapes Go.ChangeAt Go.RowKit Go.Joins Go.Deep Go.Fx Go.Soft

set_option maxHeartbeats 400000 in
theorem L_FnExactIsWarp (a : Option Addr) (n cap : Nat) (xs : List Nat) (w : World) (hs : FSl w a n xs) (hm : n ≤ maxLen) :
    Calls Try.prog 6 #[.slice a n cap] w fun e w' => e = .returned (.bool true) ∧ ∃ os m, w' = w.grew os m := by
  obtain rfl := hs.len
  unfold maxLen at hm
  by_cases hn : xs.length ≤ 1048576
  · go_enter Try.func6, Try.ntmps6
    go_wp2_with fail
    refine (L_toFloat32S _ _ cap xs _ hs hn).mono ?_
    rintro e w1 ⟨⟨v, rfl, ho⟩, os1, m1, rfl⟩
    (try simp only [grew_grew, drewN_grew, grew_drewN, Array.append_assoc] at ho)
    have O1 := Lib.hid ho
    obtain ⟨a1, c1, rfl, h, hm1⟩ := ho.sl
    have H1 := Lib.hid h
    clear ho h
    go_wp2_with fail
    refine (S_IsWarp _ _ _ _ _ H1.out hm1).mono ?_
    rintro e w1 ⟨rfl, n, rfl⟩
    go_wp2_with fail
    refine (L_toFloat32S _ _ cap xs _ (hs.keep (by (first | exact Kp.refl _ | exact kp_same | exact kp_pre (by simp only [Array.append_assoc]; exact ⟨_, rfl⟩) | (repeat (first | exact Kp.refl _ | refine Kp.grew ?_ _ _ | refine Kp.drewN ?_ _ | refine Kp.alloc ?_ _))))) hn).mono ?_
    rintro e w1 ⟨⟨v, rfl, ho⟩, os2, m2, rfl⟩
    (try simp only [grew_grew, drewN_grew, grew_drewN, Array.append_assoc] at ho)
    have O2 := Lib.hid ho
    obtain ⟨a2, c2, rfl, h, hm2⟩ := ho.sl
    have H2 := Lib.hid h
    clear ho h
    go_wp2_with fail
    refine (I_IsWarp _ _ _ _ _ H2.out hm2).mono ?_
    rintro e w1 ⟨rfl, os3, m3, rfl⟩
    go_wp2_with fail
    refine (L_toFloat32S _ _ cap xs _ (hs.keep (by (first | exact Kp.refl _ | exact kp_same | exact kp_pre (by simp only [Array.append_assoc]; exact ⟨_, rfl⟩) | (repeat (first | exact Kp.refl _ | refine Kp.grew ?_ _ _ | refine Kp.drewN ?_ _ | refine Kp.alloc ?_ _))))) hn).mono ?_
    rintro e w1 ⟨⟨v, rfl, ho⟩, os4, m4, rfl⟩
    (try simp only [grew_grew, drewN_grew, grew_drewN, Array.append_assoc] at ho)
    have O4 := Lib.hid ho
    obtain ⟨a4, c4, rfl, h, hm4⟩ := ho.sl
    have H4 := Lib.hid h
    clear ho h
    go_wp2_with fail
    refine (L_eqFloat32S _ _ _ _ _ _ xs _ (H2.out.keep (by (first | exact Kp.refl _ | exact kp_same | exact kp_pre (by simp only [Array.append_assoc]; exact ⟨_, rfl⟩) | (repeat (first | exact Kp.refl _ | refine Kp.grew ?_ _ _ | refine Kp.drewN ?_ _ | refine Kp.alloc ?_ _))))) H4.out hm2).mono ?_
    rintro e w1 ⟨rfl, n, rfl⟩
    go_wp2
    go_ret
    exact ⟨by simp, (by repeat (first | exact Gr.refl _ | refine Gr.drewN ?_ _ | refine Gr.grew ?_ _ _ | refine Gr.alloc ?_ _ | refine Gr.drew ?_))⟩
  · go_enter Try.func6, Try.ntmps6
    go_wp2
    go_ret
    exact ⟨rfl, (by repeat (first | exact Gr.refl _ | refine Gr.drewN ?_ _ | refine Gr.grew ?_ _ _ | refine Gr.alloc ?_ _ | refine Gr.drew ?_))⟩

set_option maxRecDepth 100000 in
theorem fnExactIsWarp_lifted (os : Os) (started : os.Started) (H : Type) (enc : TypeId × Value → H) :
    ReturnsInHanded {} Try.checked os 6 .any (Rows.fnExactIsWarpSpec.pre6 enc Try.prog Try.f6 Rows.fnExactIsWarpRow.domain false) (Rows.fnExactIsWarpSpec.post enc Try.prog Try.f6 false true false false) := by
  refine returnsInHanded_of_change (C := Try.checked) own started (by kernel_rfl) Try.func6
    (ChangeSpec.witness6 (enc := enc) (C := Try.checked) false ⟨#[], #[.slice none 0 0], []⟩ 12 (by kernel_rfl) (by kernel_rfl) (by kernel_rfl) (by kernel_rfl)) ?_
  intro W base args ds gs before hval0 hW hcnd _
  have hval : ∀ (j : Nat) t v, Try.f6.params[j]? = some t → args[j]? = some v → Value.okWide Try.prog W .any base t v := hval0
  have hW' := hW
  obtain ⟨p, q, hA0, hV, rfl, hfz, hnd⟩ := hW
  have hA : DataW.TrodAll enc Try.prog W 0 (fun _ => true) true Try.f6.params.toList args.toList ds p := hA0
  rw [Try.params6] at hA hval
  obtain ⟨v0, vs0, d0, ds0, p0, q0, ha0, rfl, rfl, h0, r0⟩ := trodAll_cons hA
  obtain ⟨rfl, rfl, rfl⟩ := trodAll_nil r0
  obtain rfl : args = #[v0] := by cases args; simp_all
  obtain ⟨rfl, rfl⟩ := trodVars_none hV
  obtain ⟨a, n, cap, xs, rfl, hs, hm⟩ := open_fsl Try.underlying47 Try.underlying22 (by kernel_rfl) (hval 0 47 v0 rfl rfl) h0
  refine (L_FnExactIsWarp a n cap xs W hs hm).mono fun e W' ⟨he, hg⟩ => ?_
  exact ⟨_, he, post_true laidOut (by kernel_rfl) (by kernel_rfl) Try.underlying4 rfl hW' rfl rfl rfl (Gr.below hg)⟩

theorem fnExactIsWarp_holds : Rows.FnExactIsWarpSaid :=
  OpenClaim.holds_of_wide 6 Try.f6 rfl rfl rfl rfl rfl rfl rfl ⟨rfl, rfl, rfl, rfl, rfl⟩ rfl rfl rfl rfl rfl (by kernel_rfl) Try.func6 (by kernel_rfl)
    (of_decide_eq_true (by kernel_rfl)) (by unfold Func.isWrapper; first | (rw [if_pos (by decide +kernel)]; kernel_rfl) | (rw [if_neg (by decide +kernel)]; exact ⟨rfl, rfl⟩))
    (fun os started H enc _ => fnExactIsWarp_lifted os started H enc)
#print axioms fnExactIsWarp_holds
end Go.Proofs.Ytkaikcabnhhciaa
