/- For all pictures FnExactStorePicture returns true. No conditions. MAXREC -/
import Derived.Test.YtaidkokgafojeaaRow
import Derived.Test.YtaidkokgafojeaaC58
import Derived.Test.YtaidkokgafojeaaLw
import Derived.Deep.RegionHeld3
import Derived.Deep.DeepCutAuto
namespace Go.Proofs.Ytaidkokgafojeaa
open Go.ChangeShapes Go.WideShapes Go.ChangeAt Go.RowKit Go.Joins Go.Deep Go.Fx Go.Soft

set_option maxRecDepth 20000 in
set_option maxHeartbeats 8000000 in
theorem law_StorePicture (pw ph : Int) (pa : Option Addr) (pc : Nat) (px : List Nat) (ok : Bool) (R : ByteArray) (w : World)  (hsp : FSl w pa px.length px) (hnp : px.length ≤ 1048576)
    (HS : ∀ (a_p : Option Addr) (c_p : Nat) (w : World), FSl w a_p px.length px → Calls Try.prog 19 #[.agg #[.int .i64 pw, .int .i64 ph, .slice a_p px.length c_p]] w (fun e w' => e = .returned (.tuple #[.string R, .bool ok]) ∧ Gr w w'))
    (HI : ∀ (a_p : Option Addr) (c_p : Nat) (w : World), FSl w a_p px.length px → Calls Try.prog 21 #[.agg #[.int .i64 pw, .int .i64 ph, .slice a_p px.length c_p]] w (fun e w' => e = .returned (.tuple #[.string R, .bool ok]) ∧ Gr w w')) :
    Calls Try.prog 4 #[.agg #[.int .i64 pw, .int .i64 ph, .slice pa px.length pc]] w fun e w' => e = .returned (.bool true) ∧ ∃ os m, w' = w.grew os m := by
  have Hs := Lib.hid HS
  have Hi := Lib.hid HI
  clear HS HI
  have G := Lib.hid (Gr.refl w)
  have A_p := Lib.hid hsp
  clear hsp
  go_enter Try.func4, Try.ntmps4
  go_wp2_with fail
  refine (L_szPicture_ok _ _ _ _ _ _ _ (1048576) _ rfl rfl (by omega) (by omega)).mono ?_
  rintro e v0 ⟨rfl, g⟩
  have k : Gr w v0 := Gr.trans (by (try show Gr _ _); repeat (with_reducible first | exact Gr.refl _ | refine Gr.drewN ?_ _ | refine Gr.grew ?_ _ _ | refine Gr.alloc ?_ _ | refine Gr.drew ?_)) g
  have Z1 := Lib.hid k.size
  replace G := Lib.hid (G.out.trans k)
  have B_pp := Lib.hid (Blk.gr (show Blk _ (w.heap.size) [.int .i64 pw, .int .i64 ph, .slice pa px.length pc] 31 from (by repeat (with_reducible first | assumption | exact Blk.atNew (by simp) | refine Blk.alloc ?_ _ | refine Blk.grew ?_ _ _ | refine Blk.drewN ?_ _ | refine Blk.drew ?_))) g)
  clear g k
  have p_pp_0 := B_pp.out.cellv 0
  have p_pp_1 := B_pp.out.cellv 1
  have p_pp_2 := B_pp.out.cellv 2
  go_wp2_with fail
  refine (L_toPicture pw ph _ _ _ px _ (A_p.out.keep (G.out.trans (by (try show Gr _ _); repeat (with_reducible first | exact Gr.refl _ | refine Gr.drewN ?_ _ | refine Gr.grew ?_ _ _ | refine Gr.alloc ?_ _ | refine Gr.drew ?_))).kp) (by omega)).mono ?_
  rintro e u1 ⟨⟨v, rfl, ho⟩, g⟩
  clear p_pp_0 p_pp_1 p_pp_2
  have k : Gr v0 u1 := Gr.trans (by (try show Gr _ _); repeat (with_reducible first | exact Gr.refl _ | refine Gr.drewN ?_ _ | refine Gr.grew ?_ _ _ | refine Gr.alloc ?_ _ | refine Gr.drew ?_)) g
  have Z2 := Lib.hid k.size
  replace B_pp := Lib.hid (B_pp.out.gr k)
  replace G := Lib.hid (G.out.trans k)
  have R_t_p_w0 := Lib.hid ho.fin
  obtain ⟨a_t_p_w0, c_t_p_w0, rfl, -, -⟩ := ho.sl
  clear ho g k
  go_wp2_with fail
  refine (Hs.out _ _ _ (R_t_p_w0.out.fsl.keep (Gr.kp (by (try show Gr _ _); repeat (with_reducible first | exact Gr.refl _ | refine Gr.drewN ?_ _ | refine Gr.grew ?_ _ _ | refine Gr.alloc ?_ _ | refine Gr.drew ?_))))).mono ?_
  rintro e u2 ⟨rfl, g⟩
  have k : Gr u1 u2 := Gr.trans (by (try show Gr _ _); repeat (with_reducible first | exact Gr.refl _ | refine Gr.drewN ?_ _ | refine Gr.grew ?_ _ _ | refine Gr.alloc ?_ _ | refine Gr.drew ?_)) g
  have Z3 := Lib.hid k.size
  replace B_pp := Lib.hid (B_pp.out.gr k)
  replace R_t_p_w0 := Lib.hid (R_t_p_w0.out.gr k)
  replace G := Lib.hid (G.out.trans k)
  clear g k
  clear R_t_p_w0
  have p_pp_0 := B_pp.out.cellv 0
  have p_pp_1 := B_pp.out.cellv 1
  have p_pp_2 := B_pp.out.cellv 2
  go_wp2_with fail
  refine (L_toPicture pw ph _ _ _ px _ (A_p.out.keep (G.out.trans (by (try show Gr _ _); repeat (with_reducible first | exact Gr.refl _ | refine Gr.drewN ?_ _ | refine Gr.grew ?_ _ _ | refine Gr.alloc ?_ _ | refine Gr.drew ?_))).kp) (by omega)).mono ?_
  rintro e u3 ⟨⟨v, rfl, ho⟩, g⟩
  clear p_pp_0 p_pp_1 p_pp_2
  have k : Gr u2 u3 := Gr.trans (by (try show Gr _ _); repeat (with_reducible first | exact Gr.refl _ | refine Gr.drewN ?_ _ | refine Gr.grew ?_ _ _ | refine Gr.alloc ?_ _ | refine Gr.drew ?_)) g
  have Z4 := Lib.hid k.size
  replace B_pp := Lib.hid (B_pp.out.gr k)
  replace G := Lib.hid (G.out.trans k)
  have R_xp := Lib.hid ho.fin
  obtain ⟨a_xp, c_xp, rfl, -, -⟩ := ho.sl
  clear ho g k
  go_wp2_with fail
  refine (Hi.out _ _ _ (R_xp.out.fsl.keep (Gr.kp (by (try show Gr _ _); repeat (with_reducible first | exact Gr.refl _ | refine Gr.drewN ?_ _ | refine Gr.grew ?_ _ _ | refine Gr.alloc ?_ _ | refine Gr.drew ?_))))).mono ?_
  rintro e u4 ⟨rfl, g⟩
  have k : Gr u3 u4 := Gr.trans (by (try show Gr _ _); repeat (with_reducible first | exact Gr.refl _ | refine Gr.drewN ?_ _ | refine Gr.grew ?_ _ _ | refine Gr.alloc ?_ _ | refine Gr.drew ?_)) g
  have Z5 := Lib.hid k.size
  replace B_pp := Lib.hid (B_pp.out.gr k)
  replace R_xp := Lib.hid (R_xp.out.gr k)
  replace G := Lib.hid (G.out.trans k)
  have B_xp := Lib.hid (Blk.gr (show Blk _ (u3.heap.size) [.int .i64 pw, .int .i64 ph, .slice a_xp px.length c_xp] 35 from (by repeat (with_reducible first | assumption | exact Blk.atNew (by simp) | refine Blk.alloc ?_ _ | refine Blk.grew ?_ _ _ | refine Blk.drewN ?_ _ | refine Blk.drew ?_))) g)
  clear g k
  have p_xp_0 := B_xp.out.cellv 0
  have p_xp_1 := B_xp.out.cellv 1
  have p_xp_2 := B_xp.out.cellv 2
  have p_pp_0 := B_pp.out.cellv 0
  have p_pp_1 := B_pp.out.cellv 1
  have p_pp_2 := B_pp.out.cellv 2
  go_wp2_with fail
  apply region_facts 4 [2] (fun _ v w' => ∃ a c, v = .agg #[.int .i64 pw, .int .i64 ph, .slice a px.length c] ∧ FSl w' a px.length px)
  case hm => kernel_rfl
  case hB => kernel_rfl
  case hR => rfl
  case hP => (intro k hk v w1 w2 hg hv; obtain ⟨a, c, hv, hs⟩ := hv; exact ⟨a, c, hv, hs.keep hg.kp⟩)
  simp only [List.take_succ_cons, List.take_zero, List.drop_succ_cons, List.drop_zero]
  repeat (first
    | ((with_reducible apply wpF_call (f := 20) (S := fun v => ∃ a c, v = .agg #[.int .i64 pw, .int .i64 ph, .slice a px.length c])); (case hw => rfl); (case hc => exact Try.call20); (case hv => ((conv => lhs; simp [Act.eval]); try rfl)); (case hS => (intro os m _; refine (L_toPicture pw ph _ _ _ px _ (A_p.out.keep (G.out.trans ⟨os, m, rfl⟩).kp) (by omega)).mono ?_; rintro e w' ⟨⟨v, rfl, ho⟩, g⟩; obtain ⟨a', c', rfl, hs', -⟩ := ho.sl; exact ⟨_, rfl, g, fun _ => ⟨a', c', rfl, hs'⟩, a', c', rfl⟩)); (case hne => exact ⟨_, none, 0, rfl⟩); (rintro v ⟨aq_, cq_, rfl⟩; simp only [Act.put, List.setIfInBounds_toArray, List.set_cons_succ, List.set_cons_zero]))
    | ((with_reducible apply wpF_call (f := 22) (S := fun v => v = .bool true)); (case hw => rfl); (case hc => exact Try.call22); (case hv => ((conv => lhs; simp [Act.eval]); try rfl)); (case hS => (intro os m hse; obtain ⟨a', c', hv', hs'⟩ := hse ⟨2, .data⟩ (by simp) rfl (by decide) _ _ rfl rfl; simp at hv'; obtain ⟨rfl, rfl⟩ := hv'; refine (L_eqPicture pw ph _ _ _ _ _ _ px _ (R_xp.out.gr ⟨os, m, rfl⟩).fsl hs' (by unfold maxLen; omega)).mono ?_; rintro e w' ⟨rfl, g⟩; exact ⟨_, rfl, g, fun h => absurd h (by decide), rfl⟩)); (case hne => exact ⟨_, rfl⟩); (rintro v rfl; simp only [Act.put, List.setIfInBounds_toArray, List.set_cons_succ, List.set_cons_zero]))
    | (apply wpF_skip rfl (by decide); simp only [Act.put, List.setIfInBounds_toArray, List.set_cons_succ, List.set_cons_zero])
    | (apply wpF_nilCheck rfl (by decide) rfl; simp only [Act.put, List.setIfInBounds_toArray, List.set_cons_succ, List.set_cons_zero])
    | ((with_reducible apply wpF_fop); (case hw => rfl); (case hT => decide); (case hop => rfl); (case hx => rfl); (case hy => rfl); (case hA => (first | assumption | exact FE.ofInt _ _ | exact FE.lit (by decide +kernel))); (case hB => (first | assumption | exact FE.ofInt _ _ | exact FE.lit (by decide +kernel))); (intro r hr; simp only [Act.put, List.setIfInBounds_toArray, List.set_cons_succ, List.set_cons_zero]))
    | ((with_reducible apply wpF_fneg); (case hw => rfl); (case hT => decide); (case hx => rfl); (case hA => (first | assumption | exact FE.ofInt _ _ | exact FE.lit (by decide +kernel))); (intro r hr; simp only [Act.put, List.setIfInBounds_toArray, List.set_cons_succ, List.set_cons_zero]))
    | ((with_reducible apply wpF_fcmp); (case hw => rfl); (case hT => decide); (case hop => rfl); (case hx => rfl); (case hy => rfl); (case hA => (first | assumption | exact FE.ofInt _ _ | exact FE.lit (by decide +kernel))); (case hB => (first | assumption | exact FE.ofInt _ _ | exact FE.lit (by decide +kernel))); (case hb => (first | assumption | rfl)); simp only [Act.put, List.setIfInBounds_toArray, List.set_cons_succ, List.set_cons_zero])
    | (apply wpF_q rfl (by decide) rfl; intro K hK; go_big_quiet_op; go_big_quiet_on))
  with_reducible apply wpF_nil
  intro os m hf
  obtain ⟨u5, hu⟩ : ∃ u, u = World.grew u4 os m := ⟨_, rfl⟩
  rw [← hu]
  have g : Gr u4 u5 := ⟨os, m, hu⟩
  clear hf hu
  clear p_xp_0 p_xp_1 p_xp_2 p_pp_0 p_pp_1 p_pp_2
  have k : Gr u4 u5 := Gr.trans (by (try show Gr _ _); repeat (with_reducible first | exact Gr.refl _ | refine Gr.drewN ?_ _ | refine Gr.grew ?_ _ _ | refine Gr.alloc ?_ _ | refine Gr.drew ?_)) g
  have Z6 := Lib.hid k.size
  replace B_pp := Lib.hid (B_pp.out.gr k)
  replace B_xp := Lib.hid (B_xp.out.gr k)
  replace R_xp := Lib.hid (R_xp.out.gr k)
  replace G := Lib.hid (G.out.trans k)
  clear g k
  go_wp2
  go_ret
  exact ⟨rfl, G.out.trans (by (try show Gr _ _); repeat (with_reducible first | exact Gr.refl _ | refine Gr.drewN ?_ _ | refine Gr.grew ?_ _ _ | refine Gr.alloc ?_ _ | refine Gr.drew ?_))⟩

set_option maxRecDepth 20000 in
set_option maxHeartbeats 1000000 in
theorem L_FnExactStorePicture (pw ph : Int) (pa : Option Addr) (pn pc : Nat) (px : List Nat) (w : World) (fp : FSl w pa pn px) (lp : pn ≤ maxLen) :
    Calls Try.prog 4 #[.agg #[.int .i64 pw, .int .i64 ph, .slice pa pn pc]] w fun e w' => e = .returned (.bool true) ∧ ∃ os m, w' = w.grew os m := by
  obtain rfl := fp.len
  by_cases hnp : px.length ≤ 1048576
  · skip
    exact law_StorePicture pw ph pa pc px _ _ w  fp hnp
        (fun a_p c_p w f_p => S_StorePicture pw ph a_p c_p px w f_p (by omega)) (fun a_p c_p w f_p => I_StorePicture pw ph a_p c_p px w f_p (by omega))
  · clear fp
    go_enter Try.func4, Try.ntmps4
    go_wp2_with fail
    refine (L_szPicture_no _ _ _ _ _ _ _ (1048576) _ rfl rfl (by omega) (by omega) (by omega) lp).mono ?_
    rintro e ul ⟨rfl, g⟩
    have G1 : Gr w ul := Gr.trans (by (try show Gr _ _); repeat (with_reducible first | exact Gr.refl _ | refine Gr.drewN ?_ _ | refine Gr.grew ?_ _ _ | refine Gr.alloc ?_ _ | refine Gr.drew ?_)) g
    clear g
    go_wp2
    go_ret
    exact ⟨rfl, G1⟩

set_option maxRecDepth 100000 in
theorem fnExactStorePicture_lifted (os : Os) (started : os.Started) (H : Type) (enc : TypeId × Value → H) :
    ReturnsInHanded {} Try.checked os 4 .any (Rows.fnExactStorePictureSpec.pre6 enc Try.prog Try.f4 Rows.fnExactStorePictureRow.domain false) (Rows.fnExactStorePictureSpec.post enc Try.prog Try.f4 false true false false) := by
  refine returnsInHanded_of_change (C := Try.checked) own started (by kernel_rfl) Try.func4
    (ChangeSpec.witness6 (enc := enc) (C := Try.checked) false ⟨#[], #[.agg #[.int .i64 0, .int .i64 0, .slice none 0 0]], []⟩ 12 (by kernel_rfl) (by kernel_rfl) (by kernel_rfl) (by kernel_rfl)) ?_
  intro W base args ds gs before hval0 hW hcnd _
  have hval : ∀ (j : Nat) t v, Try.f4.params[j]? = some t → args[j]? = some v → Value.okWide Try.prog W .any base t v := hval0
  have hW' := hW
  obtain ⟨p, q, hA0, hV, rfl, hfz, hnd⟩ := hW
  have hA : DataW.TrodAll enc Try.prog W 0 (fun _ => true) true Try.f4.params.toList args.toList ds p := hA0
  rw [Try.params4] at hA hval
  obtain ⟨v0, vs0, d0, ds0, p0, q0, ha0, rfl, rfl, h0, r0⟩ := trodAll_cons hA
  obtain ⟨rfl, rfl, rfl⟩ := trodAll_nil r0
  obtain rfl : args = #[v0] := by cases args; simp_all
  obtain ⟨rfl, rfl⟩ := trodVars_none hV
  obtain ⟨pw, ph, pa, pn, pc, px, rfl, -, -, fp, lp⟩ := open_pic Try.underlying31 (by kernel_rfl) (by kernel_rfl) Try.underlying2 Try.underlying22 Try.underlying65 (by kernel_rfl) (hval 0 31 v0 rfl rfl) h0
  refine (L_FnExactStorePicture pw ph pa pn pc px W fp lp).mono fun e W' ⟨he, hg⟩ => ?_
  exact ⟨_, he, post_true laidOut (by kernel_rfl) (by kernel_rfl) Try.underlying4 rfl hW' rfl rfl rfl (Gr.below hg)⟩

theorem fnExactStorePicture_holds : Rows.FnExactStorePictureSaid :=
  OpenClaim.holds_of_wide 4 Try.f4 rfl rfl rfl rfl rfl rfl rfl ⟨rfl, rfl, rfl, rfl, rfl⟩ rfl rfl rfl rfl rfl (by kernel_rfl) Try.func4 (by kernel_rfl)
    (of_decide_eq_true (by kernel_rfl)) (by unfold Func.isWrapper; first | (rw [if_pos (by decide +kernel)]; kernel_rfl) | (rw [if_neg (by decide +kernel)]; exact ⟨rfl, rfl⟩))
    (fun os started H enc _ => fnExactStorePicture_lifted os started H enc)
#print axioms fnExactStorePicture_holds
end Go.Proofs.Ytaidkokgafojeaa
