/- For every camera and numbers FnExactPointAt returns true. No conditions. MAXREC -/
import Derived.Test.YthbcadppbkglnaaRow
import Derived.Test.YthbcadppbkglnaaC11
import Derived.Test.YthbcadppbkglnaaGd
namespace Go.Proofs.Ythbcadppbkglnaa
open Go.ChangeShapes Go.WideShapes Go.ChangeAt Go.RowKit Go.Joins Go.Deep Go.Fx Go.Soft

set_option maxRecDepth 20000 in
set_option maxHeartbeats 2000000 in
theorem L_FnExactPointAt (f b mx my x y d F B MX MY X Y D : Nat) (w : World) (hf : FE .f32 f F) (hb : FE .f32 b B) (hmx : FE .f32 mx MX) (hmy : FE .f32 my MY) (hx : FE .f32 x X) (hy : FE .f32 y Y) (hd : FE .f32 d D) :
    Calls Try.prog 4 #[.agg #[.float .f32 f, .float .f32 b, .float .f32 mx, .float .f32 my], .float .f32 x, .float .f32 y, .float .f32 d] w fun e w' => e = .returned (.bool true) ∧ ∃ os m, w' = w.grew os m := by
  have G := Lib.hid (Gr.refl w)
  go_enter Try.func4, Try.ntmps4
  go_wp2_with fail
  refine (L_toCamera _ _ _ _ _).mono ?_
  rintro e u0 ⟨rfl, g⟩
  have k : Gr w u0 := Gr.trans (by repeat (first | exact Gr.refl _ | refine Gr.drewN ?_ _ | refine Gr.grew ?_ _ _ | refine Gr.alloc ?_ _ | refine Gr.drew ?_)) g
  have B0 := Lib.hid (Blk.gr (show Blk _ (w.heap.size) [.float .f32 f, .float .f32 b, .float .f32 mx, .float .f32 my] 32 from (by repeat (first | assumption | exact Blk.atNew (by simp) | refine Blk.alloc ?_ _ | refine Blk.grew ?_ _ _ | refine Blk.drewN ?_ _))) g)
  replace G := Lib.hid (G.out.trans k)
  clear k g
  go_wp2_with fail
  refine (S_PointAt _ _ _ _ _ _ _ _ _ _ _ _ _ _ _ hf hb hmx hmy hx hy hd).mono ?_
  rintro e u1 ⟨⟨r, s, t, rfl, hr, hs, ht⟩, g⟩
  have k : Gr u0 u1 := Gr.trans (by repeat (first | exact Gr.refl _ | refine Gr.drewN ?_ _ | refine Gr.grew ?_ _ _ | refine Gr.alloc ?_ _ | refine Gr.drew ?_)) g
  replace B0 := Lib.hid (B0.out.gr k)
  replace G := Lib.hid (G.out.trans k)
  have q0 := B0.out.cellv 0
  have q1 := B0.out.cellv 1
  have q2 := B0.out.cellv 2
  have q3 := B0.out.cellv 3
  clear k g
  go_wp2_with fail
  refine (L_toCamera _ _ _ _ _).mono ?_
  rintro e u2 ⟨rfl, g⟩
  have k : Gr u1 u2 := Gr.trans (by repeat (first | exact Gr.refl _ | refine Gr.drewN ?_ _ | refine Gr.grew ?_ _ _ | refine Gr.alloc ?_ _ | refine Gr.drew ?_)) g
  have B1 := Lib.hid (Blk.gr (show Blk _ (u1.heap.size) [.float .f32 r, .float .f32 s, .float .f32 t] 34 from (by repeat (first | assumption | exact Blk.atNew (by simp) | refine Blk.alloc ?_ _ | refine Blk.grew ?_ _ _ | refine Blk.drewN ?_ _))) g)
  replace G := Lib.hid (G.out.trans k)
  clear k g B0 q0 q1 q2 q3
  go_wp2_with fail
  refine (I_PointAt _ _ _ _ _ _ _ _ _ _ _ _ _ _ _ hf hb hmx hmy hx hy hd).mono ?_
  rintro e u3 ⟨⟨r', s', t', rfl, hr', hs', ht'⟩, g⟩
  have k : Gr u2 u3 := Gr.trans (by repeat (first | exact Gr.refl _ | refine Gr.drewN ?_ _ | refine Gr.grew ?_ _ _ | refine Gr.alloc ?_ _ | refine Gr.drew ?_)) g
  replace B1 := Lib.hid (B1.out.gr k)
  replace G := Lib.hid (G.out.trans k)
  have q0 := B1.out.cellv 0
  have q1 := B1.out.cellv 1
  have q2 := B1.out.cellv 2
  clear k g
  go_wp2_with fail
  refine (L_eqVector _ _ _ _ _ _ _ _ _ _ hr' hs' ht' hr hs ht).mono ?_
  rintro e u4 ⟨rfl, g⟩
  replace G := Lib.hid (G.out.trans (Gr.trans (by repeat (first | exact Gr.refl _ | refine Gr.drewN ?_ _ | refine Gr.grew ?_ _ _ | refine Gr.alloc ?_ _ | refine Gr.drew ?_)) g))
  clear q0 q1 q2 B1
  go_wp2
  go_ret
  exact ⟨rfl, G.out.trans (by repeat (first | exact Gr.refl _ | refine Gr.drewN ?_ _ | refine Gr.grew ?_ _ _ | refine Gr.alloc ?_ _ | refine Gr.drew ?_))⟩

set_option maxRecDepth 100000 in
theorem fnExactPointAt_lifted (os : Os) (started : os.Started) (H : Type) (enc : TypeId × Value → H) :
    ReturnsInHanded {} Try.checked os 4 .any (Rows.fnExactPointAtSpec.pre6 enc Try.prog Try.f4 Rows.fnExactPointAtRow.domain false) (Rows.fnExactPointAtSpec.post enc Try.prog Try.f4 false true false false) := by
  refine returnsInHanded_of_change (C := Try.checked) own started (by kernel_rfl) Try.func4
    (ChangeSpec.witness6 (enc := enc) (C := Try.checked) false ⟨#[], #[.agg #[.float .f32 0, .float .f32 0, .float .f32 0, .float .f32 0], .float .f32 0, .float .f32 0, .float .f32 0], []⟩ 12 (by kernel_rfl) (by kernel_rfl) (by kernel_rfl) (by kernel_rfl)) ?_
  intro W base args ds gs before hval0 hW hcnd _
  have hval : ∀ (j : Nat) t v, Try.f4.params[j]? = some t → args[j]? = some v → Value.okWide Try.prog W .any base t v := hval0
  have hW' := hW
  obtain ⟨p, q, hA0, hV, rfl, hfz, hnd⟩ := hW
  have hA : DataW.TrodAll enc Try.prog W 0 (fun _ => true) true Try.f4.params.toList args.toList ds p := hA0
  rw [Try.params4] at hA hval
  obtain ⟨v0, vs0, d0, ds0, p0, q0, ha0, rfl, rfl, h0, r0⟩ := trodAll_cons hA
  obtain ⟨v1, vs1, d1, ds1, p1, q1, rfl, rfl, rfl, h1, r1⟩ := trodAll_cons r0
  obtain ⟨v2, vs2, d2, ds2, p2, q2, rfl, rfl, rfl, h2, r2⟩ := trodAll_cons r1
  obtain ⟨v3, vs3, d3, ds3, p3, q3, rfl, rfl, rfl, h3, r3⟩ := trodAll_cons r2
  obtain ⟨rfl, rfl, rfl⟩ := trodAll_nil r3
  obtain rfl : args = #[v0, v1, v2, v3] := by cases args; simp_all
  obtain ⟨rfl, rfl⟩ := trodVars_none hV
  obtain ⟨f, b, mx, my, rfl, wf, wb, wmx, wmy⟩ := open_f4 Try.underlying32 (by kernel_rfl) (by kernel_rfl) Try.underlying30 (hval 0 32 v0 rfl rfl) h0
  obtain ⟨x, rfl, -, -, wx⟩ := open_float Try.underlying30 (hval 1 30 v1 rfl rfl) h1
  obtain ⟨y, rfl, -, -, wy⟩ := open_float Try.underlying30 (hval 2 30 v2 rfl rfl) h2
  obtain ⟨d, rfl, -, -, wd⟩ := open_float Try.underlying30 (hval 3 30 v3 rfl rfl) h3
  refine (L_FnExactPointAt f b mx my x y d _ _ _ _ _ _ _ W wf wb wmx wmy (FE.wf wx) (FE.wf wy) (FE.wf wd)).mono fun e W' ⟨he, hg⟩ => ?_
  exact ⟨_, he, post_true laidOut (by kernel_rfl) (by kernel_rfl) Try.underlying4 rfl hW' rfl rfl rfl (Gr.below hg)⟩

theorem fnExactPointAt_holds : Rows.FnExactPointAtSaid :=
  OpenClaim.holds_of_wide 4 Try.f4 rfl rfl rfl rfl rfl rfl rfl ⟨rfl, rfl, rfl, rfl, rfl⟩ rfl rfl rfl rfl rfl (by kernel_rfl) Try.func4 (by kernel_rfl)
    (of_decide_eq_true (by kernel_rfl)) (by unfold Func.isWrapper; first | (rw [if_pos (by decide +kernel)]; kernel_rfl) | (rw [if_neg (by decide +kernel)]; exact ⟨rfl, rfl⟩))
    (fun os started H enc _ => fnExactPointAt_lifted os started H enc)
#print axioms fnExactPointAt_holds
end Go.Proofs.Ythbcadppbkglnaa
