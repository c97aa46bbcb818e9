/- For every picture, tile and reach FnExactHaloOf returns true. No conditions. -/
import Derived.Test.YthbcadppbkglnaaRow
import Derived.Test.YthbcadppbkglnaaC10
import Derived.Test.YthbcadppbkglnaaLp
import Derived.Deep.RegionHeld3
import Derived.Deep.DeepCutAuto
namespace Go.Proofs.Ythbcadppbkglnaa
open Go.ChangeShapes Go.WideShapes Go.ChangeAt Go.RowKit Go.Joins Go.Deep Go.Fx Go.Soft

set_option maxHeartbeats 2000000 in
theorem L_FnExactHaloOf (wd hg f c r : Int) (a : Option Addr) (n cap : Nat) (xs : List Nat) (w : World) (hs : FSl w a n xs) (hm : n ≤ maxLen) :
    Calls Try.prog 7 #[.agg #[.int .i64 wd, .int .i64 hg, .slice a n cap], .agg #[.int .i64 f, .int .i64 c], .int .i64 r] w fun e w' => e = .returned (.bool true) ∧ ∃ os m, w' = w.grew os m := by
  by_cases hn : n ≤ 1048576
  · generalize hOK : gHaloOk wd hg xs.length f c r = OK
    generalize hA : (if OK then (gHalo hg f c r).1 else 0) = A
    generalize hB : (if OK then (gHalo hg f c r).2 else 0) = B
    go_enter Try.func7, Try.ntmps7
    go_upto_region 5 with (first | (go_at_call 37; refine (L_szPicture_ok _ _ _ _ _ _ _ 1048576 _ rfl rfl (by omega) (by omega)).mono ?_; rintro e w' ⟨rfl, os, m, rfl⟩))
    go_cut [8, 9] (fun s8 s9 wx => ∃ g : Nat, s8 = .pointer (some ⟨g, 0, none⟩) ∧ s9 = .bool OK ∧ wx.cell? ⟨g, 0, none⟩ = some (.int .i64 A) ∧ wx.cell? ⟨g, 1, none⟩ = some (.int .i64 B) ∧
      wx.cell? ⟨w.heap.size, 0, none⟩ = some (.int .i64 wd) ∧ wx.cell? ⟨w.heap.size, 1, none⟩ = some (.int .i64 hg) ∧ wx.cell? ⟨w.heap.size, 2, none⟩ = some (.slice a n cap) ∧ wx.cell? ⟨w.heap.size + 1, 0, none⟩ = some (.int .i64 f) ∧ wx.cell? ⟨w.heap.size + 1, 1, none⟩ = some (.int .i64 c) ∧ Gr w wx)
    case first =>
      go_region_held3 (fun w' => w'.cell? ⟨w.heap.size, 0, none⟩ = some (.int .i64 wd) ∧ w'.cell? ⟨w.heap.size, 1, none⟩ = some (.int .i64 hg) ∧ w'.cell? ⟨w.heap.size, 2, none⟩ = some (.slice a n cap) ∧ w'.cell? ⟨w.heap.size + 1, 0, none⟩ = some (.int .i64 f) ∧ w'.cell? ⟨w.heap.size + 1, 1, none⟩ = some (.int .i64 c))
      (first | (simp (maxDischargeDepth := 12) [go_sem]; done) | (simp (maxDischargeDepth := 12) [go_sem, *]; done)) (first
      | (go_at_call 39; refine (L_toPicture wd hg a n cap xs _ (hs.keep (by (repeat (first | exact Kp.refl _ | exact kp_same | exact kp_pre (by simp only [Array.append_assoc]; exact ⟨_, rfl⟩) | refine Kp.grew ?_ _ _ | refine Kp.drewN ?_ _ | refine Kp.alloc ?_ _)))) hn).mono ?_; rintro e w1 ⟨⟨v, rfl, ho⟩, os1, m1, rfl⟩; obtain ⟨a1, c1, rfl, h, hm1⟩ := ho.sl; clear ho h)
      | (go_at_call 40; refine (L_toTile _ _ _).mono ?_; rintro e w' ⟨rfl, os2, m2, rfl⟩)
      | (go_at_call 38; refine (S_HaloOf wd hg f c r _ _ _ _ hm1).mono ?_; rintro e w' ⟨rfl, os3, m3, rfl⟩; rw [hOK, hA, hB]))
      all_goals (go_wp2_with fail; go_meet; exact ⟨_, rfl, rfl, (by first | (simp (maxDischargeDepth := 12) [go_sem]; done) | (simp (maxDischargeDepth := 12) [go_sem, *]; done)), (by first | (simp (maxDischargeDepth := 12) [go_sem]; done) | (simp (maxDischargeDepth := 12) [go_sem, *]; done)), (by first | (simp (maxDischargeDepth := 12) [go_sem]; done) | (simp (maxDischargeDepth := 12) [go_sem, *]; done)), (by first | (simp (maxDischargeDepth := 12) [go_sem]; done) | (simp (maxDischargeDepth := 12) [go_sem, *]; done)), (by first | (simp (maxDischargeDepth := 12) [go_sem]; done) | (simp (maxDischargeDepth := 12) [go_sem, *]; done)), (by first | (simp (maxDischargeDepth := 12) [go_sem]; done) | (simp (maxDischargeDepth := 12) [go_sem, *]; done)), (by first | (simp (maxDischargeDepth := 12) [go_sem]; done) | (simp (maxDischargeDepth := 12) [go_sem, *]; done)), (by repeat (first | exact Gr.refl _ | refine Gr.drewN ?_ _ | refine Gr.grew ?_ _ _ | refine Gr.alloc ?_ _ | refine Gr.drew ?_))⟩)
    case rest =>
      obtain ⟨g, rfl, rfl, g0, g1, p0, p1, p2, q0, q1, G⟩ := hcut
      have hs1 := hs.keep G.kp
      go_wp2_with fail
      refine (L_toPicture wd hg a n cap xs _ (hs1.keep (by (repeat (first | exact Kp.refl _ | exact kp_same | exact kp_pre (by simp only [Array.append_assoc]; exact ⟨_, rfl⟩) | refine Kp.grew ?_ _ _ | refine Kp.drewN ?_ _ | refine Kp.alloc ?_ _)))) hn).mono ?_
      rintro e w1 ⟨⟨v, rfl, ho⟩, os4, m4, hw1⟩
      have k1 : Gr wc w1 := by rw [hw1]; exact (by repeat (first | exact Gr.refl _ | refine Gr.drewN ?_ _ | refine Gr.grew ?_ _ _ | refine Gr.alloc ?_ _ | refine Gr.drew ?_))
      replace g0 := k1.cell g0; replace g1 := k1.cell g1; replace p0 := k1.cell p0; replace p1 := k1.cell p1; replace p2 := k1.cell p2; replace q0 := k1.cell q0; replace q1 := k1.cell q1
      have hs2 := hs1.keep k1.kp
      have G1 := Lib.hid (G.trans k1)
      obtain ⟨a4, c4, rfl, hx, hm4⟩ := ho.sl
      clear ho hw1 k1 hs1 hs G
      go_upto_region 7 with fail
      go_cut [11, 12] (fun s11 s12 wx => ∃ g' : Nat, s11 = .pointer (some ⟨g', 0, none⟩) ∧ s12 = .bool OK ∧ wx.cell? ⟨g', 0, none⟩ = some (.int .i64 A) ∧ wx.cell? ⟨g', 1, none⟩ = some (.int .i64 B) ∧
        wx.cell? ⟨g, 0, none⟩ = some (.int .i64 A) ∧ wx.cell? ⟨g, 1, none⟩ = some (.int .i64 B) ∧ wx.cell? ⟨w.heap.size, 0, none⟩ = some (.int .i64 wd) ∧ wx.cell? ⟨w.heap.size, 1, none⟩ = some (.int .i64 hg) ∧ wx.cell? ⟨w.heap.size, 2, none⟩ = some (.slice a n cap) ∧  wx.cell? ⟨w1.heap.size, 0, none⟩ = some (.int .i64 wd) ∧ wx.cell? ⟨w1.heap.size, 1, none⟩ = some (.int .i64 hg) ∧ wx.cell? ⟨w1.heap.size, 2, none⟩ = some (.slice a4 xs.length c4) ∧ Gr w1 wx)
      case first =>
        go_region_held3 (fun wx => wx.cell? ⟨w1.heap.size, 0, none⟩ = some (.int .i64 wd) ∧ wx.cell? ⟨w1.heap.size, 1, none⟩ = some (.int .i64 hg) ∧ wx.cell? ⟨w1.heap.size, 2, none⟩ = some (.slice a4 xs.length c4) ∧ wx.cell? ⟨w.heap.size + 1, 0, none⟩ = some (.int .i64 f) ∧ wx.cell? ⟨w.heap.size + 1, 1, none⟩ = some (.int .i64 c))
      (first | (simp (maxDischargeDepth := 12) [go_sem]; done) | (simp (maxDischargeDepth := 12) [go_sem, *]; done)) (first
      | (go_at_call 40; refine (L_toTile _ _ _).mono ?_; rintro e w' ⟨rfl, os2, m2, rfl⟩)
      | (go_at_call 41; refine (I_HaloOf wd hg f c r _ _ _ _ hm4).mono ?_; rintro e w' ⟨rfl, os3, m3, rfl⟩; rw [hOK, hA, hB]))
        all_goals (go_wp2_with fail; go_meet; exact ⟨_, rfl, rfl, (by first | (simp (maxDischargeDepth := 12) [go_sem]; done) | (simp (maxDischargeDepth := 12) [go_sem, *]; done)), (by first | (simp (maxDischargeDepth := 12) [go_sem]; done) | (simp (maxDischargeDepth := 12) [go_sem, *]; done)), (by first | (simp (maxDischargeDepth := 12) [go_sem]; done) | (simp (maxDischargeDepth := 12) [go_sem, *]; done)), (by first | (simp (maxDischargeDepth := 12) [go_sem]; done) | (simp (maxDischargeDepth := 12) [go_sem, *]; done)), (by first | (simp (maxDischargeDepth := 12) [go_sem]; done) | (simp (maxDischargeDepth := 12) [go_sem, *]; done)), (by first | (simp (maxDischargeDepth := 12) [go_sem]; done) | (simp (maxDischargeDepth := 12) [go_sem, *]; done)), (by first | (simp (maxDischargeDepth := 12) [go_sem]; done) | (simp (maxDischargeDepth := 12) [go_sem, *]; done)), (by first | (simp (maxDischargeDepth := 12) [go_sem]; done) | (simp (maxDischargeDepth := 12) [go_sem, *]; done)), (by first | (simp (maxDischargeDepth := 12) [go_sem]; done) | (simp (maxDischargeDepth := 12) [go_sem, *]; done)), (by first | (simp (maxDischargeDepth := 12) [go_sem]; done) | (simp (maxDischargeDepth := 12) [go_sem, *]; done)), (by repeat (first | exact Gr.refl _ | refine Gr.drewN ?_ _ | refine Gr.grew ?_ _ _ | refine Gr.alloc ?_ _ | refine Gr.drew ?_))⟩)
      case rest =>
        obtain ⟨g', rfl, rfl, h0, h1, g0, g1, p0, p1, p2, x0, x1, x2, k2⟩ := hcut
        have hs3 := hs2.keep k2.kp
        have hx3 := hx.keep k2.kp
        have G2 := Lib.hid (G1.out.trans k2)
        clear hs2 hx k2 G1
        go_upto_region 10 with (first | (go_at_call 42; refine (L_eqTile _ _ _).mono ?_; rintro e w' ⟨rfl, os, m, rfl⟩))
        go_region_held3 (fun wx => wx.cell? ⟨w.heap.size, 0, none⟩ = some (.int .i64 wd) ∧ wx.cell? ⟨w.heap.size, 1, none⟩ = some (.int .i64 hg) ∧ wx.cell? ⟨w.heap.size, 2, none⟩ = some (.slice a n cap) ∧  wx.cell? ⟨w1.heap.size, 0, none⟩ = some (.int .i64 wd) ∧ wx.cell? ⟨w1.heap.size, 1, none⟩ = some (.int .i64 hg) ∧ wx.cell? ⟨w1.heap.size, 2, none⟩ = some (.slice a4 xs.length c4))
      (first | (simp (maxDischargeDepth := 12) [go_sem]; done) | (simp (maxDischargeDepth := 12) [go_sem, *]; done)) (first
      | (go_at_call 39; refine (L_toPicture wd hg a n cap xs _ (hs3.keep (by (repeat (first | exact Kp.refl _ | exact kp_same | exact kp_pre (by simp only [Array.append_assoc]; exact ⟨_, rfl⟩) | refine Kp.grew ?_ _ _ | refine Kp.drewN ?_ _ | refine Kp.alloc ?_ _)))) hn).mono ?_; rintro e w2 ⟨⟨v, rfl, ho⟩, os7, m7, rfl⟩; (try simp only [grew_grew, drewN_grew, grew_drewN, Array.append_assoc] at ho); obtain ⟨a7, c7, rfl, h7, hm7⟩ := ho.sl; clear ho)
      | (go_at_call 17; refine (L_eqPicture wd hg _ _ _ _ _ _ xs _ (hx3.keep (by (repeat (first | exact Kp.refl _ | exact kp_same | exact kp_pre (by simp only [Array.append_assoc]; exact ⟨_, rfl⟩) | refine Kp.grew ?_ _ _ | refine Kp.drewN ?_ _ | refine Kp.alloc ?_ _)))) (h7.keep (by (repeat (first | exact Kp.refl _ | exact kp_same | exact kp_pre (by simp only [Array.append_assoc]; exact ⟨_, rfl⟩) | refine Kp.grew ?_ _ _ | refine Kp.drewN ?_ _ | refine Kp.alloc ?_ _)))) hm4).mono ?_; rintro e w' ⟨rfl, os8, m8, rfl⟩))
        go_wp2
        go_ret
        exact ⟨rfl, G2.out.trans (by (repeat (first | exact Gr.refl _ | exact gr_same | exact gr_pre (by simp only [Array.append_assoc]; exact ⟨_, rfl⟩) | refine Gr.grew ?_ _ _ | refine Gr.drewN ?_ _ | refine Gr.alloc ?_ _)))⟩
  · go_enter Try.func7, Try.ntmps7
    go_wp2_with (first
      | (go_at_call 37; refine (L_szPicture_no _ _ _ _ _ _ _ 1048576 _ rfl rfl (by omega) (by omega) (by omega) hm).mono ?_; rintro e w' ⟨rfl, os, m, rfl⟩))
    go_ret
    exact ⟨rfl, (by repeat (first | exact Gr.refl _ | refine Gr.drewN ?_ _ | refine Gr.grew ?_ _ _ | refine Gr.alloc ?_ _ | refine Gr.drew ?_))⟩

set_option maxRecDepth 100000 in
theorem fnExactHaloOf_lifted (os : Os) (started : os.Started) (H : Type) (enc : TypeId × Value → H) :
    ReturnsInHanded {} Try.checked os 7 .any (Rows.fnExactHaloOfSpec.pre6 enc Try.prog Try.f7 Rows.fnExactHaloOfRow.domain false) (Rows.fnExactHaloOfSpec.post enc Try.prog Try.f7 false true false false) := by
  refine returnsInHanded_of_change (C := Try.checked) own started (by kernel_rfl) Try.func7
    (ChangeSpec.witness6 (enc := enc) (C := Try.checked) false ⟨#[], #[.agg #[.int .i64 0, .int .i64 0, .slice none 0 0], .agg #[.int .i64 0, .int .i64 0], .int .i64 0], []⟩ 12 (by kernel_rfl) (by kernel_rfl) (by kernel_rfl) (by kernel_rfl)) ?_
  intro W base args ds gs before hval0 hW hcnd _
  have hval : ∀ (j : Nat) t v, Try.f7.params[j]? = some t → args[j]? = some v → Value.okWide Try.prog W .any base t v := hval0
  have hW' := hW
  obtain ⟨p, q, hA0, hV, rfl, hfz, hnd⟩ := hW
  have hA : DataW.TrodAll enc Try.prog W 0 (fun _ => true) true Try.f7.params.toList args.toList ds p := hA0
  rw [Try.params7] at hA hval
  obtain ⟨v0, vs0, d0, ds0, p0, q0, ha0, rfl, rfl, h0, r0⟩ := trodAll_cons hA
  obtain ⟨v1, vs1, d1, ds1, p1, q1, rfl, rfl, rfl, h1, r1⟩ := trodAll_cons r0
  obtain ⟨v2, vs2, d2, ds2, p2, q2, rfl, rfl, rfl, h2, r2⟩ := trodAll_cons r1
  obtain ⟨rfl, rfl, rfl⟩ := trodAll_nil r2
  obtain rfl : args = #[v0, v1, v2] := by cases args; simp_all
  obtain ⟨rfl, rfl⟩ := trodVars_none hV
  obtain ⟨wd, hg, a, n, cap, xs, rfl, -, -, hs, hm⟩ := open_pic Try.underlying60 (by kernel_rfl) (by kernel_rfl) Try.underlying2 Try.underlying22 Try.underlying30 (by kernel_rfl) (hval 0 60 v0 rfl rfl) h0
  obtain ⟨f, c, rfl⟩ := open_i2 Try.underlying62 (by kernel_rfl) (by kernel_rfl) Try.underlying2 (hval 1 62 v1 rfl rfl) h1
  obtain ⟨r, rfl, -, -, -⟩ := open_int Try.underlying2 (hval 2 2 v2 rfl rfl) h2
  refine (L_FnExactHaloOf wd hg f c r a n cap xs W hs hm).mono fun e W' ⟨he, hg⟩ => ?_
  exact ⟨_, he, post_true laidOut (by kernel_rfl) (by kernel_rfl) Try.underlying4 rfl hW' rfl rfl rfl (Gr.below hg)⟩

theorem fnExactHaloOf_holds : Rows.FnExactHaloOfSaid :=
  OpenClaim.holds_of_wide 7 Try.f7 rfl rfl rfl rfl rfl rfl rfl ⟨rfl, rfl, rfl, rfl, rfl⟩ rfl rfl rfl rfl rfl (by kernel_rfl) Try.func7 (by kernel_rfl)
    (of_decide_eq_true (by kernel_rfl)) (by unfold Func.isWrapper; first | (rw [if_pos (by decide +kernel)]; kernel_rfl) | (rw [if_neg (by decide +kernel)]; exact ⟨rfl, rfl⟩))
    (fun os started H enc _ => fnExactHaloOf_lifted os started H enc)
#print axioms fnExactHaloOf_holds
end Go.Proofs.Ythbcadppbkglnaa
