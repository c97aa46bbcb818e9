/- For every picture and tile FnExactIsTile returns true. No conditions. -/
import Derived.Test.YtkaikcabnhhciaaRow
import Derived.Test.YtkaikcabnhhciaaC9
import Derived.Test.YtkaikcabnhhciaaLp
import Derived.Deep.RegionHeld3
namespace Go.Proofs.Ytkaikcabnhhciaa
open Go.ChangeShapes Go.WideShapes Go.ChangeAt Go.RowKit Go.Joins Go.Deep Go.Fx Go.Soft

set_option maxHeartbeats 1000000 in
theorem L_FnExactIsTile (wd hg f c : Int) (a : Option Addr) (n cap : Nat) (xs : List Nat) (w : World) (hs : FSl w a n xs) (hm : n ≤ maxLen) :
    Calls Try.prog 13 #[.agg #[.int .i64 wd, .int .i64 hg, .slice a n cap], .agg #[.int .i64 f, .int .i64 c]] w fun e w' => e = .returned (.bool true) ∧ ∃ os m, w' = w.grew os m := by
  by_cases hn : n ≤ 1048576
  · go_enter Try.func13, Try.ntmps13
    go_wp2_with (first
      | (go_at_call 53; refine (L_szPicture_ok _ _ _ _ _ _ _ 1048576 _ rfl rfl (by omega) (by omega)).mono ?_; rintro e w' ⟨rfl, os, m, rfl⟩))
    go_region_held3 (fun w' => w'.cell? ⟨w.heap.size, 0, none⟩ = some (.int .i64 wd) ∧ w'.cell? ⟨w.heap.size, 1, none⟩ = some (.int .i64 hg) ∧ w'.cell? ⟨w.heap.size, 2, none⟩ = some (.slice a n cap) ∧ w'.cell? ⟨w.heap.size + 1, 0, none⟩ = some (.int .i64 f) ∧ w'.cell? ⟨w.heap.size + 1, 1, none⟩ = some (.int .i64 c))
      (first | (simp [go_sem]; done) | (simp [go_sem, *]; done)) (first
      | (go_at_call 55; refine (L_toPicture wd hg a n cap xs _ (hs.keep (by (repeat (first | exact Kp.refl _ | exact kp_same | exact kp_pre (by simp only [Array.append_assoc]; exact ⟨_, rfl⟩) | refine Kp.grew ?_ _ _ | refine Kp.drewN ?_ _ | refine Kp.alloc ?_ _)))) hn).mono ?_; rintro e w1 ⟨⟨v, rfl, ho⟩, os1, m1, rfl⟩; obtain ⟨a1, c1, rfl, h, hm1⟩ := ho.sl; clear ho h)
      | (go_at_call 56; refine (L_toTile _ _ _).mono ?_; rintro e w' ⟨rfl, os2, m2, rfl⟩)
      | (go_at_call 54; refine (S_IsTile wd hg f c _ _ _ _ hm1).mono ?_; rintro e w' ⟨rfl, os3, m3, rfl⟩))
    go_wp2_with fail
    refine (L_toPicture wd hg a n cap xs _ (hs.keep (by (repeat (first | exact Kp.refl _ | exact kp_same | exact kp_pre (by simp only [Array.append_assoc]; exact ⟨_, rfl⟩) | refine Kp.grew ?_ _ _ | refine Kp.drewN ?_ _ | refine Kp.alloc ?_ _)))) hn).mono ?_
    rintro e w1 ⟨⟨v, rfl, ho⟩, os4, m4, hw1⟩
    have p0 : w1.cell? ⟨w.heap.size, 0, none⟩ = some (.int .i64 wd) := by rw [hw1]; simp [go_sem]
    have p1 : w1.cell? ⟨w.heap.size, 1, none⟩ = some (.int .i64 hg) := by rw [hw1]; simp [go_sem]
    have p2 : w1.cell? ⟨w.heap.size, 2, none⟩ = some (.slice a n cap) := by rw [hw1]; simp [go_sem]
    have q0 : w1.cell? ⟨w.heap.size + 1, 0, none⟩ = some (.int .i64 f) := by rw [hw1]; simp [go_sem]
    have q1 : w1.cell? ⟨w.heap.size + 1, 1, none⟩ = some (.int .i64 c) := by rw [hw1]; simp [go_sem]
    have G := Lib.hid (show Gr w w1 by rw [hw1]; exact (by repeat (first | exact Gr.refl _ | refine Gr.drewN ?_ _ | refine Gr.grew ?_ _ _ | refine Gr.alloc ?_ _ | refine Gr.drew ?_)))
    have hs1 : FSl w1 a n xs := by rw [hw1]; exact hs.keep (by (repeat (first | exact Kp.refl _ | exact kp_same | exact kp_pre (by simp only [Array.append_assoc]; exact ⟨_, rfl⟩) | refine Kp.grew ?_ _ _ | refine Kp.drewN ?_ _ | refine Kp.alloc ?_ _)))
    obtain ⟨a4, c4, rfl, hx1, hm4⟩ := ho.sl
    clear ho hw1
    go_wp2
    go_region_held3 (fun w' => w'.cell? ⟨w1.heap.size, 0, none⟩ = some (.int .i64 wd) ∧ w'.cell? ⟨w1.heap.size, 1, none⟩ = some (.int .i64 hg) ∧ w'.cell? ⟨w1.heap.size, 2, none⟩ = some (.slice a4 xs.length c4) ∧ w'.cell? ⟨w.heap.size + 1, 0, none⟩ = some (.int .i64 f) ∧ w'.cell? ⟨w.heap.size + 1, 1, none⟩ = some (.int .i64 c))
      (first | (simp [go_sem]; done) | (simp [go_sem, *]; done)) (first
      | (go_at_call 56; refine (L_toTile _ _ _).mono ?_; rintro e w' ⟨rfl, os5, m5, rfl⟩)
      | (go_at_call 57; refine (I_IsTile wd hg f c _ _ _ _ hm4).mono ?_; rintro e w' ⟨rfl, os6, m6, rfl⟩))
    go_wp2
    go_region_held3 (fun w' => w'.cell? ⟨w1.heap.size, 0, none⟩ = some (.int .i64 wd) ∧ w'.cell? ⟨w1.heap.size, 1, none⟩ = some (.int .i64 hg) ∧ w'.cell? ⟨w1.heap.size, 2, none⟩ = some (.slice a4 xs.length c4) ∧ w'.cell? ⟨w.heap.size, 0, none⟩ = some (.int .i64 wd) ∧ w'.cell? ⟨w.heap.size, 1, none⟩ = some (.int .i64 hg) ∧ w'.cell? ⟨w.heap.size, 2, none⟩ = some (.slice a n cap))
      (first | (simp [go_sem]; done) | (simp [go_sem, *]; done)) (first
      | (go_at_call 55; refine (L_toPicture wd hg a n cap xs _ (hs1.keep (by (repeat (first | exact Kp.refl _ | exact kp_same | exact kp_pre (by simp only [Array.append_assoc]; exact ⟨_, rfl⟩) | refine Kp.grew ?_ _ _ | refine Kp.drewN ?_ _ | refine Kp.alloc ?_ _)))) hn).mono ?_; rintro e w2 ⟨⟨v, rfl, ho⟩, os7, m7, rfl⟩; (try simp only [grew_grew, drewN_grew, grew_drewN, Array.append_assoc] at ho); obtain ⟨a7, c7, rfl, h7, hm7⟩ := ho.sl; clear ho)
      | (go_at_call 58; refine (L_eqPicture wd hg _ _ _ _ _ _ xs _ (hx1.keep (by (repeat (first | exact Kp.refl _ | exact kp_same | exact kp_pre (by simp only [Array.append_assoc]; exact ⟨_, rfl⟩) | refine Kp.grew ?_ _ _ | refine Kp.drewN ?_ _ | refine Kp.alloc ?_ _)))) (h7.keep (by (repeat (first | exact Kp.refl _ | exact kp_same | exact kp_pre (by simp only [Array.append_assoc]; exact ⟨_, rfl⟩) | refine Kp.grew ?_ _ _ | refine Kp.drewN ?_ _ | refine Kp.alloc ?_ _)))) hm4).mono ?_; rintro e w' ⟨rfl, os8, m8, rfl⟩))
    go_wp2
    go_ret
    exact ⟨rfl, G.out.trans (by (repeat (first | exact Gr.refl _ | exact gr_same | exact gr_pre (by simp only [Array.append_assoc]; exact ⟨_, rfl⟩) | refine Gr.grew ?_ _ _ | refine Gr.drewN ?_ _ | refine Gr.alloc ?_ _)))⟩
  · go_enter Try.func13, Try.ntmps13
    go_wp2_with (first
      | (go_at_call 53; refine (L_szPicture_no _ _ _ _ _ _ _ 1048576 _ rfl rfl (by omega) (by omega) (by omega) hm).mono ?_; rintro e w' ⟨rfl, os, m, rfl⟩))
    go_ret
    exact ⟨rfl, (by repeat (first | exact Gr.refl _ | refine Gr.drewN ?_ _ | refine Gr.grew ?_ _ _ | refine Gr.alloc ?_ _ | refine Gr.drew ?_))⟩

set_option maxRecDepth 100000 in
theorem fnExactIsTile_lifted (os : Os) (started : os.Started) (H : Type) (enc : TypeId × Value → H) :
    ReturnsInHanded {} Try.checked os 13 .any (Rows.fnExactIsTileSpec.pre6 enc Try.prog Try.f13 Rows.fnExactIsTileRow.domain false) (Rows.fnExactIsTileSpec.post enc Try.prog Try.f13 false true false false) := by
  refine returnsInHanded_of_change (C := Try.checked) own started (by kernel_rfl) Try.func13
    (ChangeSpec.witness6 (enc := enc) (C := Try.checked) false ⟨#[], #[.agg #[.int .i64 0, .int .i64 0, .slice none 0 0], .agg #[.int .i64 0, .int .i64 0]], []⟩ 12 (by kernel_rfl) (by kernel_rfl) (by kernel_rfl) (by kernel_rfl)) ?_
  intro W base args ds gs before hval0 hW hcnd _
  have hval : ∀ (j : Nat) t v, Try.f13.params[j]? = some t → args[j]? = some v → Value.okWide Try.prog W .any base t v := hval0
  have hW' := hW
  obtain ⟨p, q, hA0, hV, rfl, hfz, hnd⟩ := hW
  have hA : DataW.TrodAll enc Try.prog W 0 (fun _ => true) true Try.f13.params.toList args.toList ds p := hA0
  rw [Try.params13] at hA hval
  obtain ⟨v0, vs0, d0, ds0, p0, q0, ha0, rfl, rfl, h0, r0⟩ := trodAll_cons hA
  obtain ⟨v1, vs1, d1, ds1, p1, q1, rfl, rfl, rfl, h1, r1⟩ := trodAll_cons r0
  obtain ⟨rfl, rfl, rfl⟩ := trodAll_nil r1
  obtain rfl : args = #[v0, v1] := by cases args; simp_all
  obtain ⟨rfl, rfl⟩ := trodVars_none hV
  obtain ⟨wd, hg, a, n, cap, xs, rfl, -, -, hs, hm⟩ := open_pic Try.underlying86 (by kernel_rfl) (by kernel_rfl) Try.underlying2 Try.underlying47 Try.underlying22 (by kernel_rfl) (hval 0 86 v0 rfl rfl) h0
  obtain ⟨f, c, rfl⟩ := open_i2 Try.underlying88 (by kernel_rfl) (by kernel_rfl) Try.underlying2 (hval 1 88 v1 rfl rfl) h1
  refine (L_FnExactIsTile wd hg f c a n cap xs W hs hm).mono fun e W' ⟨he, hg⟩ => ?_
  exact ⟨_, he, post_true laidOut (by kernel_rfl) (by kernel_rfl) Try.underlying4 rfl hW' rfl rfl rfl (Gr.below hg)⟩

theorem fnExactIsTile_holds : Rows.FnExactIsTileSaid :=
  OpenClaim.holds_of_wide 13 Try.f13 rfl rfl rfl rfl rfl rfl rfl ⟨rfl, rfl, rfl, rfl, rfl⟩ rfl rfl rfl rfl rfl (by kernel_rfl) Try.func13 (by kernel_rfl)
    (of_decide_eq_true (by kernel_rfl)) (by unfold Func.isWrapper; first | (rw [if_pos (by decide +kernel)]; kernel_rfl) | (rw [if_neg (by decide +kernel)]; exact ⟨rfl, rfl⟩))
    (fun os started H enc _ => fnExactIsTile_lifted os started H enc)
#print axioms fnExactIsTile_holds
end Go.Proofs.Ytkaikcabnhhciaa
