/- For every picture and tile FnExactRowsOf returns true. No conditions. MAXREC -/
import Derived.Test.YthpdnblkbadhaaaRow
import Derived.Test.YthpdnblkbadhaaaC22
import Derived.Test.YthpdnblkbadhaaaLw
import Derived.Test.YthpdnblkbadhaaaLc
import Derived.Deep.RegionHeld3
import Derived.Deep.DeepCutAuto
namespace Go.Proofs.Ythpdnblkbadhaaa
open Go.ChangeShapes Go.WideShapes Go.ChangeAt Go.RowKit Go.Joins Go.Deep Go.Fx Go.Soft
theorem gVals_rows (W H f c : Int) (n : Nat) (G : Nat → Nat) : (gVals (gPic W H n && gTile H f c) (W * c).toNat G).length ≤ 1048576 := by
  cases hP : gPic W H n
  · simp [gVals]
  · cases hT : gTile H f c
    · simp [gVals]
    · obtain ⟨s1, s2, s3, s4, s5, s6⟩ := gSize_true (gPic_true hP).1
      obtain ⟨t1, t2, t3, t4⟩ := gTile_true hT
      have : W * c ≤ 24 * 24 := Int.mul_le_mul s2 (by omega) (by omega) (by omega)
      exact Nat.le_trans (gVals_length _ _ _) (by omega)

set_option maxRecDepth 20000 in
set_option maxHeartbeats 8000000 in
theorem law_RowsOf (pw ph : Int) (pa : Option Addr) (pc : Nat) (px : List Nat) (t0 t1 : Int) (A B : Int) (ok : Bool) (L : List Nat) (w : World) (hL : L.length ≤ 1048576) (hsp : FSl w pa px.length px) (hnp : px.length ≤ 1048576)
    (HS : ∀ (a_p : Option Addr) (c_p : Nat) (w : World), FSl w a_p px.length px → px.length ≤ c_p → Calls Try.prog 16 #[.agg #[.int .i64 pw, .int .i64 ph, .slice a_p px.length c_p], .agg #[.int .i64 t0, .int .i64 t1]] w (PostP w A B ok L))
    (HI : ∀ (a_p : Option Addr) (c_p : Nat) (w : World), FSl w a_p px.length px → px.length ≤ c_p → Calls Try.prog 19 #[.agg #[.int .i64 pw, .int .i64 ph, .slice a_p px.length c_p], .agg #[.int .i64 t0, .int .i64 t1]] w (PostP w A B ok L)) :
    Calls Try.prog 3 #[.agg #[.int .i64 pw, .int .i64 ph, .slice pa px.length pc], .agg #[.int .i64 t0, .int .i64 t1]] w fun e w' => e = .returned (.bool true) ∧ ∃ os m, w' = w.grew os m := by
  have Hs := Lib.hid HS
  have Hi := Lib.hid HI
  clear HS HI
  have G := Lib.hid (Gr.refl w)
  have A_p := Lib.hid hsp
  clear hsp
  go_enter Try.func3, Try.ntmps3
  go_wp2_with fail
  refine (L_szPicture_ok _ _ _ _ _ _ _ (1048576) _ rfl rfl (by omega) (by omega)).mono ?_
  rintro e v0 ⟨rfl, g⟩
  have k : Gr w v0 := Gr.trans (by (try show Gr _ _); repeat (with_reducible first | exact Gr.refl _ | refine Gr.drewN ?_ _ | refine Gr.grew ?_ _ _ | refine Gr.alloc ?_ _ | refine Gr.drew ?_)) g
  have Z1 := Lib.hid k.size
  replace G := Lib.hid (G.out.trans k)
  have B_pp := Lib.hid (Blk.gr (show Blk _ (w.heap.size) [.int .i64 pw, .int .i64 ph, .slice pa px.length pc] 24 from (by repeat (with_reducible first | assumption | exact Blk.atNew (by simp) | refine Blk.alloc ?_ _ | refine Blk.grew ?_ _ _ | refine Blk.drewN ?_ _ | refine Blk.drew ?_))) g)
  have B_pt := Lib.hid (Blk.gr (show Blk _ (w.heap.size + 1) [.int .i64 t0, .int .i64 t1] 26 from (by repeat (with_reducible first | assumption | exact Blk.atNew (by simp) | refine Blk.alloc ?_ _ | refine Blk.grew ?_ _ _ | refine Blk.drewN ?_ _ | refine Blk.drew ?_))) g)
  clear g k
  have p_pp_0 := B_pp.out.cellv 0
  have p_pp_1 := B_pp.out.cellv 1
  have p_pp_2 := B_pp.out.cellv 2
  have p_pt_0 := B_pt.out.cellv 0
  have p_pt_1 := B_pt.out.cellv 1
  go_upto_region 5 with fail
  go_cut [6, 7] (fun sa sb wx => ∃ (g : Nat) (v : Value), sa = .pointer (some ⟨g, 0, none⟩) ∧ sb = .bool ok ∧ v0.heap.size ≤ g ∧ Blk wx g [.int .i64 A, .int .i64 B, v] 28 ∧ RowIn v0 wx 37 v L ∧ Gr v0 wx)
  case first =>
    clear Z1 B_pp B_pt Hi
    go_region_held3 (fun w' => w'.cell? ⟨w.heap.size, 0, none⟩ = some (.int .i64 pw) ∧ w'.cell? ⟨w.heap.size, 1, none⟩ = some (.int .i64 ph) ∧ w'.cell? ⟨w.heap.size, 2, none⟩ = some (.slice pa px.length pc) ∧ w'.cell? ⟨w.heap.size + 1, 0, none⟩ = some (.int .i64 t0) ∧ w'.cell? ⟨w.heap.size + 1, 1, none⟩ = some (.int .i64 t1))
      (first | (simp (maxDischargeDepth := 12) [go_sem]; done) | (simp (maxDischargeDepth := 12) [go_sem, *]; done)) (first
      | (go_at_call 17; with_reducible refine (L_toPicture pw ph pa _ pc px _ ?_ ?_).mono ?_; exact A_p.out.keep (G.out.trans (by (try show Gr _ _); repeat (with_reducible first | exact Gr.refl _ | refine Gr.drewN ?_ _ | refine Gr.grew ?_ _ _ | refine Gr.alloc ?_ _ | refine Gr.drew ?_))).kp; omega; rintro e w1 ⟨⟨v, rfl, ho⟩, os0, m0, rfl⟩; (try simp only [grew_grew, drewN_grew, grew_drewN, drew_grew, Array.append_assoc] at ho); obtain ⟨a_p, c_p, rfl, h_p, cp_p⟩ := ho.slc; clear ho)
      | (go_at_call 18; refine (L_toTile t0 t1 _).mono ?_; rintro e w1 ⟨rfl, os1, m1, rfl⟩)
      | (go_at_call 16; refine (Hs.out a_p c_p _ (h_p.keep (by (repeat (with_reducible first | exact Kp.refl _ | exact kp_same | exact kp_app1 | exact kp_app2 | exact kp_app3 | refine Kp.grew ?_ _ _ | refine Kp.drewN ?_ _ | refine Kp.drew ?_ | refine Kp.alloc ?_ _)))) cp_p).mono ?_; rintro e w1 ⟨⟨v, rfl, ho⟩, os9, m9, rfl⟩; (try simp only [grew_grew, drewN_grew, grew_drewN, drew_grew, Array.append_assoc] at ho); have fin := ho.fin; obtain ⟨a9, c9, rfl, -, -⟩ := ho.sl; clear ho))
    all_goals (go_wp2_with fail; go_meet; refine ⟨_, .slice a9 L.length c9, rfl, rfl, ?_, (by repeat (with_reducible first | assumption | exact Blk.atNew (by simp) | refine Blk.alloc ?_ _ | refine Blk.grew ?_ _ _ | refine Blk.drewN ?_ _ | refine Blk.drew ?_)), ?_, (by (try show Gr _ _); repeat (with_reducible first | exact Gr.refl _ | refine Gr.drewN ?_ _ | refine Gr.grew ?_ _ _ | refine Gr.alloc ?_ _ | refine Gr.drew ?_))⟩; (first | omega | (simp <;> omega)); first | (refine RowIn.swap fin ?_ ?_ ?_ ?_ <;> (first | omega | (simp <;> omega))) | exact RowIn.of fin (by (try show Gr _ _); repeat (with_reducible first | exact Gr.refl _ | refine Gr.drewN ?_ _ | refine Gr.grew ?_ _ _ | refine Gr.alloc ?_ _ | refine Gr.drew ?_)) (by first | omega | (simp <;> omega)) (by first | omega | (simp <;> omega)))
  case rest =>
    obtain ⟨g_w0, v, rfl, rfl, zg, b, ⟨lo_w0, hi_w0, zlo, zhi, r⟩, k⟩ := hcut
    clear p_pp_0 p_pp_1 p_pp_2 p_pt_0 p_pt_1
    have Ew0 : ∃ u, u = wc := ⟨wc, rfl⟩
    obtain ⟨d2, hu⟩ := Ew0
    rw [← hu] at zhi b r k ⊢
    clear hu
    have Z2 := Lib.hid (show v0.heap.size ≤ d2.heap.size ∧ v0.heap.size ≤ g_w0 ∧ v0.heap.size ≤ lo_w0 ∧ hi_w0 ≤ d2.heap.size from ⟨k.size, zg, zlo, zhi⟩)
    replace B_pp := Lib.hid (B_pp.out.gr k)
    replace B_pt := Lib.hid (B_pt.out.gr k)
    replace G := Lib.hid (G.out.trans k)
    obtain ⟨a_w0, c_w0, rfl, -, -⟩ := r.sl
    have R_w0 := Lib.hid r
    have B_w0 := Lib.hid b
    clear r b k zg zlo zhi
    have p_pp_0 := B_pp.out.cellv 0
    have p_pp_1 := B_pp.out.cellv 1
    have p_pp_2 := B_pp.out.cellv 2
    go_wp2_with fail
    refine (L_toPicture pw ph _ _ _ px _ (A_p.out.keep (G.out.trans (by (try show Gr _ _); repeat (with_reducible first | exact Gr.refl _ | refine Gr.drewN ?_ _ | refine Gr.grew ?_ _ _ | refine Gr.alloc ?_ _ | refine Gr.drew ?_))).kp) (by omega)).mono ?_
    rintro e u2 ⟨⟨v, rfl, ho⟩, g⟩
    clear p_pp_0 p_pp_1 p_pp_2
    have k : Gr d2 u2 := Gr.trans (by (try show Gr _ _); repeat (with_reducible first | exact Gr.refl _ | refine Gr.drewN ?_ _ | refine Gr.grew ?_ _ _ | refine Gr.alloc ?_ _ | refine Gr.drew ?_)) g
    have Z3 := Lib.hid k.size
    replace B_pp := Lib.hid (B_pp.out.gr k)
    replace B_pt := Lib.hid (B_pt.out.gr k)
    replace B_w0 := Lib.hid (B_w0.out.gr k)
    replace R_w0 := Lib.hid (R_w0.out.gr k)
    replace G := Lib.hid (G.out.trans k)
    have R_xp := Lib.hid ho.fin
    obtain ⟨a_xp, c_xp, rfl, -, cap_xp⟩ := ho.slc
    have CP_xp := Lib.hid cap_xp
    clear ho g k cap_xp
    have p_pt_0 := B_pt.out.cellv 0
    have p_pt_1 := B_pt.out.cellv 1
    go_upto_region 7 with fail
    go_cut [9, 10] (fun sa sb wx => ∃ (g : Nat) (v : Value), sa = .pointer (some ⟨g, 0, none⟩) ∧ sb = .bool ok ∧ u2.heap.size ≤ g ∧ Blk wx g [.int .i64 A, .int .i64 B, v] 28 ∧ RowIn u2 wx 37 v L ∧ Blk wx (u2.heap.size) [.int .i64 pw, .int .i64 ph, .slice a_xp px.length c_xp] 28 ∧ Gr u2 wx)
    case first =>
      clear Z1 Z2 Z3 B_pp B_pt B_w0 R_w0 Hs
      go_region_held3 (fun w' => w'.cell? ⟨u2.heap.size, 0, none⟩ = some (.int .i64 pw) ∧ w'.cell? ⟨u2.heap.size, 1, none⟩ = some (.int .i64 ph) ∧ w'.cell? ⟨u2.heap.size, 2, none⟩ = some (.slice a_xp px.length c_xp) ∧ w'.cell? ⟨w.heap.size + 1, 0, none⟩ = some (.int .i64 t0) ∧ w'.cell? ⟨w.heap.size + 1, 1, none⟩ = some (.int .i64 t1))
      (first | (simp (maxDischargeDepth := 12) [go_sem]; done) | (simp (maxDischargeDepth := 12) [go_sem, *]; done)) (first
      | (go_at_call 18; refine (L_toTile t0 t1 _).mono ?_; rintro e w1 ⟨rfl, os0, m0, rfl⟩)
      | (go_at_call 19; refine (Hi.out a_xp c_xp _ (R_xp.out.fsl.keep (by (repeat (with_reducible first | exact Kp.refl _ | exact kp_same | exact kp_app1 | exact kp_app2 | exact kp_app3 | refine Kp.grew ?_ _ _ | refine Kp.drewN ?_ _ | refine Kp.drew ?_ | refine Kp.alloc ?_ _)))) CP_xp.out).mono ?_; rintro e w1 ⟨⟨v, rfl, ho⟩, os9, m9, rfl⟩; (try simp only [grew_grew, drewN_grew, grew_drewN, drew_grew, Array.append_assoc] at ho); have fin := ho.fin; obtain ⟨a9, c9, rfl, -, -⟩ := ho.sl; clear ho))
      all_goals (go_wp2_with fail; go_meet; refine ⟨_, .slice a9 L.length c9, rfl, rfl, ?_, (by repeat (with_reducible first | assumption | exact Blk.atNew (by simp) | refine Blk.alloc ?_ _ | refine Blk.grew ?_ _ _ | refine Blk.drewN ?_ _ | refine Blk.drew ?_)), ?_, (by repeat (with_reducible first | assumption | exact Blk.atNew (by simp) | refine Blk.alloc ?_ _ | refine Blk.grew ?_ _ _ | refine Blk.drewN ?_ _ | refine Blk.drew ?_)), (by (try show Gr _ _); repeat (with_reducible first | exact Gr.refl _ | refine Gr.drewN ?_ _ | refine Gr.grew ?_ _ _ | refine Gr.alloc ?_ _ | refine Gr.drew ?_))⟩; (first | omega | (simp <;> omega)); first | (refine RowIn.swap fin ?_ ?_ ?_ ?_ <;> (first | omega | (simp <;> omega))) | exact RowIn.of fin (by (try show Gr _ _); repeat (with_reducible first | exact Gr.refl _ | refine Gr.drewN ?_ _ | refine Gr.grew ?_ _ _ | refine Gr.alloc ?_ _ | refine Gr.drew ?_)) (by first | omega | (simp <;> omega)) (by first | omega | (simp <;> omega)))
    case rest =>
      obtain ⟨g_g0, v, rfl, rfl, zg, b, ⟨lo_g0, hi_g0, zlo, zhi, r⟩, bp_xp, k⟩ := hcut
      clear p_pt_0 p_pt_1
      have Eg0 : ∃ u, u = wc := ⟨wc, rfl⟩
      obtain ⟨d4, hu⟩ := Eg0
      rw [← hu] at zhi b r bp_xp k ⊢
      clear hu
      have Z4 := Lib.hid (show u2.heap.size ≤ d4.heap.size ∧ u2.heap.size ≤ g_g0 ∧ u2.heap.size ≤ lo_g0 ∧ hi_g0 ≤ d4.heap.size from ⟨k.size, zg, zlo, zhi⟩)
      replace B_pp := Lib.hid (B_pp.out.gr k)
      replace B_pt := Lib.hid (B_pt.out.gr k)
      replace B_w0 := Lib.hid (B_w0.out.gr k)
      replace R_w0 := Lib.hid (R_w0.out.gr k)
      replace R_xp := Lib.hid (R_xp.out.gr k)
      replace G := Lib.hid (G.out.trans k)
      obtain ⟨a_g0, c_g0, rfl, -, -⟩ := r.sl
      have R_g0 := Lib.hid r
      have B_g0 := Lib.hid b
      clear r b k zg zlo zhi
      have B_xp := Lib.hid bp_xp
      clear bp_xp
      have p_g0_0 := B_g0.out.cellv 0
      have p_g0_1 := B_g0.out.cellv 1
      have p_g0_2 := B_g0.out.cellv 2
      have p_w0_0 := B_w0.out.cellv 0
      have p_w0_1 := B_w0.out.cellv 1
      have p_w0_2 := B_w0.out.cellv 2
      go_wp2_with fail
      refine (L_eqPicture A B _ _ _ _ _ _ L _ (R_g0.out.gr (by (try show Gr _ _); repeat (with_reducible first | exact Gr.refl _ | refine Gr.drewN ?_ _ | refine Gr.grew ?_ _ _ | refine Gr.alloc ?_ _ | refine Gr.drew ?_))).fsl (R_w0.out.gr (by (try show Gr _ _); repeat (with_reducible first | exact Gr.refl _ | refine Gr.drewN ?_ _ | refine Gr.grew ?_ _ _ | refine Gr.alloc ?_ _ | refine Gr.drew ?_))).fsl (by unfold maxLen; omega)).mono ?_
      rintro e u4 ⟨rfl, g⟩
      clear p_g0_0 p_g0_1 p_g0_2 p_w0_0 p_w0_1 p_w0_2
      have k : Gr d4 u4 := Gr.trans (by (try show Gr _ _); repeat (with_reducible first | exact Gr.refl _ | refine Gr.drewN ?_ _ | refine Gr.grew ?_ _ _ | refine Gr.alloc ?_ _ | refine Gr.drew ?_)) g
      have Z5 := Lib.hid k.size
      replace B_pp := Lib.hid (B_pp.out.gr k)
      replace B_pt := Lib.hid (B_pt.out.gr k)
      replace B_w0 := Lib.hid (B_w0.out.gr k)
      replace B_xp := Lib.hid (B_xp.out.gr k)
      replace B_g0 := Lib.hid (B_g0.out.gr k)
      replace R_w0 := Lib.hid (R_w0.out.gr k)
      replace R_xp := Lib.hid (R_xp.out.gr k)
      replace R_g0 := Lib.hid (R_g0.out.gr k)
      replace G := Lib.hid (G.out.trans k)
      clear g k
      have p_xp_0 := B_xp.out.cellv 0
      have p_xp_1 := B_xp.out.cellv 1
      have p_xp_2 := B_xp.out.cellv 2
      have p_pp_0 := B_pp.out.cellv 0
      have p_pp_1 := B_pp.out.cellv 1
      have p_pp_2 := B_pp.out.cellv 2
      go_wp2_with fail
      apply region_facts 4 [2] (fun _ v w' => ∃ a c, v = .agg #[.int .i64 pw, .int .i64 ph, .slice a px.length c] ∧ FSl w' a px.length px)
      case hm => kernel_rfl
      case hB => kernel_rfl
      case hR => rfl
      case hP => (intro k hk v w1 w2 hg hv; obtain ⟨a, c, hv, hs⟩ := hv; exact ⟨a, c, hv, hs.keep hg.kp⟩)
      simp only [List.take_succ_cons, List.take_zero, List.drop_succ_cons, List.drop_zero]
      repeat (first
        | ((with_reducible apply wpF_call (f := 17) (S := fun v => ∃ a c, v = .agg #[.int .i64 pw, .int .i64 ph, .slice a px.length c])); (case hw => rfl); (case hc => exact Try.call17); (case hv => ((conv => lhs; simp [Act.eval]); try rfl)); (case hS => (intro os m _; refine (L_toPicture pw ph _ _ _ px _ (A_p.out.keep (G.out.trans ⟨os, m, rfl⟩).kp) (by omega)).mono ?_; rintro e w' ⟨⟨v, rfl, ho⟩, g⟩; obtain ⟨a', c', rfl, hs', -⟩ := ho.sl; exact ⟨_, rfl, g, fun _ => ⟨a', c', rfl, hs'⟩, a', c', rfl⟩)); (case hne => exact ⟨_, none, 0, rfl⟩); (rintro v ⟨aq_, cq_, rfl⟩; simp only [Act.put, List.setIfInBounds_toArray, List.set_cons_succ, List.set_cons_zero]))
        | ((with_reducible apply wpF_call (f := 20) (S := fun v => v = .bool true)); (case hw => rfl); (case hc => exact Try.call20); (case hv => ((conv => lhs; simp [Act.eval]); try rfl)); (case hS => (intro os m hse; obtain ⟨a', c', hv', hs'⟩ := hse ⟨2, .data⟩ (by simp) rfl (by decide) _ _ rfl rfl; simp at hv'; obtain ⟨rfl, rfl⟩ := hv'; refine (L_eqPicture pw ph _ _ _ _ _ _ px _ (R_xp.out.gr ⟨os, m, rfl⟩).fsl hs' (by unfold maxLen; omega)).mono ?_; rintro e w' ⟨rfl, g⟩; exact ⟨_, rfl, g, fun h => absurd h (by decide), rfl⟩)); (case hne => exact ⟨_, rfl⟩); (rintro v rfl; simp only [Act.put, List.setIfInBounds_toArray, List.set_cons_succ, List.set_cons_zero]))
        | (apply wpF_skip rfl (by decide); simp only [Act.put, List.setIfInBounds_toArray, List.set_cons_succ, List.set_cons_zero])
        | (apply wpF_nilCheck rfl (by decide) rfl; simp only [Act.put, List.setIfInBounds_toArray, List.set_cons_succ, List.set_cons_zero])
        | ((with_reducible apply wpF_fop); (case hw => rfl); (case hT => decide); (case hop => rfl); (case hx => rfl); (case hy => rfl); (case hA => (first | assumption | exact FE.ofInt _ _ | exact FE.lit (by decide +kernel))); (case hB => (first | assumption | exact FE.ofInt _ _ | exact FE.lit (by decide +kernel))); (intro r hr; simp only [Act.put, List.setIfInBounds_toArray, List.set_cons_succ, List.set_cons_zero]))
        | ((with_reducible apply wpF_fneg); (case hw => rfl); (case hT => decide); (case hx => rfl); (case hA => (first | assumption | exact FE.ofInt _ _ | exact FE.lit (by decide +kernel))); (intro r hr; simp only [Act.put, List.setIfInBounds_toArray, List.set_cons_succ, List.set_cons_zero]))
        | ((with_reducible apply wpF_fcmp); (case hw => rfl); (case hT => decide); (case hop => rfl); (case hx => rfl); (case hy => rfl); (case hA => (first | assumption | exact FE.ofInt _ _ | exact FE.lit (by decide +kernel))); (case hB => (first | assumption | exact FE.ofInt _ _ | exact FE.lit (by decide +kernel))); (case hb => (first | assumption | rfl)); simp only [Act.put, List.setIfInBounds_toArray, List.set_cons_succ, List.set_cons_zero])
        | (apply wpF_q rfl (by decide) rfl; intro K hK; go_big_quiet_op; go_big_quiet_on))
      with_reducible apply wpF_nil
      intro os m hf
      obtain ⟨u5, hu⟩ : ∃ u, u = World.grew u4 os m := ⟨_, rfl⟩
      rw [← hu]
      have g : Gr u4 u5 := ⟨os, m, hu⟩
      clear hf hu
      clear p_xp_0 p_xp_1 p_xp_2 p_pp_0 p_pp_1 p_pp_2
      have k : Gr u4 u5 := Gr.trans (by (try show Gr _ _); repeat (with_reducible first | exact Gr.refl _ | refine Gr.drewN ?_ _ | refine Gr.grew ?_ _ _ | refine Gr.alloc ?_ _ | refine Gr.drew ?_)) g
      have Z6 := Lib.hid k.size
      replace B_pp := Lib.hid (B_pp.out.gr k)
      replace B_pt := Lib.hid (B_pt.out.gr k)
      replace B_w0 := Lib.hid (B_w0.out.gr k)
      replace B_xp := Lib.hid (B_xp.out.gr k)
      replace B_g0 := Lib.hid (B_g0.out.gr k)
      replace R_w0 := Lib.hid (R_w0.out.gr k)
      replace R_xp := Lib.hid (R_xp.out.gr k)
      replace R_g0 := Lib.hid (R_g0.out.gr k)
      replace G := Lib.hid (G.out.trans k)
      clear g k
      have p_xp_0 := B_xp.out.cellv 0
      have p_xp_1 := B_xp.out.cellv 1
      have p_xp_2 := B_xp.out.cellv 2
      obtain ⟨vs, own, hv⟩ := R_xp.out.row
      go_wp2_with fail
      refine (L_markPicture pw ph _ _ _ _ vs (1) _ own hv (by omega) (by omega) (by omega)).mono ?_
      rintro e u6 ⟨rfl, g, own1⟩
      clear p_xp_0 p_xp_1 p_xp_2
      have Z7 := Lib.hid g.by_.size
      replace B_pp := Lib.hid (B_pp.out.wrote own g (by decide))
      replace B_pt := Lib.hid (B_pt.out.wrote own g (by decide))
      replace B_w0 := Lib.hid (B_w0.out.wrote own g (by decide))
      replace B_xp := Lib.hid (B_xp.out.wrote own g (by decide))
      replace B_g0 := Lib.hid (B_g0.out.wrote own g (by decide))
      replace R_w0 := Lib.hid (R_w0.out.wrote own g (by have := Z1.out; have := Z2.out; have := Z3.out; have := Z4.out; have := Z5.out; have := Z6.out; (try simp only [World.size_alloc, heap_size_grew] at *); omega))
      replace R_g0 := Lib.hid (R_g0.out.wrote own g (by have := Z1.out; have := Z2.out; have := Z3.out; have := Z4.out; have := Z5.out; have := Z6.out; (try simp only [World.size_alloc, heap_size_grew] at *); omega))
      replace G := Lib.hid (G.out.wrote own g (by have := Z1.out; have := Z2.out; have := Z3.out; have := Z4.out; have := Z5.out; have := Z6.out; (try simp only [World.size_alloc, heap_size_grew] at *); omega))
      have M_xp := Lib.hid own1
      clear own g hv own1
      have p_g0_0 := B_g0.out.cellv 0
      have p_g0_1 := B_g0.out.cellv 1
      have p_g0_2 := B_g0.out.cellv 2
      have p_w0_0 := B_w0.out.cellv 0
      have p_w0_1 := B_w0.out.cellv 1
      have p_w0_2 := B_w0.out.cellv 2
      go_wp2_with fail
      refine (L_eqPicture A B _ _ _ _ _ _ L _ (R_g0.out.gr (by (try show Gr _ _); repeat (with_reducible first | exact Gr.refl _ | refine Gr.drewN ?_ _ | refine Gr.grew ?_ _ _ | refine Gr.alloc ?_ _ | refine Gr.drew ?_))).fsl (R_w0.out.gr (by (try show Gr _ _); repeat (with_reducible first | exact Gr.refl _ | refine Gr.drewN ?_ _ | refine Gr.grew ?_ _ _ | refine Gr.alloc ?_ _ | refine Gr.drew ?_))).fsl (by unfold maxLen; omega)).mono ?_
      rintro e u7 ⟨rfl, g⟩
      clear p_g0_0 p_g0_1 p_g0_2 p_w0_0 p_w0_1 p_w0_2
      have k : Gr u6 u7 := Gr.trans (by (try show Gr _ _); repeat (with_reducible first | exact Gr.refl _ | refine Gr.drewN ?_ _ | refine Gr.grew ?_ _ _ | refine Gr.alloc ?_ _ | refine Gr.drew ?_)) g
      have Z8 := Lib.hid k.size
      replace B_pp := Lib.hid (B_pp.out.gr k)
      replace B_pt := Lib.hid (B_pt.out.gr k)
      replace B_w0 := Lib.hid (B_w0.out.gr k)
      replace B_xp := Lib.hid (B_xp.out.gr k)
      replace B_g0 := Lib.hid (B_g0.out.gr k)
      replace R_w0 := Lib.hid (R_w0.out.gr k)
      replace R_g0 := Lib.hid (R_g0.out.gr k)
      replace M_xp := Lib.hid (M_xp.out.gr k)
      replace G := Lib.hid (G.out.trans k)
      clear g k
      have p_g0_0 := B_g0.out.cellv 0
      have p_g0_1 := B_g0.out.cellv 1
      have p_g0_2 := B_g0.out.cellv 2
      obtain ⟨vs, own, hv⟩ := R_g0.out.row
      go_wp2_with fail
      refine (L_markPicture A B _ _ _ _ vs (1) _ own hv (by omega) (by omega) (by omega)).mono ?_
      rintro e u8 ⟨rfl, g, own1⟩
      clear p_g0_0 p_g0_1 p_g0_2
      have Z9 := Lib.hid g.by_.size
      replace B_pp := Lib.hid (B_pp.out.wrote own g (by decide))
      replace B_pt := Lib.hid (B_pt.out.wrote own g (by decide))
      replace B_w0 := Lib.hid (B_w0.out.wrote own g (by decide))
      replace B_xp := Lib.hid (B_xp.out.wrote own g (by decide))
      replace B_g0 := Lib.hid (B_g0.out.wrote own g (by decide))
      replace R_w0 := Lib.hid (R_w0.out.wrote own g (by have := Z1.out; have := Z2.out; have := Z3.out; have := Z4.out; have := Z5.out; have := Z6.out; have := Z7.out; have := Z8.out; (try simp only [World.size_alloc, heap_size_grew] at *); omega))
      replace M_xp := Lib.hid (M_xp.out.wrote own g (by have := Z1.out; have := Z2.out; have := Z3.out; have := Z4.out; have := Z5.out; have := Z6.out; have := Z7.out; have := Z8.out; (try simp only [World.size_alloc, heap_size_grew] at *); omega))
      replace G := Lib.hid (G.out.wrote own g (by have := Z1.out; have := Z2.out; have := Z3.out; have := Z4.out; have := Z5.out; have := Z6.out; have := Z7.out; have := Z8.out; (try simp only [World.size_alloc, heap_size_grew] at *); omega))
      have M_g0 := Lib.hid own1
      clear own g hv own1
      have p_g0_0 := B_g0.out.cellv 0
      have p_g0_1 := B_g0.out.cellv 1
      have p_g0_2 := B_g0.out.cellv 2
      go_wp2_with fail
      refine (L_heldPicture A B _ _ _ _ 1 _ (M_g0.out.gr (by (try show Gr _ _); repeat (with_reducible first | exact Gr.refl _ | refine Gr.drewN ?_ _ | refine Gr.grew ?_ _ _ | refine Gr.alloc ?_ _ | refine Gr.drew ?_))) (by omega) (by omega) (by omega)).mono ?_
      rintro e u9 ⟨rfl, g⟩
      clear p_g0_0 p_g0_1 p_g0_2
      have k : Gr u8 u9 := Gr.trans (by (try show Gr _ _); repeat (with_reducible first | exact Gr.refl _ | refine Gr.drewN ?_ _ | refine Gr.grew ?_ _ _ | refine Gr.alloc ?_ _ | refine Gr.drew ?_)) g
      have Z10 := Lib.hid k.size
      replace B_pp := Lib.hid (B_pp.out.gr k)
      replace B_pt := Lib.hid (B_pt.out.gr k)
      replace B_w0 := Lib.hid (B_w0.out.gr k)
      replace B_xp := Lib.hid (B_xp.out.gr k)
      replace B_g0 := Lib.hid (B_g0.out.gr k)
      replace R_w0 := Lib.hid (R_w0.out.gr k)
      replace M_xp := Lib.hid (M_xp.out.gr k)
      replace M_g0 := Lib.hid (M_g0.out.gr k)
      replace G := Lib.hid (G.out.trans k)
      clear g k
      have p_pp_0 := B_pp.out.cellv 0
      have p_pp_1 := B_pp.out.cellv 1
      have p_pp_2 := B_pp.out.cellv 2
      have p_pt_0 := B_pt.out.cellv 0
      have p_pt_1 := B_pt.out.cellv 1
      go_upto_region 24 with fail
      go_cut [14, 15] (fun sa sb wx => ∃ (g : Nat) (v : Value), sa = .pointer (some ⟨g, 0, none⟩) ∧ sb = .bool ok ∧ u9.heap.size ≤ g ∧ Blk wx g [.int .i64 A, .int .i64 B, v] 28 ∧ RowIn u9 wx 37 v L ∧ Gr u9 wx)
      case first =>
        clear Z1 Z2 Z3 Z4 Z5 Z6 Z7 Z8 Z9 Z10 B_pp B_pt B_w0 B_xp B_g0 R_w0 M_xp M_g0 Hs
        go_region_held3 (fun w' => w'.cell? ⟨w.heap.size, 0, none⟩ = some (.int .i64 pw) ∧ w'.cell? ⟨w.heap.size, 1, none⟩ = some (.int .i64 ph) ∧ w'.cell? ⟨w.heap.size, 2, none⟩ = some (.slice pa px.length pc) ∧ w'.cell? ⟨w.heap.size + 1, 0, none⟩ = some (.int .i64 t0) ∧ w'.cell? ⟨w.heap.size + 1, 1, none⟩ = some (.int .i64 t1))
      (first | (simp (maxDischargeDepth := 12) [go_sem]; done) | (simp (maxDischargeDepth := 12) [go_sem, *]; done)) (first
      | (go_at_call 17; with_reducible refine (L_toPicture pw ph pa _ pc px _ ?_ ?_).mono ?_; exact A_p.out.keep (G.out.trans (by (try show Gr _ _); repeat (with_reducible first | exact Gr.refl _ | refine Gr.drewN ?_ _ | refine Gr.grew ?_ _ _ | refine Gr.alloc ?_ _ | refine Gr.drew ?_))).kp; omega; rintro e w1 ⟨⟨v, rfl, ho⟩, os0, m0, rfl⟩; (try simp only [grew_grew, drewN_grew, grew_drewN, drew_grew, Array.append_assoc] at ho); obtain ⟨a_p, c_p, rfl, h_p, cp_p⟩ := ho.slc; clear ho)
      | (go_at_call 18; refine (L_toTile t0 t1 _).mono ?_; rintro e w1 ⟨rfl, os1, m1, rfl⟩)
      | (go_at_call 19; refine (Hi.out a_p c_p _ (h_p.keep (by (repeat (with_reducible first | exact Kp.refl _ | exact kp_same | exact kp_app1 | exact kp_app2 | exact kp_app3 | refine Kp.grew ?_ _ _ | refine Kp.drewN ?_ _ | refine Kp.drew ?_ | refine Kp.alloc ?_ _)))) cp_p).mono ?_; rintro e w1 ⟨⟨v, rfl, ho⟩, os9, m9, rfl⟩; (try simp only [grew_grew, drewN_grew, grew_drewN, drew_grew, Array.append_assoc] at ho); have fin := ho.fin; obtain ⟨a9, c9, rfl, -, -⟩ := ho.sl; clear ho))
        all_goals (go_wp2_with fail; go_meet; refine ⟨_, .slice a9 L.length c9, rfl, rfl, ?_, (by repeat (with_reducible first | assumption | exact Blk.atNew (by simp) | refine Blk.alloc ?_ _ | refine Blk.grew ?_ _ _ | refine Blk.drewN ?_ _ | refine Blk.drew ?_)), ?_, (by (try show Gr _ _); repeat (with_reducible first | exact Gr.refl _ | refine Gr.drewN ?_ _ | refine Gr.grew ?_ _ _ | refine Gr.alloc ?_ _ | refine Gr.drew ?_))⟩; (first | omega | (simp <;> omega)); first | (refine RowIn.swap fin ?_ ?_ ?_ ?_ <;> (first | omega | (simp <;> omega))) | exact RowIn.of fin (by (try show Gr _ _); repeat (with_reducible first | exact Gr.refl _ | refine Gr.drewN ?_ _ | refine Gr.grew ?_ _ _ | refine Gr.alloc ?_ _ | refine Gr.drew ?_)) (by first | omega | (simp <;> omega)) (by first | omega | (simp <;> omega)))
      case rest =>
        obtain ⟨g_h0, v, rfl, rfl, zg, b, ⟨lo_h0, hi_h0, zlo, zhi, r⟩, k⟩ := hcut
        clear p_pp_0 p_pp_1 p_pp_2 p_pt_0 p_pt_1
        have Eh0 : ∃ u, u = wc := ⟨wc, rfl⟩
        obtain ⟨d11, hu⟩ := Eh0
        rw [← hu] at zhi b r k ⊢
        clear hu
        have Z11 := Lib.hid (show u9.heap.size ≤ d11.heap.size ∧ u9.heap.size ≤ g_h0 ∧ u9.heap.size ≤ lo_h0 ∧ hi_h0 ≤ d11.heap.size from ⟨k.size, zg, zlo, zhi⟩)
        replace B_pp := Lib.hid (B_pp.out.gr k)
        replace B_pt := Lib.hid (B_pt.out.gr k)
        replace B_w0 := Lib.hid (B_w0.out.gr k)
        replace B_xp := Lib.hid (B_xp.out.gr k)
        replace B_g0 := Lib.hid (B_g0.out.gr k)
        replace R_w0 := Lib.hid (R_w0.out.gr k)
        replace M_xp := Lib.hid (M_xp.out.gr k)
        replace M_g0 := Lib.hid (M_g0.out.gr k)
        replace G := Lib.hid (G.out.trans k)
        obtain ⟨a_h0, c_h0, rfl, -, -⟩ := r.sl
        have R_h0 := Lib.hid r
        have B_h0 := Lib.hid b
        clear r b k zg zlo zhi
        have p_h0_0 := B_h0.out.cellv 0
        have p_h0_1 := B_h0.out.cellv 1
        have p_h0_2 := B_h0.out.cellv 2
        have p_w0_0 := B_w0.out.cellv 0
        have p_w0_1 := B_w0.out.cellv 1
        have p_w0_2 := B_w0.out.cellv 2
        go_wp2_with fail
        refine (L_eqPicture A B _ _ _ _ _ _ L _ (R_h0.out.gr (by (try show Gr _ _); repeat (with_reducible first | exact Gr.refl _ | refine Gr.drewN ?_ _ | refine Gr.grew ?_ _ _ | refine Gr.alloc ?_ _ | refine Gr.drew ?_))).fsl (R_w0.out.gr (by (try show Gr _ _); repeat (with_reducible first | exact Gr.refl _ | refine Gr.drewN ?_ _ | refine Gr.grew ?_ _ _ | refine Gr.alloc ?_ _ | refine Gr.drew ?_))).fsl (by unfold maxLen; omega)).mono ?_
        rintro e u11 ⟨rfl, g⟩
        clear p_h0_0 p_h0_1 p_h0_2 p_w0_0 p_w0_1 p_w0_2
        have k : Gr d11 u11 := Gr.trans (by (try show Gr _ _); repeat (with_reducible first | exact Gr.refl _ | refine Gr.drewN ?_ _ | refine Gr.grew ?_ _ _ | refine Gr.alloc ?_ _ | refine Gr.drew ?_)) g
        have Z12 := Lib.hid k.size
        replace B_pp := Lib.hid (B_pp.out.gr k)
        replace B_pt := Lib.hid (B_pt.out.gr k)
        replace B_w0 := Lib.hid (B_w0.out.gr k)
        replace B_xp := Lib.hid (B_xp.out.gr k)
        replace B_g0 := Lib.hid (B_g0.out.gr k)
        replace B_h0 := Lib.hid (B_h0.out.gr k)
        replace R_w0 := Lib.hid (R_w0.out.gr k)
        replace R_h0 := Lib.hid (R_h0.out.gr k)
        replace M_xp := Lib.hid (M_xp.out.gr k)
        replace M_g0 := Lib.hid (M_g0.out.gr k)
        replace G := Lib.hid (G.out.trans k)
        clear g k
        have p_g0_0 := B_g0.out.cellv 0
        have p_g0_1 := B_g0.out.cellv 1
        have p_g0_2 := B_g0.out.cellv 2
        go_wp2_with fail
        refine (L_heldPicture A B _ _ _ _ 1 _ (M_g0.out.gr (by (try show Gr _ _); repeat (with_reducible first | exact Gr.refl _ | refine Gr.drewN ?_ _ | refine Gr.grew ?_ _ _ | refine Gr.alloc ?_ _ | refine Gr.drew ?_))) (by omega) (by omega) (by omega)).mono ?_
        rintro e u12 ⟨rfl, g⟩
        clear p_g0_0 p_g0_1 p_g0_2
        have k : Gr u11 u12 := Gr.trans (by (try show Gr _ _); repeat (with_reducible first | exact Gr.refl _ | refine Gr.drewN ?_ _ | refine Gr.grew ?_ _ _ | refine Gr.alloc ?_ _ | refine Gr.drew ?_)) g
        have Z13 := Lib.hid k.size
        replace B_pp := Lib.hid (B_pp.out.gr k)
        replace B_pt := Lib.hid (B_pt.out.gr k)
        replace B_w0 := Lib.hid (B_w0.out.gr k)
        replace B_xp := Lib.hid (B_xp.out.gr k)
        replace B_g0 := Lib.hid (B_g0.out.gr k)
        replace B_h0 := Lib.hid (B_h0.out.gr k)
        replace R_w0 := Lib.hid (R_w0.out.gr k)
        replace R_h0 := Lib.hid (R_h0.out.gr k)
        replace M_xp := Lib.hid (M_xp.out.gr k)
        replace M_g0 := Lib.hid (M_g0.out.gr k)
        replace G := Lib.hid (G.out.trans k)
        clear g k
        go_wp2
        go_ret
        exact ⟨rfl, G.out.trans (by (try show Gr _ _); repeat (with_reducible first | exact Gr.refl _ | refine Gr.drewN ?_ _ | refine Gr.grew ?_ _ _ | refine Gr.alloc ?_ _ | refine Gr.drew ?_))⟩

set_option maxRecDepth 20000 in
set_option maxHeartbeats 1000000 in
theorem L_FnExactRowsOf (pw ph : Int) (pa : Option Addr) (pn pc : Nat) (px : List Nat) (t0 t1 : Int) (w : World) (fp : FSl w pa pn px) (lp : pn ≤ maxLen) :
    Calls Try.prog 3 #[.agg #[.int .i64 pw, .int .i64 ph, .slice pa pn pc], .agg #[.int .i64 t0, .int .i64 t1]] w fun e w' => e = .returned (.bool true) ∧ ∃ os m, w' = w.grew os m := by
  obtain rfl := fp.len
  by_cases hnp : px.length ≤ 1048576
  · skip
    exact law_RowsOf pw ph pa pc px t0 t1 _ _ _ _ w (gVals_rows _ _ _ _ _ _) fp hnp
        (fun a_p c_p w f_p k_p => S_RowsOf pw ph t0 t1 a_p c_p px w f_p k_p (by omega)) (fun a_p c_p w f_p k_p => I_RowsOf pw ph t0 t1 a_p c_p px w f_p (by omega))
  · clear fp
    go_enter Try.func3, Try.ntmps3
    go_wp2_with fail
    refine (L_szPicture_no _ _ _ _ _ _ _ (1048576) _ rfl rfl (by omega) (by omega) (by omega) lp).mono ?_
    rintro e ul ⟨rfl, g⟩
    have G1 : Gr w ul := Gr.trans (by (try show Gr _ _); repeat (with_reducible first | exact Gr.refl _ | refine Gr.drewN ?_ _ | refine Gr.grew ?_ _ _ | refine Gr.alloc ?_ _ | refine Gr.drew ?_)) g
    clear g
    go_wp2
    go_ret
    exact ⟨rfl, G1⟩

set_option maxRecDepth 100000 in
theorem fnExactRowsOf_lifted (os : Os) (started : os.Started) (H : Type) (enc : TypeId × Value → H) :
    ReturnsInHanded {} Try.checked os 3 .any (Rows.fnExactRowsOfSpec.pre6 enc Try.prog Try.f3 Rows.fnExactRowsOfRow.domain false) (Rows.fnExactRowsOfSpec.post enc Try.prog Try.f3 false true false false) := by
  refine returnsInHanded_of_change (C := Try.checked) own started (by kernel_rfl) Try.func3
    (ChangeSpec.witness6 (enc := enc) (C := Try.checked) false ⟨#[], #[.agg #[.int .i64 0, .int .i64 0, .slice none 0 0], .agg #[.int .i64 0, .int .i64 0]], []⟩ 12 (by kernel_rfl) (by kernel_rfl) (by kernel_rfl) (by kernel_rfl)) ?_
  intro W base args ds gs before hval0 hW hcnd _
  have hval : ∀ (j : Nat) t v, Try.f3.params[j]? = some t → args[j]? = some v → Value.okWide Try.prog W .any base t v := hval0
  have hW' := hW
  obtain ⟨p, q, hA0, hV, rfl, hfz, hnd⟩ := hW
  have hA : DataW.TrodAll enc Try.prog W 0 (fun _ => true) true Try.f3.params.toList args.toList ds p := hA0
  rw [Try.params3] at hA hval
  obtain ⟨v0, vs0, d0, ds0, p0, q0, ha0, rfl, rfl, h0, r0⟩ := trodAll_cons hA
  obtain ⟨v1, vs1, d1, ds1, p1, q1, rfl, rfl, rfl, h1, r1⟩ := trodAll_cons r0
  obtain ⟨rfl, rfl, rfl⟩ := trodAll_nil r1
  obtain rfl : args = #[v0, v1] := by cases args; simp_all
  obtain ⟨rfl, rfl⟩ := trodVars_none hV
  obtain ⟨pw, ph, pa, pn, pc, px, rfl, -, -, fp, lp⟩ := open_pic Try.underlying24 (by kernel_rfl) (by kernel_rfl) Try.underlying2 Try.underlying22 Try.underlying37 (by kernel_rfl) (hval 0 24 v0 rfl rfl) h0
  obtain ⟨t0, t1, rfl⟩ := open_i2 Try.underlying26 (by kernel_rfl) (by kernel_rfl) Try.underlying2 (hval 1 26 v1 rfl rfl) h1
  refine (L_FnExactRowsOf pw ph pa pn pc px t0 t1 W fp lp).mono fun e W' ⟨he, hg⟩ => ?_
  exact ⟨_, he, post_true laidOut (by kernel_rfl) (by kernel_rfl) Try.underlying4 rfl hW' rfl rfl rfl (Gr.below hg)⟩

theorem fnExactRowsOf_holds : Rows.FnExactRowsOfSaid :=
  OpenClaim.holds_of_wide 3 Try.f3 rfl rfl rfl rfl rfl rfl rfl ⟨rfl, rfl, rfl, rfl, rfl⟩ rfl rfl rfl rfl rfl (by kernel_rfl) Try.func3 (by kernel_rfl)
    (of_decide_eq_true (by kernel_rfl)) (by unfold Func.isWrapper; first | (rw [if_pos (by decide +kernel)]; kernel_rfl) | (rw [if_neg (by decide +kernel)]; exact ⟨rfl, rfl⟩))
    (fun os started H enc _ => fnExactRowsOf_lifted os started H enc)
#print axioms fnExactRowsOf_holds
end Go.Proofs.Ythpdnblkbadhaaa
