/- For every camera, plane and size FnExactPlaneMap returns true. No conditions. MAXREC -/
import Derived.Test.YthpdnblkbadhaaaRow
import Derived.Test.YthpdnblkbadhaaaC21
import Derived.Test.YthpdnblkbadhaaaLw
import Derived.Deep.RegionHeld3
import Derived.Deep.DeepCutAuto
namespace Go.Proofs.Ythpdnblkbadhaaa
open Go.ChangeShapes Go.WideShapes Go.ChangeAt Go.RowKit Go.Joins Go.Deep Go.Fx Go.Soft
theorem gVals_plane (b : Bool) (U V : Int) (G : Nat → Nat) : (gVals (b && gSize U V) (U * V).toNat G).length ≤ 1048576 := by
  cases h : gSize U V
  · simp [gVals]
  · obtain ⟨_, _, _, _, h5, _⟩ := gSize_true h
    exact Nat.le_trans (gVals_length _ _ _) (by omega)

set_option maxRecDepth 20000 in
set_option maxHeartbeats 8000000 in
theorem law_PlaneMap (cm0 cm1 cm2 cm3 : Nat) (pl0 pl1 pl2 : Nat) (u : Int) (v : Int) (A B : Int) (ok : Bool) (L : List Nat) (w : World) (hL : L.length ≤ 1048576) 
    (HS : ∀  (w : World), Calls Try.prog 23 #[.agg #[.float .f32 cm0, .float .f32 cm1, .float .f32 cm2, .float .f32 cm3], .agg #[.float .f32 pl0, .float .f32 pl1, .float .f32 pl2], .int .i64 u, .int .i64 v] w (PostP w A B ok L))
    (HI : ∀  (w : World), Calls Try.prog 26 #[.agg #[.float .f32 cm0, .float .f32 cm1, .float .f32 cm2, .float .f32 cm3], .agg #[.float .f32 pl0, .float .f32 pl1, .float .f32 pl2], .int .i64 u, .int .i64 v] w (PostP w A B ok L)) :
    Calls Try.prog 4 #[.agg #[.float .f32 cm0, .float .f32 cm1, .float .f32 cm2, .float .f32 cm3], .agg #[.float .f32 pl0, .float .f32 pl1, .float .f32 pl2], .int .i64 u, .int .i64 v] w fun e w' => e = .returned (.bool true) ∧ ∃ os m, w' = w.grew os m := by
  have Hs := Lib.hid HS
  have Hi := Lib.hid HI
  clear HS HI
  have G := Lib.hid (Gr.refl w)
  go_enter Try.func4, Try.ntmps4
  go_upto_region 1 with fail
  go_cut [9, 10] (fun sa sb wx => ∃ (g : Nat) (v : Value), sa = .pointer (some ⟨g, 0, none⟩) ∧ sb = .bool ok ∧ w.heap.size ≤ g ∧ Blk wx g [.int .i64 A, .int .i64 B, v] 43 ∧ RowIn w wx 37 v L ∧ Blk wx (w.heap.size) [.float .f32 cm0, .float .f32 cm1, .float .f32 cm2, .float .f32 cm3] 39 ∧ Blk wx (w.heap.size + 1) [.float .f32 pl0, .float .f32 pl1, .float .f32 pl2] 41 ∧ Gr w wx)
  case first =>
    clear Hi
    go_region_held3 (fun w' => w'.cell? ⟨w.heap.size, 0, none⟩ = some (.float .f32 cm0) ∧ w'.cell? ⟨w.heap.size, 1, none⟩ = some (.float .f32 cm1) ∧ w'.cell? ⟨w.heap.size, 2, none⟩ = some (.float .f32 cm2) ∧ w'.cell? ⟨w.heap.size, 3, none⟩ = some (.float .f32 cm3) ∧ w'.cell? ⟨w.heap.size + 1, 0, none⟩ = some (.float .f32 pl0) ∧ w'.cell? ⟨w.heap.size + 1, 1, none⟩ = some (.float .f32 pl1) ∧ w'.cell? ⟨w.heap.size + 1, 2, none⟩ = some (.float .f32 pl2))
      (first | (simp (maxDischargeDepth := 12) [go_sem]; done) | (simp (maxDischargeDepth := 12) [go_sem, *]; done)) (first
      | (go_at_call 24; refine (L_toCamera cm0 cm1 cm2 cm3 _).mono ?_; rintro e w1 ⟨rfl, os0, m0, rfl⟩)
      | (go_at_call 25; refine (L_toPlane pl0 pl1 pl2 _).mono ?_; rintro e w1 ⟨rfl, os1, m1, rfl⟩)
      | (go_at_call 23; refine (Hs.out  _ ).mono ?_; rintro e w1 ⟨⟨v, rfl, ho⟩, os9, m9, rfl⟩; (try simp only [grew_grew, drewN_grew, grew_drewN, drew_grew, Array.append_assoc] at ho); have fin := ho.fin; obtain ⟨a9, c9, rfl, -, -⟩ := ho.sl; clear ho))
    all_goals (go_wp2_with fail; go_meet; refine ⟨_, .slice a9 L.length c9, rfl, rfl, ?_, (by repeat (with_reducible first | assumption | exact Blk.atNew (by simp) | refine Blk.alloc ?_ _ | refine Blk.grew ?_ _ _ | refine Blk.drewN ?_ _ | refine Blk.drew ?_)), ?_, (by repeat (with_reducible first | assumption | exact Blk.atNew (by simp) | refine Blk.alloc ?_ _ | refine Blk.grew ?_ _ _ | refine Blk.drewN ?_ _ | refine Blk.drew ?_)), (by repeat (with_reducible first | assumption | exact Blk.atNew (by simp) | refine Blk.alloc ?_ _ | refine Blk.grew ?_ _ _ | refine Blk.drewN ?_ _ | refine Blk.drew ?_)), (by (try show Gr _ _); repeat (with_reducible first | exact Gr.refl _ | refine Gr.drewN ?_ _ | refine Gr.grew ?_ _ _ | refine Gr.alloc ?_ _ | refine Gr.drew ?_))⟩; (first | omega | (simp <;> omega)); first | (refine RowIn.swap fin ?_ ?_ ?_ ?_ <;> (first | omega | (simp <;> omega))) | exact RowIn.of fin (by (try show Gr _ _); repeat (with_reducible first | exact Gr.refl _ | refine Gr.drewN ?_ _ | refine Gr.grew ?_ _ _ | refine Gr.alloc ?_ _ | refine Gr.drew ?_)) (by first | omega | (simp <;> omega)) (by first | omega | (simp <;> omega)))
  case rest =>
    obtain ⟨g_w0, v, rfl, rfl, zg, b, ⟨lo_w0, hi_w0, zlo, zhi, r⟩, bp_pcm, bp_ppl, k⟩ := hcut
    have Ew0 : ∃ u, u = wc := ⟨wc, rfl⟩
    obtain ⟨d1, hu⟩ := Ew0
    rw [← hu] at zhi b r bp_pcm bp_ppl k ⊢
    clear hu
    have Z1 := Lib.hid (show w.heap.size ≤ d1.heap.size ∧ w.heap.size ≤ g_w0 ∧ w.heap.size ≤ lo_w0 ∧ hi_w0 ≤ d1.heap.size from ⟨k.size, zg, zlo, zhi⟩)
    replace G := Lib.hid (G.out.trans k)
    obtain ⟨a_w0, c_w0, rfl, -, -⟩ := r.sl
    have R_w0 := Lib.hid r
    have B_w0 := Lib.hid b
    clear r b k zg zlo zhi
    have B_pcm := Lib.hid bp_pcm
    clear bp_pcm
    have B_ppl := Lib.hid bp_ppl
    clear bp_ppl
    have p_pcm_0 := B_pcm.out.cellv 0
    have p_pcm_1 := B_pcm.out.cellv 1
    have p_pcm_2 := B_pcm.out.cellv 2
    have p_pcm_3 := B_pcm.out.cellv 3
    have p_ppl_0 := B_ppl.out.cellv 0
    have p_ppl_1 := B_ppl.out.cellv 1
    have p_ppl_2 := B_ppl.out.cellv 2
    go_upto_region 2 with fail
    go_cut [11, 12] (fun sa sb wx => ∃ (g : Nat) (v : Value), sa = .pointer (some ⟨g, 0, none⟩) ∧ sb = .bool ok ∧ d1.heap.size ≤ g ∧ Blk wx g [.int .i64 A, .int .i64 B, v] 43 ∧ RowIn d1 wx 37 v L ∧ Gr d1 wx)
    case first =>
      clear Z1 B_pcm B_ppl B_w0 R_w0 Hs
      go_region_held3 (fun w' => w'.cell? ⟨w.heap.size, 0, none⟩ = some (.float .f32 cm0) ∧ w'.cell? ⟨w.heap.size, 1, none⟩ = some (.float .f32 cm1) ∧ w'.cell? ⟨w.heap.size, 2, none⟩ = some (.float .f32 cm2) ∧ w'.cell? ⟨w.heap.size, 3, none⟩ = some (.float .f32 cm3) ∧ w'.cell? ⟨w.heap.size + 1, 0, none⟩ = some (.float .f32 pl0) ∧ w'.cell? ⟨w.heap.size + 1, 1, none⟩ = some (.float .f32 pl1) ∧ w'.cell? ⟨w.heap.size + 1, 2, none⟩ = some (.float .f32 pl2))
      (first | (simp (maxDischargeDepth := 12) [go_sem]; done) | (simp (maxDischargeDepth := 12) [go_sem, *]; done)) (first
      | (go_at_call 24; refine (L_toCamera cm0 cm1 cm2 cm3 _).mono ?_; rintro e w1 ⟨rfl, os0, m0, rfl⟩)
      | (go_at_call 25; refine (L_toPlane pl0 pl1 pl2 _).mono ?_; rintro e w1 ⟨rfl, os1, m1, rfl⟩)
      | (go_at_call 26; refine (Hi.out  _ ).mono ?_; rintro e w1 ⟨⟨v, rfl, ho⟩, os9, m9, rfl⟩; (try simp only [grew_grew, drewN_grew, grew_drewN, drew_grew, Array.append_assoc] at ho); have fin := ho.fin; obtain ⟨a9, c9, rfl, -, -⟩ := ho.sl; clear ho))
      all_goals (go_wp2_with fail; go_meet; refine ⟨_, .slice a9 L.length c9, rfl, rfl, ?_, (by repeat (with_reducible first | assumption | exact Blk.atNew (by simp) | refine Blk.alloc ?_ _ | refine Blk.grew ?_ _ _ | refine Blk.drewN ?_ _ | refine Blk.drew ?_)), ?_, (by (try show Gr _ _); repeat (with_reducible first | exact Gr.refl _ | refine Gr.drewN ?_ _ | refine Gr.grew ?_ _ _ | refine Gr.alloc ?_ _ | refine Gr.drew ?_))⟩; (first | omega | (simp <;> omega)); first | (refine RowIn.swap fin ?_ ?_ ?_ ?_ <;> (first | omega | (simp <;> omega))) | exact RowIn.of fin (by (try show Gr _ _); repeat (with_reducible first | exact Gr.refl _ | refine Gr.drewN ?_ _ | refine Gr.grew ?_ _ _ | refine Gr.alloc ?_ _ | refine Gr.drew ?_)) (by first | omega | (simp <;> omega)) (by first | omega | (simp <;> omega)))
    case rest =>
      obtain ⟨g_g0, v, rfl, rfl, zg, b, ⟨lo_g0, hi_g0, zlo, zhi, r⟩, k⟩ := hcut
      clear p_pcm_0 p_pcm_1 p_pcm_2 p_pcm_3 p_ppl_0 p_ppl_1 p_ppl_2
      have Eg0 : ∃ u, u = wc := ⟨wc, rfl⟩
      obtain ⟨d2, hu⟩ := Eg0
      rw [← hu] at zhi b r k ⊢
      clear hu
      have Z2 := Lib.hid (show d1.heap.size ≤ d2.heap.size ∧ d1.heap.size ≤ g_g0 ∧ d1.heap.size ≤ lo_g0 ∧ hi_g0 ≤ d2.heap.size from ⟨k.size, zg, zlo, zhi⟩)
      replace B_pcm := Lib.hid (B_pcm.out.gr k)
      replace B_ppl := Lib.hid (B_ppl.out.gr k)
      replace B_w0 := Lib.hid (B_w0.out.gr k)
      replace R_w0 := Lib.hid (R_w0.out.gr k)
      replace G := Lib.hid (G.out.trans k)
      obtain ⟨a_g0, c_g0, rfl, -, -⟩ := r.sl
      have R_g0 := Lib.hid r
      have B_g0 := Lib.hid b
      clear r b k zg zlo zhi
      have p_g0_0 := B_g0.out.cellv 0
      have p_g0_1 := B_g0.out.cellv 1
      have p_g0_2 := B_g0.out.cellv 2
      have p_w0_0 := B_w0.out.cellv 0
      have p_w0_1 := B_w0.out.cellv 1
      have p_w0_2 := B_w0.out.cellv 2
      go_wp2_with fail
      refine (L_eqMap A B _ _ _ _ _ _ L _ (R_g0.out.gr (by (try show Gr _ _); repeat (with_reducible first | exact Gr.refl _ | refine Gr.drewN ?_ _ | refine Gr.grew ?_ _ _ | refine Gr.alloc ?_ _ | refine Gr.drew ?_))).fsl (R_w0.out.gr (by (try show Gr _ _); repeat (with_reducible first | exact Gr.refl _ | refine Gr.drewN ?_ _ | refine Gr.grew ?_ _ _ | refine Gr.alloc ?_ _ | refine Gr.drew ?_))).fsl (by unfold maxLen; omega)).mono ?_
      rintro e u2 ⟨rfl, g⟩
      clear p_g0_0 p_g0_1 p_g0_2 p_w0_0 p_w0_1 p_w0_2
      have k : Gr d2 u2 := Gr.trans (by (try show Gr _ _); repeat (with_reducible first | exact Gr.refl _ | refine Gr.drewN ?_ _ | refine Gr.grew ?_ _ _ | refine Gr.alloc ?_ _ | refine Gr.drew ?_)) g
      have Z3 := Lib.hid k.size
      replace B_pcm := Lib.hid (B_pcm.out.gr k)
      replace B_ppl := Lib.hid (B_ppl.out.gr k)
      replace B_w0 := Lib.hid (B_w0.out.gr k)
      replace B_g0 := Lib.hid (B_g0.out.gr k)
      replace R_w0 := Lib.hid (R_w0.out.gr k)
      replace R_g0 := Lib.hid (R_g0.out.gr k)
      replace G := Lib.hid (G.out.trans k)
      clear g k
      have p_g0_0 := B_g0.out.cellv 0
      have p_g0_1 := B_g0.out.cellv 1
      have p_g0_2 := B_g0.out.cellv 2
      obtain ⟨vs, own, hv⟩ := R_g0.out.row
      go_wp2_with fail
      refine (L_markMap A B _ _ _ _ vs (1) _ own hv (by omega) (by omega) (by omega)).mono ?_
      rintro e u3 ⟨rfl, g, own1⟩
      clear p_g0_0 p_g0_1 p_g0_2
      have Z4 := Lib.hid g.by_.size
      replace B_pcm := Lib.hid (B_pcm.out.wrote own g (by decide))
      replace B_ppl := Lib.hid (B_ppl.out.wrote own g (by decide))
      replace B_w0 := Lib.hid (B_w0.out.wrote own g (by decide))
      replace B_g0 := Lib.hid (B_g0.out.wrote own g (by decide))
      replace R_w0 := Lib.hid (R_w0.out.wrote own g (by have := Z1.out; have := Z2.out; have := Z3.out; (try simp only [World.size_alloc, heap_size_grew] at *); omega))
      replace G := Lib.hid (G.out.wrote own g (by have := Z1.out; have := Z2.out; have := Z3.out; (try simp only [World.size_alloc, heap_size_grew] at *); omega))
      have M_g0 := Lib.hid own1
      clear own g hv own1
      have p_g0_0 := B_g0.out.cellv 0
      have p_g0_1 := B_g0.out.cellv 1
      have p_g0_2 := B_g0.out.cellv 2
      go_wp2_with fail
      refine (L_heldMap A B _ _ _ _ 1 _ (M_g0.out.gr (by (try show Gr _ _); repeat (with_reducible first | exact Gr.refl _ | refine Gr.drewN ?_ _ | refine Gr.grew ?_ _ _ | refine Gr.alloc ?_ _ | refine Gr.drew ?_))) (by omega) (by omega) (by omega)).mono ?_
      rintro e u4 ⟨rfl, g⟩
      clear p_g0_0 p_g0_1 p_g0_2
      have k : Gr u3 u4 := Gr.trans (by (try show Gr _ _); repeat (with_reducible first | exact Gr.refl _ | refine Gr.drewN ?_ _ | refine Gr.grew ?_ _ _ | refine Gr.alloc ?_ _ | refine Gr.drew ?_)) g
      have Z5 := Lib.hid k.size
      replace B_pcm := Lib.hid (B_pcm.out.gr k)
      replace B_ppl := Lib.hid (B_ppl.out.gr k)
      replace B_w0 := Lib.hid (B_w0.out.gr k)
      replace B_g0 := Lib.hid (B_g0.out.gr k)
      replace R_w0 := Lib.hid (R_w0.out.gr k)
      replace M_g0 := Lib.hid (M_g0.out.gr k)
      replace G := Lib.hid (G.out.trans k)
      clear g k
      have p_pcm_0 := B_pcm.out.cellv 0
      have p_pcm_1 := B_pcm.out.cellv 1
      have p_pcm_2 := B_pcm.out.cellv 2
      have p_pcm_3 := B_pcm.out.cellv 3
      have p_ppl_0 := B_ppl.out.cellv 0
      have p_ppl_1 := B_ppl.out.cellv 1
      have p_ppl_2 := B_ppl.out.cellv 2
      go_upto_region 13 with fail
      go_cut [15, 16] (fun sa sb wx => ∃ (g : Nat) (v : Value), sa = .pointer (some ⟨g, 0, none⟩) ∧ sb = .bool ok ∧ u4.heap.size ≤ g ∧ Blk wx g [.int .i64 A, .int .i64 B, v] 43 ∧ RowIn u4 wx 37 v L ∧ Gr u4 wx)
      case first =>
        clear Z1 Z2 Z3 Z4 Z5 B_pcm B_ppl B_w0 B_g0 R_w0 M_g0 Hs
        go_region_held3 (fun w' => w'.cell? ⟨w.heap.size, 0, none⟩ = some (.float .f32 cm0) ∧ w'.cell? ⟨w.heap.size, 1, none⟩ = some (.float .f32 cm1) ∧ w'.cell? ⟨w.heap.size, 2, none⟩ = some (.float .f32 cm2) ∧ w'.cell? ⟨w.heap.size, 3, none⟩ = some (.float .f32 cm3) ∧ w'.cell? ⟨w.heap.size + 1, 0, none⟩ = some (.float .f32 pl0) ∧ w'.cell? ⟨w.heap.size + 1, 1, none⟩ = some (.float .f32 pl1) ∧ w'.cell? ⟨w.heap.size + 1, 2, none⟩ = some (.float .f32 pl2))
      (first | (simp (maxDischargeDepth := 12) [go_sem]; done) | (simp (maxDischargeDepth := 12) [go_sem, *]; done)) (first
      | (go_at_call 24; refine (L_toCamera cm0 cm1 cm2 cm3 _).mono ?_; rintro e w1 ⟨rfl, os0, m0, rfl⟩)
      | (go_at_call 25; refine (L_toPlane pl0 pl1 pl2 _).mono ?_; rintro e w1 ⟨rfl, os1, m1, rfl⟩)
      | (go_at_call 26; refine (Hi.out  _ ).mono ?_; rintro e w1 ⟨⟨v, rfl, ho⟩, os9, m9, rfl⟩; (try simp only [grew_grew, drewN_grew, grew_drewN, drew_grew, Array.append_assoc] at ho); have fin := ho.fin; obtain ⟨a9, c9, rfl, -, -⟩ := ho.sl; clear ho))
        all_goals (go_wp2_with fail; go_meet; refine ⟨_, .slice a9 L.length c9, rfl, rfl, ?_, (by repeat (with_reducible first | assumption | exact Blk.atNew (by simp) | refine Blk.alloc ?_ _ | refine Blk.grew ?_ _ _ | refine Blk.drewN ?_ _ | refine Blk.drew ?_)), ?_, (by (try show Gr _ _); repeat (with_reducible first | exact Gr.refl _ | refine Gr.drewN ?_ _ | refine Gr.grew ?_ _ _ | refine Gr.alloc ?_ _ | refine Gr.drew ?_))⟩; (first | omega | (simp <;> omega)); first | (refine RowIn.swap fin ?_ ?_ ?_ ?_ <;> (first | omega | (simp <;> omega))) | exact RowIn.of fin (by (try show Gr _ _); repeat (with_reducible first | exact Gr.refl _ | refine Gr.drewN ?_ _ | refine Gr.grew ?_ _ _ | refine Gr.alloc ?_ _ | refine Gr.drew ?_)) (by first | omega | (simp <;> omega)) (by first | omega | (simp <;> omega)))
      case rest =>
        obtain ⟨g_h0, v, rfl, rfl, zg, b, ⟨lo_h0, hi_h0, zlo, zhi, r⟩, k⟩ := hcut
        clear p_pcm_0 p_pcm_1 p_pcm_2 p_pcm_3 p_ppl_0 p_ppl_1 p_ppl_2
        have Eh0 : ∃ u, u = wc := ⟨wc, rfl⟩
        obtain ⟨d6, hu⟩ := Eh0
        rw [← hu] at zhi b r k ⊢
        clear hu
        have Z6 := Lib.hid (show u4.heap.size ≤ d6.heap.size ∧ u4.heap.size ≤ g_h0 ∧ u4.heap.size ≤ lo_h0 ∧ hi_h0 ≤ d6.heap.size from ⟨k.size, zg, zlo, zhi⟩)
        replace B_pcm := Lib.hid (B_pcm.out.gr k)
        replace B_ppl := Lib.hid (B_ppl.out.gr k)
        replace B_w0 := Lib.hid (B_w0.out.gr k)
        replace B_g0 := Lib.hid (B_g0.out.gr k)
        replace R_w0 := Lib.hid (R_w0.out.gr k)
        replace M_g0 := Lib.hid (M_g0.out.gr k)
        replace G := Lib.hid (G.out.trans k)
        obtain ⟨a_h0, c_h0, rfl, -, -⟩ := r.sl
        have R_h0 := Lib.hid r
        have B_h0 := Lib.hid b
        clear r b k zg zlo zhi
        have p_h0_0 := B_h0.out.cellv 0
        have p_h0_1 := B_h0.out.cellv 1
        have p_h0_2 := B_h0.out.cellv 2
        have p_w0_0 := B_w0.out.cellv 0
        have p_w0_1 := B_w0.out.cellv 1
        have p_w0_2 := B_w0.out.cellv 2
        go_wp2_with fail
        refine (L_eqMap A B _ _ _ _ _ _ L _ (R_h0.out.gr (by (try show Gr _ _); repeat (with_reducible first | exact Gr.refl _ | refine Gr.drewN ?_ _ | refine Gr.grew ?_ _ _ | refine Gr.alloc ?_ _ | refine Gr.drew ?_))).fsl (R_w0.out.gr (by (try show Gr _ _); repeat (with_reducible first | exact Gr.refl _ | refine Gr.drewN ?_ _ | refine Gr.grew ?_ _ _ | refine Gr.alloc ?_ _ | refine Gr.drew ?_))).fsl (by unfold maxLen; omega)).mono ?_
        rintro e u6 ⟨rfl, g⟩
        clear p_h0_0 p_h0_1 p_h0_2 p_w0_0 p_w0_1 p_w0_2
        have k : Gr d6 u6 := Gr.trans (by (try show Gr _ _); repeat (with_reducible first | exact Gr.refl _ | refine Gr.drewN ?_ _ | refine Gr.grew ?_ _ _ | refine Gr.alloc ?_ _ | refine Gr.drew ?_)) g
        have Z7 := Lib.hid k.size
        replace B_pcm := Lib.hid (B_pcm.out.gr k)
        replace B_ppl := Lib.hid (B_ppl.out.gr k)
        replace B_w0 := Lib.hid (B_w0.out.gr k)
        replace B_g0 := Lib.hid (B_g0.out.gr k)
        replace B_h0 := Lib.hid (B_h0.out.gr k)
        replace R_w0 := Lib.hid (R_w0.out.gr k)
        replace R_h0 := Lib.hid (R_h0.out.gr k)
        replace M_g0 := Lib.hid (M_g0.out.gr k)
        replace G := Lib.hid (G.out.trans k)
        clear g k
        have p_g0_0 := B_g0.out.cellv 0
        have p_g0_1 := B_g0.out.cellv 1
        have p_g0_2 := B_g0.out.cellv 2
        go_wp2_with fail
        refine (L_heldMap A B _ _ _ _ 1 _ (M_g0.out.gr (by (try show Gr _ _); repeat (with_reducible first | exact Gr.refl _ | refine Gr.drewN ?_ _ | refine Gr.grew ?_ _ _ | refine Gr.alloc ?_ _ | refine Gr.drew ?_))) (by omega) (by omega) (by omega)).mono ?_
        rintro e u7 ⟨rfl, g⟩
        clear p_g0_0 p_g0_1 p_g0_2
        have k : Gr u6 u7 := Gr.trans (by (try show Gr _ _); repeat (with_reducible first | exact Gr.refl _ | refine Gr.drewN ?_ _ | refine Gr.grew ?_ _ _ | refine Gr.alloc ?_ _ | refine Gr.drew ?_)) g
        have Z8 := Lib.hid k.size
        replace B_pcm := Lib.hid (B_pcm.out.gr k)
        replace B_ppl := Lib.hid (B_ppl.out.gr k)
        replace B_w0 := Lib.hid (B_w0.out.gr k)
        replace B_g0 := Lib.hid (B_g0.out.gr k)
        replace B_h0 := Lib.hid (B_h0.out.gr k)
        replace R_w0 := Lib.hid (R_w0.out.gr k)
        replace R_h0 := Lib.hid (R_h0.out.gr k)
        replace M_g0 := Lib.hid (M_g0.out.gr k)
        replace G := Lib.hid (G.out.trans k)
        clear g k
        go_wp2
        go_ret
        exact ⟨rfl, G.out.trans (by (try show Gr _ _); repeat (with_reducible first | exact Gr.refl _ | refine Gr.drewN ?_ _ | refine Gr.grew ?_ _ _ | refine Gr.alloc ?_ _ | refine Gr.drew ?_))⟩

set_option maxRecDepth 20000 in
set_option maxHeartbeats 1000000 in
theorem L_FnExactPlaneMap (cm0 Kcm0 cm1 Kcm1 cm2 Kcm2 cm3 Kcm3 : Nat) (pl0 Kpl0 pl1 Kpl1 pl2 Kpl2 : Nat) (u : Int) (v : Int) (w : World) (hcm0 : FE .f32 cm0 Kcm0) (hcm1 : FE .f32 cm1 Kcm1) (hcm2 : FE .f32 cm2 Kcm2) (hcm3 : FE .f32 cm3 Kcm3) (hpl0 : FE .f32 pl0 Kpl0) (hpl1 : FE .f32 pl1 Kpl1) (hpl2 : FE .f32 pl2 Kpl2) :
    Calls Try.prog 4 #[.agg #[.float .f32 cm0, .float .f32 cm1, .float .f32 cm2, .float .f32 cm3], .agg #[.float .f32 pl0, .float .f32 pl1, .float .f32 pl2], .int .i64 u, .int .i64 v] w fun e w' => e = .returned (.bool true) ∧ ∃ os m, w' = w.grew os m := by
  exact law_PlaneMap cm0 cm1 cm2 cm3 pl0 pl1 pl2 u v _ _ _ _ w (gVals_plane _ _ _ _) 
      (fun  w  => S_PlaneMap cm0 cm1 cm2 cm3 pl0 pl1 pl2 _ _ _ _ _ _ _ u v w hcm0 hcm1 hcm2 hcm3 hpl0 hpl1 hpl2) (fun  w  => I_PlaneMap cm0 cm1 cm2 cm3 pl0 pl1 pl2 _ _ _ _ _ _ _ u v w hcm0 hcm1 hcm2 hcm3 hpl0 hpl1 hpl2)

set_option maxRecDepth 100000 in
theorem fnExactPlaneMap_lifted (os : Os) (started : os.Started) (H : Type) (enc : TypeId × Value → H) :
    ReturnsInHanded {} Try.checked os 4 .any (Rows.fnExactPlaneMapSpec.pre6 enc Try.prog Try.f4 Rows.fnExactPlaneMapRow.domain false) (Rows.fnExactPlaneMapSpec.post enc Try.prog Try.f4 false true false false) := by
  refine returnsInHanded_of_change (C := Try.checked) own started (by kernel_rfl) Try.func4
    (ChangeSpec.witness6 (enc := enc) (C := Try.checked) false ⟨#[], #[.agg #[.float .f32 0, .float .f32 0, .float .f32 0, .float .f32 0], .agg #[.float .f32 0, .float .f32 0, .float .f32 0], .int .i64 0, .int .i64 0], []⟩ 12 (by kernel_rfl) (by kernel_rfl) (by kernel_rfl) (by kernel_rfl)) ?_
  intro W base args ds gs before hval0 hW hcnd _
  have hval : ∀ (j : Nat) t v, Try.f4.params[j]? = some t → args[j]? = some v → Value.okWide Try.prog W .any base t v := hval0
  have hW' := hW
  obtain ⟨p, q, hA0, hV, rfl, hfz, hnd⟩ := hW
  have hA : DataW.TrodAll enc Try.prog W 0 (fun _ => true) true Try.f4.params.toList args.toList ds p := hA0
  rw [Try.params4] at hA hval
  obtain ⟨v0, vs0, d0, ds0, p0, q0, ha0, rfl, rfl, h0, r0⟩ := trodAll_cons hA
  obtain ⟨v1, vs1, d1, ds1, p1, q1, rfl, rfl, rfl, h1, r1⟩ := trodAll_cons r0
  obtain ⟨v2, vs2, d2, ds2, p2, q2, rfl, rfl, rfl, h2, r2⟩ := trodAll_cons r1
  obtain ⟨v3, vs3, d3, ds3, p3, q3, rfl, rfl, rfl, h3, r3⟩ := trodAll_cons r2
  obtain ⟨rfl, rfl, rfl⟩ := trodAll_nil r3
  obtain rfl : args = #[v0, v1, v2, v3] := by cases args; simp_all
  obtain ⟨rfl, rfl⟩ := trodVars_none hV
  obtain ⟨cm0, cm1, cm2, cm3, rfl, wcm0, wcm1, wcm2, wcm3⟩ := open_f4 Try.underlying39 (by kernel_rfl) (by kernel_rfl) Try.underlying37 (hval 0 39 v0 rfl rfl) h0
  obtain ⟨pl0, pl1, pl2, rfl, wpl0, wpl1, wpl2⟩ := open_f3 Try.underlying41 (by kernel_rfl) (by kernel_rfl) Try.underlying37 (hval 1 41 v1 rfl rfl) h1
  obtain ⟨u, rfl, -, -, -⟩ := open_int Try.underlying2 (hval 2 2 v2 rfl rfl) h2
  obtain ⟨v, rfl, -, -, -⟩ := open_int Try.underlying2 (hval 3 2 v3 rfl rfl) h3
  refine (L_FnExactPlaneMap cm0 _ cm1 _ cm2 _ cm3 _ pl0 _ pl1 _ pl2 _ u v W wcm0 wcm1 wcm2 wcm3 wpl0 wpl1 wpl2).mono fun e W' ⟨he, hg⟩ => ?_
  exact ⟨_, he, post_true laidOut (by kernel_rfl) (by kernel_rfl) Try.underlying4 rfl hW' rfl rfl rfl (Gr.below hg)⟩

theorem fnExactPlaneMap_holds : Rows.FnExactPlaneMapSaid :=
  OpenClaim.holds_of_wide 4 Try.f4 rfl rfl rfl rfl rfl rfl rfl ⟨rfl, rfl, rfl, rfl, rfl⟩ rfl rfl rfl rfl rfl (by kernel_rfl) Try.func4 (by kernel_rfl)
    (of_decide_eq_true (by kernel_rfl)) (by unfold Func.isWrapper; first | (rw [if_pos (by decide +kernel)]; kernel_rfl) | (rw [if_neg (by decide +kernel)]; exact ⟨rfl, rfl⟩))
    (fun os started H enc _ => fnExactPlaneMap_lifted os started H enc)
#print axioms fnExactPlaneMap_holds
end Go.Proofs.Ythpdnblkbadhaaa
