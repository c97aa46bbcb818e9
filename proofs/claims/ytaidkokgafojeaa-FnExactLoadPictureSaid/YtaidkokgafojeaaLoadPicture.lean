/- For all strings FnExactLoadPicture returns true. No conditions. MAXREC -/
import Derived.Test.YtaidkokgafojeaaRow
import Derived.Test.YtaidkokgafojeaaC62
import Derived.Test.YtaidkokgafojeaaLw
import Derived.Deep.RegionHeld3
import Derived.Deep.DeepCutAuto
namespace Go.Proofs.Ytaidkokgafojeaa
open Go.ChangeShapes Go.WideShapes Go.ChangeAt Go.RowKit Go.Joins Go.Deep Go.Fx Go.Soft

set_option maxRecDepth 20000 in
set_option maxHeartbeats 8000000 in
theorem law_LoadPicture (s : ByteArray) (hs : s.size ≤ 1048576) (A B : Int) (ok : Bool) (L : List Nat) (w : World) (hL : L.length ≤ 1048576) 
    (HS : ∀  (w : World), Calls Try.prog 23 #[.string s] w (PostP w A B ok L))
    (HI : ∀  (w : World), Calls Try.prog 24 #[.string s] w (PostP w A B ok L)) :
    Calls Try.prog 5 #[.string s] w fun e w' => e = .returned (.bool true) ∧ ∃ os m, w' = w.grew os m := by
  have Hs := Lib.hid HS
  have Hi := Lib.hid HI
  clear HS HI
  have G := Lib.hid (Gr.refl w)
  go_enter Try.func5, Try.ntmps5
  go_wp2_with fail
  refine (Hs.out  _ ).mono ?_
  rintro e u0 ⟨⟨v, rfl, ho⟩, g⟩
  have k : Gr w u0 := Gr.trans (by (try show Gr _ _); repeat (with_reducible first | exact Gr.refl _ | refine Gr.drewN ?_ _ | refine Gr.grew ?_ _ _ | refine Gr.alloc ?_ _ | refine Gr.drew ?_)) g
  have Z1 := Lib.hid k.size
  replace G := Lib.hid (G.out.trans k)
  have R_w0 := Lib.hid ho.fin
  obtain ⟨a_w0, c_w0, rfl, -, -⟩ := ho.sl
  clear ho g k
  go_wp2_with fail
  refine (Hi.out  _ ).mono ?_
  rintro e u1 ⟨⟨v, rfl, ho⟩, g⟩
  have k : Gr u0 u1 := Gr.trans (by (try show Gr _ _); repeat (with_reducible first | exact Gr.refl _ | refine Gr.drewN ?_ _ | refine Gr.grew ?_ _ _ | refine Gr.alloc ?_ _ | refine Gr.drew ?_)) g
  have Z2 := Lib.hid k.size
  replace R_w0 := Lib.hid (R_w0.out.gr k)
  replace G := Lib.hid (G.out.trans k)
  have B_w0 := Lib.hid (Blk.gr (show Blk _ (u0.heap.size) [.int .i64 A, .int .i64 B, .slice a_w0 L.length c_w0] 35 from (by repeat (with_reducible first | assumption | exact Blk.atNew (by simp) | refine Blk.alloc ?_ _ | refine Blk.grew ?_ _ _ | refine Blk.drewN ?_ _ | refine Blk.drew ?_))) g)
  have R_g0 := Lib.hid ho.fin
  obtain ⟨a_g0, c_g0, rfl, -, -⟩ := ho.sl
  clear ho g k
  have p_w0_0 := B_w0.out.cellv 0
  have p_w0_1 := B_w0.out.cellv 1
  have p_w0_2 := B_w0.out.cellv 2
  go_wp2_with fail
  refine (L_eqPicture A B _ _ _ _ _ _ L _ (R_g0.out.gr (by (try show Gr _ _); repeat (with_reducible first | exact Gr.refl _ | refine Gr.drewN ?_ _ | refine Gr.grew ?_ _ _ | refine Gr.alloc ?_ _ | refine Gr.drew ?_))).fsl (R_w0.out.gr (by (try show Gr _ _); repeat (with_reducible first | exact Gr.refl _ | refine Gr.drewN ?_ _ | refine Gr.grew ?_ _ _ | refine Gr.alloc ?_ _ | refine Gr.drew ?_))).fsl (by unfold maxLen; omega)).mono ?_
  rintro e u2 ⟨rfl, g⟩
  clear p_w0_0 p_w0_1 p_w0_2
  have k : Gr u1 u2 := Gr.trans (by (try show Gr _ _); repeat (with_reducible first | exact Gr.refl _ | refine Gr.drewN ?_ _ | refine Gr.grew ?_ _ _ | refine Gr.alloc ?_ _ | refine Gr.drew ?_)) g
  have Z3 := Lib.hid k.size
  replace B_w0 := Lib.hid (B_w0.out.gr k)
  replace R_w0 := Lib.hid (R_w0.out.gr k)
  replace R_g0 := Lib.hid (R_g0.out.gr k)
  replace G := Lib.hid (G.out.trans k)
  have B_g0 := Lib.hid (Blk.gr (show Blk _ (u1.heap.size) [.int .i64 A, .int .i64 B, .slice a_g0 L.length c_g0] 35 from (by repeat (with_reducible first | assumption | exact Blk.atNew (by simp) | refine Blk.alloc ?_ _ | refine Blk.grew ?_ _ _ | refine Blk.drewN ?_ _ | refine Blk.drew ?_))) g)
  clear g k
  have p_g0_0 := B_g0.out.cellv 0
  have p_g0_1 := B_g0.out.cellv 1
  have p_g0_2 := B_g0.out.cellv 2
  obtain ⟨vs, own, hv⟩ := R_g0.out.row
  go_wp2_with fail
  refine (L_markPicture A B _ _ _ _ vs (1) _ own hv (by omega) (by omega) (by omega)).mono ?_
  rintro e u3 ⟨rfl, g, own1⟩
  clear p_g0_0 p_g0_1 p_g0_2
  have Z4 := Lib.hid g.by_.size
  replace B_w0 := Lib.hid (B_w0.out.wrote own g (by decide))
  replace B_g0 := Lib.hid (B_g0.out.wrote own g (by decide))
  replace R_w0 := Lib.hid (R_w0.out.wrote own g (by have := Z1.out; have := Z2.out; have := Z3.out; (try simp only [World.size_alloc, heap_size_grew] at *); omega))
  replace G := Lib.hid (G.out.wrote own g (by have := Z1.out; have := Z2.out; have := Z3.out; (try simp only [World.size_alloc, heap_size_grew] at *); omega))
  have M_g0 := Lib.hid own1
  clear own g hv own1
  have p_g0_0 := B_g0.out.cellv 0
  have p_g0_1 := B_g0.out.cellv 1
  have p_g0_2 := B_g0.out.cellv 2
  go_wp2_with fail
  refine (L_heldPicture A B _ _ _ _ 1 _ (M_g0.out.gr (by (try show Gr _ _); repeat (with_reducible first | exact Gr.refl _ | refine Gr.drewN ?_ _ | refine Gr.grew ?_ _ _ | refine Gr.alloc ?_ _ | refine Gr.drew ?_))) (by omega) (by omega) (by omega)).mono ?_
  rintro e u4 ⟨rfl, g⟩
  clear p_g0_0 p_g0_1 p_g0_2
  have k : Gr u3 u4 := Gr.trans (by (try show Gr _ _); repeat (with_reducible first | exact Gr.refl _ | refine Gr.drewN ?_ _ | refine Gr.grew ?_ _ _ | refine Gr.alloc ?_ _ | refine Gr.drew ?_)) g
  have Z5 := Lib.hid k.size
  replace B_w0 := Lib.hid (B_w0.out.gr k)
  replace B_g0 := Lib.hid (B_g0.out.gr k)
  replace R_w0 := Lib.hid (R_w0.out.gr k)
  replace M_g0 := Lib.hid (M_g0.out.gr k)
  replace G := Lib.hid (G.out.trans k)
  clear g k
  go_wp2_with fail
  refine (Hi.out  _ ).mono ?_
  rintro e u5 ⟨⟨v, rfl, ho⟩, g⟩
  have k : Gr u4 u5 := Gr.trans (by (try show Gr _ _); repeat (with_reducible first | exact Gr.refl _ | refine Gr.drewN ?_ _ | refine Gr.grew ?_ _ _ | refine Gr.alloc ?_ _ | refine Gr.drew ?_)) g
  have Z6 := Lib.hid k.size
  replace B_w0 := Lib.hid (B_w0.out.gr k)
  replace B_g0 := Lib.hid (B_g0.out.gr k)
  replace R_w0 := Lib.hid (R_w0.out.gr k)
  replace M_g0 := Lib.hid (M_g0.out.gr k)
  replace G := Lib.hid (G.out.trans k)
  have R_h0 := Lib.hid ho.fin
  obtain ⟨a_h0, c_h0, rfl, -, -⟩ := ho.sl
  clear ho g k
  have p_w0_0 := B_w0.out.cellv 0
  have p_w0_1 := B_w0.out.cellv 1
  have p_w0_2 := B_w0.out.cellv 2
  go_wp2_with fail
  refine (L_eqPicture A B _ _ _ _ _ _ L _ (R_h0.out.gr (by (try show Gr _ _); repeat (with_reducible first | exact Gr.refl _ | refine Gr.drewN ?_ _ | refine Gr.grew ?_ _ _ | refine Gr.alloc ?_ _ | refine Gr.drew ?_))).fsl (R_w0.out.gr (by (try show Gr _ _); repeat (with_reducible first | exact Gr.refl _ | refine Gr.drewN ?_ _ | refine Gr.grew ?_ _ _ | refine Gr.alloc ?_ _ | refine Gr.drew ?_))).fsl (by unfold maxLen; omega)).mono ?_
  rintro e u6 ⟨rfl, g⟩
  clear p_w0_0 p_w0_1 p_w0_2
  have k : Gr u5 u6 := Gr.trans (by (try show Gr _ _); repeat (with_reducible first | exact Gr.refl _ | refine Gr.drewN ?_ _ | refine Gr.grew ?_ _ _ | refine Gr.alloc ?_ _ | refine Gr.drew ?_)) g
  have Z7 := Lib.hid k.size
  replace B_w0 := Lib.hid (B_w0.out.gr k)
  replace B_g0 := Lib.hid (B_g0.out.gr k)
  replace R_w0 := Lib.hid (R_w0.out.gr k)
  replace R_h0 := Lib.hid (R_h0.out.gr k)
  replace M_g0 := Lib.hid (M_g0.out.gr k)
  replace G := Lib.hid (G.out.trans k)
  have B_h0 := Lib.hid (Blk.gr (show Blk _ (u5.heap.size) [.int .i64 A, .int .i64 B, .slice a_h0 L.length c_h0] 35 from (by repeat (with_reducible first | assumption | exact Blk.atNew (by simp) | refine Blk.alloc ?_ _ | refine Blk.grew ?_ _ _ | refine Blk.drewN ?_ _ | refine Blk.drew ?_))) g)
  clear g k
  have p_g0_0 := B_g0.out.cellv 0
  have p_g0_1 := B_g0.out.cellv 1
  have p_g0_2 := B_g0.out.cellv 2
  go_wp2_with fail
  refine (L_heldPicture A B _ _ _ _ 1 _ (M_g0.out.gr (by (try show Gr _ _); repeat (with_reducible first | exact Gr.refl _ | refine Gr.drewN ?_ _ | refine Gr.grew ?_ _ _ | refine Gr.alloc ?_ _ | refine Gr.drew ?_))) (by omega) (by omega) (by omega)).mono ?_
  rintro e u7 ⟨rfl, g⟩
  clear p_g0_0 p_g0_1 p_g0_2
  have k : Gr u6 u7 := Gr.trans (by (try show Gr _ _); repeat (with_reducible first | exact Gr.refl _ | refine Gr.drewN ?_ _ | refine Gr.grew ?_ _ _ | refine Gr.alloc ?_ _ | refine Gr.drew ?_)) g
  have Z8 := Lib.hid k.size
  replace B_w0 := Lib.hid (B_w0.out.gr k)
  replace B_g0 := Lib.hid (B_g0.out.gr k)
  replace B_h0 := Lib.hid (B_h0.out.gr k)
  replace R_w0 := Lib.hid (R_w0.out.gr k)
  replace R_h0 := Lib.hid (R_h0.out.gr k)
  replace M_g0 := Lib.hid (M_g0.out.gr k)
  replace G := Lib.hid (G.out.trans k)
  clear g k
  go_wp2
  go_ret
  exact ⟨rfl, G.out.trans (by (try show Gr _ _); repeat (with_reducible first | exact Gr.refl _ | refine Gr.drewN ?_ _ | refine Gr.grew ?_ _ _ | refine Gr.alloc ?_ _ | refine Gr.drew ?_))⟩

set_option maxRecDepth 20000 in
set_option maxHeartbeats 1000000 in
theorem L_FnExactLoadPicture (s : ByteArray) (w : World) (ls : s.size ≤ maxLen) :
    Calls Try.prog 5 #[.string s] w fun e w' => e = .returned (.bool true) ∧ ∃ os m, w' = w.grew os m := by
  by_cases hns : s.size ≤ 1048576
  · skip
    exact law_LoadPicture s hns _ _ _ _ w (gLd_len s) 
        (fun  w  => S_LoadPicture s w hns) (fun  w  => I_LoadPicture s w hns)
  · skip
    go_enter Try.func5, Try.ntmps5
    unfold maxLen at ls
    go_wp2
    go_ret
    exact ⟨rfl, (by (try show Gr _ _); repeat (with_reducible first | exact Gr.refl _ | refine Gr.drewN ?_ _ | refine Gr.grew ?_ _ _ | refine Gr.alloc ?_ _ | refine Gr.drew ?_))⟩

set_option maxRecDepth 100000 in
theorem fnExactLoadPicture_lifted (os : Os) (started : os.Started) (H : Type) (enc : TypeId × Value → H) :
    ReturnsInHanded {} Try.checked os 5 .any (Rows.fnExactLoadPictureSpec.pre6 enc Try.prog Try.f5 Rows.fnExactLoadPictureRow.domain false) (Rows.fnExactLoadPictureSpec.post enc Try.prog Try.f5 false true false false) := by
  refine returnsInHanded_of_change (C := Try.checked) own started (by kernel_rfl) Try.func5
    (ChangeSpec.witness6 (enc := enc) (C := Try.checked) false ⟨#[], #[.string ByteArray.empty], []⟩ 12 (by kernel_rfl) (by kernel_rfl) (by kernel_rfl) (by kernel_rfl)) ?_
  intro W base args ds gs before hval0 hW hcnd _
  have hval : ∀ (j : Nat) t v, Try.f5.params[j]? = some t → args[j]? = some v → Value.okWide Try.prog W .any base t v := hval0
  have hW' := hW
  obtain ⟨p, q, hA0, hV, rfl, hfz, hnd⟩ := hW
  have hA : DataW.TrodAll enc Try.prog W 0 (fun _ => true) true Try.f5.params.toList args.toList ds p := hA0
  rw [Try.params5] at hA hval
  obtain ⟨v0, vs0, d0, ds0, p0, q0, ha0, rfl, rfl, h0, r0⟩ := trodAll_cons hA
  obtain ⟨rfl, rfl, rfl⟩ := trodAll_nil r0
  obtain rfl : args = #[v0] := by cases args; simp_all
  obtain ⟨rfl, rfl⟩ := trodVars_none hV
  obtain ⟨s, rfl, -, -, ls⟩ := Go.ChangeMaps.open_string Try.underlying9 (hval 0 9 v0 rfl rfl) h0
  refine (L_FnExactLoadPicture s W ls).mono fun e W' ⟨he, hg⟩ => ?_
  exact ⟨_, he, post_true laidOut (by kernel_rfl) (by kernel_rfl) Try.underlying4 rfl hW' rfl rfl rfl (Gr.below hg)⟩

theorem fnExactLoadPicture_holds : Rows.FnExactLoadPictureSaid :=
  OpenClaim.holds_of_wide 5 Try.f5 rfl rfl rfl rfl rfl rfl rfl ⟨rfl, rfl, rfl, rfl, rfl⟩ rfl rfl rfl rfl rfl (by kernel_rfl) Try.func5 (by kernel_rfl)
    (of_decide_eq_true (by kernel_rfl)) (by unfold Func.isWrapper; first | (rw [if_pos (by decide +kernel)]; kernel_rfl) | (rw [if_neg (by decide +kernel)]; exact ⟨rfl, rfl⟩))
    (fun os started H enc _ => fnExactLoadPicture_lifted os started H enc)
#print axioms fnExactLoadPicture_holds
end Go.Proofs.Ytaidkokgafojeaa
