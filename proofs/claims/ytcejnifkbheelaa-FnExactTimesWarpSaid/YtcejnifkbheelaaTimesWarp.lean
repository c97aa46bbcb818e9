/- For all lists of numbers FnExactTimesWarp returns true. No conditions. MAXREC -/
import Derived.Test.YtcejnifkbheelaaRow
import Derived.Test.YtcejnifkbheelaaC47
import Derived.Test.YtcejnifkbheelaaLw
namespace Go.Proofs.Ytcejnifkbheelaa
open Go.ChangeShapes Go.WideShapes Go.ChangeAt Go.RowKit Go.Joins Go.Deep Go.Fx Go.Soft
theorem gTW_bound (xs ys : List Nat) : (if gTWok xs ys then lst 9 (gTWat xs ys) else []).length ≤ 1048576 := by
  split <;> simp

set_option maxRecDepth 20000 in
set_option maxHeartbeats 8000000 in
theorem law_TimesWarp (xa : Option Addr) (xc : Nat) (xx : List Nat) (ya : Option Addr) (yc : Nat) (yx : List Nat) (ok : Bool) (L : List Nat) (w : World) (hL : L.length ≤ 1048576) (hsx : FSl w xa xx.length xx) (hnx : xx.length ≤ 1048576) (hsy : FSl w ya yx.length yx) (hny : yx.length ≤ 1048576)
    (HS : ∀ (a_x : Option Addr) (c_x : Nat) (a_y : Option Addr) (c_y : Nat) (w : World), FSl w a_x xx.length xx → FSl w a_y yx.length yx → Calls Try.prog 20 #[.slice a_x xx.length c_x, .slice a_y yx.length c_y] w (PostF w ok L))
    (HI : ∀ (a_x : Option Addr) (c_x : Nat) (a_y : Option Addr) (c_y : Nat) (w : World), FSl w a_x xx.length xx → FSl w a_y yx.length yx → Calls Try.prog 22 #[.slice a_x xx.length c_x, .slice a_y yx.length c_y] w (PostF w ok L)) :
    Calls Try.prog 4 #[.slice xa xx.length xc, .slice ya yx.length yc] w fun e w' => e = .returned (.bool true) ∧ ∃ os m, w' = w.grew os m := by
  have Hs := Lib.hid HS
  have Hi := Lib.hid HI
  clear HS HI
  have G := Lib.hid (Gr.refl w)
  have A_x := Lib.hid hsx
  clear hsx
  have A_y := Lib.hid hsy
  clear hsy
  go_enter Try.func4, Try.ntmps4
  go_wp2_with fail
  refine (L_toFloat32S  _ _ _ xx _ (A_x.out.keep (G.out.trans (by (try show Gr _ _); repeat (with_reducible first | exact Gr.refl _ | refine Gr.drewN ?_ _ | refine Gr.grew ?_ _ _ | refine Gr.alloc ?_ _ | refine Gr.drew ?_))).kp) (by omega)).mono ?_
  rintro e u0 ⟨⟨v, rfl, ho⟩, g⟩
  have k : Gr w u0 := Gr.trans (by (try show Gr _ _); repeat (with_reducible first | exact Gr.refl _ | refine Gr.drewN ?_ _ | refine Gr.grew ?_ _ _ | refine Gr.alloc ?_ _ | refine Gr.drew ?_)) g
  have Z1 := Lib.hid k.size
  replace G := Lib.hid (G.out.trans k)
  have R_t_x_w0 := Lib.hid ho.fin
  obtain ⟨a_t_x_w0, c_t_x_w0, rfl, -, -⟩ := ho.sl
  clear ho g k
  go_wp2_with fail
  refine (L_toFloat32S  _ _ _ yx _ (A_y.out.keep (G.out.trans (by (try show Gr _ _); repeat (with_reducible first | exact Gr.refl _ | refine Gr.drewN ?_ _ | refine Gr.grew ?_ _ _ | refine Gr.alloc ?_ _ | refine Gr.drew ?_))).kp) (by omega)).mono ?_
  rintro e u1 ⟨⟨v, rfl, ho⟩, g⟩
  have k : Gr u0 u1 := Gr.trans (by (try show Gr _ _); repeat (with_reducible first | exact Gr.refl _ | refine Gr.drewN ?_ _ | refine Gr.grew ?_ _ _ | refine Gr.alloc ?_ _ | refine Gr.drew ?_)) g
  have Z2 := Lib.hid k.size
  replace R_t_x_w0 := Lib.hid (R_t_x_w0.out.gr k)
  replace G := Lib.hid (G.out.trans k)
  have R_t_y_w0 := Lib.hid ho.fin
  obtain ⟨a_t_y_w0, c_t_y_w0, rfl, -, -⟩ := ho.sl
  clear ho g k
  go_wp2_with fail
  refine (Hs.out _ _ _ _ _ (R_t_x_w0.out.fsl.keep (Gr.kp (by (try show Gr _ _); repeat (with_reducible first | exact Gr.refl _ | refine Gr.drewN ?_ _ | refine Gr.grew ?_ _ _ | refine Gr.alloc ?_ _ | refine Gr.drew ?_)))) (R_t_y_w0.out.fsl.keep (Gr.kp (by (try show Gr _ _); repeat (with_reducible first | exact Gr.refl _ | refine Gr.drewN ?_ _ | refine Gr.grew ?_ _ _ | refine Gr.alloc ?_ _ | refine Gr.drew ?_))))).mono ?_
  rintro e u2 ⟨⟨v, rfl, ho⟩, g⟩
  have k : Gr u1 u2 := Gr.trans (by (try show Gr _ _); repeat (with_reducible first | exact Gr.refl _ | refine Gr.drewN ?_ _ | refine Gr.grew ?_ _ _ | refine Gr.alloc ?_ _ | refine Gr.drew ?_)) g
  have Z3 := Lib.hid k.size
  replace R_t_x_w0 := Lib.hid (R_t_x_w0.out.gr k)
  replace R_t_y_w0 := Lib.hid (R_t_y_w0.out.gr k)
  replace G := Lib.hid (G.out.trans k)
  have R_w0 := Lib.hid ho.fin
  obtain ⟨a_w0, c_w0, rfl, -, -⟩ := ho.sl
  clear ho g k
  clear R_t_x_w0
  clear R_t_y_w0
  go_wp2_with fail
  refine (L_toFloat32S  _ _ _ xx _ (A_x.out.keep (G.out.trans (by (try show Gr _ _); repeat (with_reducible first | exact Gr.refl _ | refine Gr.drewN ?_ _ | refine Gr.grew ?_ _ _ | refine Gr.alloc ?_ _ | refine Gr.drew ?_))).kp) (by omega)).mono ?_
  rintro e u3 ⟨⟨v, rfl, ho⟩, g⟩
  have k : Gr u2 u3 := Gr.trans (by (try show Gr _ _); repeat (with_reducible first | exact Gr.refl _ | refine Gr.drewN ?_ _ | refine Gr.grew ?_ _ _ | refine Gr.alloc ?_ _ | refine Gr.drew ?_)) g
  have Z4 := Lib.hid k.size
  replace R_w0 := Lib.hid (R_w0.out.gr k)
  replace G := Lib.hid (G.out.trans k)
  have R_xx := Lib.hid ho.fin
  obtain ⟨a_xx, c_xx, rfl, -, -⟩ := ho.sl
  clear ho g k
  go_wp2_with fail
  refine (L_toFloat32S  _ _ _ yx _ (A_y.out.keep (G.out.trans (by (try show Gr _ _); repeat (with_reducible first | exact Gr.refl _ | refine Gr.drewN ?_ _ | refine Gr.grew ?_ _ _ | refine Gr.alloc ?_ _ | refine Gr.drew ?_))).kp) (by omega)).mono ?_
  rintro e u4 ⟨⟨v, rfl, ho⟩, g⟩
  have k : Gr u3 u4 := Gr.trans (by (try show Gr _ _); repeat (with_reducible first | exact Gr.refl _ | refine Gr.drewN ?_ _ | refine Gr.grew ?_ _ _ | refine Gr.alloc ?_ _ | refine Gr.drew ?_)) g
  have Z5 := Lib.hid k.size
  replace R_w0 := Lib.hid (R_w0.out.gr k)
  replace R_xx := Lib.hid (R_xx.out.gr k)
  replace G := Lib.hid (G.out.trans k)
  have R_xy := Lib.hid ho.fin
  obtain ⟨a_xy, c_xy, rfl, -, -⟩ := ho.sl
  clear ho g k
  go_wp2_with fail
  refine (Hi.out _ _ _ _ _ (R_xx.out.fsl.keep (Gr.kp (by (try show Gr _ _); repeat (with_reducible first | exact Gr.refl _ | refine Gr.drewN ?_ _ | refine Gr.grew ?_ _ _ | refine Gr.alloc ?_ _ | refine Gr.drew ?_)))) (R_xy.out.fsl.keep (Gr.kp (by (try show Gr _ _); repeat (with_reducible first | exact Gr.refl _ | refine Gr.drewN ?_ _ | refine Gr.grew ?_ _ _ | refine Gr.alloc ?_ _ | refine Gr.drew ?_))))).mono ?_
  rintro e u5 ⟨⟨v, rfl, ho⟩, g⟩
  have k : Gr u4 u5 := Gr.trans (by (try show Gr _ _); repeat (with_reducible first | exact Gr.refl _ | refine Gr.drewN ?_ _ | refine Gr.grew ?_ _ _ | refine Gr.alloc ?_ _ | refine Gr.drew ?_)) g
  have Z6 := Lib.hid k.size
  replace R_w0 := Lib.hid (R_w0.out.gr k)
  replace R_xx := Lib.hid (R_xx.out.gr k)
  replace R_xy := Lib.hid (R_xy.out.gr k)
  replace G := Lib.hid (G.out.trans k)
  have R_g0 := Lib.hid ho.fin
  obtain ⟨a_g0, c_g0, rfl, -, -⟩ := ho.sl
  clear ho g k
  go_wp2_with fail
  refine (L_eqFloat32S _ _ _ _ _ _ L _ (R_g0.out.gr (by (try show Gr _ _); repeat (with_reducible first | exact Gr.refl _ | refine Gr.drewN ?_ _ | refine Gr.grew ?_ _ _ | refine Gr.alloc ?_ _ | refine Gr.drew ?_))).fsl (R_w0.out.gr (by (try show Gr _ _); repeat (with_reducible first | exact Gr.refl _ | refine Gr.drewN ?_ _ | refine Gr.grew ?_ _ _ | refine Gr.alloc ?_ _ | refine Gr.drew ?_))).fsl (by unfold maxLen; omega)).mono ?_
  rintro e u6 ⟨rfl, q, hq⟩
  have g : Gr u5 u6 := by rw [hq]; exact (by (try show Gr _ _); repeat (with_reducible first | exact Gr.refl _ | refine Gr.drewN ?_ _ | refine Gr.grew ?_ _ _ | refine Gr.alloc ?_ _ | refine Gr.drew ?_))
  clear hq
  have k : Gr u5 u6 := Gr.trans (by (try show Gr _ _); repeat (with_reducible first | exact Gr.refl _ | refine Gr.drewN ?_ _ | refine Gr.grew ?_ _ _ | refine Gr.alloc ?_ _ | refine Gr.drew ?_)) g
  have Z7 := Lib.hid k.size
  replace R_w0 := Lib.hid (R_w0.out.gr k)
  replace R_xx := Lib.hid (R_xx.out.gr k)
  replace R_xy := Lib.hid (R_xy.out.gr k)
  replace R_g0 := Lib.hid (R_g0.out.gr k)
  replace G := Lib.hid (G.out.trans k)
  clear g k
  go_wp2_with fail
  refine (L_toFloat32S  _ _ _ xx _ (A_x.out.keep (G.out.trans (by (try show Gr _ _); repeat (with_reducible first | exact Gr.refl _ | refine Gr.drewN ?_ _ | refine Gr.grew ?_ _ _ | refine Gr.alloc ?_ _ | refine Gr.drew ?_))).kp) (by omega)).mono ?_
  rintro e u7 ⟨⟨v, rfl, ho⟩, g⟩
  have k : Gr u6 u7 := Gr.trans (by (try show Gr _ _); repeat (with_reducible first | exact Gr.refl _ | refine Gr.drewN ?_ _ | refine Gr.grew ?_ _ _ | refine Gr.alloc ?_ _ | refine Gr.drew ?_)) g
  have Z8 := Lib.hid k.size
  replace R_w0 := Lib.hid (R_w0.out.gr k)
  replace R_xx := Lib.hid (R_xx.out.gr k)
  replace R_xy := Lib.hid (R_xy.out.gr k)
  replace R_g0 := Lib.hid (R_g0.out.gr k)
  replace G := Lib.hid (G.out.trans k)
  have R_yx := Lib.hid ho.fin
  obtain ⟨a_yx, c_yx, rfl, -, -⟩ := ho.sl
  clear ho g k
  go_wp2_with fail
  refine (L_eqFloat32S _ _ _ _ _ _ xx _ (R_xx.out.gr (by (try show Gr _ _); repeat (with_reducible first | exact Gr.refl _ | refine Gr.drewN ?_ _ | refine Gr.grew ?_ _ _ | refine Gr.alloc ?_ _ | refine Gr.drew ?_))).fsl (R_yx.out.gr (by (try show Gr _ _); repeat (with_reducible first | exact Gr.refl _ | refine Gr.drewN ?_ _ | refine Gr.grew ?_ _ _ | refine Gr.alloc ?_ _ | refine Gr.drew ?_))).fsl (by unfold maxLen; omega)).mono ?_
  rintro e u8 ⟨rfl, q, hq⟩
  have g : Gr u7 u8 := by rw [hq]; exact (by (try show Gr _ _); repeat (with_reducible first | exact Gr.refl _ | refine Gr.drewN ?_ _ | refine Gr.grew ?_ _ _ | refine Gr.alloc ?_ _ | refine Gr.drew ?_))
  clear hq
  have k : Gr u7 u8 := Gr.trans (by (try show Gr _ _); repeat (with_reducible first | exact Gr.refl _ | refine Gr.drewN ?_ _ | refine Gr.grew ?_ _ _ | refine Gr.alloc ?_ _ | refine Gr.drew ?_)) g
  have Z9 := Lib.hid k.size
  replace R_w0 := Lib.hid (R_w0.out.gr k)
  replace R_xx := Lib.hid (R_xx.out.gr k)
  replace R_xy := Lib.hid (R_xy.out.gr k)
  replace R_g0 := Lib.hid (R_g0.out.gr k)
  replace R_yx := Lib.hid (R_yx.out.gr k)
  replace G := Lib.hid (G.out.trans k)
  clear g k R_yx
  go_wp2_with fail
  refine (L_toFloat32S  _ _ _ yx _ (A_y.out.keep (G.out.trans (by (try show Gr _ _); repeat (with_reducible first | exact Gr.refl _ | refine Gr.drewN ?_ _ | refine Gr.grew ?_ _ _ | refine Gr.alloc ?_ _ | refine Gr.drew ?_))).kp) (by omega)).mono ?_
  rintro e u9 ⟨⟨v, rfl, ho⟩, g⟩
  have k : Gr u8 u9 := Gr.trans (by (try show Gr _ _); repeat (with_reducible first | exact Gr.refl _ | refine Gr.drewN ?_ _ | refine Gr.grew ?_ _ _ | refine Gr.alloc ?_ _ | refine Gr.drew ?_)) g
  have Z10 := Lib.hid k.size
  replace R_w0 := Lib.hid (R_w0.out.gr k)
  replace R_xx := Lib.hid (R_xx.out.gr k)
  replace R_xy := Lib.hid (R_xy.out.gr k)
  replace R_g0 := Lib.hid (R_g0.out.gr k)
  replace G := Lib.hid (G.out.trans k)
  have R_yy := Lib.hid ho.fin
  obtain ⟨a_yy, c_yy, rfl, -, -⟩ := ho.sl
  clear ho g k
  go_wp2_with fail
  refine (L_eqFloat32S _ _ _ _ _ _ yx _ (R_xy.out.gr (by (try show Gr _ _); repeat (with_reducible first | exact Gr.refl _ | refine Gr.drewN ?_ _ | refine Gr.grew ?_ _ _ | refine Gr.alloc ?_ _ | refine Gr.drew ?_))).fsl (R_yy.out.gr (by (try show Gr _ _); repeat (with_reducible first | exact Gr.refl _ | refine Gr.drewN ?_ _ | refine Gr.grew ?_ _ _ | refine Gr.alloc ?_ _ | refine Gr.drew ?_))).fsl (by unfold maxLen; omega)).mono ?_
  rintro e u10 ⟨rfl, q, hq⟩
  have g : Gr u9 u10 := by rw [hq]; exact (by (try show Gr _ _); repeat (with_reducible first | exact Gr.refl _ | refine Gr.drewN ?_ _ | refine Gr.grew ?_ _ _ | refine Gr.alloc ?_ _ | refine Gr.drew ?_))
  clear hq
  have k : Gr u9 u10 := Gr.trans (by (try show Gr _ _); repeat (with_reducible first | exact Gr.refl _ | refine Gr.drewN ?_ _ | refine Gr.grew ?_ _ _ | refine Gr.alloc ?_ _ | refine Gr.drew ?_)) g
  have Z11 := Lib.hid k.size
  replace R_w0 := Lib.hid (R_w0.out.gr k)
  replace R_xx := Lib.hid (R_xx.out.gr k)
  replace R_xy := Lib.hid (R_xy.out.gr k)
  replace R_g0 := Lib.hid (R_g0.out.gr k)
  replace R_yy := Lib.hid (R_yy.out.gr k)
  replace G := Lib.hid (G.out.trans k)
  clear g k R_yy
  obtain ⟨vs, own, hv⟩ := R_xx.out.row
  go_wp2_with fail
  refine (L_markFloat32S _ _ _ _ vs (1) _ own hv (by omega) (by omega) (by omega)).mono ?_
  rintro e u11 ⟨rfl, g, own1⟩
  have Z12 := Lib.hid g.by_.size
  replace R_w0 := Lib.hid (R_w0.out.wrote own g (by have := Z1.out; have := Z2.out; have := Z3.out; have := Z4.out; have := Z5.out; have := Z6.out; have := Z7.out; have := Z8.out; have := Z9.out; have := Z10.out; have := Z11.out; (try simp only [World.size_alloc, heap_size_grew] at *); omega))
  replace R_xy := Lib.hid (R_xy.out.wrote own g (by have := Z1.out; have := Z2.out; have := Z3.out; have := Z4.out; have := Z5.out; have := Z6.out; have := Z7.out; have := Z8.out; have := Z9.out; have := Z10.out; have := Z11.out; (try simp only [World.size_alloc, heap_size_grew] at *); omega))
  replace R_g0 := Lib.hid (R_g0.out.wrote own g (by have := Z1.out; have := Z2.out; have := Z3.out; have := Z4.out; have := Z5.out; have := Z6.out; have := Z7.out; have := Z8.out; have := Z9.out; have := Z10.out; have := Z11.out; (try simp only [World.size_alloc, heap_size_grew] at *); omega))
  replace G := Lib.hid (G.out.wrote own g (by have := Z1.out; have := Z2.out; have := Z3.out; have := Z4.out; have := Z5.out; have := Z6.out; have := Z7.out; have := Z8.out; have := Z9.out; have := Z10.out; have := Z11.out; (try simp only [World.size_alloc, heap_size_grew] at *); omega))
  have M_xx := Lib.hid own1
  clear own g hv own1
  obtain ⟨vs, own, hv⟩ := R_xy.out.row
  go_wp2_with fail
  refine (L_markFloat32S _ _ _ _ vs (1 + (xx.length : Int)) _ own hv (by omega) (by omega) (by omega)).mono ?_
  rintro e u12 ⟨rfl, g, own1⟩
  have Z13 := Lib.hid g.by_.size
  replace R_w0 := Lib.hid (R_w0.out.wrote own g (by have := Z1.out; have := Z2.out; have := Z3.out; have := Z4.out; have := Z5.out; have := Z6.out; have := Z7.out; have := Z8.out; have := Z9.out; have := Z10.out; have := Z11.out; have := Z12.out; (try simp only [World.size_alloc, heap_size_grew] at *); omega))
  replace R_g0 := Lib.hid (R_g0.out.wrote own g (by have := Z1.out; have := Z2.out; have := Z3.out; have := Z4.out; have := Z5.out; have := Z6.out; have := Z7.out; have := Z8.out; have := Z9.out; have := Z10.out; have := Z11.out; have := Z12.out; (try simp only [World.size_alloc, heap_size_grew] at *); omega))
  replace M_xx := Lib.hid (M_xx.out.wrote own g (by have := Z1.out; have := Z2.out; have := Z3.out; have := Z4.out; have := Z5.out; have := Z6.out; have := Z7.out; have := Z8.out; have := Z9.out; have := Z10.out; have := Z11.out; have := Z12.out; (try simp only [World.size_alloc, heap_size_grew] at *); omega))
  replace G := Lib.hid (G.out.wrote own g (by have := Z1.out; have := Z2.out; have := Z3.out; have := Z4.out; have := Z5.out; have := Z6.out; have := Z7.out; have := Z8.out; have := Z9.out; have := Z10.out; have := Z11.out; have := Z12.out; (try simp only [World.size_alloc, heap_size_grew] at *); omega))
  have M_xy := Lib.hid own1
  clear own g hv own1
  go_wp2_with fail
  refine (L_eqFloat32S _ _ _ _ _ _ L _ (R_g0.out.gr (by (try show Gr _ _); repeat (with_reducible first | exact Gr.refl _ | refine Gr.drewN ?_ _ | refine Gr.grew ?_ _ _ | refine Gr.alloc ?_ _ | refine Gr.drew ?_))).fsl (R_w0.out.gr (by (try show Gr _ _); repeat (with_reducible first | exact Gr.refl _ | refine Gr.drewN ?_ _ | refine Gr.grew ?_ _ _ | refine Gr.alloc ?_ _ | refine Gr.drew ?_))).fsl (by unfold maxLen; omega)).mono ?_
  rintro e u13 ⟨rfl, q, hq⟩
  have g : Gr u12 u13 := by rw [hq]; exact (by (try show Gr _ _); repeat (with_reducible first | exact Gr.refl _ | refine Gr.drewN ?_ _ | refine Gr.grew ?_ _ _ | refine Gr.alloc ?_ _ | refine Gr.drew ?_))
  clear hq
  have k : Gr u12 u13 := Gr.trans (by (try show Gr _ _); repeat (with_reducible first | exact Gr.refl _ | refine Gr.drewN ?_ _ | refine Gr.grew ?_ _ _ | refine Gr.alloc ?_ _ | refine Gr.drew ?_)) g
  have Z14 := Lib.hid k.size
  replace R_w0 := Lib.hid (R_w0.out.gr k)
  replace R_g0 := Lib.hid (R_g0.out.gr k)
  replace M_xx := Lib.hid (M_xx.out.gr k)
  replace M_xy := Lib.hid (M_xy.out.gr k)
  replace G := Lib.hid (G.out.trans k)
  clear g k
  obtain ⟨vs, own, hv⟩ := R_g0.out.row
  go_wp2_with fail
  refine (L_markFloat32S _ _ _ _ vs (1) _ own hv (by omega) (by omega) (by omega)).mono ?_
  rintro e u14 ⟨rfl, g, own1⟩
  have Z15 := Lib.hid g.by_.size
  replace R_w0 := Lib.hid (R_w0.out.wrote own g (by have := Z1.out; have := Z2.out; have := Z3.out; have := Z4.out; have := Z5.out; have := Z6.out; have := Z7.out; have := Z8.out; have := Z9.out; have := Z10.out; have := Z11.out; have := Z12.out; have := Z13.out; have := Z14.out; (try simp only [World.size_alloc, heap_size_grew] at *); omega))
  replace M_xx := Lib.hid (M_xx.out.wrote own g (by have := Z1.out; have := Z2.out; have := Z3.out; have := Z4.out; have := Z5.out; have := Z6.out; have := Z7.out; have := Z8.out; have := Z9.out; have := Z10.out; have := Z11.out; have := Z12.out; have := Z13.out; have := Z14.out; (try simp only [World.size_alloc, heap_size_grew] at *); omega))
  replace M_xy := Lib.hid (M_xy.out.wrote own g (by have := Z1.out; have := Z2.out; have := Z3.out; have := Z4.out; have := Z5.out; have := Z6.out; have := Z7.out; have := Z8.out; have := Z9.out; have := Z10.out; have := Z11.out; have := Z12.out; have := Z13.out; have := Z14.out; (try simp only [World.size_alloc, heap_size_grew] at *); omega))
  replace G := Lib.hid (G.out.wrote own g (by have := Z1.out; have := Z2.out; have := Z3.out; have := Z4.out; have := Z5.out; have := Z6.out; have := Z7.out; have := Z8.out; have := Z9.out; have := Z10.out; have := Z11.out; have := Z12.out; have := Z13.out; have := Z14.out; (try simp only [World.size_alloc, heap_size_grew] at *); omega))
  have M_g0 := Lib.hid own1
  clear own g hv own1
  go_wp2_with fail
  refine (L_heldFloat32S _ _ _ _ 1 _ (M_g0.out.gr (by (try show Gr _ _); repeat (with_reducible first | exact Gr.refl _ | refine Gr.drewN ?_ _ | refine Gr.grew ?_ _ _ | refine Gr.alloc ?_ _ | refine Gr.drew ?_))) (by omega) (by omega) (by omega)).mono ?_
  rintro e u15 ⟨rfl, q, hq⟩
  have g : Gr u14 u15 := by rw [hq]; exact (by (try show Gr _ _); repeat (with_reducible first | exact Gr.refl _ | refine Gr.drewN ?_ _ | refine Gr.grew ?_ _ _ | refine Gr.alloc ?_ _ | refine Gr.drew ?_))
  clear hq
  have k : Gr u14 u15 := Gr.trans (by (try show Gr _ _); repeat (with_reducible first | exact Gr.refl _ | refine Gr.drewN ?_ _ | refine Gr.grew ?_ _ _ | refine Gr.alloc ?_ _ | refine Gr.drew ?_)) g
  have Z16 := Lib.hid k.size
  replace R_w0 := Lib.hid (R_w0.out.gr k)
  replace M_xx := Lib.hid (M_xx.out.gr k)
  replace M_xy := Lib.hid (M_xy.out.gr k)
  replace M_g0 := Lib.hid (M_g0.out.gr k)
  replace G := Lib.hid (G.out.trans k)
  clear g k
  go_wp2_with fail
  refine (L_toFloat32S  _ _ _ xx _ (A_x.out.keep (G.out.trans (by (try show Gr _ _); repeat (with_reducible first | exact Gr.refl _ | refine Gr.drewN ?_ _ | refine Gr.grew ?_ _ _ | refine Gr.alloc ?_ _ | refine Gr.drew ?_))).kp) (by omega)).mono ?_
  rintro e u16 ⟨⟨v, rfl, ho⟩, g⟩
  have k : Gr u15 u16 := Gr.trans (by (try show Gr _ _); repeat (with_reducible first | exact Gr.refl _ | refine Gr.drewN ?_ _ | refine Gr.grew ?_ _ _ | refine Gr.alloc ?_ _ | refine Gr.drew ?_)) g
  have Z17 := Lib.hid k.size
  replace R_w0 := Lib.hid (R_w0.out.gr k)
  replace M_xx := Lib.hid (M_xx.out.gr k)
  replace M_xy := Lib.hid (M_xy.out.gr k)
  replace M_g0 := Lib.hid (M_g0.out.gr k)
  replace G := Lib.hid (G.out.trans k)
  have R_t_x_h0 := Lib.hid ho.fin
  obtain ⟨a_t_x_h0, c_t_x_h0, rfl, -, -⟩ := ho.sl
  clear ho g k
  go_wp2_with fail
  refine (L_toFloat32S  _ _ _ yx _ (A_y.out.keep (G.out.trans (by (try show Gr _ _); repeat (with_reducible first | exact Gr.refl _ | refine Gr.drewN ?_ _ | refine Gr.grew ?_ _ _ | refine Gr.alloc ?_ _ | refine Gr.drew ?_))).kp) (by omega)).mono ?_
  rintro e u17 ⟨⟨v, rfl, ho⟩, g⟩
  have k : Gr u16 u17 := Gr.trans (by (try show Gr _ _); repeat (with_reducible first | exact Gr.refl _ | refine Gr.drewN ?_ _ | refine Gr.grew ?_ _ _ | refine Gr.alloc ?_ _ | refine Gr.drew ?_)) g
  have Z18 := Lib.hid k.size
  replace R_w0 := Lib.hid (R_w0.out.gr k)
  replace R_t_x_h0 := Lib.hid (R_t_x_h0.out.gr k)
  replace M_xx := Lib.hid (M_xx.out.gr k)
  replace M_xy := Lib.hid (M_xy.out.gr k)
  replace M_g0 := Lib.hid (M_g0.out.gr k)
  replace G := Lib.hid (G.out.trans k)
  have R_t_y_h0 := Lib.hid ho.fin
  obtain ⟨a_t_y_h0, c_t_y_h0, rfl, -, -⟩ := ho.sl
  clear ho g k
  go_wp2_with fail
  refine (Hi.out _ _ _ _ _ (R_t_x_h0.out.fsl.keep (Gr.kp (by (try show Gr _ _); repeat (with_reducible first | exact Gr.refl _ | refine Gr.drewN ?_ _ | refine Gr.grew ?_ _ _ | refine Gr.alloc ?_ _ | refine Gr.drew ?_)))) (R_t_y_h0.out.fsl.keep (Gr.kp (by (try show Gr _ _); repeat (with_reducible first | exact Gr.refl _ | refine Gr.drewN ?_ _ | refine Gr.grew ?_ _ _ | refine Gr.alloc ?_ _ | refine Gr.drew ?_))))).mono ?_
  rintro e u18 ⟨⟨v, rfl, ho⟩, g⟩
  have k : Gr u17 u18 := Gr.trans (by (try show Gr _ _); repeat (with_reducible first | exact Gr.refl _ | refine Gr.drewN ?_ _ | refine Gr.grew ?_ _ _ | refine Gr.alloc ?_ _ | refine Gr.drew ?_)) g
  have Z19 := Lib.hid k.size
  replace R_w0 := Lib.hid (R_w0.out.gr k)
  replace R_t_x_h0 := Lib.hid (R_t_x_h0.out.gr k)
  replace R_t_y_h0 := Lib.hid (R_t_y_h0.out.gr k)
  replace M_xx := Lib.hid (M_xx.out.gr k)
  replace M_xy := Lib.hid (M_xy.out.gr k)
  replace M_g0 := Lib.hid (M_g0.out.gr k)
  replace G := Lib.hid (G.out.trans k)
  have R_h0 := Lib.hid ho.fin
  obtain ⟨a_h0, c_h0, rfl, -, -⟩ := ho.sl
  clear ho g k
  clear R_t_x_h0
  clear R_t_y_h0
  go_wp2_with fail
  refine (L_eqFloat32S _ _ _ _ _ _ L _ (R_h0.out.gr (by (try show Gr _ _); repeat (with_reducible first | exact Gr.refl _ | refine Gr.drewN ?_ _ | refine Gr.grew ?_ _ _ | refine Gr.alloc ?_ _ | refine Gr.drew ?_))).fsl (R_w0.out.gr (by (try show Gr _ _); repeat (with_reducible first | exact Gr.refl _ | refine Gr.drewN ?_ _ | refine Gr.grew ?_ _ _ | refine Gr.alloc ?_ _ | refine Gr.drew ?_))).fsl (by unfold maxLen; omega)).mono ?_
  rintro e u19 ⟨rfl, q, hq⟩
  have g : Gr u18 u19 := by rw [hq]; exact (by (try show Gr _ _); repeat (with_reducible first | exact Gr.refl _ | refine Gr.drewN ?_ _ | refine Gr.grew ?_ _ _ | refine Gr.alloc ?_ _ | refine Gr.drew ?_))
  clear hq
  have k : Gr u18 u19 := Gr.trans (by (try show Gr _ _); repeat (with_reducible first | exact Gr.refl _ | refine Gr.drewN ?_ _ | refine Gr.grew ?_ _ _ | refine Gr.alloc ?_ _ | refine Gr.drew ?_)) g
  have Z20 := Lib.hid k.size
  replace R_w0 := Lib.hid (R_w0.out.gr k)
  replace R_h0 := Lib.hid (R_h0.out.gr k)
  replace M_xx := Lib.hid (M_xx.out.gr k)
  replace M_xy := Lib.hid (M_xy.out.gr k)
  replace M_g0 := Lib.hid (M_g0.out.gr k)
  replace G := Lib.hid (G.out.trans k)
  clear g k
  go_wp2_with fail
  refine (L_heldFloat32S _ _ _ _ 1 _ (M_g0.out.gr (by (try show Gr _ _); repeat (with_reducible first | exact Gr.refl _ | refine Gr.drewN ?_ _ | refine Gr.grew ?_ _ _ | refine Gr.alloc ?_ _ | refine Gr.drew ?_))) (by omega) (by omega) (by omega)).mono ?_
  rintro e u20 ⟨rfl, q, hq⟩
  have g : Gr u19 u20 := by rw [hq]; exact (by (try show Gr _ _); repeat (with_reducible first | exact Gr.refl _ | refine Gr.drewN ?_ _ | refine Gr.grew ?_ _ _ | refine Gr.alloc ?_ _ | refine Gr.drew ?_))
  clear hq
  have k : Gr u19 u20 := Gr.trans (by (try show Gr _ _); repeat (with_reducible first | exact Gr.refl _ | refine Gr.drewN ?_ _ | refine Gr.grew ?_ _ _ | refine Gr.alloc ?_ _ | refine Gr.drew ?_)) g
  have Z21 := Lib.hid k.size
  replace R_w0 := Lib.hid (R_w0.out.gr k)
  replace R_h0 := Lib.hid (R_h0.out.gr k)
  replace M_xx := Lib.hid (M_xx.out.gr k)
  replace M_xy := Lib.hid (M_xy.out.gr k)
  replace M_g0 := Lib.hid (M_g0.out.gr k)
  replace G := Lib.hid (G.out.trans k)
  clear g k
  go_wp2
  go_ret
  exact ⟨rfl, G.out.trans (by (try show Gr _ _); repeat (with_reducible first | exact Gr.refl _ | refine Gr.drewN ?_ _ | refine Gr.grew ?_ _ _ | refine Gr.alloc ?_ _ | refine Gr.drew ?_))⟩

set_option maxRecDepth 20000 in
set_option maxHeartbeats 1000000 in
theorem L_FnExactTimesWarp (xa : Option Addr) (xn xc : Nat) (xx : List Nat) (ya : Option Addr) (yn yc : Nat) (yx : List Nat) (w : World) (fx : FSl w xa xn xx) (lx : xn ≤ maxLen) (fy : FSl w ya yn yx) (ly : yn ≤ maxLen) :
    Calls Try.prog 4 #[.slice xa xn xc, .slice ya yn yc] w fun e w' => e = .returned (.bool true) ∧ ∃ os m, w' = w.grew os m := by
  obtain rfl := fx.len
  obtain rfl := fy.len
  by_cases hnx : xx.length ≤ 1048576
  · skip
    by_cases hny : yx.length ≤ 1048576
    · skip
      exact law_TimesWarp xa xc xx ya yc yx _ _ w (gTW_bound _ _) fx hnx fy hny
          (fun a_x c_x a_y c_y w f_x f_y => S_TimesWarp a_x a_y c_x c_y xx yx w f_x f_y (by omega) (by omega)) (fun a_x c_x a_y c_y w f_x f_y => I_TimesWarp a_x a_y c_x c_y xx yx w f_x f_y (by omega) (by omega))
    · clear fx fy
      go_enter Try.func4, Try.ntmps4
      unfold maxLen at ly
      go_wp2
      go_ret
      exact ⟨rfl, (by (try show Gr _ _); repeat (with_reducible first | exact Gr.refl _ | refine Gr.drewN ?_ _ | refine Gr.grew ?_ _ _ | refine Gr.alloc ?_ _ | refine Gr.drew ?_))⟩
  · clear fx fy
    go_enter Try.func4, Try.ntmps4
    unfold maxLen at lx
    go_wp2
    go_ret
    exact ⟨rfl, (by (try show Gr _ _); repeat (with_reducible first | exact Gr.refl _ | refine Gr.drewN ?_ _ | refine Gr.grew ?_ _ _ | refine Gr.alloc ?_ _ | refine Gr.drew ?_))⟩

set_option maxRecDepth 100000 in
theorem fnExactTimesWarp_lifted (os : Os) (started : os.Started) (H : Type) (enc : TypeId × Value → H) :
    ReturnsInHanded {} Try.checked os 4 .any (Rows.fnExactTimesWarpSpec.pre6 enc Try.prog Try.f4 Rows.fnExactTimesWarpRow.domain false) (Rows.fnExactTimesWarpSpec.post enc Try.prog Try.f4 false true false false) := by
  refine returnsInHanded_of_change (C := Try.checked) own started (by kernel_rfl) Try.func4
    (ChangeSpec.witness6 (enc := enc) (C := Try.checked) false ⟨#[], #[.slice none 0 0, .slice none 0 0], []⟩ 12 (by kernel_rfl) (by kernel_rfl) (by kernel_rfl) (by kernel_rfl)) ?_
  intro W base args ds gs before hval0 hW hcnd _
  have hval : ∀ (j : Nat) t v, Try.f4.params[j]? = some t → args[j]? = some v → Value.okWide Try.prog W .any base t v := hval0
  have hW' := hW
  obtain ⟨p, q, hA0, hV, rfl, hfz, hnd⟩ := hW
  have hA : DataW.TrodAll enc Try.prog W 0 (fun _ => true) true Try.f4.params.toList args.toList ds p := hA0
  rw [Try.params4] at hA hval
  obtain ⟨v0, vs0, d0, ds0, p0, q0, ha0, rfl, rfl, h0, r0⟩ := trodAll_cons hA
  obtain ⟨v1, vs1, d1, ds1, p1, q1, rfl, rfl, rfl, h1, r1⟩ := trodAll_cons r0
  obtain ⟨rfl, rfl, rfl⟩ := trodAll_nil r1
  obtain rfl : args = #[v0, v1] := by cases args; simp_all
  obtain ⟨rfl, rfl⟩ := trodVars_none hV
  obtain ⟨xa, xn, xc, xx, rfl, fx, lx⟩ := open_fsl Try.underlying28 Try.underlying77 (by kernel_rfl) (hval 0 28 v0 rfl rfl) h0
  obtain ⟨ya, yn, yc, yx, rfl, fy, ly⟩ := open_fsl Try.underlying28 Try.underlying77 (by kernel_rfl) (hval 1 28 v1 rfl rfl) h1
  refine (L_FnExactTimesWarp xa xn xc xx ya yn yc yx W fx lx fy ly).mono fun e W' ⟨he, hg⟩ => ?_
  exact ⟨_, he, post_true laidOut (by kernel_rfl) (by kernel_rfl) Try.underlying4 rfl hW' rfl rfl rfl (Gr.below hg)⟩

theorem fnExactTimesWarp_holds : Rows.FnExactTimesWarpSaid :=
  OpenClaim.holds_of_wide 4 Try.f4 rfl rfl rfl rfl rfl rfl rfl ⟨rfl, rfl, rfl, rfl, rfl⟩ rfl rfl rfl rfl rfl (by kernel_rfl) Try.func4 (by kernel_rfl)
    (of_decide_eq_true (by kernel_rfl)) (by unfold Func.isWrapper; first | (rw [if_pos (by decide +kernel)]; kernel_rfl) | (rw [if_neg (by decide +kernel)]; exact ⟨rfl, rfl⟩))
    (fun os started H enc _ => fnExactTimesWarp_lifted os started H enc)
#print axioms fnExactTimesWarp_holds
end Go.Proofs.Ytcejnifkbheelaa
