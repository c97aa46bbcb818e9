/- Contracts: GuidedMap. MAXREC -/
import Derived.Test.YtaidkokgafojeaaProg
import Derived.Test.YtaidkokgafojeaaC99
import Derived.Test.YtaidkokgafojeaaC29
import Derived.Test.YtaidkokgafojeaaC18
namespace Go.Proofs.Ytaidkokgafojeaa
open Go.RowKit Go.Fx Go.Soft
def gGuOk (W H U V r : Int) (n m : Nat) : Bool := gTwo U V W H m n && gIn r 0 3
theorem gGuOk_false {W H U V r : Int} {n m : Nat} (h : gGuOk W H U V r n m = false) : gPic W H n = false ∨ (gPic W H n = true ∧ gPic U V m = false) ∨ (gPic W H n = true ∧ gPic U V m = true ∧ ¬ U = W) ∨ (gPic W H n = true ∧ gPic U V m = true ∧ U = W ∧ ¬ V = H) ∨ (gPic W H n = true ∧ gPic U V m = true ∧ U = W ∧ V = H ∧ gIn r 0 3 = false) := by
  unfold gGuOk gTwo at h
  cases h1 : gPic W H n
  · exact .inl rfl
  · cases h2 : gPic U V m
    · exact .inr (.inl ⟨rfl, rfl⟩)
    · by_cases h3 : U = W
      · by_cases h4 : V = H
        · refine .inr (.inr (.inr (.inr ⟨rfl, rfl, h3, h4, ?_⟩)))
          cases h5 : gIn r 0 3
          · rfl
          · rw [h1, h2, h5] at h; subst h3 h4; simp at h
        · exact .inr (.inr (.inr (.inl ⟨rfl, rfl, h3, h4⟩)))
      · exact .inr (.inr (.inl ⟨rfl, rfl, h3⟩))
theorem tells_Guided (W H b bg rb nb ca cg near N r : Nat) (a ag : Option Addr) (ms gs : List Nat) (w : World) (m1 : MP w b W H a ms.length ca ms) (g1 : MP w bg W H ag gs.length cg gs) (cr : w.cell? ⟨rb, 0, none⟩ = some (.int .i64 r)) (cn : w.cell? ⟨nb, 0, none⟩ = some (.float .f32 near)) (hN : FE .f32 near N)
    (hr : r ≤ 3) (hW : W ≤ 24) (hH : H ≤ 24) (hn : ms.length = W * H) (hgl : gs.length = W * H) :
    Tells w 99 #[.pointer (some ⟨b, 0, none⟩), .pointer (some ⟨rb, 0, none⟩), .pointer (some ⟨bg, 0, none⟩), .pointer (some ⟨nb, 0, none⟩)] W H (fun x y => gGuAt ms gs W H N r (x + W * y)) :=
  ⟨Try.call99, fun x y hx hy w1 g => I_Guided_1 W H b bg rb nb ca cg near N r x y a ag ms gs w1 (m1.gr g) (g1.gr g) (g.cell cr) (g.cell cn) hN hr hW hH hn hgl hx hy⟩
set_option maxRecDepth 20000 in
set_option maxHeartbeats 4000000 in
theorem I_GuidedMap (W H U V r : Int) (a b : Option Addr) (ca cb near N : Nat) (ms gs : List Nat) (w : World) (fx : FSl w a ms.length ms) (fy : FSl w b gs.length gs) (hn : ms.length ≤ 1048576) (hm : gs.length ≤ 1048576) (hN : FE .f32 near N) :
    Calls Try.prog 43 #[.agg #[.int .i64 W, .int .i64 H, .slice a ms.length ca], .agg #[.int .i64 U, .int .i64 V, .slice b gs.length cb], .int .i64 r, .float .f32 near] w
      (PostP w (gW (gGuOk W H U V r ms.length gs.length) W) (gW (gGuOk W H U V r ms.length gs.length) H) (gGuOk W H U V r ms.length gs.length) (gVals (gGuOk W H U V r ms.length gs.length) ms.length (gGuAt ms gs W.toNat H.toNat N r.toNat))) := by
  have hn' : ms.length ≤ maxLen := by unfold maxLen; omega
  have hm' : gs.length ≤ maxLen := by unfold maxLen; omega
  have Fx := Lib.hid fx
  have Fy := Lib.hid fy
  clear fx fy
  cases hT : gGuOk W H U V r ms.length gs.length
  · rcases gGuOk_false hT with t1 | ⟨t1, t2⟩ | ⟨t1, t2, t3⟩ | ⟨t1, t2, rfl, t3⟩ | ⟨t1, t2, rfl, rfl, t3⟩
    iterate 2
      · clear hT
        go_enter Try.func43, Try.ntmps43
        go_wp2_with (first
      | (go_at_call 90; with_reducible refine (I_ValidMap _ _ _ _ _ _ hn').mono ?_; rintro e w' ⟨rfl, os, m, rfl⟩; rw [t1])
      | (go_at_call 69; with_reducible refine (I_ValidPicture _ _ _ _ _ _ hm').mono ?_; rintro e w' ⟨rfl, os, m, rfl⟩; rw [t2]))
        exact bodyPost_ret (v := .tuple #[.agg #[.int .i64 0, .int .i64 0, .slice none 0 0], .bool false]) (by simp [results, Try.results43, go_sem]) rfl ⟨⟨_, rfl, FOwn.nil _ _ _⟩, (by (try show Gr _ _); repeat (with_reducible first | exact Gr.refl _ | refine Gr.drewN ?_ _ | refine Gr.grew ?_ _ _ | refine Gr.alloc ?_ _ | refine Gr.drew ?_))⟩
    all_goals
      have T1 := Lib.hid t1
      have T2 := Lib.hid t2
      clear hT t1 t2
      go_enter Try.func43, Try.ntmps43
      go_wp2_with fail
      refine (I_ValidMap _ _ _ _ _ _ hn').mono ?_
      rintro e u0 ⟨rfl, g⟩
      rw [T1.out]
      have B0 := Lib.hid (Blk.gr (show Blk _ w.heap.size [.int .i64 _, .int .i64 _, .slice a ms.length ca] 24 from (by repeat (with_reducible first | assumption | exact Blk.atNew (by simp) | refine Blk.alloc ?_ _ | refine Blk.grew ?_ _ _ | refine Blk.drewN ?_ _ | refine Blk.drew ?_))) g)
      have B1 := Lib.hid (Blk.gr (show Blk _ (w.heap.size + 1) [.int .i64 _, .int .i64 _, .slice b gs.length cb] 35 from (by repeat (with_reducible first | assumption | exact Blk.atNew (by simp) | refine Blk.alloc ?_ _ | refine Blk.grew ?_ _ _ | refine Blk.drewN ?_ _ | refine Blk.drew ?_))) g)
      have B2 := Lib.hid (Blk.gr (show Blk _ (w.heap.size + 1 + 1) [.int .i64 r] 2 from (by repeat (with_reducible first | assumption | exact Blk.atNew (by simp) | refine Blk.alloc ?_ _ | refine Blk.grew ?_ _ _ | refine Blk.drewN ?_ _ | refine Blk.drew ?_))) g)
      have B4 := Lib.hid (Blk.gr (show Blk _ (w.heap.size + 1 + 1 + 1 + 1) [.int .i64 0, .int .i64 0, .slice none 0 0] 24 from (by repeat (with_reducible first | assumption | exact Blk.atNew (by simp) | refine Blk.alloc ?_ _ | refine Blk.grew ?_ _ _ | refine Blk.drewN ?_ _ | refine Blk.drew ?_))) g)
      have G0 := Lib.hid (Gr.trans (show Gr w _ from (by (try show Gr _ _); repeat (with_reducible first | exact Gr.refl _ | refine Gr.drewN ?_ _ | refine Gr.grew ?_ _ _ | refine Gr.alloc ?_ _ | refine Gr.drew ?_))) g)
      clear g
      have p0 := B1.out.cellv 0
      have p1 := B1.out.cellv 1
      have p2 := B1.out.cellv 2
      go_wp2_with fail
      refine (I_ValidPicture _ _ _ _ _ _ hm').mono ?_
      rintro e u1 ⟨rfl, g⟩
      rw [T2.out]
      replace B0 := Lib.hid (B0.out.gr g)
      replace B1 := Lib.hid (B1.out.gr g)
      replace B2 := Lib.hid (B2.out.gr g)
      replace B4 := Lib.hid (B4.out.gr g)
      have h := G0.out.trans g
      clear g p0 p1 p2
      have p0 := B1.out.cellv 0
      have p1 := B1.out.cellv 1
      have x0 := B0.out.cellv 0
      have x1 := B0.out.cellv 1
      have y0 := B2.out.cellv 0
      have q0 := B4.out.cellv 0
      have q1 := B4.out.cellv 1
      have q2 := B4.out.cellv 2
      have z0 := B4.out.frozen 0
      have z1 := B4.out.frozen 1
      have z2 := B4.out.frozen 2
      go_wp2_with (first | (go_at_call 84; with_reducible refine (I_in _ _ _ _).mono ?_; rintro e w' ⟨rfl, hw⟩; (obtain rfl := hw.symm; rw [t3])))
      refine bodyPost_ret (v := .tuple #[.agg #[.int .i64 0, .int .i64 0, .slice none 0 0], .bool false]) (by simp [results, Try.results43, go_sem, *]) rfl ⟨⟨_, rfl, FOwn.nil _ _ _⟩, ?_⟩
      exact (by repeat (with_reducible first | assumption | refine Gr.setCell ?_ (by simp <;> omega) _))
  · have hT' := hT
    simp only [gGuOk, gTwo, Bool.and_eq_true, beq_iff_eq] at hT'
    obtain ⟨⟨hQ, hP, rfl, rfl⟩, hI⟩ := hT'
    have hp1 := (gPic_true hP).2
    have hp2 := (gPic_true hQ).2
    obtain ⟨s1, s2, s3, s4, s5, s6⟩ := gSize_true (gPic_true hP).1
    obtain ⟨W, rfl⟩ := Int.eq_ofNat_of_zero_le (show 0 ≤ U by omega)
    obtain ⟨H, rfl⟩ := Int.eq_ofNat_of_zero_le (show 0 ≤ V by omega)
    have hr3 : 0 ≤ r ∧ r ≤ 3 := by unfold gIn at hI; simp at hI; omega
    obtain ⟨r, rfl⟩ := Int.eq_ofNat_of_zero_le hr3.1
    have hll : ms.length = W * H := by exact_mod_cast hp1
    have hgl : gs.length = W * H := by exact_mod_cast hp2
    rw [Int.toNat_natCast, Int.toNat_natCast, Int.toNat_natCast]
    have HTl := Lib.hid (fun (u : World) (b1 b2 rb nb : Nat) (m1 : MP u b1 W H a ms.length ca ms) (m2 : MP u b2 W H b gs.length cb gs) cr cn => tells_Guided W H b1 b2 rb nb ca cb near N r a b ms gs u m1 m2 cr cn hN (by omega) (by omega) (by omega) hll hgl)
    have EG : Hid (grid W (fun x y => gGuAt ms gs W H N r (x + W * y)) ms.length = lst ms.length (gGuAt ms gs W H N r)) := lst_congr fun i _ => by simp only [Nat.mod_add_div]
    have HP := Lib.hid hP
    have HQ := Lib.hid hQ
    have HI := Lib.hid hI
    clear hT hP hQ hI hp1 hp2 hll hgl s5 s6
    go_enter Try.func43, Try.ntmps43
    go_wp2_with fail
    refine (I_ValidMap _ _ _ _ _ _ hn').mono ?_
    rintro e u0 ⟨rfl, g⟩
    rw [HP.out]
    have B0 := Lib.hid (Blk.gr (show Blk _ w.heap.size [.int .i64 W, .int .i64 H, .slice a ms.length ca] 24 from (by repeat (with_reducible first | assumption | exact Blk.atNew (by simp) | refine Blk.alloc ?_ _ | refine Blk.grew ?_ _ _ | refine Blk.drewN ?_ _ | refine Blk.drew ?_))) g)
    have B1 := Lib.hid (Blk.gr (show Blk _ (w.heap.size + 1) [.int .i64 W, .int .i64 H, .slice b gs.length cb] 35 from (by repeat (with_reducible first | assumption | exact Blk.atNew (by simp) | refine Blk.alloc ?_ _ | refine Blk.grew ?_ _ _ | refine Blk.drewN ?_ _ | refine Blk.drew ?_))) g)
    have B2 := Lib.hid (Blk.gr (show Blk _ (w.heap.size + 1 + 1) [.int .i64 r] 2 from (by repeat (with_reducible first | assumption | exact Blk.atNew (by simp) | refine Blk.alloc ?_ _ | refine Blk.grew ?_ _ _ | refine Blk.drewN ?_ _ | refine Blk.drew ?_))) g)
    have B3 := Lib.hid (Blk.gr (show Blk _ (w.heap.size + 1 + 1 + 1) [.float .f32 near] 65 from (by repeat (with_reducible first | assumption | exact Blk.atNew (by simp) | refine Blk.alloc ?_ _ | refine Blk.grew ?_ _ _ | refine Blk.drewN ?_ _ | refine Blk.drew ?_))) g)
    have B4 := Lib.hid (Blk.gr (show Blk _ (w.heap.size + 1 + 1 + 1 + 1) [.int .i64 0, .int .i64 0, .slice none 0 0] 24 from (by repeat (with_reducible first | assumption | exact Blk.atNew (by simp) | refine Blk.alloc ?_ _ | refine Blk.grew ?_ _ _ | refine Blk.drewN ?_ _ | refine Blk.drew ?_))) g)
    have G0 := Lib.hid (Gr.trans (show Gr w _ from (by (try show Gr _ _); repeat (with_reducible first | exact Gr.refl _ | refine Gr.drewN ?_ _ | refine Gr.grew ?_ _ _ | refine Gr.alloc ?_ _ | refine Gr.drew ?_))) g)
    clear g
    have p0 := B1.out.cellv 0
    have p1 := B1.out.cellv 1
    have p2 := B1.out.cellv 2
    go_wp2_with fail
    refine (I_ValidPicture _ _ _ _ _ _ hm').mono ?_
    rintro e u1 ⟨rfl, g⟩
    rw [HQ.out]
    replace B0 := Lib.hid (B0.out.gr g)
    replace B1 := Lib.hid (B1.out.gr g)
    replace B2 := Lib.hid (B2.out.gr g)
    replace B3 := Lib.hid (B3.out.gr g)
    replace B4 := Lib.hid (B4.out.gr g)
    have G1 := Lib.hid (G0.out.trans g)
    clear g p0 p1 p2
    have p0 := B1.out.cellv 0
    have p1 := B1.out.cellv 1
    have x0 := B0.out.cellv 0
    have x1 := B0.out.cellv 1
    have x2 := B0.out.cellv 2
    have y0 := B2.out.cellv 0
    go_wp2_with (first | (go_at_call 84; with_reducible refine (I_in _ _ _ _).mono ?_; rintro e w' ⟨rfl, hw⟩; (obtain rfl := hw.symm; rw [HI.out])))
    refine (I_remap_ok W H a ca ms 99 _ (fun x y => gGuAt ms gs W H N r (x + W * y)) u1 (Fx.out.keep G1.out.kp) hn' HP.out (HTl.out u1 _ _ _ _ ⟨B0.out.cellv 0, B0.out.cellv 1, B0.out.cellv 2, Fx.out.keep G1.out.kp⟩ ⟨B1.out.cellv 0, B1.out.cellv 1, B1.out.cellv 2, Fy.out.keep G1.out.kp⟩ (B2.out.cellv 0) (B3.out.cellv 0))).mono ?_
    rintro e un ⟨⟨v0, rfl, ho⟩, g⟩
    rw [EG.out] at ho
    obtain ⟨a1, c1, rfl, -, -⟩ := ho.sl' ms.length (by simp)
    have Hb := Lib.hid B4.out.lt
    replace B4 := Lib.hid (B4.out.gr g)
    have Ho := Lib.hid ho
    have GN := Lib.hid (G1.out.trans g)
    clear ho g p0 p1 x0 x1 x2 y0
    have q0 := B4.out.cellv 0
    have q1 := B4.out.cellv 1
    have q2 := B4.out.cellv 2
    have z0 := B4.out.frozen 0
    have z1 := B4.out.frozen 1
    have z2 := B4.out.frozen 2
    go_wp2
    refine bodyPost_ret (v := .tuple #[.agg #[.int .i64 W, .int .i64 H, .slice a1 ms.length c1], .bool true]) (by simp [results, Try.results43, go_sem, gW, *]) rfl ⟨⟨_, rfl, ?_⟩, ?_⟩
    · have h := Ho.out
      have hb := Hb.out
      have h0 := G1.out.size
      show FOwn _ _ _ _ (lst ms.length _)
      exact FOwn.base (B := u1.heap.size) (by repeat (with_reducible first | assumption | refine FOwn.setOther ?_ _ (by simp <;> omega))) h0
    · have h := GN.out
      exact (by repeat (with_reducible first | assumption | refine Gr.setCell ?_ (by simp <;> omega) _))
set_option maxRecDepth 20000 in
set_option maxHeartbeats 1000000 in
theorem S_l03Fits (W H U V : Int) (a b : Option Addr) (ca cb g1 g2 : Nat) (xs ys : List Nat) (w : World) (hn : xs.length ≤ maxLen) (hm : ys.length ≤ maxLen) (m1 : MP w g1 W H a xs.length ca xs) (m2 : MP w g2 U V b ys.length cb ys) :
    Calls Try.prog 92 #[.pointer (some ⟨g1, 0, none⟩), .pointer (some ⟨g2, 0, none⟩)] w fun e w' => e = .returned (.bool (gTwo W H U V xs.length ys.length)) ∧ ∃ n, w' = w.drewN n := by
  obtain ⟨a0, a1, a2, -⟩ := m1
  obtain ⟨b0, b1, b2, -⟩ := m2
  rcases (show (gPic W H xs.length = false) ∨ (gPic W H xs.length = true ∧ gPic U V ys.length = false) ∨ (gPic W H xs.length = true ∧ gPic U V ys.length = true ∧ (W == U) = false) ∨ (gPic W H xs.length = true ∧ gPic U V ys.length = true ∧ (W == U) = true ∧ (H == V) = false) ∨ (gPic W H xs.length = true ∧ gPic U V ys.length = true ∧ (W == U) = true ∧ (H == V) = true) by cases gPic W H xs.length <;> cases gPic U V ys.length <;> cases (W == U) <;> cases (H == V) <;> simp) with t1 | ⟨t1, t2⟩ | ⟨t1, t2, t3⟩ | ⟨t1, t2, t3, t4⟩ | ⟨t1, t2, t3, t4⟩
  all_goals
    go_enter Try.func92, Try.ntmps92
    go_wp2
    apply region_drew 28
    case hm => kernel_rfl
    case hB => kernel_rfl
    simp only [List.take_succ_cons, List.take_zero, List.drop_succ_cons, List.drop_zero]
    repeat (first
      | ((with_reducible apply wpSoft_calleq (f := 66)); (case hw => rfl); (case hc => exact Try.call66); (case hv => ((conv => lhs; simp [Act.eval]); try rfl)); (case hS => (rintro _ ⟨m, rfl⟩; with_reducible refine (S_l02Is W H a _ ca g1 0 _ hn (by simp [go_sem, a0]) (by simp [go_sem, a1]) (by simp [go_sem, a2])).mono ?_; rintro e w' ⟨rfl, n, rfl⟩; exact ⟨rfl, ⟨_, World.drewN_drewN _ _ _⟩⟩)); (simp only [Act.put, List.setIfInBounds_toArray, List.set_cons_succ, List.set_cons_zero]; try simp only [t1]))
      | ((with_reducible apply wpSoft_calleq (f := 88)); (case hw => rfl); (case hc => exact Try.call88); (case hv => ((conv => lhs; simp [Act.eval]); try rfl)); (case hS => (rintro _ ⟨m, rfl⟩; with_reducible refine (S_l03IsMap U V b _ cb g2 0 _ hm (by simp [go_sem, b0]) (by simp [go_sem, b1]) (by simp [go_sem, b2])).mono ?_; rintro e w' ⟨rfl, n, rfl⟩; exact ⟨rfl, ⟨_, World.drewN_drewN _ _ _⟩⟩)); (simp only [Act.put, List.setIfInBounds_toArray, List.set_cons_succ, List.set_cons_zero]; try simp only [t2]))
      | (apply wpSoft_skip rfl; simp only [Act.put, List.setIfInBounds_toArray, List.set_cons_succ, List.set_cons_zero])
      | (apply wpSoft_nilCheck rfl rfl; simp only [Act.put, List.setIfInBounds_toArray, List.set_cons_succ, List.set_cons_zero])
      | ((with_reducible apply wpSoft_fop); (case hw => rfl); (case hD => exact closed_drew); (case hop => rfl); (case hx => rfl); (case hy => rfl); (case hA => (first | assumption | exact FE.ofInt _ _ | exact FE.lit (by decide +kernel))); (case hB => (first | assumption | exact FE.ofInt _ _ | exact FE.lit (by decide +kernel))); (intro r hr; simp only [Act.put, List.setIfInBounds_toArray, List.set_cons_succ, List.set_cons_zero]))

      | ((with_reducible apply wpSoft_widen); (case hw => rfl); (case hD => exact closed_drew); (case hs => exact Try.underlying65); (case hd => exact Try.underlying147); (case hx => rfl); (case hA => (first | assumption | exact FE.ofInt _ _ | exact FE.lit (by decide +kernel))); (intro r hr; simp only [Act.put, List.setIfInBounds_toArray, List.set_cons_succ, List.set_cons_zero]))
      | ((with_reducible apply wpSoft_fneg); (case hw => rfl); (case hx => rfl); (case hA => (first | assumption | exact FE.ofInt _ _ | exact FE.lit (by decide +kernel))); (intro r hr; simp only [Act.put, List.setIfInBounds_toArray, List.set_cons_succ, List.set_cons_zero]))
      | ((with_reducible apply wpSoft_fcmp); (case hw => rfl); (case hop => rfl); (case hx => rfl); (case hy => rfl); (case hA => (first | assumption | exact FE.ofInt _ _ | exact FE.lit (by decide +kernel))); (case hB => (first | assumption | exact FE.ofInt _ _ | exact FE.lit (by decide +kernel))); (case hb => (first | assumption | rfl)); simp only [Act.put, List.setIfInBounds_toArray, List.set_cons_succ, List.set_cons_zero])
      | (apply wpSoft_q rfl rfl; intro K hK; go_big_quiet_op; go_big_quiet_on))
    with_reducible apply wpSoft_nil
    intro m
    go_wp2
    go_ret
    exact ⟨by simp [gTwo, *], (by first | exact ⟨0, rfl⟩ | exact ⟨_, rfl⟩)⟩
end Go.Proofs.Ytaidkokgafojeaa
