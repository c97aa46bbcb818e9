/- Contracts: RowOffset. MAXREC -/
import Derived.Test.YthpdnblkbadhaaaProg
import Derived.Test.YthpdnblkbadhaaaC29
namespace Go.Proofs.Ythpdnblkbadhaaa
open Go.RowKit Go.Fx Go.Soft
/-- The best of some rows. -/
def gBestTo (s : Int → Nat) (q : Int) : Nat → Int × Nat × Bool
  | 0 => (0, 0, false)
  | j + 1 => if !gNaN (s (-q + j)) && (!(gBestTo s q j).2.2 || fcmp .lss .f32 (s (-q + j)) (gBestTo s q j).2.1) then (-q + j, s (-q + j), true) else gBestTo s q j
theorem gBestTo_none (s : Int → Nat) (q : Int) : ∀ j, (gBestTo s q j).2.2 = false → gBestTo s q j = (0, 0, false)
  | 0, _ => rfl
  | j + 1, h => by
    rw [gBestTo] at h ⊢
    split at h
    · simp at h
    · rename_i h1
      rw [if_neg h1]
      exact gBestTo_none s q j h
theorem gBestTo_step (s : Int → Nat) (q : Int) (j : Nat) (S : Nat) (b : Int) (l : Nat) (f : Bool) (hS : s (-q + j) = S) (hb : gBestTo s q j = (b, l, f)) :
    (gNaN S = true ∧ gBestTo s q (j + 1) = (b, l, f)) ∨ (gNaN S = false ∧ f = false ∧ gBestTo s q (j + 1) = (-q + j, S, true)) ∨ (gNaN S = false ∧ f = true ∧ fcmp .lss .f32 S l = true ∧ gBestTo s q (j + 1) = (-q + j, S, true)) ∨
    (gNaN S = false ∧ f = true ∧ fcmp .lss .f32 S l = false ∧ gBestTo s q (j + 1) = (b, l, f)) := by
  rw [gBestTo, hS, hb]
  cases gNaN S <;> cases f <;> cases fcmp .lss .f32 S l <;> simp
theorem eql_nan (S : Nat) : fcmp .eql .f32 S S = !gNaN S := by
  unfold gNaN fcmp
  cases FloatKind.f32.format.order S S with
  | none => rfl
  | some o => cases o <;> rfl
def gOffset (W H U V : Int) (xs ys : List Nat) (q : Int) : Int × Nat × Bool :=
  if gTwo W H U V xs.length ys.length && gIn q 0 8 then gBestTo (gRowSum xs ys W.toNat H.toNat) q (2 * q + 1).toNat else (0, 0, false)
set_option maxRecDepth 20000 in
set_option maxHeartbeats 1000000 in
theorem I_pairOk (W H U V : Int) (a b : Option Addr) (n m ca cb : Nat) (w : World) (hn : n ≤ maxLen) (hm : m ≤ maxLen) :
    Calls Try.prog 96 #[.agg #[.int .i64 W, .int .i64 H, .slice a n ca], .agg #[.int .i64 U, .int .i64 V, .slice b m cb]] w fun e w' => e = .returned (.bool (gTwo W H U V n m)) ∧ ∃ os m, w' = w.grew os m := by
  rcases (show (gPic W H n = false) ∨ (gPic W H n = true ∧ gPic U V m = false) ∨ (gPic W H n = true ∧ gPic U V m = true ∧ (W == U) = false) ∨ (gPic W H n = true ∧ gPic U V m = true ∧ (W == U) = true ∧ (H == V) = false) ∨ (gPic W H n = true ∧ gPic U V m = true ∧ (W == U) = true ∧ (H == V) = true) by cases gPic W H n <;> cases gPic U V m <;> cases (W == U) <;> cases (H == V) <;> simp) with t1 | ⟨t1, t2⟩ | ⟨t1, t2, t3⟩ | ⟨t1, t2, t3, t4⟩ | ⟨t1, t2, t3, t4⟩
  all_goals
    go_enter Try.func96, Try.ntmps96
    go_wp2_with (first
      | (go_at_call 126; with_reducible refine (I_ValidPicture _ _ _ _ _ _ (by assumption)).mono ?_; rintro e w' ⟨rfl, os, m, rfl⟩; first | rw [t1] | rw [t2]))
    go_ret
    exact ⟨by simp [gTwo, *], (by (try show Gr _ _); repeat (with_reducible first | exact Gr.refl _ | refine Gr.drewN ?_ _ | refine Gr.grew ?_ _ _ | refine Gr.alloc ?_ _ | refine Gr.drew ?_))⟩
set_option maxRecDepth 20000 in
set_option maxHeartbeats 1000000 in
theorem S_l02Two (W H U V : Int) (a b : Option Addr) (ca cb g1 g2 : Nat) (xs ys : List Nat) (w : World) (hn : xs.length ≤ maxLen) (hm : ys.length ≤ maxLen) (m1 : MP w g1 W H a xs.length ca xs) (m2 : MP w g2 U V b ys.length cb ys) :
    Calls Try.prog 93 #[.pointer (some ⟨g1, 0, none⟩), .pointer (some ⟨g2, 0, none⟩)] w fun e w' => e = .returned (.bool (gTwo W H U V xs.length ys.length)) ∧ ∃ n, w' = w.drewN n := by
  obtain ⟨a0, a1, a2, -⟩ := m1
  obtain ⟨b0, b1, b2, -⟩ := m2
  rcases (show (gPic W H xs.length = false) ∨ (gPic W H xs.length = true ∧ gPic U V ys.length = false) ∨ (gPic W H xs.length = true ∧ gPic U V ys.length = true ∧ (W == U) = false) ∨ (gPic W H xs.length = true ∧ gPic U V ys.length = true ∧ (W == U) = true ∧ (H == V) = false) ∨ (gPic W H xs.length = true ∧ gPic U V ys.length = true ∧ (W == U) = true ∧ (H == V) = true) by cases gPic W H xs.length <;> cases gPic U V ys.length <;> cases (W == U) <;> cases (H == V) <;> simp) with t1 | ⟨t1, t2⟩ | ⟨t1, t2, t3⟩ | ⟨t1, t2, t3, t4⟩ | ⟨t1, t2, t3, t4⟩
  all_goals
    go_enter Try.func93, Try.ntmps93
    go_wp2
    apply region_drew 28
    case hm => kernel_rfl
    case hB => kernel_rfl
    simp only [List.take_succ_cons, List.take_zero, List.drop_succ_cons, List.drop_zero]
    repeat (first
      | ((with_reducible apply wpSoft_calleq (f := 64)); (case hw => rfl); (case hc => exact Try.call64); (case hv => ((conv => lhs; simp [Act.eval]); try rfl)); (case hS => (rintro _ ⟨m, rfl⟩; with_reducible refine (S_l02Is W H a _ ca g1 0 _ hn (by simp [go_sem, a0]) (by simp [go_sem, a1]) (by simp [go_sem, a2])).mono ?_; rintro e w' ⟨rfl, n, rfl⟩; exact ⟨rfl, ⟨_, World.drewN_drewN _ _ _⟩⟩)); (simp only [Act.put, List.setIfInBounds_toArray, List.set_cons_succ, List.set_cons_zero]; try simp only [t1]))
      | ((with_reducible apply wpSoft_calleq (f := 64)); (case hw => rfl); (case hc => exact Try.call64); (case hv => ((conv => lhs; simp [Act.eval]); try rfl)); (case hS => (rintro _ ⟨m, rfl⟩; with_reducible refine (S_l02Is U V b _ cb g2 0 _ hm (by simp [go_sem, b0]) (by simp [go_sem, b1]) (by simp [go_sem, b2])).mono ?_; rintro e w' ⟨rfl, n, rfl⟩; exact ⟨rfl, ⟨_, World.drewN_drewN _ _ _⟩⟩)); (simp only [Act.put, List.setIfInBounds_toArray, List.set_cons_succ, List.set_cons_zero]; try simp only [t2]))
      | (apply wpSoft_skip rfl; simp only [Act.put, List.setIfInBounds_toArray, List.set_cons_succ, List.set_cons_zero])
      | (apply wpSoft_nilCheck rfl rfl; simp only [Act.put, List.setIfInBounds_toArray, List.set_cons_succ, List.set_cons_zero])
      | ((with_reducible apply wpSoft_fop); (case hw => rfl); (case hD => exact closed_drew); (case hop => rfl); (case hx => rfl); (case hy => rfl); (case hA => (first | assumption | exact FE.ofInt _ _ | exact FE.lit (by decide +kernel))); (case hB => (first | assumption | exact FE.ofInt _ _ | exact FE.lit (by decide +kernel))); (intro r hr; simp only [Act.put, List.setIfInBounds_toArray, List.set_cons_succ, List.set_cons_zero]))

      | ((with_reducible apply wpSoft_widen); (case hw => rfl); (case hD => exact closed_drew); (case hs => exact Try.underlying37); (case hd => exact Try.underlying63); (case hx => rfl); (case hA => (first | assumption | exact FE.ofInt _ _ | exact FE.lit (by decide +kernel))); (intro r hr; simp only [Act.put, List.setIfInBounds_toArray, List.set_cons_succ, List.set_cons_zero]))
      | ((with_reducible apply wpSoft_fneg); (case hw => rfl); (case hx => rfl); (case hA => (first | assumption | exact FE.ofInt _ _ | exact FE.lit (by decide +kernel))); (intro r hr; simp only [Act.put, List.setIfInBounds_toArray, List.set_cons_succ, List.set_cons_zero]))
      | ((with_reducible apply wpSoft_fcmp); (case hw => rfl); (case hop => rfl); (case hx => rfl); (case hy => rfl); (case hA => (first | assumption | exact FE.ofInt _ _ | exact FE.lit (by decide +kernel))); (case hB => (first | assumption | exact FE.ofInt _ _ | exact FE.lit (by decide +kernel))); (case hb => (first | assumption | rfl)); simp only [Act.put, List.setIfInBounds_toArray, List.set_cons_succ, List.set_cons_zero])
      | (apply wpSoft_q rfl rfl; intro K hK; go_big_quiet_op; go_big_quiet_on))
    with_reducible apply wpSoft_nil
    intro m
    go_wp2
    go_ret
    exact ⟨by simp [gTwo, *], (by first | exact ⟨0, rfl⟩ | exact ⟨_, rfl⟩)⟩
set_option maxRecDepth 20000 in
set_option maxHeartbeats 2000000 in
theorem S_RowOffset (W H U V : Int) (a b : Option Addr) (ca cb : Nat) (xs ys : List Nat) (q : Int) (w : World) (fx : FSl w a xs.length xs) (fy : FSl w b ys.length ys) (hn : xs.length ≤ 1048576) (hm : ys.length ≤ 1048576) :
    Calls Try.prog 36 #[.agg #[.int .i64 W, .int .i64 H, .slice a xs.length ca], .agg #[.int .i64 U, .int .i64 V, .slice b ys.length cb], .int .i64 q] w fun e w' =>
      (∃ r, e = .returned (.tuple #[.int .i64 (gOffset W H U V xs ys q).1, .float .f32 r, .bool (gOffset W H U V xs ys q).2.2]) ∧ FE .f32 r (gOffset W H U V xs ys q).2.1) ∧ Gr w w' := by
  have hn' : xs.length ≤ maxLen := by unfold maxLen; omega
  have hm' : ys.length ≤ maxLen := by unfold maxLen; omega
  have Fx := Lib.hid fx
  have Fy := Lib.hid fy
  have h0 := FE0
  clear fx fy
  cases hT : gTwo W H U V xs.length ys.length
  · have eO : gOffset W H U V xs ys q = (0, 0, false) := by unfold gOffset; rw [hT]; rfl
    rw [eO]
    clear eO
    go_enter Try.func36, Try.ntmps36
    go_wp2_with (first
      | (go_at_call 93; with_reducible refine (S_l02Two W H U V a b ca cb _ _ xs ys _ hn' hm' ⟨(by first | (simp (maxDischargeDepth := 12) [go_sem]; done) | (simp (maxDischargeDepth := 12) [go_sem, *]; done)), (by first | (simp (maxDischargeDepth := 12) [go_sem]; done) | (simp (maxDischargeDepth := 12) [go_sem, *]; done)), (by first | (simp (maxDischargeDepth := 12) [go_sem]; done) | (simp (maxDischargeDepth := 12) [go_sem, *]; done)), Fx.out.keep (by (repeat (with_reducible first | exact Kp.refl _ | exact kp_same | exact kp_app1 | exact kp_app2 | exact kp_app3 | refine Kp.grew ?_ _ _ | refine Kp.drewN ?_ _ | refine Kp.drew ?_ | refine Kp.alloc ?_ _)))⟩ ⟨(by first | (simp (maxDischargeDepth := 12) [go_sem]; done) | (simp (maxDischargeDepth := 12) [go_sem, *]; done)), (by first | (simp (maxDischargeDepth := 12) [go_sem]; done) | (simp (maxDischargeDepth := 12) [go_sem, *]; done)), (by first | (simp (maxDischargeDepth := 12) [go_sem]; done) | (simp (maxDischargeDepth := 12) [go_sem, *]; done)), Fy.out.keep (by (repeat (with_reducible first | exact Kp.refl _ | exact kp_same | exact kp_app1 | exact kp_app2 | exact kp_app3 | refine Kp.grew ?_ _ _ | refine Kp.drewN ?_ _ | refine Kp.drew ?_ | refine Kp.alloc ?_ _)))⟩).mono ?_; rintro e w' ⟨rfl, n, rfl⟩; rw [hT]))
    exact bodyPost_ret (v := .tuple #[.int .i64 0, .float .f32 0, .bool false]) (by simp [results, Try.results36, go_sem]) rfl ⟨⟨_, rfl, h0⟩, (by (try show Gr _ _); repeat (with_reducible first | exact Gr.refl _ | refine Gr.drewN ?_ _ | refine Gr.grew ?_ _ _ | refine Gr.alloc ?_ _ | refine Gr.drew ?_))⟩
  cases hQ : gIn q 0 8
  · have eO : gOffset W H U V xs ys q = (0, 0, false) := by unfold gOffset; rw [hT, hQ]; rfl
    rw [eO]
    clear eO
    go_enter Try.func36, Try.ntmps36
    go_wp2_with (first
      | (go_at_call 93; with_reducible refine (S_l02Two W H U V a b ca cb _ _ xs ys _ hn' hm' ⟨(by first | (simp (maxDischargeDepth := 12) [go_sem]; done) | (simp (maxDischargeDepth := 12) [go_sem, *]; done)), (by first | (simp (maxDischargeDepth := 12) [go_sem]; done) | (simp (maxDischargeDepth := 12) [go_sem, *]; done)), (by first | (simp (maxDischargeDepth := 12) [go_sem]; done) | (simp (maxDischargeDepth := 12) [go_sem, *]; done)), Fx.out.keep (by (repeat (with_reducible first | exact Kp.refl _ | exact kp_same | exact kp_app1 | exact kp_app2 | exact kp_app3 | refine Kp.grew ?_ _ _ | refine Kp.drewN ?_ _ | refine Kp.drew ?_ | refine Kp.alloc ?_ _)))⟩ ⟨(by first | (simp (maxDischargeDepth := 12) [go_sem]; done) | (simp (maxDischargeDepth := 12) [go_sem, *]; done)), (by first | (simp (maxDischargeDepth := 12) [go_sem]; done) | (simp (maxDischargeDepth := 12) [go_sem, *]; done)), (by first | (simp (maxDischargeDepth := 12) [go_sem]; done) | (simp (maxDischargeDepth := 12) [go_sem, *]; done)), Fy.out.keep (by (repeat (with_reducible first | exact Kp.refl _ | exact kp_same | exact kp_app1 | exact kp_app2 | exact kp_app3 | refine Kp.grew ?_ _ _ | refine Kp.drewN ?_ _ | refine Kp.drew ?_ | refine Kp.alloc ?_ _)))⟩).mono ?_; rintro e w' ⟨rfl, n, rfl⟩; rw [hT])
      | (go_at_call 94; with_reducible refine (S_l00In _ _ _ _).mono ?_; rintro e w' ⟨rfl, rfl⟩; rw [hQ]))
    exact bodyPost_ret (v := .tuple #[.int .i64 0, .float .f32 0, .bool false]) (by simp [results, Try.results36, go_sem]) rfl ⟨⟨_, rfl, h0⟩, (by (try show Gr _ _); repeat (with_reducible first | exact Gr.refl _ | refine Gr.drewN ?_ _ | refine Gr.grew ?_ _ _ | refine Gr.alloc ?_ _ | refine Gr.drew ?_))⟩
  have eO : gOffset W H U V xs ys q = gBestTo (gRowSum xs ys W.toNat H.toNat) q (2 * q + 1).toNat := by unfold gOffset; rw [hT, hQ]; rfl
  rw [eO]
  clear eO
  have hT' := hT
  simp only [gTwo, Bool.and_eq_true, beq_iff_eq] at hT'
  obtain ⟨hP, hP2, rfl, rfl⟩ := hT'
  have hp1 := (gPic_true hP).2
  have hp2 := (gPic_true hP2).2
  obtain ⟨s1, s2, s3, s4, s5, s6⟩ := gSize_true (gPic_true hP).1
  obtain ⟨q1, q2⟩ := gIn_true hQ
  obtain ⟨W, rfl⟩ := Int.eq_ofNat_of_zero_le (show 0 ≤ W by omega)
  obtain ⟨H, rfl⟩ := Int.eq_ofNat_of_zero_le (show 0 ≤ H by omega)
  have e1 := Lib.hid (show xs.length = W * H by exact_mod_cast hp1)
  have e2 := Lib.hid (show ys.length = W * H by exact_mod_cast hp2)
  rw [Int.toNat_natCast, Int.toNat_natCast]
  obtain ⟨N, hN⟩ : ∃ N : Nat, (N : Int) = 2 * q + 1 := ⟨(2 * q + 1).toNat, by omega⟩
  rw [← hN, Int.toNat_natCast]
  have HN := Lib.hid hN
  clear hP hP2 hp1 hp2 s5 s6 hN
  go_enter Try.func36, Try.ntmps36
  go_wp2_with fail
  refine (S_l02Two W H W H a b ca cb _ _ xs ys _ hn' hm' ⟨(by first | (simp (maxDischargeDepth := 12) [go_sem]; done) | (simp (maxDischargeDepth := 12) [go_sem, *]; done)), (by first | (simp (maxDischargeDepth := 12) [go_sem]; done) | (simp (maxDischargeDepth := 12) [go_sem, *]; done)), (by first | (simp (maxDischargeDepth := 12) [go_sem]; done) | (simp (maxDischargeDepth := 12) [go_sem, *]; done)), Fx.out.keep (by (repeat (with_reducible first | exact Kp.refl _ | exact kp_same | exact kp_app1 | exact kp_app2 | exact kp_app3 | refine Kp.grew ?_ _ _ | refine Kp.drewN ?_ _ | refine Kp.drew ?_ | refine Kp.alloc ?_ _)))⟩ ⟨(by first | (simp (maxDischargeDepth := 12) [go_sem]; done) | (simp (maxDischargeDepth := 12) [go_sem, *]; done)), (by first | (simp (maxDischargeDepth := 12) [go_sem]; done) | (simp (maxDischargeDepth := 12) [go_sem, *]; done)), (by first | (simp (maxDischargeDepth := 12) [go_sem]; done) | (simp (maxDischargeDepth := 12) [go_sem, *]; done)), Fy.out.keep (by (repeat (with_reducible first | exact Kp.refl _ | exact kp_same | exact kp_app1 | exact kp_app2 | exact kp_app3 | refine Kp.grew ?_ _ _ | refine Kp.drewN ?_ _ | refine Kp.drew ?_ | refine Kp.alloc ?_ _)))⟩).mono ?_
  rintro e u0 ⟨rfl, n9, hg⟩
  have g := gr_of_drew hg
  clear hg
  rw [hT]
  have k : Gr w u0 := Gr.trans (by (try show Gr _ _); repeat (with_reducible first | exact Gr.refl _ | refine Gr.drewN ?_ _ | refine Gr.grew ?_ _ _ | refine Gr.alloc ?_ _ | refine Gr.drew ?_)) g
  have B0 := Lib.hid (Blk.gr (show Blk _ w.heap.size [.int .i64 W, .int .i64 H, .slice a xs.length ca] 28 from (by repeat (with_reducible first | assumption | exact Blk.atNew (by simp) | refine Blk.alloc ?_ _ | refine Blk.grew ?_ _ _ | refine Blk.drewN ?_ _ | refine Blk.drew ?_))) g)
  have B1 := Lib.hid (Blk.gr (show Blk _ (w.heap.size + 1) [.int .i64 W, .int .i64 H, .slice b ys.length cb] 28 from (by repeat (with_reducible first | assumption | exact Blk.atNew (by simp) | refine Blk.alloc ?_ _ | refine Blk.grew ?_ _ _ | refine Blk.drewN ?_ _ | refine Blk.drew ?_))) g)
  have G := Lib.hid k
  clear g k
  have M1 := Lib.hid (MP.mk (B0.out.cellv 0) (B0.out.cellv 1) (B0.out.cellv 2) (Fx.out.keep G.out.kp))
  have M2 := Lib.hid (MP.mk (B1.out.cellv 0) (B1.out.cellv 1) (B1.out.cellv 2) (Fy.out.keep G.out.kp))
  go_wp2_with ((go_at_call 94; with_reducible refine (S_l00In _ _ _ _).mono ?_; rintro e w' ⟨rfl, hw⟩; (obtain rfl := hw.symm; rw [hQ])))
  go_loopw [9, 10, 11, 12] (fun sb sl sf sk wr => ∃ (j r : Nat), j ≤ N ∧ sk = .int .i64 (-q + (j : Int)) ∧ sb = .int .i64 (gBestTo (gRowSum xs ys W H) q j).1 ∧ sl = .float .f32 r ∧ FE .f32 r (gBestTo (gRowSum xs ys W H) q j).2.1 ∧ sf = .bool (gBestTo (gRowSum xs ys W H) q j).2.2 ∧ ∃ n, wr = u0.drewN n) (fun _ _ _ sk _ => (q + 1 - intOf sk).toNat)
  case atStart => exact ⟨0, 0, Nat.zero_le _, by simp, rfl, rfl, h0, rfl, (by first | exact ⟨0, rfl⟩ | exact ⟨_, rfl⟩)⟩
  case round =>
    obtain ⟨j, r, hj, rfl, rfl, rfl, hr, rfl, n, rfl⟩ := hrel
    by_cases hlt : j < N
    · have hN := HN.out
      have HR := Lib.hid (fun (n : Nat) => S_l06Rows W H _ _ ca cb (-q + (j : Int)) a b xs ys (u0.drewN n) (M1.out.gr (gr_drewN u0 n)) (M2.out.gr (gr_drewN u0 n)) (by omega) (by omega) (by omega) (by omega) (by omega) (by omega) e1.out e2.out)
      obtain ⟨b0, l0, f0, hb⟩ : ∃ b0 l0 f0, gBestTo (gRowSum xs ys W H) q j = (b0, l0, f0) := ⟨_, _, _, rfl⟩
      obtain ⟨S, hS⟩ : ∃ S, gRowSum xs ys W H (-q + (j : Int)) = S := ⟨_, rfl⟩
      have hst := gBestTo_step (gRowSum xs ys W H) q j S b0 l0 f0 hS hb
      rw [hS] at HR
      rw [hb] at hr ⊢
      simp only at hr
      have heq := eql_nan S
      have hkk : -q + (j : Int) ≤ q := by omega
      have hkl : -8 ≤ -q + (j : Int) := by omega
      have ek : -q + (j : Int) + 1 = -q + ((j + 1 : Nat) : Int) := by omega
      have EK := Lib.hid ek
      obtain ⟨kk, hk⟩ : ∃ kk, kk = -q + (j : Int) := ⟨_, rfl⟩
      rw [← hk] at HR hkk hkl hst EK
      rw [← hk]
      have HK := Lib.hid hk
      clear hb hS hN ek hk
      rcases hst with ⟨t1, hE⟩ | ⟨t1, rfl, hE⟩ | ⟨t1, rfl, t2, hE⟩ | ⟨t1, rfl, t2, hE⟩
      all_goals
        rw [t1] at heq
        have HE := Lib.hid hE
        clear hE
        go_wp2_with (first
      | (go_at_call 95; refine (HR.out _).mono ?_; rintro e w' ⟨rs, rfl, hrs, n, rfl⟩)
      | ((with_reducible apply wpList_fop); (case hw => rfl); (case hop => rfl); (case hx => rfl); (case hy => rfl); (case hA => (first | assumption | exact FE.ofInt _ _ | exact FE.lit (by decide +kernel))); (case hB => (first | assumption | exact FE.ofInt _ _ | exact FE.lit (by decide +kernel))); intro r n hr)
      | ((with_reducible apply wpList_fcmp); (case hw => rfl); (case hop => rfl); (case hx => rfl); (case hy => rfl); (case hA => (first | assumption | exact FE.ofInt _ _ | exact FE.lit (by decide +kernel))); (case hB => (first | assumption | exact FE.ofInt _ _ | exact FE.lit (by decide +kernel))); (case hb => (first | assumption | rfl)))
      | ((with_reducible apply wpList_widen); (case hw => rfl); (case hs => exact Try.underlying37); (case hd => exact Try.underlying63); (case hx => rfl); (case hA => (first | assumption | exact FE.ofInt _ _ | exact FE.lit (by decide +kernel))); intro r n hr)
      | ((with_reducible apply wpList_fneg); (case hw => rfl); (case hx => rfl); (case hA => (first | assumption | exact FE.ofInt _ _ | exact FE.lit (by decide +kernel))); intro r hr))
        go_roundw
        case rel => exact ⟨j + 1, _, by omega, by rw [← EK.out], by rw [HE.out], rfl, by rw [HE.out]; assumption, by rw [HE.out], (by first | exact ⟨0, rfl⟩ | exact ⟨_, rfl⟩)⟩
        case measure => simp [intOf]; omega
    · obtain rfl : j = N := by omega
      have hN := HN.out
      have hz := gBestTo_none (gRowSum xs ys W H) q j
      obtain ⟨p, hp⟩ : ∃ p, gBestTo (gRowSum xs ys W H) q j = p := ⟨_, rfl⟩
      have HPP := Lib.hid hp
      rw [hp] at hr hz ⊢
      clear hp
      obtain ⟨b0, l0, f0⟩ := p
      simp only at hr hz ⊢
      have hkk : q < -q + (j : Int) := by omega
      generalize -q + (j : Int) = kk at *
      have HN2 := Lib.hid hN
      clear hN
      cases f0
      · have hz2 := hz rfl
        simp only [Prod.mk.injEq] at hz2
        obtain ⟨rfl, rfl, -⟩ := hz2
        clear hz
        go_wp2
        refine bodyPost_ret (v := .tuple #[.int .i64 0, .float .f32 0, .bool false]) (by simp [results, Try.results36, go_sem]) rfl ?_
        rw [HPP.out]
        exact ⟨⟨_, rfl, h0⟩, G.out.trans (gr_drewN _ _)⟩
      · clear hz
        go_wp2
        refine bodyPost_ret (v := .tuple #[.int .i64 b0, .float .f32 r, .bool true]) (by simp [results, Try.results36, go_sem]) rfl ?_
        rw [HPP.out]
        exact ⟨⟨_, rfl, hr⟩, G.out.trans (gr_drewN _ _)⟩
set_option maxRecDepth 20000 in
set_option maxHeartbeats 400000 in
theorem I_isNumber (x X : Nat) (w : World) (hx : FE .f32 x X) :
    Calls Try.prog 99 #[.float .f32 x] w fun e w' => e = .returned (.bool (!gNaN X)) ∧ ∃ n, w' = w.drewN n := by
  go_enter Try.func99, Try.ntmps99
  go_wp2_with (first
      | (go_at_call 132; with_reducible refine (I_isNaN _ _ _ hx).mono ?_; rintro e w' ⟨rfl, n, rfl⟩))
  go_ret
  exact ⟨rfl, (by first | exact ⟨0, rfl⟩ | exact ⟨_, rfl⟩)⟩
set_option maxRecDepth 20000 in
set_option maxHeartbeats 4000000 in
theorem I_RowOffset (W H U V : Int) (a b : Option Addr) (ca cb : Nat) (xs ys : List Nat) (q : Int) (w : World) (fx : FSl w a xs.length xs) (fy : FSl w b ys.length ys) (hn : xs.length ≤ 1048576) (hm : ys.length ≤ 1048576) :
    Calls Try.prog 37 #[.agg #[.int .i64 W, .int .i64 H, .slice a xs.length ca], .agg #[.int .i64 U, .int .i64 V, .slice b ys.length cb], .int .i64 q] w fun e w' =>
      (∃ r, e = .returned (.tuple #[.int .i64 (gOffset W H U V xs ys q).1, .float .f32 r, .bool (gOffset W H U V xs ys q).2.2]) ∧ FE .f32 r (gOffset W H U V xs ys q).2.1) ∧ Gr w w' := by
  have hn' : xs.length ≤ maxLen := by unfold maxLen; omega
  have hm' : ys.length ≤ maxLen := by unfold maxLen; omega
  have Fx := Lib.hid fx
  have Fy := Lib.hid fy
  have h0 := FE0
  clear fx fy
  cases hT : gTwo W H U V xs.length ys.length
  · have eO : gOffset W H U V xs ys q = (0, 0, false) := by unfold gOffset; rw [hT]; rfl
    rw [eO]
    clear eO
    go_enter Try.func37, Try.ntmps37
    go_wp2_with (first
      | (go_at_call 96; with_reducible refine (I_pairOk W H U V a b _ _ _ _ _ hn' hm').mono ?_; rintro e w' ⟨rfl, os, m, rfl⟩; rw [hT]))
    exact bodyPost_ret (v := .tuple #[.int .i64 0, .float .f32 0, .bool false]) (by simp [results, Try.results37, go_sem]) rfl ⟨⟨_, rfl, h0⟩, (by (try show Gr _ _); repeat (with_reducible first | exact Gr.refl _ | refine Gr.drewN ?_ _ | refine Gr.grew ?_ _ _ | refine Gr.alloc ?_ _ | refine Gr.drew ?_))⟩
  cases hQ : gIn q 0 8
  · have eO : gOffset W H U V xs ys q = (0, 0, false) := by unfold gOffset; rw [hT, hQ]; rfl
    rw [eO]
    clear eO
    go_enter Try.func37, Try.ntmps37
    go_wp2_with (first
      | (go_at_call 96; with_reducible refine (I_pairOk W H U V a b _ _ _ _ _ hn' hm').mono ?_; rintro e w' ⟨rfl, os, m, rfl⟩; rw [hT])
      | (go_at_call 97; with_reducible refine (I_in _ _ _ _).mono ?_; rintro e w' ⟨rfl, rfl⟩; rw [hQ]))
    exact bodyPost_ret (v := .tuple #[.int .i64 0, .float .f32 0, .bool false]) (by simp [results, Try.results37, go_sem]) rfl ⟨⟨_, rfl, h0⟩, (by (try show Gr _ _); repeat (with_reducible first | exact Gr.refl _ | refine Gr.drewN ?_ _ | refine Gr.grew ?_ _ _ | refine Gr.alloc ?_ _ | refine Gr.drew ?_))⟩
  have eO : gOffset W H U V xs ys q = gBestTo (gRowSum xs ys W.toNat H.toNat) q (2 * q + 1).toNat := by unfold gOffset; rw [hT, hQ]; rfl
  rw [eO]
  clear eO
  have hT' := hT
  simp only [gTwo, Bool.and_eq_true, beq_iff_eq] at hT'
  obtain ⟨hP, hP2, rfl, rfl⟩ := hT'
  have hp1 := (gPic_true hP).2
  have hp2 := (gPic_true hP2).2
  obtain ⟨s1, s2, s3, s4, s5, s6⟩ := gSize_true (gPic_true hP).1
  obtain ⟨q1, q2⟩ := gIn_true hQ
  obtain ⟨W, rfl⟩ := Int.eq_ofNat_of_zero_le (show 0 ≤ W by omega)
  obtain ⟨H, rfl⟩ := Int.eq_ofNat_of_zero_le (show 0 ≤ H by omega)
  have e1 := Lib.hid (show xs.length = W * H by exact_mod_cast hp1)
  have e2 := Lib.hid (show ys.length = W * H by exact_mod_cast hp2)
  rw [Int.toNat_natCast, Int.toNat_natCast]
  obtain ⟨N, hN⟩ : ∃ N : Nat, (N : Int) = 2 * q + 1 := ⟨(2 * q + 1).toNat, by omega⟩
  rw [← hN, Int.toNat_natCast]
  have HN := Lib.hid hN
  clear hP hP2 hp1 hp2 s5 s6 hN
  go_enter Try.func37, Try.ntmps37
  go_wp2_with fail
  refine (I_pairOk W H W H a b _ _ _ _ _ hn' hm').mono ?_
  rintro e u0 ⟨rfl, g⟩
  rw [hT]
  have k : Gr w u0 := Gr.trans (by (try show Gr _ _); repeat (with_reducible first | exact Gr.refl _ | refine Gr.drewN ?_ _ | refine Gr.grew ?_ _ _ | refine Gr.alloc ?_ _ | refine Gr.drew ?_)) g
  have B0 := Lib.hid (Blk.gr (show Blk _ w.heap.size [.int .i64 W, .int .i64 H, .slice a xs.length ca] 28 from (by repeat (with_reducible first | assumption | exact Blk.atNew (by simp) | refine Blk.alloc ?_ _ | refine Blk.grew ?_ _ _ | refine Blk.drewN ?_ _ | refine Blk.drew ?_))) g)
  have B1 := Lib.hid (Blk.gr (show Blk _ (w.heap.size + 1) [.int .i64 W, .int .i64 H, .slice b ys.length cb] 28 from (by repeat (with_reducible first | assumption | exact Blk.atNew (by simp) | refine Blk.alloc ?_ _ | refine Blk.grew ?_ _ _ | refine Blk.drewN ?_ _ | refine Blk.drew ?_))) g)
  have G := Lib.hid k
  clear g k
  have M1 := Lib.hid (MP.mk (B0.out.cellv 0) (B0.out.cellv 1) (B0.out.cellv 2) (Fx.out.keep G.out.kp))
  have M2 := Lib.hid (MP.mk (B1.out.cellv 0) (B1.out.cellv 1) (B1.out.cellv 2) (Fy.out.keep G.out.kp))
  have c0 := B0.out.cellv 0
  have c1 := B0.out.cellv 1
  go_wp2_with ((go_at_call 97; with_reducible refine (I_in _ _ _ _).mono ?_; rintro e w' ⟨rfl, hw⟩; (obtain rfl := hw.symm; rw [hQ])))
  go_loopw [9, 10, 11, 12] (fun sb sl sf sk wr => ∃ (j r : Nat), j ≤ N ∧ sk = .int .i64 (-q + (j : Int)) ∧ sb = .int .i64 (gBestTo (gRowSum xs ys W H) q j).1 ∧ sl = .float .f32 r ∧ FE .f32 r (gBestTo (gRowSum xs ys W H) q j).2.1 ∧ sf = .bool (gBestTo (gRowSum xs ys W H) q j).2.2 ∧ ∃ n, wr = u0.drewN n) (fun _ _ _ sk _ => (q + 1 - intOf sk).toNat)
  case atStart => exact ⟨0, 0, Nat.zero_le _, by simp, rfl, rfl, h0, rfl, (by first | exact ⟨0, rfl⟩ | exact ⟨_, rfl⟩)⟩
  case round =>
    obtain ⟨j, r, hj, rfl, rfl, rfl, hr, rfl, n, rfl⟩ := hrel
    by_cases hlt : j < N
    · have hN := HN.out
      obtain ⟨b0, l0, f0, hb⟩ : ∃ b0 l0 f0, gBestTo (gRowSum xs ys W H) q j = (b0, l0, f0) := ⟨_, _, _, rfl⟩
      obtain ⟨S, hS⟩ : ∃ S, gRowSum xs ys W H (-q + (j : Int)) = S := ⟨_, rfl⟩
      have hst := gBestTo_step (gRowSum xs ys W H) q j S b0 l0 f0 hS hb
      rw [hb] at hr ⊢
      simp only at hr
      have hkk : -q + (j : Int) ≤ q := by omega
      have hkl : -8 ≤ -q + (j : Int) := by omega
      have ek : -q + (j : Int) + 1 = -q + ((j + 1 : Nat) : Int) := by omega
      have EK := Lib.hid ek
      obtain ⟨kk, hk⟩ : ∃ kk, kk = -q + (j : Int) := ⟨_, rfl⟩
      rw [← hk] at hkk hkl hst EK hS
      rw [← hk]
      have HK := Lib.hid hk
      have HS := Lib.hid hS
      have Hst := Lib.hid hst
      have Hr := Lib.hid hr
      clear hb hS hN ek hk hst hr
      go_wp2
      go_loopw [13, 34] (fun s i wr => ∃ (y r : Nat), y ≤ H ∧ i = .int .i64 y ∧ s = .float .f32 r ∧ FE .f32 r (gSumTo (fun i => gAbs (gDiff xs ys W H kk i)) (0 + W * y)) ∧ ∃ n, wr = u0.drewN n) (fun _ i _ => H - (intOf i).toNat)
      case atStart => exact ⟨0, 0, Nat.zero_le _, rfl, rfl, h0, (by first | exact ⟨0, rfl⟩ | exact ⟨_, rfl⟩)⟩
      case round =>
        obtain ⟨y, r', hy, rfl, rfl, hr', n', rfl⟩ := hrel
        by_cases hyt : y < H
        · have Hr' := Lib.hid hr'
          clear hr'
          go_wp2
          go_loopw [13, 39] (fun s i wr => ∃ (x r : Nat), x ≤ W ∧ i = .int .i64 x ∧ s = .float .f32 r ∧ FE .f32 r (gSumTo (fun i => gAbs (gDiff xs ys W H kk i)) (x + W * y)) ∧ ∃ n, wr = u0.drewN n) (fun _ i _ => W - (intOf i).toNat)
          case atStart => exact ⟨0, _, Nat.zero_le _, rfl, rfl, Hr'.out, (by first | exact ⟨0, rfl⟩ | exact ⟨_, rfl⟩)⟩
          case round =>
            clear Hr'
            obtain ⟨x, r'', hx, rfl, rfl, hr'', n'', rfl⟩ := hrel
            by_cases hxt : x < W
            · have eD : gDiff xs ys W H kk (x + W * y) = fop .sub .f32 (xs.getD (clampN (x : Int) W + W * clampN (y : Int) H) 0) (ys.getD (clampN (x : Int) W + W * clampN ((y : Int) + kk) H) 0) := by
                unfold gDiff; rw [mod_of hxt, div_of hxt]
              have eS : gSumTo (fun i => gAbs (gDiff xs ys W H kk i)) (x + 1 + W * y) = fop .add .f32 (gSumTo (fun i => gAbs (gDiff xs ys W H kk i)) (x + W * y)) (gAbs (gDiff xs ys W H kk (x + W * y))) := by
                rw [show x + 1 + W * y = (x + W * y) + 1 by omega]; rfl
              rw [eD] at eS
              have HA1 := Lib.hid (fun (n : Nat) => I_Picture_about W H w.heap.size (x : Int) (y : Int) a ca xs (u0.drewN n) (M1.out.gr (gr_drewN u0 n)) (by omega) (by omega) (by omega) (by omega) e1.out)
              have HA2 := Lib.hid (fun (n : Nat) => I_Picture_about W H (w.heap.size + 1) (x : Int) ((y : Int) + kk) b cb ys (u0.drewN n) (M2.out.gr (gr_drewN u0 n)) (by omega) (by omega) (by omega) (by omega) e2.out)
              generalize xs.getD (clampN (x : Int) W + W * clampN (y : Int) H) 0 = p at *
              generalize ys.getD (clampN (x : Int) W + W * clampN ((y : Int) + kk) H) 0 = p2 at *
              generalize gSumTo (fun i => gAbs (gDiff xs ys W H kk i)) (x + W * y) = T at *
              have wk : IntKind.i64.wrap ((y : Int) + kk) = (y : Int) + kk := IntWalk.i64_in _ (by omega)
              have ES := Lib.hid eS
              clear eD eS
              go_wp2_with (first
      | (go_at_call 70; with_reducible refine (HA1.out _).mono ?_; rintro e w' ⟨r1, rfl, hr1, n1, rfl⟩)
      | (go_at_call 70; with_reducible refine (HA2.out _).mono ?_; rintro e w' ⟨r2, rfl, hr2, n2, rfl⟩)
      | (go_at_call 98; refine (I_abs _ _ _ (by assumption)).mono ?_; rintro e w' ⟨r3, rfl, hr3, n3, rfl⟩)
      | ((with_reducible apply wpList_fop); (case hw => rfl); (case hop => rfl); (case hx => rfl); (case hy => rfl); (case hA => (first | assumption | exact FE.ofInt _ _ | exact FE.lit (by decide +kernel))); (case hB => (first | assumption | exact FE.ofInt _ _ | exact FE.lit (by decide +kernel))); intro r n hr)
      | ((with_reducible apply wpList_fcmp); (case hw => rfl); (case hop => rfl); (case hx => rfl); (case hy => rfl); (case hA => (first | assumption | exact FE.ofInt _ _ | exact FE.lit (by decide +kernel))); (case hB => (first | assumption | exact FE.ofInt _ _ | exact FE.lit (by decide +kernel))); (case hb => (first | assumption | rfl)))
      | ((with_reducible apply wpList_widen); (case hw => rfl); (case hs => exact Try.underlying37); (case hd => exact Try.underlying63); (case hx => rfl); (case hA => (first | assumption | exact FE.ofInt _ _ | exact FE.lit (by decide +kernel))); intro r n hr)
      | ((with_reducible apply wpList_fneg); (case hw => rfl); (case hx => rfl); (case hA => (first | assumption | exact FE.ofInt _ _ | exact FE.lit (by decide +kernel))); intro r hr))
              go_roundw
              case rel => exact ⟨x + 1, _, by omega, by go_num, rfl, by rw [ES.out]; assumption, (by first | exact ⟨0, rfl⟩ | exact ⟨_, rfl⟩)⟩
              case measure => simp [intOf]; omega
            · obtain rfl : x = W := by omega
              have Hq := Lib.hid hr''
              clear hr''
              go_wp2
              go_roundw
              case rel => exact ⟨y + 1, _, by omega, by go_num, rfl, by rw [show 0 + x * (y + 1) = x + x * y by rw [Nat.mul_succ]; omega]; exact Hq.out, (by first | exact ⟨0, rfl⟩ | exact ⟨_, rfl⟩)⟩
              case measure => simp [intOf]; omega
        · obtain rfl : y = H := by omega
          rw [Nat.zero_add] at hr'
          have hrs : FE .f32 r' S := by rw [← HS.out]; exact hr'
          have hr := Hr.out
          clear hr'
          rcases Hst.out with ⟨t1, hE⟩ | ⟨t1, rfl, hE⟩ | ⟨t1, rfl, t2, hE⟩ | ⟨t1, rfl, t2, hE⟩
          all_goals
            have HE := Lib.hid hE
            clear hE
            go_wp2_with (first
      | (go_at_call 99; with_reducible refine (I_isNumber _ _ _ hrs).mono ?_; rintro e w' ⟨rfl, n, rfl⟩; rw [t1])
      | ((with_reducible apply wpList_fop); (case hw => rfl); (case hop => rfl); (case hx => rfl); (case hy => rfl); (case hA => (first | assumption | exact FE.ofInt _ _ | exact FE.lit (by decide +kernel))); (case hB => (first | assumption | exact FE.ofInt _ _ | exact FE.lit (by decide +kernel))); intro r n hr)
      | ((with_reducible apply wpList_fcmp); (case hw => rfl); (case hop => rfl); (case hx => rfl); (case hy => rfl); (case hA => (first | assumption | exact FE.ofInt _ _ | exact FE.lit (by decide +kernel))); (case hB => (first | assumption | exact FE.ofInt _ _ | exact FE.lit (by decide +kernel))); (case hb => (first | assumption | rfl)))
      | ((with_reducible apply wpList_widen); (case hw => rfl); (case hs => exact Try.underlying37); (case hd => exact Try.underlying63); (case hx => rfl); (case hA => (first | assumption | exact FE.ofInt _ _ | exact FE.lit (by decide +kernel))); intro r n hr)
      | ((with_reducible apply wpList_fneg); (case hw => rfl); (case hx => rfl); (case hA => (first | assumption | exact FE.ofInt _ _ | exact FE.lit (by decide +kernel))); intro r hr))
            go_roundw
            case rel => exact ⟨j + 1, _, by omega, by rw [← EK.out], by rw [HE.out], rfl, by rw [HE.out]; assumption, by rw [HE.out], (by first | exact ⟨0, rfl⟩ | exact ⟨_, rfl⟩)⟩
            case measure => simp [intOf]; omega
    · obtain rfl : j = N := by omega
      have hN := HN.out
      obtain ⟨p, hp⟩ : ∃ p, gBestTo (gRowSum xs ys W H) q j = p := ⟨_, rfl⟩
      have HPP := Lib.hid hp
      rw [hp] at hr ⊢
      clear hp
      obtain ⟨b0, l0, f0⟩ := p
      simp only at hr ⊢
      have hkk : q < -q + (j : Int) := by omega
      generalize -q + (j : Int) = kk at *
      have HN2 := Lib.hid hN
      clear hN
      cases f0
      all_goals
        go_wp2
        refine bodyPost_ret (v := .tuple #[.int .i64 b0, .float .f32 r, .bool _]) (by simp [results, Try.results37, go_sem]; rfl) rfl ?_
        rw [HPP.out]
        exact ⟨⟨_, rfl, hr⟩, G.out.trans (gr_drewN _ _)⟩
end Go.Proofs.Ythpdnblkbadhaaa
