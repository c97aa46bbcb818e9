/- Contracts: flat maps; LessMaps. MAXREC -/
import Derived.Test.YthpdnblkbadhaaaProg
import Derived.Test.YthpdnblkbadhaaaC15
namespace Go.Proofs.Ythpdnblkbadhaaa
open Go.RowKit Go.Fx Go.Soft
set_option maxRecDepth 20000 in
set_option maxHeartbeats 1000000 in
theorem S_l03Flat (W H n r X : Nat) (w : World) (hr : FE .f32 r X) (hW : W ≤ 24) (hH : H ≤ 24) (hn : n = W * H) :
    Calls Try.prog 88 #[.int .i64 W, .int .i64 H, .float .f32 r] w fun e w' => (∃ v, e = .returned (.agg #[.int .i64 W, .int .i64 H, v]) ∧ FOwn w' w.heap.size 37 v (lst n fun _ => X)) ∧ Gr w w' := by
  obtain ⟨i0, hi, hz0, hz1, hz2⟩ := info_parts info_float32
  have h24 : W * H ≤ 576 := Nat.mul_le_mul hW hH
  have hn6 : n ≤ 576 := by omega
  have Hn := Lib.hid hn
  have em : IntKind.i64.wrap ((W : Int) * (H : Int)) = (n : Int) := by
    rw [show (W : Int) * (H : Int) = (n : Int) by rw [hn]; simp]
    exact IntWalk.i64_in _ (by omega)
  clear hn h24
  go_enter Try.func88, Try.ntmps88
  go_wp2
  go_loopw [8] (fun i wr => ∃ k : Nat, k ≤ n ∧ i = .int .i64 k ∧ ∃ v, Blk wr (w.heap.size + 1) [.int .i64 W, .int .i64 H, v] 43 ∧ Blk wr w.heap.size [.int .i64 0, .int .i64 0, .slice none 0 0] 43 ∧ FOwn wr (w.heap.size + 2) 37 v (lst k fun _ => X) ∧ Gr w wr) (fun i _ => n - (intOf i).toNat)
  case atStart => exact ⟨0, Nat.zero_le _, rfl, _, (by repeat (with_reducible first | assumption | exact Blk.atNew (by simp) | refine Blk.alloc ?_ _ | refine Blk.grew ?_ _ _ | refine Blk.drewN ?_ _ | refine Blk.drew ?_)), (by repeat (with_reducible first | assumption | exact Blk.atNew (by simp) | refine Blk.alloc ?_ _ | refine Blk.grew ?_ _ _ | refine Blk.drewN ?_ _ | refine Blk.drew ?_)), FOwn.nil _ _ _, (by (try show Gr _ _); repeat (with_reducible first | exact Gr.refl _ | refine Gr.drewN ?_ _ | refine Gr.grew ?_ _ _ | refine Gr.alloc ?_ _ | refine Gr.drew ?_))⟩
  case round =>
    obtain ⟨k, hk, rfl, v, hb, hb0, ho, hg⟩ := hrel
    have Hb := Lib.hid hb
    have Hb0 := Lib.hid hb0
    have Ho := Lib.hid ho
    have Hg := Lib.hid hg
    have Hl : Hid (w.heap.size + 2 ≤ (w.heap.size + 1) + 1) := by simp [Hid]
    by_cases hlt : k < n
    · have p2 := hb.cellv 2
      clear hb hb0 ho hg


      go_wp2_with (first
        | (refine wpList_append_f rfl rfl i0 Try.underlying22 hi hz0 hz1 hz2 rfl (Ho.out.gr (by (try show Gr _ _); repeat (with_reducible first | exact Gr.refl _ | refine Gr.drewN ?_ _ | refine Gr.grew ?_ _ _ | refine Gr.alloc ?_ _ | refine Gr.drew ?_))) rfl ((Blk.atNew rfl).cellv 0 rfl) hr (by simp <;> omega) (by have := Hb.out.lt; have := Hl.out; simp <;> omega) ?_
           intro v1 w1 ho1 hg1
           obtain ⟨a1, c1, rfl, -, -⟩ := ho1.sl' (k + 1) (by simp)
           obtain ⟨hb1, P, ho2⟩ := pushed_step (i := 2) (u := .slice a1 (k + 1) c1) Hb.out Ho.out (by (try show Gr _ _); repeat (with_reducible first | exact Gr.refl _ | refine Gr.drewN ?_ _ | refine Gr.grew ?_ _ _ | refine Gr.alloc ?_ _ | refine Gr.drew ?_)) hg1 ho1 (by decide)
           have q2 := hb1.cellv 2
           have z2 := hb1.frozen 2
           have Hb2 := Lib.hid hb1
           have Ho2 := Lib.hid ho2
           have HP := Lib.hid P
           clear hg1 hb1 ho1 ho2 P))
      go_roundw
      case rel => exact ⟨k + 1, by omega, by go_num, _, Hb2.out.set _, HP.out.blk Hb0.out (by omega) (by omega), by rw [← lst_succ]; exact Ho2.out, HP.out.gr Hg.out (by omega) (by omega)⟩
      case measure => simp [intOf]; omega
    · obtain rfl : k = n := by omega
      clear Hb Hb0 Ho Hg
      have p0 := hb.cellv 0
      have p1 := hb.cellv 1
      have p2 := hb.cellv 2
      have q0 := hb0.cellv 0
      have q1 := hb0.cellv 1
      have q2 := hb0.cellv 2
      have z0 := hb0.frozen 0
      have z1 := hb0.frozen 1
      have z2 := hb0.frozen 2
      obtain ⟨a1, c1, rfl, -, -⟩ := ho.sl' (k) (by simp)
      have Ho := Lib.hid ho
      have Hg := Lib.hid hg
      clear hb hb0 ho hg
      go_wp2
      refine bodyPost_ret (v := .agg #[.int .i64 W, .int .i64 H, .slice a1 k c1]) (by simp [results, Try.results88, go_sem, *]) rfl ⟨⟨_, rfl, ?_⟩, ?_⟩
      · have h := Ho.out
        exact FOwn.base (B := w.heap.size + 2) (by repeat (with_reducible first | assumption | refine FOwn.setOther ?_ _ (by simp <;> omega))) (by omega)
      · have h := Hg.out
        exact (by repeat (with_reducible first | assumption | refine Gr.setCell ?_ (by simp <;> omega) _))
def gLess (x y : Nat) : Nat := if gHole x || gHole y then 3212836864 else fop .sub .f32 x y
set_option maxRecDepth 20000 in
set_option maxHeartbeats 1000000 in
theorem I_LessMaps_1 (W H x y b1 b2 ca cb : Nat) (a b : Option Addr) (xs ys : List Nat) (w : World) (m1 : MP w b1 W H a xs.length ca xs) (m2 : MP w b2 W H b ys.length cb ys)
    (hW : W ≤ 24) (hH : H ≤ 24) (hx : x < W) (hy : y < H) (hn : xs.length = W * H) (hm : ys.length = W * H) :
    Calls Try.prog 92 #[.int .i64 x, .int .i64 y, .pointer (some ⟨b1, 0, none⟩), .pointer (some ⟨b2, 0, none⟩)] w fun e w' => (∃ r, e = .returned (.float .f32 r) ∧ FE .f32 r (gLess (xs.getD (x + W * y) 0) (ys.getD (x + W * y) 0))) ∧ Gr w w' := by
  have M1 := Lib.hid m1
  have M2 := Lib.hid m2
  have Hn := Lib.hid hn
  have Hm := Lib.hid hm
  clear m1 m2 hn hm
  have h3 : (gHole (xs.getD (x + W * y) 0) = true) ∨ (gHole (xs.getD (x + W * y) 0) = false ∧ gHole (ys.getD (x + W * y) 0) = true) ∨ (gHole (xs.getD (x + W * y) 0) = false ∧ gHole (ys.getD (x + W * y) 0) = false) := by
    cases gHole (xs.getD (x + W * y) 0) <;> cases gHole (ys.getD (x + W * y) 0) <;> simp
  rcases h3 with t1 | ⟨t1, t2⟩ | ⟨t1, t2⟩
  all_goals
    have eG := Lib.hid (show gLess (xs.getD (x + W * y) 0) (ys.getD (x + W * y) 0) = _ by unfold gLess; simp only [Bool.true_or, Bool.false_or, if_true, *]; rfl)
    go_enter Try.func92, Try.ntmps92
    go_wp2_with (first
      | (go_at_call 84; with_reducible refine (I_Map_at W H x y b1 _ _ xs _ M1.out hW hH hx hy Hn.out).mono ?_; rintro e w' ⟨r, rfl, hr, n, rfl⟩)
      | (go_at_call 84; with_reducible refine (I_Map_at W H x y b1 _ _ xs _ (M1.out.gr (gr_drewN w _)) hW hH hx hy Hn.out).mono ?_; rintro e w' ⟨r, rfl, hr, n, rfl⟩)
      | (go_at_call 84; with_reducible refine (I_Map_at W H x y b2 _ _ ys _ (M2.out.gr (gr_drewN w _)) hW hH hx hy Hm.out).mono ?_; rintro e w' ⟨r, rfl, hr, n, rfl⟩)
      | (go_at_call 86; with_reducible refine (I_isHole _ _ _ (by assumption)).mono ?_; rintro e w' ⟨rfl, n, rfl⟩; (first | rw [t1] | rw [t2]))
      | ((with_reducible apply wpList_fop); (case hw => rfl); (case hop => rfl); (case hx => rfl); (case hy => rfl); (case hA => (first | assumption | exact FE.ofInt _ _ | exact FE.lit (by decide +kernel))); (case hB => (first | assumption | exact FE.ofInt _ _ | exact FE.lit (by decide +kernel))); intro r n hr)
      | ((with_reducible apply wpList_fcmp); (case hw => rfl); (case hop => rfl); (case hx => rfl); (case hy => rfl); (case hA => (first | assumption | exact FE.ofInt _ _ | exact FE.lit (by decide +kernel))); (case hB => (first | assumption | exact FE.ofInt _ _ | exact FE.lit (by decide +kernel))); (case hb => (first | assumption | rfl)))
      | ((with_reducible apply wpList_widen); (case hw => rfl); (case hs => exact Try.underlying37); (case hd => exact Try.underlying63); (case hx => rfl); (case hA => (first | assumption | exact FE.ofInt _ _ | exact FE.lit (by decide +kernel))); intro r n hr)
      | ((with_reducible apply wpList_fneg); (case hw => rfl); (case hx => rfl); (case hA => (first | assumption | exact FE.ofInt _ _ | exact FE.lit (by decide +kernel))); intro r hr))
    go_ret
    exact ⟨⟨_, rfl, by rw [eG.out]; first | assumption | exact FE.lit (by decide +kernel)⟩, (by (try show Gr _ _); repeat (with_reducible first | exact Gr.refl _ | refine Gr.drewN ?_ _ | refine Gr.grew ?_ _ _ | refine Gr.alloc ?_ _ | refine Gr.drew ?_))⟩
set_option maxRecDepth 20000 in
set_option maxHeartbeats 800000 in
theorem S_LessMaps (W H U V : Int) (a b : Option Addr) (ca cb : Nat) (xs ys : List Nat) (w : World) (fx : FSl w a xs.length xs) (fy : FSl w b ys.length ys) (hn : xs.length ≤ 1048576) (hm : ys.length ≤ 1048576) :
    Calls Try.prog 34 #[.agg #[.int .i64 W, .int .i64 H, .slice a xs.length ca], .agg #[.int .i64 U, .int .i64 V, .slice b ys.length cb]] w
      (PostP w (gW (gTwo W H U V xs.length ys.length) W) (gW (gTwo W H U V xs.length ys.length) H) (gTwo W H U V xs.length ys.length) (gVals (gTwo W H U V xs.length ys.length) (xs.length) (fun i => gLess (xs.getD i 0) (ys.getD i 0)))) := by
  have Fx := Lib.hid fx
  have Fy := Lib.hid fy
  clear fx fy
  have hn' : xs.length ≤ maxLen := by unfold maxLen; omega
  have hm' : ys.length ≤ maxLen := by unfold maxLen; omega
  cases hT : gTwo W H U V xs.length ys.length
  · go_enter Try.func34, Try.ntmps34
    go_wp2_with (first
      | (go_at_call 87; with_reducible refine (S_l05Alike W H U V a b ca cb _ _ xs ys _ hn' hm' ⟨(by first | (simp (maxDischargeDepth := 12) [go_sem]; done) | (simp (maxDischargeDepth := 12) [go_sem, *]; done)), (by first | (simp (maxDischargeDepth := 12) [go_sem]; done) | (simp (maxDischargeDepth := 12) [go_sem, *]; done)), (by first | (simp (maxDischargeDepth := 12) [go_sem]; done) | (simp (maxDischargeDepth := 12) [go_sem, *]; done)), Fx.out.keep (by (repeat (with_reducible first | exact Kp.refl _ | exact kp_same | exact kp_app1 | exact kp_app2 | exact kp_app3 | refine Kp.grew ?_ _ _ | refine Kp.drewN ?_ _ | refine Kp.drew ?_ | refine Kp.alloc ?_ _)))⟩ ⟨(by first | (simp (maxDischargeDepth := 12) [go_sem]; done) | (simp (maxDischargeDepth := 12) [go_sem, *]; done)), (by first | (simp (maxDischargeDepth := 12) [go_sem]; done) | (simp (maxDischargeDepth := 12) [go_sem, *]; done)), (by first | (simp (maxDischargeDepth := 12) [go_sem]; done) | (simp (maxDischargeDepth := 12) [go_sem, *]; done)), Fy.out.keep (by (repeat (with_reducible first | exact Kp.refl _ | exact kp_same | exact kp_app1 | exact kp_app2 | exact kp_app3 | refine Kp.grew ?_ _ _ | refine Kp.drewN ?_ _ | refine Kp.drew ?_ | refine Kp.alloc ?_ _)))⟩).mono ?_; rintro e w' ⟨rfl, n, rfl⟩; rw [hT]))
    exact bodyPost_ret (v := .tuple #[.agg #[.int .i64 0, .int .i64 0, .slice none 0 0], .bool false]) (by simp [results, Try.results34, go_sem]) rfl ⟨⟨_, rfl, FOwn.nil _ _ _⟩, (by (try show Gr _ _); repeat (with_reducible first | exact Gr.refl _ | refine Gr.drewN ?_ _ | refine Gr.grew ?_ _ _ | refine Gr.alloc ?_ _ | refine Gr.drew ?_))⟩
  · have hT' := hT
    simp only [gTwo, Bool.and_eq_true, beq_iff_eq] at hT'
    obtain ⟨hP, hQ, rfl, rfl⟩ := hT'
    have hp1 := (gPic_true hP).2
    have hp2 := (gPic_true hQ).2
    obtain ⟨s1, s2, s3, s4, s5, s6⟩ := gSize_true (gPic_true hP).1
    have hpos : 0 < xs.length := by omega
    have hlen : ys.length = xs.length := by omega
    obtain ⟨W, rfl⟩ := Int.eq_ofNat_of_zero_le (show 0 ≤ W by omega)
    obtain ⟨H, rfl⟩ := Int.eq_ofNat_of_zero_le (show 0 ≤ H by omega)
    have hl : xs.length = W * H := by exact_mod_cast hp1
    have Hl := Lib.hid hl
    have Hlen := Lib.hid hlen
    obtain ⟨bx, ox, rfl⟩ := Fx.out.ptr hpos
    obtain ⟨by', oy, rfl⟩ := Fy.out.ptr (by omega)
    have f1 : FE .f32 3212836864 3212836864 := FE.lit (by decide +kernel)
    clear hP hQ hp1 hp2 hlen hl s5 s6
    go_enter Try.func34, Try.ntmps34
    go_wp2_with (first
      | (go_at_call 87; with_reducible refine (S_l05Alike W H W H _ _ ca cb _ _ xs ys _ hn' hm' ⟨(by first | (simp (maxDischargeDepth := 12) [go_sem]; done) | (simp (maxDischargeDepth := 12) [go_sem, *]; done)), (by first | (simp (maxDischargeDepth := 12) [go_sem]; done) | (simp (maxDischargeDepth := 12) [go_sem, *]; done)), (by first | (simp (maxDischargeDepth := 12) [go_sem]; done) | (simp (maxDischargeDepth := 12) [go_sem, *]; done)), Fx.out.keep (by (repeat (with_reducible first | exact Kp.refl _ | exact kp_same | exact kp_app1 | exact kp_app2 | exact kp_app3 | refine Kp.grew ?_ _ _ | refine Kp.drewN ?_ _ | refine Kp.drew ?_ | refine Kp.alloc ?_ _)))⟩ ⟨(by first | (simp (maxDischargeDepth := 12) [go_sem]; done) | (simp (maxDischargeDepth := 12) [go_sem, *]; done)), (by first | (simp (maxDischargeDepth := 12) [go_sem]; done) | (simp (maxDischargeDepth := 12) [go_sem, *]; done)), (by first | (simp (maxDischargeDepth := 12) [go_sem]; done) | (simp (maxDischargeDepth := 12) [go_sem, *]; done)), Fy.out.keep (by (repeat (with_reducible first | exact Kp.refl _ | exact kp_same | exact kp_app1 | exact kp_app2 | exact kp_app3 | refine Kp.grew ?_ _ _ | refine Kp.drewN ?_ _ | refine Kp.drew ?_ | refine Kp.alloc ?_ _)))⟩).mono ?_; rintro e w' ⟨rfl, n, rfl⟩; rw [hT])
      | (go_at_call 88; refine (S_l03Flat W H xs.length _ _ _ f1 (by omega) (by omega) Hl.out).mono ?_; rintro e w1 ⟨⟨v0, rfl, ho0⟩, os0, m0, rfl⟩; obtain ⟨g, cg, hv, -⟩ := ho0.ptr (by simp; exact hpos); rw [lst_length] at hv; subst hv; have Ho0 := Lib.hid ho0; clear ho0))
    go_loopw [7, 19] (fun s7 i wr => ∃ k : Nat, k ≤ xs.length ∧ i = .int .i64 k ∧ Blk wr (w.heap.size) [.int .i64 W, .int .i64 H, .slice (some ⟨bx, ox, none⟩) xs.length ca] 43 ∧ Blk wr (w.heap.size + 1) [.int .i64 W, .int .i64 H, .slice (some ⟨by', oy, none⟩) ys.length cb] 43 ∧ Blk wr (w.heap.size + 1 + 1) [.int .i64 0, .int .i64 0, .slice none 0 0] 43 ∧ Blk wr (w.heap.size + 1 + 1 + 1 + os0.size) [.int .i64 W, .int .i64 H, .slice (some ⟨g, 0, none⟩) (xs.length) cg] 43 ∧ FOwn wr (w.heap.size + 1 + 1 + 1) 37 (.slice (some ⟨g, 0, none⟩) (xs.length) cg) (upto (xs.length) k (fun i => gLess (xs.getD i 0) (ys.getD i 0)) (fun _ => 3212836864)) ∧ Gr w wr) (fun _ i _ => xs.length - (intOf i).toNat)
    case atStart => exact ⟨0, Nat.zero_le _, rfl, (by repeat (with_reducible first | assumption | exact Blk.atNew (by simp) | refine Blk.alloc ?_ _ | refine Blk.grew ?_ _ _ | refine Blk.drewN ?_ _ | refine Blk.drew ?_)), (by repeat (with_reducible first | assumption | exact Blk.atNew (by simp) | refine Blk.alloc ?_ _ | refine Blk.grew ?_ _ _ | refine Blk.drewN ?_ _ | refine Blk.drew ?_)), (by repeat (with_reducible first | assumption | exact Blk.atNew (by simp) | refine Blk.alloc ?_ _ | refine Blk.grew ?_ _ _ | refine Blk.drewN ?_ _ | refine Blk.drew ?_)), (by repeat (with_reducible first | assumption | exact Blk.atNew (by simp) | refine Blk.alloc ?_ _ | refine Blk.grew ?_ _ _ | refine Blk.drewN ?_ _ | refine Blk.drew ?_)), (by have h2 := Ho0.out.base (B' := w.heap.size + 1 + 1 + 1) (by simp <;> omega); (try simp only [grew_drewN] at h2); rw [upto_zero]; skip; exact h2.gr (by (try show Gr _ _); repeat (with_reducible first | exact Gr.refl _ | refine Gr.drewN ?_ _ | refine Gr.grew ?_ _ _ | refine Gr.alloc ?_ _ | refine Gr.drew ?_))), (by (try show Gr _ _); repeat (with_reducible first | exact Gr.refl _ | refine Gr.drewN ?_ _ | refine Gr.grew ?_ _ _ | refine Gr.alloc ?_ _ | refine Gr.drew ?_))⟩
    case round =>
      clear Ho0
      obtain ⟨k, hk, rfl, b0, b1, b2, bO, ho, hg⟩ := hrel
      by_cases hlt : k < xs.length
      · obtain ⟨ro, hco, -⟩ := ho.get k (by simp; exact hlt)
        have hz := ho.free k
        have o2 := bO.cellv 2
        have hgb : g ≠ w.heap.size + 1 + 1 + 1 + os0.size := by
          intro e
          exact ho.okb (.inr (bO.okb (e := 37) (by decide))) (by simp [Value.ownBlock, e])
        have hg3 : w.heap.size + 1 + 1 + 1 ≤ g := (ho.block rfl).1
        have hlt2 : k < ys.length := by have := Hlen.out; omega
        obtain ⟨rx, hcx, hrx⟩ := (Fx.out.keep hg.kp).get k hlt
        obtain ⟨ry, hcy, hry⟩ := (Fy.out.keep hg.kp).get k hlt2
        have m2 := b0.cellv 2
        have n2 := b1.cellv 2
        have Hgb := Lib.hid hgb
        have Hg3 := Lib.hid hg3
        have B0 := Lib.hid b0
        have B1 := Lib.hid b1
        have B2 := Lib.hid b2
        have BO := Lib.hid bO
        have Ho := Lib.hid ho
        have Hg := Lib.hid hg
        clear b0 b1 b2 bO ho hg hgb hg3
        have Hl2 := Lib.hid hlt2
        clear hlt2
        have h3 : (gHole (xs.getD k 0) = true) ∨ (gHole (xs.getD k 0) = false ∧ gHole (ys.getD k 0) = true) ∨ (gHole (xs.getD k 0) = false ∧ gHole (ys.getD k 0) = false) := by
          cases gHole (xs.getD k 0) <;> cases gHole (ys.getD k 0) <;> simp
        rcases h3 with t1 | ⟨t1, t2⟩ | ⟨t1, t2⟩
        · have eG := Lib.hid (show gLess (xs.getD k 0) (ys.getD k 0) = 3212836864 by unfold gLess; rw [t1]; rfl)
          go_wp2_with (first
      | (go_at_call 89; with_reducible refine (S_l05Hole _ _ _ (by assumption)).mono ?_; rintro e w' ⟨rfl, n, rfl⟩; rw [t1]))
          go_roundw
          case rel => exact ⟨k + 1, by omega, by go_num, B0.out.gr (by (try show Gr _ _); repeat (with_reducible first | exact Gr.refl _ | refine Gr.drewN ?_ _ | refine Gr.grew ?_ _ _ | refine Gr.alloc ?_ _ | refine Gr.drew ?_)), B1.out.gr (by (try show Gr _ _); repeat (with_reducible first | exact Gr.refl _ | refine Gr.drewN ?_ _ | refine Gr.grew ?_ _ _ | refine Gr.alloc ?_ _ | refine Gr.drew ?_)), B2.out.gr (by (try show Gr _ _); repeat (with_reducible first | exact Gr.refl _ | refine Gr.drewN ?_ _ | refine Gr.grew ?_ _ _ | refine Gr.alloc ?_ _ | refine Gr.drew ?_)), BO.out.gr (by (try show Gr _ _); repeat (with_reducible first | exact Gr.refl _ | refine Gr.drewN ?_ _ | refine Gr.grew ?_ _ _ | refine Gr.alloc ?_ _ | refine Gr.drew ?_)), (by rw [← upto_keep (n := xs.length) (k := k) (G := fun i => gLess (xs.getD i 0) (ys.getD i 0)) (O := fun _ => 3212836864) (eG.out).symm]; exact Ho.out.gr (by (try show Gr _ _); repeat (with_reducible first | exact Gr.refl _ | refine Gr.drewN ?_ _ | refine Gr.grew ?_ _ _ | refine Gr.alloc ?_ _ | refine Gr.drew ?_))), Hg.out.trans (by (try show Gr _ _); repeat (with_reducible first | exact Gr.refl _ | refine Gr.drewN ?_ _ | refine Gr.grew ?_ _ _ | refine Gr.alloc ?_ _ | refine Gr.drew ?_))⟩
          case measure => simp [intOf]; omega
        · have eG := Lib.hid (show gLess (xs.getD k 0) (ys.getD k 0) = 3212836864 by unfold gLess; rw [t1, t2]; rfl)
          go_wp2_with (first
      | (go_at_call 89; with_reducible refine (S_l05Hole _ _ _ (by assumption)).mono ?_; rintro e w' ⟨rfl, n, rfl⟩; first | rw [t1] | rw [t2]))
          go_roundw
          case rel => exact ⟨k + 1, by omega, by go_num, B0.out.gr (by (try show Gr _ _); repeat (with_reducible first | exact Gr.refl _ | refine Gr.drewN ?_ _ | refine Gr.grew ?_ _ _ | refine Gr.alloc ?_ _ | refine Gr.drew ?_)), B1.out.gr (by (try show Gr _ _); repeat (with_reducible first | exact Gr.refl _ | refine Gr.drewN ?_ _ | refine Gr.grew ?_ _ _ | refine Gr.alloc ?_ _ | refine Gr.drew ?_)), B2.out.gr (by (try show Gr _ _); repeat (with_reducible first | exact Gr.refl _ | refine Gr.drewN ?_ _ | refine Gr.grew ?_ _ _ | refine Gr.alloc ?_ _ | refine Gr.drew ?_)), BO.out.gr (by (try show Gr _ _); repeat (with_reducible first | exact Gr.refl _ | refine Gr.drewN ?_ _ | refine Gr.grew ?_ _ _ | refine Gr.alloc ?_ _ | refine Gr.drew ?_)), (by rw [← upto_keep (n := xs.length) (k := k) (G := fun i => gLess (xs.getD i 0) (ys.getD i 0)) (O := fun _ => 3212836864) (eG.out).symm]; exact Ho.out.gr (by (try show Gr _ _); repeat (with_reducible first | exact Gr.refl _ | refine Gr.drewN ?_ _ | refine Gr.grew ?_ _ _ | refine Gr.alloc ?_ _ | refine Gr.drew ?_))), Hg.out.trans (by (try show Gr _ _); repeat (with_reducible first | exact Gr.refl _ | refine Gr.drewN ?_ _ | refine Gr.grew ?_ _ _ | refine Gr.alloc ?_ _ | refine Gr.drew ?_))⟩
          case measure => simp [intOf]; omega
        · have eG := Lib.hid (show (fun i => gLess (xs.getD i 0) (ys.getD i 0)) k = fop .sub .f32 (xs.getD k 0) (ys.getD k 0) by show gLess _ _ = _; unfold gLess; rw [t1, t2]; rfl)
          go_wp2_with (first
      | (go_at_call 89; with_reducible refine (S_l05Hole _ _ _ (by assumption)).mono ?_; rintro e w' ⟨rfl, n, rfl⟩; first | rw [t1] | rw [t2]))
          apply region_drew 14
          case hm => kernel_rfl
          case hB => kernel_rfl
          simp only [List.take_succ_cons, List.take_zero, List.drop_succ_cons, List.drop_zero]
          repeat (first
            | (apply wpSoft_skip rfl; simp only [Act.put, List.setIfInBounds_toArray, List.set_cons_succ, List.set_cons_zero])
            | (apply wpSoft_nilCheck rfl rfl; simp only [Act.put, List.setIfInBounds_toArray, List.set_cons_succ, List.set_cons_zero])
            | ((with_reducible apply wpSoft_fop); (case hw => rfl); (case hD => exact closed_drew); (case hop => rfl); (case hx => rfl); (case hy => rfl); (case hA => (first | assumption | exact FE.ofInt _ _ | exact FE.lit (by decide +kernel))); (case hB => (first | assumption | exact FE.ofInt _ _ | exact FE.lit (by decide +kernel))); (intro r hr; simp only [Act.put, List.setIfInBounds_toArray, List.set_cons_succ, List.set_cons_zero]))

            | ((with_reducible apply wpSoft_widen); (case hw => rfl); (case hD => exact closed_drew); (case hs => exact Try.underlying37); (case hd => exact Try.underlying63); (case hx => rfl); (case hA => (first | assumption | exact FE.ofInt _ _ | exact FE.lit (by decide +kernel))); (intro r hr; simp only [Act.put, List.setIfInBounds_toArray, List.set_cons_succ, List.set_cons_zero]))
            | ((with_reducible apply wpSoft_fneg); (case hw => rfl); (case hx => rfl); (case hA => (first | assumption | exact FE.ofInt _ _ | exact FE.lit (by decide +kernel))); (intro r hr; simp only [Act.put, List.setIfInBounds_toArray, List.set_cons_succ, List.set_cons_zero]))
            | ((with_reducible apply wpSoft_fcmp); (case hw => rfl); (case hop => rfl); (case hx => rfl); (case hy => rfl); (case hA => (first | assumption | exact FE.ofInt _ _ | exact FE.lit (by decide +kernel))); (case hB => (first | assumption | exact FE.ofInt _ _ | exact FE.lit (by decide +kernel))); (case hb => (first | assumption | rfl)); simp only [Act.put, List.setIfInBounds_toArray, List.set_cons_succ, List.set_cons_zero])
            | (apply wpSoft_q rfl rfl; intro K hK; go_big_quiet_op; go_big_quiet_on))
          with_reducible apply wpSoft_nil
          intro m
          go_wp2
          go_roundw
          case rel =>
            have hx := Hg3.out
            refine ⟨k + 1, by omega, by go_num, B0.out.setG (by (try show Gr _ _); repeat (with_reducible first | exact Gr.refl _ | refine Gr.drewN ?_ _ | refine Gr.grew ?_ _ _ | refine Gr.alloc ?_ _ | refine Gr.drew ?_)) (by simp; omega), B1.out.setG (by (try show Gr _ _); repeat (with_reducible first | exact Gr.refl _ | refine Gr.drewN ?_ _ | refine Gr.grew ?_ _ _ | refine Gr.alloc ?_ _ | refine Gr.drew ?_)) (by simp; omega), B2.out.setG (by (try show Gr _ _); repeat (with_reducible first | exact Gr.refl _ | refine Gr.drewN ?_ _ | refine Gr.grew ?_ _ _ | refine Gr.alloc ?_ _ | refine Gr.drew ?_)) (by simp; omega), BO.out.setG (by (try show Gr _ _); repeat (with_reducible first | exact Gr.refl _ | refine Gr.drewN ?_ _ | refine Gr.grew ?_ _ _ | refine Gr.alloc ?_ _ | refine Gr.drew ?_)) Hgb.out, ?_, Hg.out.setG (by (try show Gr _ _); repeat (with_reducible first | exact Gr.refl _ | refine Gr.drewN ?_ _ | refine Gr.grew ?_ _ _ | refine Gr.alloc ?_ _ | refine Gr.drew ?_)) (by simp; omega)⟩
            rw [← upto_set (G := fun i => gLess (xs.getD i 0) (ys.getD i 0)) (O := fun _ => 3212836864) hlt]
            refine FOwn.gr ?_ (by (try show Gr _ _); repeat (with_reducible first | exact Gr.refl _ | refine Gr.drewN ?_ _ | refine Gr.grew ?_ _ _ | refine Gr.alloc ?_ _ | refine Gr.drew ?_))
            rw [eG.out]
            exact Ho.out.store (k := k) (by first | assumption | exact FE.ofInt _ _ | exact FE.lit (by decide +kernel))
          case measure => simp [intOf]; omega
      · obtain rfl : k = xs.length := by omega
        have p0 := bO.cellv 0
        have p1 := bO.cellv 1
        have p2 := bO.cellv 2
        have q0 := b2.cellv 0
        have q1 := b2.cellv 1
        have q2 := b2.cellv 2
        have z0 := b2.frozen 0
        have z1 := b2.frozen 1
        have z2 := b2.frozen 2
        have Ho := Lib.hid ho
        have Hg := Lib.hid hg
        clear b0 b1 b2 bO ho hg
        go_wp2
        refine bodyPost_ret (v := .tuple #[.agg #[.int .i64 W, .int .i64 H, .slice (some ⟨g, 0, none⟩) (xs.length) cg], .bool true]) (by simp [results, Try.results34, go_sem, *]) rfl ⟨⟨_, rfl, ?_⟩, ?_⟩
        · have h := Ho.out
          rw [upto_all] at h
          show FOwn _ _ _ _ (lst (xs.length) _)
          exact FOwn.base (B := w.heap.size + 1 + 1 + 1) (by repeat (with_reducible first | assumption | refine FOwn.setOther ?_ _ (by simp <;> omega))) (by omega)
        · have h := Hg.out
          exact (by repeat (with_reducible first | assumption | refine Gr.setCell ?_ (by simp <;> omega) _))
theorem tells_LessMaps (W H b1 b2 ca cb : Nat) (a b : Option Addr) (xs ys : List Nat) (w : World) (m1 : MP w b1 W H a xs.length ca xs) (m2 : MP w b2 W H b ys.length cb ys)
    (hW : W ≤ 24) (hH : H ≤ 24) (hn : xs.length = W * H) (hm : ys.length = W * H) :
    Tells w 92 #[.pointer (some ⟨b1, 0, none⟩), .pointer (some ⟨b2, 0, none⟩)] W H (fun x y => gLess (xs.getD (x + W * y) 0) (ys.getD (x + W * y) 0)) :=
  ⟨Try.call92, fun x y hx hy w1 g => I_LessMaps_1 W H x y b1 b2 ca cb a b xs ys w1 (m1.gr g) (m2.gr g) hW hH hx hy hn hm⟩
set_option maxRecDepth 20000 in
set_option maxHeartbeats 800000 in
theorem I_LessMaps (W H U V : Int) (a b : Option Addr) (ca cb : Nat) (xs ys : List Nat) (w : World) (fx : FSl w a xs.length xs) (fy : FSl w b ys.length ys) (hn : xs.length ≤ 1048576) (hm : ys.length ≤ 1048576) :
    Calls Try.prog 35 #[.agg #[.int .i64 W, .int .i64 H, .slice a xs.length ca], .agg #[.int .i64 U, .int .i64 V, .slice b ys.length cb]] w
      (PostP w (gW (gTwo W H U V xs.length ys.length) W) (gW (gTwo W H U V xs.length ys.length) H) (gTwo W H U V xs.length ys.length) (gVals (gTwo W H U V xs.length ys.length) (xs.length) (fun i => gLess (xs.getD i 0) (ys.getD i 0)))) := by
  have Fx := Lib.hid fx
  have Fy := Lib.hid fy
  clear fx fy
  have hn' : xs.length ≤ maxLen := by unfold maxLen; omega
  have hm' : ys.length ≤ maxLen := by unfold maxLen; omega
  cases hT : gTwo W H U V xs.length ys.length
  · go_enter Try.func35, Try.ntmps35
    go_wp2_with (first
      | (go_at_call 90; with_reducible refine (I_mapsOk W H U V a b _ _ _ _ _ hn' hm').mono ?_; rintro e w' ⟨rfl, os, m, rfl⟩; rw [hT]))
    exact bodyPost_ret (v := .tuple #[.agg #[.int .i64 0, .int .i64 0, .slice none 0 0], .bool false]) (by simp [results, Try.results35, go_sem]) rfl ⟨⟨_, rfl, FOwn.nil _ _ _⟩, (by (try show Gr _ _); repeat (with_reducible first | exact Gr.refl _ | refine Gr.drewN ?_ _ | refine Gr.grew ?_ _ _ | refine Gr.alloc ?_ _ | refine Gr.drew ?_))⟩
  · have hT' := hT
    simp only [gTwo, Bool.and_eq_true, beq_iff_eq] at hT'
    obtain ⟨hP, hQ, rfl, rfl⟩ := hT'
    have hp1 := (gPic_true hP).2
    have hp2 := (gPic_true hQ).2
    obtain ⟨s1, s2, s3, s4, s5, s6⟩ := gSize_true (gPic_true hP).1
    obtain ⟨W, rfl⟩ := Int.eq_ofNat_of_zero_le (show 0 ≤ W by omega)
    obtain ⟨H, rfl⟩ := Int.eq_ofNat_of_zero_le (show 0 ≤ H by omega)
    have e1 := Lib.hid (show xs.length = W * H by exact_mod_cast hp1)
    have e2 := Lib.hid (show ys.length = W * H by exact_mod_cast hp2)
    have HP := Lib.hid hP
    clear hP hQ hp1 hp2 s5 s6
    have EG : Hid (grid W (fun x y => gLess (xs.getD (x + W * y) 0) (ys.getD (x + W * y) 0)) (xs.length) = lst (xs.length) (fun i => gLess (xs.getD i 0) (ys.getD i 0))) := by
      exact lst_congr fun i _ => by simp only [Nat.mod_add_div]
    go_enter Try.func35, Try.ntmps35
    go_wp2_with fail
    refine (I_mapsOk W H W H a b _ _ _ _ _ hn' hm').mono ?_
    rintro e u0 ⟨rfl, g⟩
    have k : Gr w u0 := Gr.trans (by (try show Gr _ _); repeat (with_reducible first | exact Gr.refl _ | refine Gr.drewN ?_ _ | refine Gr.grew ?_ _ _ | refine Gr.alloc ?_ _ | refine Gr.drew ?_)) g
    rw [hT]
    have B0 := Lib.hid (Blk.gr (show Blk _ (w.heap.size) [.int .i64 W, .int .i64 H, .slice a xs.length ca] 43 from (by repeat (with_reducible first | assumption | exact Blk.atNew (by simp) | refine Blk.alloc ?_ _ | refine Blk.grew ?_ _ _ | refine Blk.drewN ?_ _ | refine Blk.drew ?_))) g)
    have B1 := Lib.hid (Blk.gr (show Blk _ (w.heap.size + 1) [.int .i64 W, .int .i64 H, .slice b ys.length cb] 43 from (by repeat (with_reducible first | assumption | exact Blk.atNew (by simp) | refine Blk.alloc ?_ _ | refine Blk.grew ?_ _ _ | refine Blk.drewN ?_ _ | refine Blk.drew ?_))) g)
    have B2 := Lib.hid (Blk.gr (show Blk _ (w.heap.size + 1 + 1) [.int .i64 0, .int .i64 0, .slice none 0 0] 43 from (by repeat (with_reducible first | assumption | exact Blk.atNew (by simp) | refine Blk.alloc ?_ _ | refine Blk.grew ?_ _ _ | refine Blk.drewN ?_ _ | refine Blk.drew ?_))) g)
    have G := Lib.hid k
    clear g k
    have p0_0 := B0.out.cellv 0
    have p0_1 := B0.out.cellv 1
    have p0_2 := B0.out.cellv 2
    have p1_0 := B1.out.cellv 0
    have p1_1 := B1.out.cellv 1
    have p1_2 := B1.out.cellv 2
    go_wp2_with fail
    refine (I_remap_ok W H a ca xs 92 _ (fun x y => gLess (xs.getD (x + W * y) 0) (ys.getD (x + W * y) 0)) u0 (Fx.out.keep G.out.kp) hn' HP.out (tells_LessMaps W H _ _ ca cb a b xs ys u0 ⟨B0.out.cellv 0, B0.out.cellv 1, B0.out.cellv 2, Fx.out.keep G.out.kp⟩ ⟨B1.out.cellv 0, B1.out.cellv 1, B1.out.cellv 2, Fy.out.keep G.out.kp⟩ (by omega) (by omega) e1.out e2.out)).mono ?_
    rintro e un ⟨⟨v0, rfl, ho⟩, g⟩
    rw [EG.out] at ho
    obtain ⟨a1, c1, rfl, -, -⟩ := ho.sl' (xs.length) (by simp)
    have Hb := Lib.hid B2.out.lt
    replace B2 := Lib.hid (B2.out.gr g)
    have Ho := Lib.hid ho
    have G1 := Lib.hid (G.out.trans g)
    have G0 := Lib.hid G.out.size
    clear ho g p0_0 p0_1 p0_2 p1_0 p1_1 p1_2
    have q0 := B2.out.cellv 0
    have q1 := B2.out.cellv 1
    have q2 := B2.out.cellv 2
    have z0 := B2.out.frozen 0
    have z1 := B2.out.frozen 1
    have z2 := B2.out.frozen 2
    go_wp2
    refine bodyPost_ret (v := .tuple #[.agg #[.int .i64 W, .int .i64 H, .slice a1 (xs.length) c1], .bool true]) (by simp [results, Try.results35, go_sem, gW, *]) rfl ⟨⟨_, rfl, ?_⟩, ?_⟩
    · have h := Ho.out
      have hb := Hb.out
      have h0 := G0.out
      show FOwn _ _ _ _ (lst (xs.length) _)
      exact FOwn.base (B := u0.heap.size) (by repeat (with_reducible first | assumption | refine FOwn.setOther ?_ _ (by simp <;> omega))) h0
    · have h := G1.out
      exact (by repeat (with_reducible first | assumption | refine Gr.setCell ?_ (by simp <;> omega) _))
end Go.Proofs.Ythpdnblkbadhaaa
