/- Contracts: KeepMap in the program. MAXREC -/
import Derived.Test.YthbcadppbkglnabProg
import Derived.Test.YthbcadppbkglnabC15
namespace Go.Proofs.Ythbcadppbkglnab
open Go.RowKit Go.Fx Go.Soft
set_option maxRecDepth 20000 in
set_option maxHeartbeats 1000000 in
theorem I_KeepMap_1 (W H x y b1 b2 b3 ca cb l L : Nat) (a b : Option Addr) (xs ys : List Nat) (w : World) (m1 : MP w b1 W H a xs.length ca xs) (m2 : MP w b2 W H b ys.length cb ys) (c3 : w.cell? ⟨b3, 0, none⟩ = some (.float .f32 l)) (hl : FE .f32 l L)
    (hW : W ≤ 24) (hH : H ≤ 24) (hx : x < W) (hy : y < H) (hn : xs.length = W * H) (hm : ys.length = W * H) :
    Calls Try.prog 65 #[.int .i64 x, .int .i64 y, .pointer (some ⟨b1, 0, none⟩), .pointer (some ⟨b2, 0, none⟩), .pointer (some ⟨b3, 0, none⟩)] w fun e w' => (∃ r, e = .returned (.float .f32 r) ∧ FE .f32 r (gKeep L (xs.getD (x + W * y) 0) (ys.getD (x + W * y) 0))) ∧ Gr w w' := by
  have M1 := Lib.hid m1
  have M2 := Lib.hid m2
  have Hn := Lib.hid hn
  have Hm := Lib.hid hm
  clear m1 m2 hn hm
  have h3 : (gHole (xs.getD (x + W * y) 0) = true) ∨ (gHole (xs.getD (x + W * y) 0) = false ∧ fcmp .geq .f32 (ys.getD (x + W * y) 0) L = true) ∨ (gHole (xs.getD (x + W * y) 0) = false ∧ fcmp .geq .f32 (ys.getD (x + W * y) 0) L = false) := by
    cases gHole (xs.getD (x + W * y) 0) <;> cases fcmp .geq .f32 (ys.getD (x + W * y) 0) L <;> simp
  rcases h3 with t1 | ⟨t1, t2⟩ | ⟨t1, t2⟩
  · have eG := Lib.hid (show gKeep L (xs.getD (x + W * y) 0) (ys.getD (x + W * y) 0) = xs.getD (x + W * y) 0 by unfold gKeep; rw [t1]; rfl)
    go_enter Try.func65, Try.ntmps65
    go_wp2
    apply region_drew 11
    case hm => kernel_rfl
    case hB => kernel_rfl
    simp only [List.take_succ_cons, List.take_zero, List.drop_succ_cons, List.drop_zero]
    repeat (first
      | ((with_reducible apply wpSoft_callf (f := 67)); (case hw => rfl); (case hc => exact Try.call67); (case hv => ((conv => lhs; simp [Act.eval]); try rfl)); (case hS => (rintro _ ⟨m, rfl⟩; with_reducible refine (I_Map_at W H x y b1 _ _ xs _ (M1.out.gr (gr_drewN w m)) hW hH hx hy Hn.out).mono ?_; rintro e w' ⟨r, rfl, hr, n, rfl⟩; exact ⟨_, rfl, hr, ⟨_, World.drewN_drewN _ _ _⟩⟩)); (intro r hr; simp only [Act.put, List.setIfInBounds_toArray, List.set_cons_succ, List.set_cons_zero]))
      | ((with_reducible apply wpSoft_calleq (f := 66)); (case hw => rfl); (case hc => exact Try.call66); (case hv => ((conv => lhs; simp [Act.eval]); try rfl)); (case hS => (rintro _ ⟨m, rfl⟩; with_reducible refine (I_noHole _ _ _ (by assumption)).mono ?_; rintro e w' ⟨rfl, n, rfl⟩; exact ⟨rfl, ⟨_, World.drewN_drewN _ _ _⟩⟩)); (simp only [Act.put, List.setIfInBounds_toArray, List.set_cons_succ, List.set_cons_zero]; try simp only [t1]))
      | (apply wpSoft_skip rfl; simp only [Act.put, List.setIfInBounds_toArray, List.set_cons_succ, List.set_cons_zero])
      | (apply wpSoft_nilCheck rfl rfl; simp only [Act.put, List.setIfInBounds_toArray, List.set_cons_succ, List.set_cons_zero])
      | ((with_reducible apply wpSoft_fop); (case hw => rfl); (case hD => exact closed_drew); (case hop => rfl); (case hx => rfl); (case hy => rfl); (case hA => (first | assumption | exact FE.ofInt _ _ | exact FE.lit (by decide +kernel))); (case hB => (first | assumption | exact FE.ofInt _ _ | exact FE.lit (by decide +kernel))); (intro r hr; simp only [Act.put, List.setIfInBounds_toArray, List.set_cons_succ, List.set_cons_zero]))

      | ((with_reducible apply wpSoft_widen); (case hw => rfl); (case hD => exact closed_drew); (case hs => exact Try.underlying25); (case hd => exact Try.underlying46); (case hx => rfl); (case hA => (first | assumption | exact FE.ofInt _ _ | exact FE.lit (by decide +kernel))); (intro r hr; simp only [Act.put, List.setIfInBounds_toArray, List.set_cons_succ, List.set_cons_zero]))
      | ((with_reducible apply wpSoft_fneg); (case hw => rfl); (case hx => rfl); (case hA => (first | assumption | exact FE.ofInt _ _ | exact FE.lit (by decide +kernel))); (intro r hr; simp only [Act.put, List.setIfInBounds_toArray, List.set_cons_succ, List.set_cons_zero]))
      | ((with_reducible apply wpSoft_fcmp); (case hw => rfl); (case hop => rfl); (case hx => rfl); (case hy => rfl); (case hA => (first | assumption | exact FE.ofInt _ _ | exact FE.lit (by decide +kernel))); (case hB => (first | assumption | exact FE.ofInt _ _ | exact FE.lit (by decide +kernel))); (case hb => (first | assumption | rfl)); simp only [Act.put, List.setIfInBounds_toArray, List.set_cons_succ, List.set_cons_zero])
      | (apply wpSoft_q rfl rfl; intro K hK; go_big_quiet_op; go_big_quiet_on))
    with_reducible apply wpSoft_nil
    intro m
    go_wp2_with (first
      | (go_at_call 67; refine (I_Map_at W H x y b1 _ _ xs _ (M1.out.gr (gr_drewN w _)) hW hH hx hy Hn.out).mono ?_; rintro e w' ⟨r, rfl, hr, n, rfl⟩))
    go_ret
    exact ⟨⟨_, rfl, by rw [eG.out]; assumption⟩, (by (try show Gr _ _); repeat (with_reducible first | exact Gr.refl _ | refine Gr.drewN ?_ _ | refine Gr.grew ?_ _ _ | refine Gr.alloc ?_ _ | refine Gr.drew ?_))⟩
  · have eG := Lib.hid (show gKeep L (xs.getD (x + W * y) 0) (ys.getD (x + W * y) 0) = xs.getD (x + W * y) 0 by unfold gKeep; rw [t1, t2]; rfl)
    go_enter Try.func65, Try.ntmps65
    go_wp2
    apply region_drew 11
    case hm => kernel_rfl
    case hB => kernel_rfl
    simp only [List.take_succ_cons, List.take_zero, List.drop_succ_cons, List.drop_zero]
    repeat (first
      | ((with_reducible apply wpSoft_callf (f := 67)); (case hw => rfl); (case hc => exact Try.call67); (case hv => ((conv => lhs; simp [Act.eval]); try rfl)); (case hS => (rintro _ ⟨m, rfl⟩; with_reducible refine (I_Map_at W H x y b1 _ _ xs _ (M1.out.gr (gr_drewN w m)) hW hH hx hy Hn.out).mono ?_; rintro e w' ⟨r, rfl, hr, n, rfl⟩; exact ⟨_, rfl, hr, ⟨_, World.drewN_drewN _ _ _⟩⟩)); (intro r hr; simp only [Act.put, List.setIfInBounds_toArray, List.set_cons_succ, List.set_cons_zero]))
      | ((with_reducible apply wpSoft_callf (f := 67)); (case hw => rfl); (case hc => exact Try.call67); (case hv => ((conv => lhs; simp [Act.eval]); try rfl)); (case hS => (rintro _ ⟨m, rfl⟩; with_reducible refine (I_Map_at W H x y b2 _ _ ys _ (M2.out.gr (gr_drewN w m)) hW hH hx hy Hm.out).mono ?_; rintro e w' ⟨r, rfl, hr, n, rfl⟩; exact ⟨_, rfl, hr, ⟨_, World.drewN_drewN _ _ _⟩⟩)); (intro r hr; simp only [Act.put, List.setIfInBounds_toArray, List.set_cons_succ, List.set_cons_zero]))
      | ((with_reducible apply wpSoft_calleq (f := 66)); (case hw => rfl); (case hc => exact Try.call66); (case hv => ((conv => lhs; simp [Act.eval]); try rfl)); (case hS => (rintro _ ⟨m, rfl⟩; with_reducible refine (I_noHole _ _ _ (by assumption)).mono ?_; rintro e w' ⟨rfl, n, rfl⟩; exact ⟨rfl, ⟨_, World.drewN_drewN _ _ _⟩⟩)); (simp only [Act.put, List.setIfInBounds_toArray, List.set_cons_succ, List.set_cons_zero]; try simp only [t1]))
      | (apply wpSoft_skip rfl; simp only [Act.put, List.setIfInBounds_toArray, List.set_cons_succ, List.set_cons_zero])
      | (apply wpSoft_nilCheck rfl rfl; simp only [Act.put, List.setIfInBounds_toArray, List.set_cons_succ, List.set_cons_zero])
      | ((with_reducible apply wpSoft_fop); (case hw => rfl); (case hD => exact closed_drew); (case hop => rfl); (case hx => rfl); (case hy => rfl); (case hA => (first | assumption | exact FE.ofInt _ _ | exact FE.lit (by decide +kernel))); (case hB => (first | assumption | exact FE.ofInt _ _ | exact FE.lit (by decide +kernel))); (intro r hr; simp only [Act.put, List.setIfInBounds_toArray, List.set_cons_succ, List.set_cons_zero]))

      | ((with_reducible apply wpSoft_widen); (case hw => rfl); (case hD => exact closed_drew); (case hs => exact Try.underlying25); (case hd => exact Try.underlying46); (case hx => rfl); (case hA => (first | assumption | exact FE.ofInt _ _ | exact FE.lit (by decide +kernel))); (intro r hr; simp only [Act.put, List.setIfInBounds_toArray, List.set_cons_succ, List.set_cons_zero]))
      | ((with_reducible apply wpSoft_fneg); (case hw => rfl); (case hx => rfl); (case hA => (first | assumption | exact FE.ofInt _ _ | exact FE.lit (by decide +kernel))); (intro r hr; simp only [Act.put, List.setIfInBounds_toArray, List.set_cons_succ, List.set_cons_zero]))
      | ((with_reducible apply wpSoft_fcmp); (case hw => rfl); (case hop => rfl); (case hx => rfl); (case hy => rfl); (case hA => (first | assumption | exact FE.ofInt _ _ | exact FE.lit (by decide +kernel))); (case hB => (first | assumption | exact FE.ofInt _ _ | exact FE.lit (by decide +kernel))); (case hb => (first | assumption | rfl)); simp only [Act.put, List.setIfInBounds_toArray, List.set_cons_succ, List.set_cons_zero])
      | (apply wpSoft_q rfl rfl; intro K hK; go_big_quiet_op; go_big_quiet_on))
    with_reducible apply wpSoft_nil
    intro m
    go_wp2_with (first
      | (go_at_call 67; refine (I_Map_at W H x y b1 _ _ xs _ (M1.out.gr (gr_drewN w _)) hW hH hx hy Hn.out).mono ?_; rintro e w' ⟨r, rfl, hr, n, rfl⟩))
    go_ret
    exact ⟨⟨_, rfl, by rw [eG.out]; assumption⟩, (by (try show Gr _ _); repeat (with_reducible first | exact Gr.refl _ | refine Gr.drewN ?_ _ | refine Gr.grew ?_ _ _ | refine Gr.alloc ?_ _ | refine Gr.drew ?_))⟩
  · have eG := Lib.hid (show gKeep L (xs.getD (x + W * y) 0) (ys.getD (x + W * y) 0) = 3212836864 by unfold gKeep; rw [t1, t2]; rfl)
    go_enter Try.func65, Try.ntmps65
    go_wp2
    apply region_drew 11
    case hm => kernel_rfl
    case hB => kernel_rfl
    simp only [List.take_succ_cons, List.take_zero, List.drop_succ_cons, List.drop_zero]
    repeat (first
      | ((with_reducible apply wpSoft_callf (f := 67)); (case hw => rfl); (case hc => exact Try.call67); (case hv => ((conv => lhs; simp [Act.eval]); try rfl)); (case hS => (rintro _ ⟨m, rfl⟩; with_reducible refine (I_Map_at W H x y b1 _ _ xs _ (M1.out.gr (gr_drewN w m)) hW hH hx hy Hn.out).mono ?_; rintro e w' ⟨r, rfl, hr, n, rfl⟩; exact ⟨_, rfl, hr, ⟨_, World.drewN_drewN _ _ _⟩⟩)); (intro r hr; simp only [Act.put, List.setIfInBounds_toArray, List.set_cons_succ, List.set_cons_zero]))
      | ((with_reducible apply wpSoft_callf (f := 67)); (case hw => rfl); (case hc => exact Try.call67); (case hv => ((conv => lhs; simp [Act.eval]); try rfl)); (case hS => (rintro _ ⟨m, rfl⟩; with_reducible refine (I_Map_at W H x y b2 _ _ ys _ (M2.out.gr (gr_drewN w m)) hW hH hx hy Hm.out).mono ?_; rintro e w' ⟨r, rfl, hr, n, rfl⟩; exact ⟨_, rfl, hr, ⟨_, World.drewN_drewN _ _ _⟩⟩)); (intro r hr; simp only [Act.put, List.setIfInBounds_toArray, List.set_cons_succ, List.set_cons_zero]))
      | ((with_reducible apply wpSoft_calleq (f := 66)); (case hw => rfl); (case hc => exact Try.call66); (case hv => ((conv => lhs; simp [Act.eval]); try rfl)); (case hS => (rintro _ ⟨m, rfl⟩; with_reducible refine (I_noHole _ _ _ (by assumption)).mono ?_; rintro e w' ⟨rfl, n, rfl⟩; exact ⟨rfl, ⟨_, World.drewN_drewN _ _ _⟩⟩)); (simp only [Act.put, List.setIfInBounds_toArray, List.set_cons_succ, List.set_cons_zero]; try simp only [t1]))
      | (apply wpSoft_skip rfl; simp only [Act.put, List.setIfInBounds_toArray, List.set_cons_succ, List.set_cons_zero])
      | (apply wpSoft_nilCheck rfl rfl; simp only [Act.put, List.setIfInBounds_toArray, List.set_cons_succ, List.set_cons_zero])
      | ((with_reducible apply wpSoft_fop); (case hw => rfl); (case hD => exact closed_drew); (case hop => rfl); (case hx => rfl); (case hy => rfl); (case hA => (first | assumption | exact FE.ofInt _ _ | exact FE.lit (by decide +kernel))); (case hB => (first | assumption | exact FE.ofInt _ _ | exact FE.lit (by decide +kernel))); (intro r hr; simp only [Act.put, List.setIfInBounds_toArray, List.set_cons_succ, List.set_cons_zero]))

      | ((with_reducible apply wpSoft_widen); (case hw => rfl); (case hD => exact closed_drew); (case hs => exact Try.underlying25); (case hd => exact Try.underlying46); (case hx => rfl); (case hA => (first | assumption | exact FE.ofInt _ _ | exact FE.lit (by decide +kernel))); (intro r hr; simp only [Act.put, List.setIfInBounds_toArray, List.set_cons_succ, List.set_cons_zero]))
      | ((with_reducible apply wpSoft_fneg); (case hw => rfl); (case hx => rfl); (case hA => (first | assumption | exact FE.ofInt _ _ | exact FE.lit (by decide +kernel))); (intro r hr; simp only [Act.put, List.setIfInBounds_toArray, List.set_cons_succ, List.set_cons_zero]))
      | ((with_reducible apply wpSoft_fcmp); (case hw => rfl); (case hop => rfl); (case hx => rfl); (case hy => rfl); (case hA => (first | assumption | exact FE.ofInt _ _ | exact FE.lit (by decide +kernel))); (case hB => (first | assumption | exact FE.ofInt _ _ | exact FE.lit (by decide +kernel))); (case hb => (first | assumption | rfl)); simp only [Act.put, List.setIfInBounds_toArray, List.set_cons_succ, List.set_cons_zero])
      | (apply wpSoft_q rfl rfl; intro K hK; go_big_quiet_op; go_big_quiet_on))
    with_reducible apply wpSoft_nil
    intro m
    go_wp2
    go_ret
    exact ⟨⟨_, rfl, by rw [eG.out]; exact FE.lit (by decide +kernel)⟩, (by (try show Gr _ _); repeat (with_reducible first | exact Gr.refl _ | refine Gr.drewN ?_ _ | refine Gr.grew ?_ _ _ | refine Gr.alloc ?_ _ | refine Gr.drew ?_))⟩
theorem tells_KeepMap (W H b1 b2 b3 ca cb l L : Nat) (a b : Option Addr) (xs ys : List Nat) (w : World) (m1 : MP w b1 W H a xs.length ca xs) (m2 : MP w b2 W H b ys.length cb ys) (c3 : w.cell? ⟨b3, 0, none⟩ = some (.float .f32 l)) (hl : FE .f32 l L)
    (hW : W ≤ 24) (hH : H ≤ 24) (hn : xs.length = W * H) (hm : ys.length = W * H) :
    Tells w 65 #[.pointer (some ⟨b1, 0, none⟩), .pointer (some ⟨b2, 0, none⟩), .pointer (some ⟨b3, 0, none⟩)] W H (fun x y => gKeep L (xs.getD (x + W * y) 0) (ys.getD (x + W * y) 0)) :=
  ⟨Try.call65, fun x y hx hy w1 g => I_KeepMap_1 W H x y b1 b2 b3 ca cb l L a b xs ys w1 (m1.gr g) (m2.gr g) (g.cell c3) hl hW hH hx hy hn hm⟩
set_option maxRecDepth 20000 in
set_option maxHeartbeats 2000000 in
theorem I_KeepMap (W H U V : Int) (a b : Option Addr) (ca cb l L : Nat) (xs ys : List Nat) (w : World) (hl : FE .f32 l L) (fx : FSl w a xs.length xs) (fy : FSl w b ys.length ys) (hn : xs.length ≤ 1048576) (hm : ys.length ≤ 1048576) :
    Calls Try.prog 18 #[.agg #[.int .i64 W, .int .i64 H, .slice a xs.length ca], .agg #[.int .i64 U, .int .i64 V, .slice b ys.length cb], .float .f32 l] w
      (PostP w (gW (gTwo W H U V xs.length ys.length) W) (gW (gTwo W H U V xs.length ys.length) H) (gTwo W H U V xs.length ys.length) (gVals (gTwo W H U V xs.length ys.length) xs.length fun i => gKeep L (xs.getD i 0) (ys.getD i 0))) := by
  have hn' : xs.length ≤ maxLen := by unfold maxLen; omega
  have hm' : ys.length ≤ maxLen := by unfold maxLen; omega
  have Fx := Lib.hid fx
  have Fy := Lib.hid fy
  clear fx fy
  cases hT : gTwo W H U V xs.length ys.length
  · go_enter Try.func18, Try.ntmps18
    go_wp2_with (first
      | (go_at_call 63; with_reducible refine (I_mapsOk W H U V a b _ _ _ _ _ hn' hm').mono ?_; rintro e w' ⟨rfl, os, m, rfl⟩; rw [hT]))
    exact bodyPost_ret (v := .tuple #[.agg #[.int .i64 0, .int .i64 0, .slice none 0 0], .bool false]) (by simp [results, Try.results18, go_sem]) rfl ⟨⟨_, rfl, FOwn.nil _ _ _⟩, (by (try show Gr _ _); repeat (with_reducible first | exact Gr.refl _ | refine Gr.drewN ?_ _ | refine Gr.grew ?_ _ _ | refine Gr.alloc ?_ _ | refine Gr.drew ?_))⟩
  · have hT' := hT
    simp only [gTwo, Bool.and_eq_true, beq_iff_eq] at hT'
    obtain ⟨hP, hQ, rfl, rfl⟩ := hT'
    have hp1 := (gPic_true hP).2
    have hp2 := (gPic_true hQ).2
    obtain ⟨s1, s2, s3, s4, s5, s6⟩ := gSize_true (gPic_true hP).1
    obtain ⟨W, rfl⟩ := Int.eq_ofNat_of_zero_le (show 0 ≤ W by omega)
    obtain ⟨H, rfl⟩ := Int.eq_ofNat_of_zero_le (show 0 ≤ H by omega)
    have e1 : xs.length = W * H := by exact_mod_cast hp1
    have e2 : ys.length = W * H := by exact_mod_cast hp2
    have HR := Lib.hid (fun (u : World) (b1 b2 b3 : Nat) (m1 : MP u b1 W H a xs.length ca xs) (m2 : MP u b2 W H b ys.length cb ys) (c3 : u.cell? ⟨b3, 0, none⟩ = some (.float .f32 l)) =>
      I_remap W H a ca xs 65 #[.pointer (some ⟨b1, 0, none⟩), .pointer (some ⟨b2, 0, none⟩), .pointer (some ⟨b3, 0, none⟩)] (fun x y => gKeep L (xs.getD (x + W * y) 0) (ys.getD (x + W * y) 0)) u m1.fs hn'
        (fun W' H' h1 h2 _ h3 _ h4 _ => by
          obtain rfl : W = W' := by exact_mod_cast h1
          obtain rfl : H = H' := by exact_mod_cast h2
          exact tells_KeepMap W H b1 b2 b3 ca cb l L a b xs ys u m1 m2 c3 hl h3 h4 e1 e2))
    simp only [hP, if_true, Int.toNat_natCast] at HR
    have EG : Hid (grid W (fun x y => gKeep L (xs.getD (x + W * y) 0) (ys.getD (x + W * y) 0)) xs.length = lst xs.length fun i => gKeep L (xs.getD i 0) (ys.getD i 0)) := by
      apply lst_congr
      intro i _
      show gKeep L (xs.getD (i % W + W * (i / W)) 0) (ys.getD (i % W + W * (i / W)) 0) = _
      rw [Nat.mod_add_div]
    clear hP hQ hp1 hp2 s1 s2 s3 s4 s5 s6 e1 e2 hl
    go_enter Try.func18, Try.ntmps18
    go_wp2_with fail
    refine (I_mapsOk W H W H a b _ _ _ _ _ hn' hm').mono ?_
    rintro e u0 ⟨rfl, g⟩
    rw [hT]
    have k : Gr w u0 := Gr.trans (by (try show Gr _ _); repeat (with_reducible first | exact Gr.refl _ | refine Gr.drewN ?_ _ | refine Gr.grew ?_ _ _ | refine Gr.alloc ?_ _ | refine Gr.drew ?_)) g
    have B3 := Lib.hid (Blk.gr (show Blk _ w.heap.size [.int .i64 W, .int .i64 H, .slice a xs.length ca] 27 from (by repeat (with_reducible first | assumption | exact Blk.atNew (by simp) | refine Blk.alloc ?_ _ | refine Blk.grew ?_ _ _ | refine Blk.drewN ?_ _ | refine Blk.drew ?_))) g)
    have B4 := Lib.hid (Blk.gr (show Blk _ (w.heap.size + 1) [.int .i64 W, .int .i64 H, .slice b ys.length cb] 27 from (by repeat (with_reducible first | assumption | exact Blk.atNew (by simp) | refine Blk.alloc ?_ _ | refine Blk.grew ?_ _ _ | refine Blk.drewN ?_ _ | refine Blk.drew ?_))) g)
    have B5 := Lib.hid (Blk.gr (show Blk _ (w.heap.size + 1 + 1) [.float .f32 l] 25 from (by repeat (with_reducible first | assumption | exact Blk.atNew (by simp) | refine Blk.alloc ?_ _ | refine Blk.grew ?_ _ _ | refine Blk.drewN ?_ _ | refine Blk.drew ?_))) g)
    have B6 := Lib.hid (Blk.gr (show Blk _ (w.heap.size + 1 + 1 + 1) [.int .i64 0, .int .i64 0, .slice none 0 0] 27 from (by repeat (with_reducible first | assumption | exact Blk.atNew (by simp) | refine Blk.alloc ?_ _ | refine Blk.grew ?_ _ _ | refine Blk.drewN ?_ _ | refine Blk.drew ?_))) g)
    have G := Lib.hid k
    clear g k
    have p0 := B3.out.cellv 0
    have p1 := B3.out.cellv 1
    have p2 := B3.out.cellv 2
    go_wp2_with fail
    refine (HR.out u0 _ _ _ ⟨B3.out.cellv 0, B3.out.cellv 1, B3.out.cellv 2, Fx.out.keep G.out.kp⟩ ⟨B4.out.cellv 0, B4.out.cellv 1, B4.out.cellv 2, Fy.out.keep G.out.kp⟩ (B5.out.cellv 0)).mono ?_
    rintro e u1 ⟨⟨v0, rfl, ho⟩, g⟩
    rw [EG.out] at ho
    obtain ⟨a1, c1, rfl, -, -⟩ := ho.sl' xs.length (by simp)
    have Hb := Lib.hid B6.out.lt
    replace B6 := Lib.hid (B6.out.gr g)
    have Ho := Lib.hid ho
    have G1 := Lib.hid (G.out.trans g)
    have G0 := Lib.hid G.out.size
    clear ho g p0 p1 p2 B3 B4 B5
    have q0 := B6.out.cellv 0
    have q1 := B6.out.cellv 1
    have q2 := B6.out.cellv 2
    have z0 := B6.out.frozen 0
    have z1 := B6.out.frozen 1
    have z2 := B6.out.frozen 2
    go_wp2
    refine bodyPost_ret (v := .tuple #[.agg #[.int .i64 W, .int .i64 H, .slice a1 xs.length c1], .bool true]) (by simp [results, Try.results18, go_sem, gW, *]) rfl ⟨⟨_, rfl, ?_⟩, ?_⟩
    · have h := Ho.out
      have hb := Hb.out
      have h0 := G0.out
      show FOwn _ _ _ _ (lst xs.length _)
      exact FOwn.base (B := u0.heap.size) (by repeat (with_reducible first | assumption | refine FOwn.setOther ?_ _ (by simp <;> omega))) h0
    · have h := G1.out
      exact (by repeat (with_reducible first | assumption | refine Gr.setCell ?_ (by simp <;> omega) _))
end Go.Proofs.Ythbcadppbkglnab
