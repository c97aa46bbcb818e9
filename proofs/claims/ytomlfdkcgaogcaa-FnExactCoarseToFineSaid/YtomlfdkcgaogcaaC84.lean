/- Contracts: the winners of a volume; the other volume of the program. MAXREC -/
import Derived.Test.YtomlfdkcgaogcaaProg
import Derived.Test.YtomlfdkcgaogcaaC83
namespace Go.Proofs.Ytomlfdkcgaogcaa
open Go.RowKit Go.Fx Go.Soft
set_option maxRecDepth 20000 in
set_option maxHeartbeats 4000000 in
theorem S_l03Winners (W H D bv : Nat) (a : Option Addr) (ca : Nat) (xs : List Nat) (w : World) (hm : MV w bv W H D a xs.length ca xs) (hW : W ≤ 24) (hH : H ≤ 24) (hW0 : 1 ≤ W) (hH0 : 1 ≤ H) (hD0 : 1 ≤ D) (hD : D ≤ 8) (hn : xs.length = W * H * D) (hn2 : xs.length ≤ 2048) :
    Calls Try.prog 53 #[.pointer (some ⟨bv, 0, none⟩)] w fun e w' => (∃ v, e = .returned (.agg #[.int .i64 W, .int .i64 H, v]) ∧ FOwn w' w.heap.size 25 v (lst (W * H) (gWinAt xs D))) ∧ Gr w w' := by
  obtain ⟨i0, hi, hz0, hz1, hz2⟩ := info_parts info_float32
  have h24 : W * H ≤ 576 := Nat.mul_le_mul hW hH
  have c0 := hm.c0
  have c1 := hm.c1
  have M1 := Lib.hid hm
  have em : IntKind.i64.wrap ((W : Int) * (H : Int)) = ((W * H : Nat) : Int) := by rw [← Int.natCast_mul]; exact IntWalk.i64_in _ (by omega)
  have HW := Lib.hid (fun (i : Nat) (u : World) (g : Gr w u) (hi : i < W * H) => S_l03Winner W H D i bv a ca xs (-1) u (hm.gr g) hD0 hD hi hn hn2)
  obtain ⟨N0, hN0⟩ : ∃ N0, N0 = W * H := ⟨_, rfl⟩
  rw [← hN0] at em h24 HW ⊢
  clear hm hn hN0
  go_enter Try.func53, Try.ntmps53
  go_wp2
  apply region_facts 10 [9] (fun _ v w' => ∃ b, v = .pointer (some ⟨b, 0, none⟩) ∧ w.heap.size + 1 ≤ b ∧ Blk w' b [.int .i64 0, .int .i64 0, .slice none 0 0] 30)
  case hm => kernel_rfl
  case hB => kernel_rfl
  case hR => rfl
  case hP => (intro k hk v w1 w2 hg hv; obtain ⟨b, e, hl, hb⟩ := hv; exact ⟨b, e, hl, hb.gr hg⟩)
  simp only [List.take_succ_cons, List.take_zero, List.drop_succ_cons, List.drop_zero]
  repeat (first
    | (apply wpF_build; (case hw => rfl); (case hT => decide); (case hx => (intro w; simp [execOp, go_sem]; rfl)); simp only [Act.put, List.setIfInBounds_toArray, List.set_cons_succ, List.set_cons_zero])
    | ((with_reducible apply wpF_new (c := #[.int .i64 0, .int .i64 0, .slice none 0 0]) (e := 30) (fun b => .pointer (some ⟨b, 0, none⟩))); (case hw => rfl); (case hx => (intro w; simp [execOp, go_sem]; done)); (case hF => (intro w' b hb hc _; exact ⟨b, rfl, by simpa using hb, ⟨hc⟩⟩)); (intro b hb; simp only [Act.put, List.setIfInBounds_toArray, List.set_cons_succ, List.set_cons_zero]))
    | (apply wpF_skip rfl (by decide); simp only [Act.put, List.setIfInBounds_toArray, List.set_cons_succ, List.set_cons_zero])
    | (apply wpF_nilCheck rfl (by decide) rfl; simp only [Act.put, List.setIfInBounds_toArray, List.set_cons_succ, List.set_cons_zero])
    | ((with_reducible apply wpF_fop); (case hw => rfl); (case hT => decide); (case hop => rfl); (case hx => rfl); (case hy => rfl); (case hA => (first | assumption | exact FE.ofInt _ _ | exact FE.lit (by decide +kernel))); (case hB => (first | assumption | exact FE.ofInt _ _ | exact FE.lit (by decide +kernel))); (intro r hr; simp only [Act.put, List.setIfInBounds_toArray, List.set_cons_succ, List.set_cons_zero]))
    | ((with_reducible apply wpF_fneg); (case hw => rfl); (case hT => decide); (case hx => rfl); (case hA => (first | assumption | exact FE.ofInt _ _ | exact FE.lit (by decide +kernel))); (intro r hr; simp only [Act.put, List.setIfInBounds_toArray, List.set_cons_succ, List.set_cons_zero]))
    | ((with_reducible apply wpF_fcmp); (case hw => rfl); (case hT => decide); (case hop => rfl); (case hx => rfl); (case hy => rfl); (case hA => (first | assumption | exact FE.ofInt _ _ | exact FE.lit (by decide +kernel))); (case hB => (first | assumption | exact FE.ofInt _ _ | exact FE.lit (by decide +kernel))); (case hb => (first | assumption | rfl)); simp only [Act.put, List.setIfInBounds_toArray, List.set_cons_succ, List.set_cons_zero])
    | (apply wpF_q rfl (by decide) rfl; intro K hK; go_big_quiet_op; go_big_quiet_on))
  with_reducible apply wpF_nil
  intro os m hf
  obtain ⟨b', eb, hl, hb1⟩ := hf.1
  simp at eb
  subst eb
  obtain ⟨u, hu⟩ : ∃ u, u = World.grew (w.alloc (.cells #[.int .i64 0, .int .i64 0, .slice none 0 0] 30)) os m := ⟨_, rfl⟩
  rw [← hu] at hb1 ⊢
  have k : Gr w u := by rw [hu]; exact (by (try show Gr _ _); repeat (with_reducible first | exact Gr.refl _ | refine Gr.drewN ?_ _ | refine Gr.grew ?_ _ _ | refine Gr.alloc ?_ _ | refine Gr.drew ?_))
  have B0 : Blk u w.heap.size [.int .i64 0, .int .i64 0, .slice none 0 0] 30 := by rw [hu]; exact (by repeat (with_reducible first | assumption | exact Blk.atNew (by simp) | refine Blk.alloc ?_ _ | refine Blk.grew ?_ _ _ | refine Blk.drewN ?_ _ | refine Blk.drew ?_))
  clear hf hu hb
  have q0 := hb1.cellv 0
  have q1 := hb1.cellv 1
  have q2 := hb1.cellv 2
  have z0 := hb1.frozen 0
  have z1 := hb1.frozen 1
  have z2 := hb1.frozen 2
  have BB := Lib.hid hb1
  have B1 := Lib.hid B0
  have GW := Lib.hid k
  have HL := Lib.hid hl
  clear hb1 B0 k hl c0 c1
  go_wp2
  obtain ⟨u2, hu2⟩ : ∃ u2, u2 = ((u.setCell ⟨b, 0, none⟩ (.int .i64 W)).setCell ⟨b, 1, none⟩ (.int .i64 H)).setCell ⟨b, 2, none⟩ (.slice none 0 0) := ⟨_, rfl⟩
  rw [← hu2]
  have hl := HL.out
  have hb2 : Blk u2 b [.int .i64 W, .int .i64 H, .slice none 0 0] 30 := by rw [hu2]; exact ((BB.out.set (i := 0) _).set (i := 1) _).set (i := 2) _
  have k2 : Gr w u2 := by rw [hu2]; exact ((GW.out.setCell (by show w.heap.size ≤ b; omega) _).setCell (by show w.heap.size ≤ b; omega) _).setCell (by show w.heap.size ≤ b; omega) _
  have hb0 : Blk u2 w.heap.size [.int .i64 0, .int .i64 0, .slice none 0 0] 30 := by rw [hu2]; exact ((B1.out.setOther _ (by show b ≠ _; omega)).setOther _ (by show b ≠ _; omega)).setOther _ (by show b ≠ _; omega)
  have Hl : Hid (w.heap.size + 1 ≤ b + 1) := by show _ ≤ _; omega
  have Hb2 := Lib.hid hb2
  have Hb0 := Lib.hid hb0
  have K2 := Lib.hid k2
  clear hu2 BB B1 GW q0 q1 q2 z0 z1 z2 hb2 k2 hb0
  go_loopw [4] (fun i wr => ∃ k : Nat, k ≤ N0 ∧ i = .int .i64 k ∧ ∃ v, Blk wr b [.int .i64 W, .int .i64 H, v] 30 ∧ Blk wr w.heap.size [.int .i64 0, .int .i64 0, .slice none 0 0] 30 ∧ FOwn wr (w.heap.size + 1) 25 v (lst k (gWinAt xs D)) ∧ Gr w wr) (fun i _ => N0 - (intOf i).toNat)
  case atStart => exact ⟨0, Nat.zero_le _, rfl, _, Hb2.out, Hb0.out, FOwn.nil _ _ _, K2.out⟩
  case round =>
    clear Hb2 Hb0 K2
    obtain ⟨k, hk, rfl, v, hb, hb0, ho, hg⟩ := hrel
    have c0 := hg.cell M1.out.c0
    have c1 := hg.cell M1.out.c1
    by_cases hlt : k < N0
    · have HWk := Lib.hid (fun (u : World) (g : Gr wr u) => HW.out k u (hg.trans g) hlt)
      have EW := Lib.hid (show gWinAt xs D k = floatOfInt .f32 (gWin (fun j => xs.getD (k * D + j) 0) (-1) D) from rfl)
      obtain ⟨p, hp⟩ : ∃ p, p = gWin (fun j => xs.getD (k * D + j) 0) (-1) D := ⟨_, rfl⟩
      rw [← hp] at HWk EW
      have Hb := Lib.hid hb
      have Hb0 := Lib.hid hb0
      have Ho := Lib.hid ho
      have Hg := Lib.hid hg
      clear hb hb0 ho hg hp
      go_wp2
      apply region_drew 10
      case hm => kernel_rfl
      case hB => kernel_rfl
      simp only [List.take_succ_cons, List.take_zero, List.drop_succ_cons, List.drop_zero]
      repeat (first
        | (apply wpSoft_skip rfl; simp only [Act.put, List.setIfInBounds_toArray, List.set_cons_succ, List.set_cons_zero])
        | (apply wpSoft_nilCheck rfl rfl; simp only [Act.put, List.setIfInBounds_toArray, List.set_cons_succ, List.set_cons_zero])
        | ((with_reducible apply wpSoft_fop); (case hw => rfl); (case hD => exact closed_drew); (case hop => rfl); (case hx => rfl); (case hy => rfl); (case hA => (first | assumption | exact FE.ofInt _ _ | exact FE.lit (by decide +kernel))); (case hB => (first | assumption | exact FE.ofInt _ _ | exact FE.lit (by decide +kernel))); (intro r hr; simp only [Act.put, List.setIfInBounds_toArray, List.set_cons_succ, List.set_cons_zero]))

        | ((with_reducible apply wpSoft_widen); (case hw => rfl); (case hD => exact closed_drew); (case hs => exact Try.underlying25); (case hd => exact Try.underlying61); (case hx => rfl); (case hA => (first | assumption | exact FE.ofInt _ _ | exact FE.lit (by decide +kernel))); (intro r hr; simp only [Act.put, List.setIfInBounds_toArray, List.set_cons_succ, List.set_cons_zero]))
        | ((with_reducible apply wpSoft_fneg); (case hw => rfl); (case hx => rfl); (case hA => (first | assumption | exact FE.ofInt _ _ | exact FE.lit (by decide +kernel))); (intro r hr; simp only [Act.put, List.setIfInBounds_toArray, List.set_cons_succ, List.set_cons_zero]))
        | ((with_reducible apply wpSoft_fcmp); (case hw => rfl); (case hop => rfl); (case hx => rfl); (case hy => rfl); (case hA => (first | assumption | exact FE.ofInt _ _ | exact FE.lit (by decide +kernel))); (case hB => (first | assumption | exact FE.ofInt _ _ | exact FE.lit (by decide +kernel))); (case hb => (first | assumption | rfl)); simp only [Act.put, List.setIfInBounds_toArray, List.set_cons_succ, List.set_cons_zero])
        | (apply wpSoft_q rfl rfl; intro K hK; go_big_quiet_op; go_big_quiet_on))
      with_reducible apply wpSoft_nil
      intro m
      obtain ⟨wq, hwq⟩ : ∃ wq, wq = wr.drewN m := ⟨_, rfl⟩
      rw [← hwq]
      have gq : Gr wr wq := by rw [hwq]; exact (by (try show Gr _ _); repeat (with_reducible first | exact Gr.refl _ | refine Gr.drewN ?_ _ | refine Gr.grew ?_ _ _ | refine Gr.alloc ?_ _ | refine Gr.drew ?_))
      clear hwq
      replace HWk := Lib.hid (fun (u : World) (g : Gr wq u) => HWk.out u (gq.trans g))
      replace Hb := Lib.hid (Hb.out.gr gq)
      replace Hb0 := Lib.hid (Hb0.out.gr gq)
      replace Ho := Lib.hid (Ho.out.gr gq)
      replace Hg := Lib.hid (Hg.out.trans gq)
      have p2 := Hb.out.cellv 2
      clear gq c0 c1
      go_wp2
      apply region_facts 7 [6] (fun _ v w' => ∃ b r, v = .slice (some ⟨b, 0, none⟩) 1 1 ∧ Blk w' b [.float .f32 r] 25 ∧ FE .f32 r (gWinAt xs D k))
      case hm => kernel_rfl
      case hB => kernel_rfl
      case hR => rfl
      case hP => (intro k hk v w1 w2 hg hv; obtain ⟨b, r, hv, hB, hr⟩ := hv; exact ⟨b, r, hv, hB.gr hg, hr⟩)
      simp only [List.take_succ_cons, List.take_zero, List.drop_succ_cons, List.drop_zero]
      repeat (first
        | ((with_reducible apply wpF_call (f := 85) (S := fun v => v = .int .i64 p)); (case hw => rfl); (case hc => exact Try.call85); (case hv => ((conv => lhs; simp [Act.eval]); try rfl)); (case hS => (intro os m _; refine (HWk.out _ ⟨os, m, rfl⟩).mono ?_; rintro e w' ⟨rfl, n, hn⟩; exact ⟨_, rfl, gr_of_drew hn, fun h => absurd h (by decide), rfl⟩)); (case hne => exact ⟨_, rfl⟩); (rintro v rfl; simp only [Act.put, List.setIfInBounds_toArray, List.set_cons_succ, List.set_cons_zero]))
        | ((with_reducible apply wpF_new (c := #[.float .f32 (floatOfInt .f32 p)]) (e := 25) (fun b => .slice (some ⟨b, 0, none⟩) 1 1)); (case hw => rfl); (case hx => (intro w; simp [execOp, go_sem])); (case hF => (intro w b hb hc _; exact ⟨b, _, rfl, ⟨hc⟩, by rw [EW.out]; exact FE.ofInt _ _⟩)); (intro b hb; simp only [Act.put, List.setIfInBounds_toArray, List.set_cons_succ, List.set_cons_zero]))
        | (apply wpF_skip rfl (by decide); simp only [Act.put, List.setIfInBounds_toArray, List.set_cons_succ, List.set_cons_zero])
        | (apply wpF_nilCheck rfl (by decide) rfl; simp only [Act.put, List.setIfInBounds_toArray, List.set_cons_succ, List.set_cons_zero])
        | ((with_reducible apply wpF_fop); (case hw => rfl); (case hT => decide); (case hop => rfl); (case hx => rfl); (case hy => rfl); (case hA => (first | assumption | exact FE.ofInt _ _ | exact FE.lit (by decide +kernel))); (case hB => (first | assumption | exact FE.ofInt _ _ | exact FE.lit (by decide +kernel))); (intro r hr; simp only [Act.put, List.setIfInBounds_toArray, List.set_cons_succ, List.set_cons_zero]))
        | ((with_reducible apply wpF_fneg); (case hw => rfl); (case hT => decide); (case hx => rfl); (case hA => (first | assumption | exact FE.ofInt _ _ | exact FE.lit (by decide +kernel))); (intro r hr; simp only [Act.put, List.setIfInBounds_toArray, List.set_cons_succ, List.set_cons_zero]))
        | ((with_reducible apply wpF_fcmp); (case hw => rfl); (case hT => decide); (case hop => rfl); (case hx => rfl); (case hy => rfl); (case hA => (first | assumption | exact FE.ofInt _ _ | exact FE.lit (by decide +kernel))); (case hB => (first | assumption | exact FE.ofInt _ _ | exact FE.lit (by decide +kernel))); (case hb => (first | assumption | rfl)); simp only [Act.put, List.setIfInBounds_toArray, List.set_cons_succ, List.set_cons_zero])
        | (apply wpF_q rfl (by decide) rfl; intro K hK; go_big_quiet_op; go_big_quiet_on))
      with_reducible apply wpF_nil
      intro os m hf
      obtain ⟨b', r', hb', hB', hr'⟩ := hf.1
      obtain rfl : b' = _ := by simpa using hb'.symm
      have G : Gr wq (wq.grew os m) := ⟨os, m, rfl⟩
      have ho' := Ho.out.gr G
      have c' := hB'.cellv 0
      clear hf hb'
      refine wpList_append_f rfl rfl i0 Try.underlying22 hi hz0 hz1 hz2 rfl ho' rfl c' hr' (by simp <;> omega) (by have := Hb.out.lt; have := Hl.out; simp <;> omega) ?_
      intro v1 w1 ho1 hg1
      obtain ⟨a1, c1, rfl, -, -⟩ := ho1.sl' (k + 1) (by simp)
      obtain ⟨hb1, P, ho2⟩ := pushed_step (i := 2) (u := .slice a1 (k + 1) c1) Hb.out Ho.out G hg1 ho1 (by decide)
      have q2 := hb1.cellv 2
      have z2 := hb1.frozen 2
      have Hb2 := Lib.hid hb1
      have Ho2 := Lib.hid ho2
      have HP := Lib.hid P
      clear G hg1 hb1 ho' ho1 ho2 P hB' c'
      go_wp2
      go_roundw
      case rel => exact ⟨k + 1, by omega, by go_num, _, Hb2.out.set _, HP.out.blk Hb0.out (by omega) (by omega), by rw [← lst_succ]; exact Ho2.out, HP.out.gr Hg.out (by omega) (by omega)⟩
      case measure => simp [intOf]; omega
    · obtain rfl : k = N0 := by omega
      obtain ⟨a1, c1', rfl, -, -⟩ := ho.sl' k (by simp)
      have p0 := hb.cellv 0
      have p1 := hb.cellv 1
      have p2 := hb.cellv 2
      have r0 := hb0.cellv 0
      have r1 := hb0.cellv 1
      have r2 := hb0.cellv 2
      have z0 := hb0.frozen 0
      have z1 := hb0.frozen 1
      have z2 := hb0.frozen 2
      have Ho := Lib.hid ho
      have Hg := Lib.hid hg
      clear hb hb0 ho hg
      go_wp2
      apply region_drew 10
      case hm => kernel_rfl
      case hB => kernel_rfl
      simp only [List.take_succ_cons, List.take_zero, List.drop_succ_cons, List.drop_zero]
      repeat (first
        | (apply wpSoft_skip rfl; simp only [Act.put, List.setIfInBounds_toArray, List.set_cons_succ, List.set_cons_zero])
        | (apply wpSoft_nilCheck rfl rfl; simp only [Act.put, List.setIfInBounds_toArray, List.set_cons_succ, List.set_cons_zero])
        | ((with_reducible apply wpSoft_fop); (case hw => rfl); (case hD => exact closed_drew); (case hop => rfl); (case hx => rfl); (case hy => rfl); (case hA => (first | assumption | exact FE.ofInt _ _ | exact FE.lit (by decide +kernel))); (case hB => (first | assumption | exact FE.ofInt _ _ | exact FE.lit (by decide +kernel))); (intro r hr; simp only [Act.put, List.setIfInBounds_toArray, List.set_cons_succ, List.set_cons_zero]))

        | ((with_reducible apply wpSoft_widen); (case hw => rfl); (case hD => exact closed_drew); (case hs => exact Try.underlying25); (case hd => exact Try.underlying61); (case hx => rfl); (case hA => (first | assumption | exact FE.ofInt _ _ | exact FE.lit (by decide +kernel))); (intro r hr; simp only [Act.put, List.setIfInBounds_toArray, List.set_cons_succ, List.set_cons_zero]))
        | ((with_reducible apply wpSoft_fneg); (case hw => rfl); (case hx => rfl); (case hA => (first | assumption | exact FE.ofInt _ _ | exact FE.lit (by decide +kernel))); (intro r hr; simp only [Act.put, List.setIfInBounds_toArray, List.set_cons_succ, List.set_cons_zero]))
        | ((with_reducible apply wpSoft_fcmp); (case hw => rfl); (case hop => rfl); (case hx => rfl); (case hy => rfl); (case hA => (first | assumption | exact FE.ofInt _ _ | exact FE.lit (by decide +kernel))); (case hB => (first | assumption | exact FE.ofInt _ _ | exact FE.lit (by decide +kernel))); (case hb => (first | assumption | rfl)); simp only [Act.put, List.setIfInBounds_toArray, List.set_cons_succ, List.set_cons_zero])
        | (apply wpSoft_q rfl rfl; intro K hK; go_big_quiet_op; go_big_quiet_on))
      with_reducible apply wpSoft_nil
      intro m
      go_wp2
      refine bodyPost_ret (v := .agg #[.int .i64 W, .int .i64 H, .slice a1 k c1']) (by simp [results, Try.results53, go_sem, *]) rfl ⟨⟨_, rfl, ?_⟩, ?_⟩
      · have h := Ho.out
        exact FOwn.base (B := w.heap.size + 1) (FOwn.gr (by repeat (with_reducible first | assumption | refine FOwn.setOther ?_ _ (by simp <;> omega))) ((Gr.refl _).drewN _)) (by omega)
      · have h := Hg.out
        exact Gr.trans (by repeat (with_reducible first | assumption | refine Gr.setCell ?_ (by simp <;> omega) _)) ((Gr.refl _).drewN _)
set_option maxRecDepth 20000 in
set_option maxHeartbeats 1000000 in
theorem I_OtherVolume_1 (W H D x y d b bx ox cap : Nat) (xs : List Nat) (w : World) (hm : MV w b W H D (some ⟨bx, ox, none⟩) xs.length cap xs) (hW : W ≤ 24) (hH : H ≤ 24) (hD0 : 1 ≤ D) (hD : D ≤ 8) (hx : x < W) (hy : y < H) (hd : d < D) (hn : xs.length = W * H * D) (hc : xs.length ≤ cap) :
    Calls Try.prog 93 #[.int .i64 x, .int .i64 y, .int .i64 d, .pointer (some ⟨b, 0, none⟩)] w fun e w' => (∃ r, e = .returned (.float .f32 r) ∧ FE .f32 r (gOth xs W D x y d)) ∧ Gr w w' := by
  have c0 := hm.c0
  have M1 := Lib.hid hm
  have HN := Lib.hid hn
  obtain ⟨m, hmd⟩ : ∃ m, m = min (x + d) (W - 1) := ⟨_, rfl⟩
  have hmW : m < W := by omega
  have HM := Lib.hid (show (if (W : Int) - 1 < (x : Int) + (d : Int) then (W : Int) - 1 else (x : Int) + (d : Int)) = (m : Int) by split <;> omega)
  have hin := vol_cell (D := D) hmW hy
  obtain ⟨P0, hP0⟩ : ∃ P0, P0 = (m + W * y) * D := ⟨_, rfl⟩
  have HC := fun (u : World) (g : Gr w u) => I_Volume_cell W H D m y b bx ox cap xs u (hm.gr g) hW hH hD0 hD hmW hy hn hc
  rw [← hP0] at HC hin
  obtain ⟨r, hcr, hr⟩ := hm.fs.get (P0 + d) (by omega)
  rw [show ox + (P0 + d) = ox + P0 + d by omega] at hcr
  have eG := Lib.hid (show gOth xs W D x y d = xs.getD (P0 + d) 0 by unfold gOth; rw [← hmd, ← hP0])
  have HC := Lib.hid HC
  have HR := Lib.hid hr
  clear hm hn hmd hP0 hr
  go_enter Try.func93, Try.ntmps93
  go_wp2_with (first | (go_at_call 94; rw [HM.out]; refine (HC.out _ (by (try show Gr _ _); repeat (with_reducible first | exact Gr.refl _ | refine Gr.drewN ?_ _ | refine Gr.grew ?_ _ _ | refine Gr.alloc ?_ _ | refine Gr.drew ?_))).mono ?_; rintro e w' ⟨rfl, n, rfl⟩))
  go_ret
  exact ⟨⟨_, rfl, by rw [eG.out]; exact HR.out⟩, (by (try show Gr _ _); repeat (with_reducible first | exact Gr.refl _ | refine Gr.drewN ?_ _ | refine Gr.grew ?_ _ _ | refine Gr.alloc ?_ _ | refine Gr.drew ?_))⟩
theorem tells_OtherVolume (W H D b bx ox cap : Nat) (xs : List Nat) (w : World) (hm : MV w b W H D (some ⟨bx, ox, none⟩) xs.length cap xs) (hW : W ≤ 24) (hH : H ≤ 24) (hD0 : 1 ≤ D) (hD : D ≤ 8) (hn : xs.length = W * H * D) (hc : xs.length ≤ cap) :
    Tells3 w 93 #[.pointer (some ⟨b, 0, none⟩)] W H D (gOth xs W D) :=
  ⟨Try.call93, fun x y d hx hy hd w1 g => I_OtherVolume_1 W H D x y d b bx ox cap xs w1 (hm.gr g) hW hH hD0 hD hx hy hd hn hc⟩
set_option maxRecDepth 20000 in
set_option maxHeartbeats 1000000 in
theorem I_revolume_ok (W H D : Nat) (a : Option Addr) (ca : Nat) (xs : List Nat) (f : FuncId) (cs : Array Value) (V : Nat → Nat → Nat → Nat) (w : World) (hP : gVol W H D xs.length = true) (hn' : xs.length ≤ maxLen) (T : Tells3 w f cs W H D V) :
    Calls Try.prog 92 #[.agg #[.int .i64 W, .int .i64 H, .int .i64 D, .slice a xs.length ca], .func (.func f) #[] cs] w fun e w' => (∃ v c, e = .returned (.tuple #[.agg #[.int .i64 W, .int .i64 H, .int .i64 D, .slice v (W * H * D) c], .bool true]) ∧ FOwn w' w.heap.size 25 (.slice v (W * H * D) c) (lst (W * H * D) (gV3 W D V))) ∧ Gr w w' := by
  obtain ⟨hS, d1, d2, hp, hp2⟩ := gVol_true hP
  obtain ⟨s1, s2, s3, s4, s5, s6⟩ := gSize_true hS
  have HP := Lib.hid hP
  have HT := Lib.hid T
  clear hP hp hS T s5 s6
  go_enter Try.func92, Try.ntmps92
  go_wp2_with (first
      | (go_at_call 55; (with_reducible refine (I_ValidVolume _ _ _ _ _ _ _ hn').mono ?_); rintro e u0 ⟨rfl, g⟩; rw [HP.out]; have B0 := Lib.hid (Blk.gr (show Blk _ w.heap.size [.int .i64 W, .int .i64 H, .int .i64 D, .slice a xs.length ca] 44 from (by repeat (with_reducible first | assumption | exact Blk.atNew (by simp) | refine Blk.alloc ?_ _ | refine Blk.grew ?_ _ _ | refine Blk.drewN ?_ _ | refine Blk.drew ?_))) g); have B1 := Lib.hid (Blk.gr (show Blk _ (w.heap.size + 1) [.int .i64 0, .int .i64 0, .int .i64 0, .slice none 0 0] 44 from (by repeat (with_reducible first | assumption | exact Blk.atNew (by simp) | refine Blk.alloc ?_ _ | refine Blk.grew ?_ _ _ | refine Blk.drewN ?_ _ | refine Blk.drew ?_))) g); have G := Lib.hid (Gr.trans (show Gr w _ from (by (try show Gr _ _); repeat (with_reducible first | exact Gr.refl _ | refine Gr.drewN ?_ _ | refine Gr.grew ?_ _ _ | refine Gr.alloc ?_ _ | refine Gr.drew ?_))) g); have p0 := B0.out.cellv 0; have p1 := B0.out.cellv 1; have p2 := B0.out.cellv 2; clear g)
      | (go_at_call 124; refine (I_volumeOf W H D V f cs _ (HT.out.gr G.out) (by omega) (by omega) (by omega) (by omega) (by omega) (by omega)).mono ?_; rintro e u1 ⟨⟨v, rfl, ho⟩, g⟩; obtain ⟨a1, c1, rfl, -, -⟩ := ho.sl' (W * H * D) (by simp); have Hb := Lib.hid B1.out.lt; have B2 := Lib.hid (B1.out.gr g); have Ho := Lib.hid ho; have G1 := Lib.hid (G.out.trans g); have q0 := B2.out.cellv 0; have q1 := B2.out.cellv 1; have q2 := B2.out.cellv 2; have q3 := B2.out.cellv 3; have z0 := B2.out.frozen 0; have z1 := B2.out.frozen 1; have z2 := B2.out.frozen 2; have z3 := B2.out.frozen 3; clear ho g p0 p1 p2))
  refine bodyPost_ret (v := .tuple #[.agg #[.int .i64 W, .int .i64 H, .int .i64 D, .slice a1 (W * H * D) c1], .bool true]) (by simp [results, Try.results92, go_sem, *]) rfl ⟨⟨_, _, rfl, ?_⟩, ?_⟩
  · have h := Ho.out
    have hb := Hb.out
    have h0 := G.out.size
    exact FOwn.base (B := u0.heap.size) (by repeat (with_reducible first | assumption | refine FOwn.setOther ?_ _ (by simp <;> omega))) h0
  · have h := G1.out
    exact (by repeat (with_reducible first | assumption | refine Gr.setCell ?_ (by simp <;> omega) _))
set_option maxRecDepth 20000 in
set_option maxHeartbeats 1000000 in
theorem I_WinnersOf_1 (a : Option Addr) (c : Nat) (ys : List Nat) (w : World) (hs : FSl w a ys.length ys) (h8 : ys.length ≤ 8) :
    Calls Try.prog 90 #[.slice a ys.length c] w fun e w' => (∃ r, e = .returned (.float .f32 r) ∧ FE .f32 r (tWin ys)) ∧ Gr w w' := by
  have Fs := Lib.hid hs
  have HR := gWin_range (fun j => ys.getD j 0) (-1) ys.length
  have eG := Lib.hid (show tWin ys = floatOfInt .f32 (gWin (fun j => ys.getD j 0) (-1) ys.length) from rfl)
  have HW := Lib.hid (fun (u : World) (g : Gr w u) => I_winner a c ys (-1) u (hs.keep g.kp) (by omega))
  generalize gWin (fun j => ys.getD j 0) (-1) ys.length = p at *
  clear hs
  go_enter Try.func90, Try.ntmps90
  go_wp2_with (first | (go_at_call 91; refine (HW.out _ (by (try show Gr _ _); repeat (with_reducible first | exact Gr.refl _ | refine Gr.drewN ?_ _ | refine Gr.grew ?_ _ _ | refine Gr.alloc ?_ _ | refine Gr.drew ?_))).mono ?_; rintro e w' ⟨rfl, n, rfl⟩))
  go_ret
  exact ⟨⟨_, rfl, by rw [eG.out]; exact FE.ofInt _ _⟩, (by (try show Gr _ _); repeat (with_reducible first | exact Gr.refl _ | refine Gr.drewN ?_ _ | refine Gr.grew ?_ _ _ | refine Gr.alloc ?_ _ | refine Gr.drew ?_))⟩
end Go.Proofs.Ytomlfdkcgaogcaa
