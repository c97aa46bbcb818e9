/- Contracts: the values in a window of the reference. MAXREC -/
import Derived.Test.YtomlfdkcgaogcaaProg
import Derived.Test.YtomlfdkcgaogcaaC96
import Derived.Test.YtomlfdkcgaogcaaC29
namespace Go.Proofs.Ytomlfdkcgaogcaa
open Go.RowKit Go.Fx Go.Soft
set_option maxRecDepth 20000 in
set_option maxHeartbeats 4000000 in
theorem S_l05Window (W H b x y r ca : Nat) (a : Option Addr) (xs : List Nat) (w : World) (m1 : MP w b W H a xs.length ca xs) (hx : x < W) (hy : y < H) (hr : r ≤ 24) (hW : W ≤ 24) (hH : H ≤ 24) (hl : xs.length = W * H) :
    Calls Try.prog 69 #[.pointer (some ⟨b, 0, none⟩), .int .i64 x, .int .i64 y, .int .i64 r] w fun e w' => (∃ v, e = .returned v ∧ FOwn w' w.heap.size 25 v (gMv xs W (wl (x - r) (y - r) (min (x + r) (W - 1) + 1 - (x - r)) ((min (x + r) (W - 1) + 1 - (x - r)) * (min (y + r) (H - 1) + 1 - (y - r)))))) ∧ Gr w w' := by
  obtain ⟨i0, hi, hz0, hz1, hz2⟩ := info_parts info_float32
  have HX0 := fun u => S_l00Max 0 ((x : Int) - (r : Int)) u
  have HY0 := fun u => S_l00Max 0 ((y : Int) - (r : Int)) u
  have HX1 := fun u => S_l00Min ((W : Int) - 1) ((x : Int) + (r : Int)) u
  have HY1 := fun u => S_l00Min ((H : Int) - 1) ((y : Int) + (r : Int)) u
  rw [show max 0 ((x : Int) - (r : Int)) = ((x - r : Nat) : Int) by omega] at HX0
  rw [show max 0 ((y : Int) - (r : Int)) = ((y - r : Nat) : Int) by omega] at HY0
  rw [show min ((W : Int) - 1) ((x : Int) + (r : Int)) = ((min (x + r) (W - 1) : Nat) : Int) by omega] at HX1
  rw [show min ((H : Int) - 1) ((y : Int) + (r : Int)) = ((min (y + r) (H - 1) : Nat) : Int) by omega] at HY1
  obtain ⟨x0, hx0⟩ : ∃ x0, x0 = x - r := ⟨_, rfl⟩
  obtain ⟨y0, hy0⟩ : ∃ y0, y0 = y - r := ⟨_, rfl⟩
  obtain ⟨x1, hx1⟩ : ∃ x1, x1 = min (x + r) (W - 1) := ⟨_, rfl⟩
  obtain ⟨y1, hy1⟩ : ∃ y1, y1 = min (y + r) (H - 1) := ⟨_, rfl⟩
  rw [← hx0] at HX0
  rw [← hy0] at HY0
  rw [← hx1] at HX1
  rw [← hy1] at HY1
  rw [← hx0, ← hy0, ← hx1, ← hy1]
  have hx01 : x0 ≤ x1 := by omega
  have hy01 : y0 ≤ y1 := by omega
  have hx1W : x1 < W := by omega
  have hy1H : y1 < H := by omega
  obtain ⟨n, hn⟩ : ∃ n, n = x1 + 1 - x0 := ⟨_, rfl⟩
  obtain ⟨m, hm⟩ : ∃ m, m = y1 + 1 - y0 := ⟨_, rfl⟩
  rw [← hn, ← hm]
  have hxs : xs.length ≤ 576 := by rw [hl]; exact Nat.mul_le_mul hW hH
  have c0 := m1.c0
  have c1 := m1.c1
  obtain ⟨bx, ox, rfl⟩ := m1.fs.ptr (by rw [hl]; exact Nat.mul_pos (by omega) (by omega))
  have HX0 := Lib.hid HX0
  have HY0 := Lib.hid HY0
  have HX1 := Lib.hid HX1
  have HY1 := Lib.hid HY1
  have HN := Lib.hid hn
  have HM := Lib.hid hm
  have M1 := Lib.hid m1
  have Hl := Lib.hid hl
  clear m1 hl hx0 hy0 hx1 hy1 hn hm
  have wW : IntKind.i64.wrap ((W : Int) - 1) = (W : Int) - 1 := IntWalk.i64_in _ (by omega)
  have wH : IntKind.i64.wrap ((H : Int) - 1) = (H : Int) - 1 := IntWalk.i64_in _ (by omega)
  go_enter Try.func69, Try.ntmps69
  go_wp2_with (first | (go_at_call 112; (with_reducible refine (HY0.out _).mono ?_); rintro e w' ⟨rfl, hw⟩; obtain rfl := hw.symm))
  clear c0 c1
  go_loopw [9, 10] (fun v9 i wr => ∃ q j : Nat, q = y0 + j ∧ j ≤ m ∧ i = .int .i64 q ∧ FOwn wr w.heap.size 25 v9 (gMv xs W (wl x0 y0 n (0 + n * j))) ∧ Gr w wr) (fun _ i _ => 50 - (intOf i).toNat)
  case atStart => exact ⟨y0, 0, rfl, Nat.zero_le _, rfl, FOwn.empty (by repeat (with_reducible first | assumption | exact Blk.atNew (by simp) | refine Blk.alloc ?_ _ | refine Blk.grew ?_ _ _ | refine Blk.drewN ?_ _ | refine Blk.drew ?_)) (Nat.le_refl _), (by (try show Gr _ _); repeat (with_reducible first | exact Gr.refl _ | refine Gr.drewN ?_ _ | refine Gr.grew ?_ _ _ | refine Gr.alloc ?_ _ | refine Gr.drew ?_))⟩
  case round =>
    obtain ⟨q, j, hq, hj, rfl, ho, hg⟩ := hrel
    have c1 := hg.cell M1.out.c1
    have Ho := Lib.hid ho
    have Hg := Lib.hid hg
    have HQ := Lib.hid hq
    have hm' := HM.out
    by_cases hjm : j < m
    · have hqy : q ≤ y1 := by omega
      clear hm' hq ho hg
      go_wp2_with (first | (go_at_call 84; (with_reducible refine (HY1.out _).mono ?_); rintro e w' ⟨rfl, hw⟩; obtain rfl := hw.symm) | (go_at_call 112; (with_reducible refine (HX0.out _).mono ?_); rintro e w' ⟨rfl, hw⟩; obtain rfl := hw.symm))
      clear c1
      go_loopw [9, 11] (fun v9 i wx => ∃ p i' : Nat, p = x0 + i' ∧ i' ≤ n ∧ i = .int .i64 p ∧ FOwn wx w.heap.size 25 v9 (gMv xs W (wl x0 y0 n (i' + n * j))) ∧ Gr w wx) (fun _ i _ => 50 - (intOf i).toNat)
      case atStart => exact ⟨x0, 0, rfl, Nat.zero_le _, rfl, Ho.out.gr (by (try show Gr _ _); repeat (with_reducible first | exact Gr.refl _ | refine Gr.drewN ?_ _ | refine Gr.grew ?_ _ _ | refine Gr.alloc ?_ _ | refine Gr.drew ?_)), Hg.out.trans (by (try show Gr _ _); repeat (with_reducible first | exact Gr.refl _ | refine Gr.drewN ?_ _ | refine Gr.grew ?_ _ _ | refine Gr.alloc ?_ _ | refine Gr.drew ?_))⟩
      case round =>
        clear Ho Hg
        obtain ⟨p, i', hp, hi', rfl, ho, hg⟩ := hrel
        have c0 := hg.cell M1.out.c0
        have c2 := hg.cell M1.out.c2
        have Ho := Lib.hid ho
        have Hg := Lib.hid hg
        have HP := Lib.hid hp
        have hn' := HN.out
        by_cases hin : i' < n
        · have hpx : p ≤ x1 := by omega
          have hpW : p < W := by omega
          have hqH : q < H := by omega
          have hpq : p + W * q < xs.length := by rw [Hl.out]; exact cell_lt hpW hqH
          obtain ⟨e1, e2⟩ := wrap_cell (W := W) (x := p) (y := q) (by omega) hW (by omega)
          obtain ⟨z, hcz, hz⟩ := (M1.out.fs.keep hg.kp).get (p + W * q) hpq
          have ES := Lib.hid (show wl x0 y0 n (i' + 1 + n * j) = wl x0 y0 n (i' + n * j) ++ [(p, q)] by rw [HP.out, HQ.out]; exact wl_succ hin)
          have hlen : (gMv xs W (wl x0 y0 n (i' + n * j))).length ≤ 4096 := by
            refine Nat.le_trans (by unfold gMv; rw [List.length_map]; exact List.length_filter_le _ _) ?_
            unfold wl
            rw [List.length_map, List.length_range]
            have := Nat.mul_le_mul (show n ≤ 24 by omega) (show j ≤ 24 by have := HM.out; omega)
            omega
          have HLen := Lib.hid hlen
          clear hn' hp ho hg hlen
          cases t1 : gHole (xs.getD (p + W * q) 0)
          · have EV := Lib.hid (gMv_yes (wl x0 y0 n (i' + n * j)) t1)
            go_wp2_with (first | (go_at_call 84; (with_reducible refine (HX1.out _).mono ?_); rintro e w' ⟨rfl, hw⟩; obtain rfl := hw.symm))
            apply region_drew 15
            case hm => kernel_rfl
            case hB => kernel_rfl
            simp only [List.take_succ_cons, List.take_zero, List.drop_succ_cons, List.drop_zero]
            repeat (first
              | ((with_reducible apply wpSoft_calleq (f := 74)); (case hw => rfl); (case hc => exact Try.call74); (case hv => ((conv => lhs; simp [Act.eval]); try rfl)); (case hS => (rintro _ ⟨m, rfl⟩; with_reducible refine (S_l05Hole _ _ _ (by assumption)).mono ?_; rintro e w' ⟨rfl, n, rfl⟩; exact ⟨rfl, ⟨_, World.drewN_drewN _ _ _⟩⟩)); (simp only [Act.put, List.setIfInBounds_toArray, List.set_cons_succ, List.set_cons_zero]; try simp only [t1]))
              | (apply wpSoft_skip rfl; simp only [Act.put, List.setIfInBounds_toArray, List.set_cons_succ, List.set_cons_zero])
              | (apply wpSoft_nilCheck rfl rfl; simp only [Act.put, List.setIfInBounds_toArray, List.set_cons_succ, List.set_cons_zero])
              | ((with_reducible apply wpSoft_fop); (case hw => rfl); (case hD => exact closed_drew); (case hop => rfl); (case hx => rfl); (case hy => rfl); (case hA => (first | assumption | exact FE.ofInt _ _ | exact FE.lit (by decide +kernel))); (case hB => (first | assumption | exact FE.ofInt _ _ | exact FE.lit (by decide +kernel))); (intro r hr; simp only [Act.put, List.setIfInBounds_toArray, List.set_cons_succ, List.set_cons_zero]))

              | ((with_reducible apply wpSoft_widen); (case hw => rfl); (case hD => exact closed_drew); (case hs => exact Try.underlying25); (case hd => exact Try.underlying61); (case hx => rfl); (case hA => (first | assumption | exact FE.ofInt _ _ | exact FE.lit (by decide +kernel))); (intro r hr; simp only [Act.put, List.setIfInBounds_toArray, List.set_cons_succ, List.set_cons_zero]))
              | ((with_reducible apply wpSoft_fneg); (case hw => rfl); (case hx => rfl); (case hA => (first | assumption | exact FE.ofInt _ _ | exact FE.lit (by decide +kernel))); (intro r hr; simp only [Act.put, List.setIfInBounds_toArray, List.set_cons_succ, List.set_cons_zero]))
              | ((with_reducible apply wpSoft_fcmp); (case hw => rfl); (case hop => rfl); (case hx => rfl); (case hy => rfl); (case hA => (first | assumption | exact FE.ofInt _ _ | exact FE.lit (by decide +kernel))); (case hB => (first | assumption | exact FE.ofInt _ _ | exact FE.lit (by decide +kernel))); (case hb => (first | assumption | rfl)); simp only [Act.put, List.setIfInBounds_toArray, List.set_cons_succ, List.set_cons_zero])
              | (apply wpSoft_q rfl rfl; intro K hK; go_big_quiet_op; go_big_quiet_on))
            with_reducible apply wpSoft_nil
            intro m
            generalize hwq : wr.drewN _ = wq
            have gq : Gr wr wq := by rw [← hwq]; exact (by (try show Gr _ _); repeat (with_reducible first | exact Gr.refl _ | refine Gr.drewN ?_ _ | refine Gr.grew ?_ _ _ | refine Gr.alloc ?_ _ | refine Gr.drew ?_))
            clear hwq c0 c2
            replace Ho := Lib.hid (Ho.out.gr gq)
            replace Hg := Lib.hid (Hg.out.trans gq)
            have c0 := Hg.out.cell M1.out.c0
            have c2 := Hg.out.cell M1.out.c2
            replace hcz := gq.cell hcz
            clear gq
            go_wp2
            apply region_facts 16 [15] (fun _ v w' => ∃ b r, v = .slice (some ⟨b, 0, none⟩) 1 1 ∧ Blk w' b [.float .f32 r] 25 ∧ FE .f32 r (xs.getD (p + W * q) 0))
            case hm => kernel_rfl
            case hB => kernel_rfl
            case hR => rfl
            case hP => (intro k hk v w1 w2 hg hv; obtain ⟨b, r, hv, hB, hr⟩ := hv; exact ⟨b, r, hv, hB.gr hg, hr⟩)
            simp only [List.take_succ_cons, List.take_zero, List.drop_succ_cons, List.drop_zero]
            repeat (first
              | ((with_reducible apply wpF_new (c := #[.float .f32 z]) (e := 25) (fun b => .slice (some ⟨b, 0, none⟩) 1 1)); (case hw => rfl); (case hx => (intro w; simp [execOp, go_sem])); (case hF => (intro w b hb hc _; exact ⟨b, _, rfl, ⟨hc⟩, hz⟩)); (intro bn hb; simp only [Act.put, List.setIfInBounds_toArray, List.set_cons_succ, List.set_cons_zero]))
              | (apply wpF_skip rfl (by decide); simp only [Act.put, List.setIfInBounds_toArray, List.set_cons_succ, List.set_cons_zero])
              | (apply wpF_nilCheck rfl (by decide) rfl; simp only [Act.put, List.setIfInBounds_toArray, List.set_cons_succ, List.set_cons_zero])
              | ((with_reducible apply wpF_fop); (case hw => rfl); (case hT => decide); (case hop => rfl); (case hx => rfl); (case hy => rfl); (case hA => (first | assumption | exact FE.ofInt _ _ | exact FE.lit (by decide +kernel))); (case hB => (first | assumption | exact FE.ofInt _ _ | exact FE.lit (by decide +kernel))); (intro r hr; simp only [Act.put, List.setIfInBounds_toArray, List.set_cons_succ, List.set_cons_zero]))
              | ((with_reducible apply wpF_fneg); (case hw => rfl); (case hT => decide); (case hx => rfl); (case hA => (first | assumption | exact FE.ofInt _ _ | exact FE.lit (by decide +kernel))); (intro r hr; simp only [Act.put, List.setIfInBounds_toArray, List.set_cons_succ, List.set_cons_zero]))
              | ((with_reducible apply wpF_fcmp); (case hw => rfl); (case hT => decide); (case hop => rfl); (case hx => rfl); (case hy => rfl); (case hA => (first | assumption | exact FE.ofInt _ _ | exact FE.lit (by decide +kernel))); (case hB => (first | assumption | exact FE.ofInt _ _ | exact FE.lit (by decide +kernel))); (case hb => (first | assumption | rfl)); simp only [Act.put, List.setIfInBounds_toArray, List.set_cons_succ, List.set_cons_zero])
              | (apply wpF_q rfl (by decide) rfl; intro K hK; go_big_quiet_op; go_big_quiet_on))
            with_reducible apply wpF_nil
            intro os m hf
            obtain ⟨b', r', hb', hB', hr'⟩ := hf.1
            obtain rfl : b' = _ := by simpa using hb'.symm
            have G : Gr wq (wq.grew os m) := ⟨os, m, rfl⟩
            have ho' := Ho.out.gr G
            have c' := hB'.cellv 0
            clear hf hb'
            refine wpList_append_f rfl rfl i0 Try.underlying22 hi hz0 hz1 hz2 rfl ho' rfl c' hr' (by have := HLen.out; simp <;> omega) (by have := Hg.out.size; simp <;> omega) ?_
            intro v1 w1 ho1 hg1
            have G1 := Lib.hid ((Hg.out.trans G).grownBy hg1 (fun k hk => (ho'.block hk).1))
            have Ho1 := Lib.hid ho1
            clear G hg1 ho' ho1 hB' c'
            go_wp2
            go_roundw
            case rel => exact ⟨p + 1, i' + 1, by have := HP.out; omega, by omega, by go_num, by rw [ES.out, EV.out]; exact Ho1.out, G1.out⟩
            case measure => simp [intOf]; omega
          · have EV := Lib.hid (gMv_no (wl x0 y0 n (i' + n * j)) t1)
            go_wp2_with (first | (go_at_call 84; (with_reducible refine (HX1.out _).mono ?_); rintro e w' ⟨rfl, hw⟩; obtain rfl := hw.symm))
            apply region_drew 15
            case hm => kernel_rfl
            case hB => kernel_rfl
            simp only [List.take_succ_cons, List.take_zero, List.drop_succ_cons, List.drop_zero]
            repeat (first
              | ((with_reducible apply wpSoft_calleq (f := 74)); (case hw => rfl); (case hc => exact Try.call74); (case hv => ((conv => lhs; simp [Act.eval]); try rfl)); (case hS => (rintro _ ⟨m, rfl⟩; with_reducible refine (S_l05Hole _ _ _ (by assumption)).mono ?_; rintro e w' ⟨rfl, n, rfl⟩; exact ⟨rfl, ⟨_, World.drewN_drewN _ _ _⟩⟩)); (simp only [Act.put, List.setIfInBounds_toArray, List.set_cons_succ, List.set_cons_zero]; try simp only [t1]))
              | (apply wpSoft_skip rfl; simp only [Act.put, List.setIfInBounds_toArray, List.set_cons_succ, List.set_cons_zero])
              | (apply wpSoft_nilCheck rfl rfl; simp only [Act.put, List.setIfInBounds_toArray, List.set_cons_succ, List.set_cons_zero])
              | ((with_reducible apply wpSoft_fop); (case hw => rfl); (case hD => exact closed_drew); (case hop => rfl); (case hx => rfl); (case hy => rfl); (case hA => (first | assumption | exact FE.ofInt _ _ | exact FE.lit (by decide +kernel))); (case hB => (first | assumption | exact FE.ofInt _ _ | exact FE.lit (by decide +kernel))); (intro r hr; simp only [Act.put, List.setIfInBounds_toArray, List.set_cons_succ, List.set_cons_zero]))

              | ((with_reducible apply wpSoft_widen); (case hw => rfl); (case hD => exact closed_drew); (case hs => exact Try.underlying25); (case hd => exact Try.underlying61); (case hx => rfl); (case hA => (first | assumption | exact FE.ofInt _ _ | exact FE.lit (by decide +kernel))); (intro r hr; simp only [Act.put, List.setIfInBounds_toArray, List.set_cons_succ, List.set_cons_zero]))
              | ((with_reducible apply wpSoft_fneg); (case hw => rfl); (case hx => rfl); (case hA => (first | assumption | exact FE.ofInt _ _ | exact FE.lit (by decide +kernel))); (intro r hr; simp only [Act.put, List.setIfInBounds_toArray, List.set_cons_succ, List.set_cons_zero]))
              | ((with_reducible apply wpSoft_fcmp); (case hw => rfl); (case hop => rfl); (case hx => rfl); (case hy => rfl); (case hA => (first | assumption | exact FE.ofInt _ _ | exact FE.lit (by decide +kernel))); (case hB => (first | assumption | exact FE.ofInt _ _ | exact FE.lit (by decide +kernel))); (case hb => (first | assumption | rfl)); simp only [Act.put, List.setIfInBounds_toArray, List.set_cons_succ, List.set_cons_zero])
              | (apply wpSoft_q rfl rfl; intro K hK; go_big_quiet_op; go_big_quiet_on))
            with_reducible apply wpSoft_nil
            intro m
            go_wp2
            go_roundw
            case rel => exact ⟨p + 1, i' + 1, by have := HP.out; omega, by omega, by go_num, by rw [ES.out, EV.out]; exact Ho.out.gr (by (try show Gr _ _); repeat (with_reducible first | exact Gr.refl _ | refine Gr.drewN ?_ _ | refine Gr.grew ?_ _ _ | refine Gr.alloc ?_ _ | refine Gr.drew ?_)), Hg.out.trans (by (try show Gr _ _); repeat (with_reducible first | exact Gr.refl _ | refine Gr.drewN ?_ _ | refine Gr.grew ?_ _ _ | refine Gr.alloc ?_ _ | refine Gr.drew ?_))⟩
            case measure => simp [intOf]; omega
        · have hpx : ¬ p ≤ x1 := by omega
          obtain rfl : i' = n := by omega
          clear hn' hp ho hg
          go_wp2_with (first | (go_at_call 84; (with_reducible refine (HX1.out _).mono ?_); rintro e w' ⟨rfl, hw⟩; obtain rfl := hw.symm))
          go_roundw
          case rel => exact ⟨q + 1, j + 1, by have := HQ.out; omega, by omega, by go_num, by rw [show 0 + i' * (j + 1) = i' + i' * j by rw [Nat.mul_add, Nat.mul_one, Nat.zero_add, Nat.add_comm]]; exact Ho.out.gr (by (try show Gr _ _); repeat (with_reducible first | exact Gr.refl _ | refine Gr.drewN ?_ _ | refine Gr.grew ?_ _ _ | refine Gr.alloc ?_ _ | refine Gr.drew ?_)), Hg.out.trans (by (try show Gr _ _); repeat (with_reducible first | exact Gr.refl _ | refine Gr.drewN ?_ _ | refine Gr.grew ?_ _ _ | refine Gr.alloc ?_ _ | refine Gr.drew ?_))⟩
          case measure => simp [intOf]; omega
    · have hqy : ¬ q ≤ y1 := by omega
      obtain rfl : j = m := by omega
      clear hm' hq ho hg
      go_wp2_with (first | (go_at_call 84; (with_reducible refine (HY1.out _).mono ?_); rintro e w' ⟨rfl, hw⟩; obtain rfl := hw.symm))
      refine bodyPost_ret (v := u9) (by simp [results, Try.results69, go_sem]) rfl ⟨⟨_, rfl, ?_⟩, Hg.out.trans (by (try show Gr _ _); repeat (with_reducible first | exact Gr.refl _ | refine Gr.drewN ?_ _ | refine Gr.grew ?_ _ _ | refine Gr.alloc ?_ _ | refine Gr.drew ?_))⟩
      have h := Ho.out
      rw [Nat.zero_add] at h
      exact h.gr (by (try show Gr _ _); repeat (with_reducible first | exact Gr.refl _ | refine Gr.drewN ?_ _ | refine Gr.grew ?_ _ _ | refine Gr.alloc ?_ _ | refine Gr.drew ?_))
end Go.Proofs.Ytomlfdkcgaogcaa
