/- Contracts: PackMap of the reference. MAXREC -/
import Derived.Test.YtaidkokgafojeaaProg
import Derived.Test.YtaidkokgafojeaaC52
import Derived.Deep.DeepCutAuto
namespace Go.Proofs.Ytaidkokgafojeaa
open Go.RowKit Go.Fx Go.Soft
set_option maxRecDepth 20000 in
set_option maxHeartbeats 8000000 in
theorem S_l07Pack (W H b ca : Nat) (a : Option Addr) (xs : List Nat) (w : World) (M0 : MP w b W H a xs.length ca xs) (hW : W ≤ 24) (hH : H ≤ 24) (hl : xs.length = W * H)
    (hA : ∀ i, i < xs.length → gPacks (xs.getD i 0) = true) :
    Calls Try.prog 59 #[.pointer (some ⟨b, 0, none⟩)] w fun e w' => e = .returned (.string (strOfNums (gPack xs W H))) ∧ Gr w w' := by
  have HA := Lib.hid (fun i (h : i < xs.length) => packs_law (hA i h))
  have M := Lib.hid M0
  have Hl := Lib.hid hl
  have p0 := M0.c0
  have p1 := M0.c1
  obtain ⟨i0, hi, hz0, hz1, hz2⟩ := info_parts info_uint8
  clear M0 hA hl
  go_enter Try.func59, Try.ntmps59
  go_wp2
  go_loopw [3, 4] (fun s i wr => ∃ y : Nat, y ≤ H ∧ i = .int .i64 y ∧ BOwn wr w.heap.size 5 s (gPack xs W y) ∧ Gr w wr) (fun _ i _ => H - (intOf i).toNat)
  case atStart => exact ⟨0, Nat.zero_le _, rfl, BOwn.empty (Blk.atNew (by simp)) (by first | omega | (simp <;> omega)), (by (try show Gr _ _); repeat (with_reducible first | exact Gr.refl _ | refine Gr.drewN ?_ _ | refine Gr.grew ?_ _ _ | refine Gr.alloc ?_ _ | refine Gr.drew ?_))⟩
  case round =>
    clear p0 p1
    obtain ⟨y, hyH, rfl, ho, hg⟩ := hrel
    have m1 := (M.out.gr hg).c1
    by_cases hy : y < H
    · have Ho := Lib.hid ho
      have Hg := Lib.hid hg
      clear ho hg
      have hPL := gPack_len xs W y
      have hPL2 : 2 * W * y ≤ 2 * 24 * 24 := Nat.mul_le_mul (by omega) (by omega)
      go_wp2
      go_loopw [3, 5] (fun s i wr => ∃ (j x : Nat) (L : List Int), j ≤ x ∧ x ≤ W ∧ i = .int .i64 x ∧ Hid (gRow xs W y (gPack xs W y) j = (L, x)) ∧ BOwn wr w.heap.size 5 s L ∧ Gr w wr) (fun _ i _ => W - (intOf i).toNat)
      case atStart => exact ⟨0, 0, _, Nat.le_refl _, Nat.zero_le _, rfl, Lib.hid rfl, Ho.out, Hg.out⟩
      case round =>
        clear Ho Hg m1
        obtain ⟨j, x, L, hjx, hxW, rfl, hrw, ho, hg⟩ := hrel
        have MM := Lib.hid (M.out.gr hg)
        have m0 := MM.out.c0
        have m2 := MM.out.c2
        have HS := Gr.size hg
        have Ho := Lib.hid ho
        have Hg := Lib.hid hg
        clear ho hg
        by_cases hlt : x < W
        · have hLL : L.length ≤ (gPack xs W y).length + 2 * j := by have := gRow_len xs W y (gPack xs W y) j; rw [hrw.out] at this; exact this
          have hcl : x + W * y < xs.length := by rw [Hl.out]; exact cell_lt hlt hy
          have hpk := HA.out _ hcl
          have hGM := gMany_le (xs := xs) (y := y) hlt
          obtain ⟨e1, e2⟩ := wrap_cell (W := W) (x := x) (y := y) (by omega) hW (by omega)
          obtain ⟨b', off, rfl⟩ := MM.out.fs.ptr (by omega)
          obtain ⟨p, hc, hp⟩ := MM.out.fs.get (x + W * y) hcl
          have h576 : W * y ≤ 24 * 24 := Nat.mul_le_mul hW (by omega)
          have hR0 := gRun_next (xs := xs) (W := W) (y := y) (x := x) (c := 0) hlt (fcmp_eql_self hpk.1)
          have HR0 := Lib.hid hR0
          clear hR0
          obtain ⟨X, hX⟩ : ∃ X, X = xs.getD (x + W * y) 0 := ⟨_, rfl⟩
          have HX := Lib.hid hX
          rw [← hX] at hpk hp
          clear hX
          obtain ⟨hN, -, -, n, hn, n1, n2, -⟩ := hpk
          obtain rfl := FE.numF hp hN
          go_wp2
          apply region_drew 12
          case hm => kernel_rfl
          case hB => kernel_rfl
          simp only [List.take_succ_cons, List.take_zero, List.drop_succ_cons, List.drop_zero]
          repeat (first
            | (apply wpSoft_skip rfl; simp only [Act.put, List.setIfInBounds_toArray, List.set_cons_succ, List.set_cons_zero])
            | (apply wpSoft_nilCheck rfl rfl; simp only [Act.put, List.setIfInBounds_toArray, List.set_cons_succ, List.set_cons_zero])
            | ((with_reducible apply wpSoft_fop); (case hw => rfl); (case hD => exact closed_drew); (case hop => rfl); (case hx => rfl); (case hy => rfl); (case hA => (first | assumption | exact FE.ofInt _ _ | exact FE.lit (by decide +kernel))); (case hB => (first | assumption | exact FE.ofInt _ _ | exact FE.lit (by decide +kernel))); (intro r hr; simp only [Act.put, List.setIfInBounds_toArray, List.set_cons_succ, List.set_cons_zero]))

            | ((with_reducible apply wpSoft_widen); (case hw => rfl); (case hD => exact closed_drew); (case hs => exact Try.underlying65); (case hd => exact Try.underlying147); (case hx => rfl); (case hA => (first | assumption | exact FE.ofInt _ _ | exact FE.lit (by decide +kernel))); (intro r hr; simp only [Act.put, List.setIfInBounds_toArray, List.set_cons_succ, List.set_cons_zero]))
            | ((with_reducible apply wpSoft_fneg); (case hw => rfl); (case hx => rfl); (case hA => (first | assumption | exact FE.ofInt _ _ | exact FE.lit (by decide +kernel))); (intro r hr; simp only [Act.put, List.setIfInBounds_toArray, List.set_cons_succ, List.set_cons_zero]))
            | ((with_reducible apply wpSoft_fcmp); (case hw => rfl); (case hop => rfl); (case hx => rfl); (case hy => rfl); (case hA => (first | assumption | exact FE.ofInt _ _ | exact FE.lit (by decide +kernel))); (case hB => (first | assumption | exact FE.ofInt _ _ | exact FE.lit (by decide +kernel))); (case hb => (first | assumption | rfl)); simp only [Act.put, List.setIfInBounds_toArray, List.set_cons_succ, List.set_cons_zero])
            | (apply wpSoft_q rfl rfl; intro K hK; go_big_quiet_op; go_big_quiet_on))
          with_reducible apply wpSoft_nil
          intro m
          go_wp2
          go_loopw [7] (fun i wi => ∃ c : Nat, x + c ≤ W ∧ i = .int .i64 c ∧ Hid (gRun xs W y x (W - x - c) c = gMany xs W y x) ∧ Hid (Gr wr wi)) (fun i _ => W - x - (intOf i).toNat)
          case atStart => exact ⟨0, by omega, rfl, HR0, Lib.hid (by (try show Gr _ _); repeat (with_reducible first | exact Gr.refl _ | refine Gr.drewN ?_ _ | refine Gr.grew ?_ _ _ | refine Gr.alloc ?_ _ | refine Gr.drew ?_))⟩
          case round =>
            clear m0 m2 hc
            obtain ⟨c, hcW, rfl, hrun, hgi⟩ := hrel
            have m0 := (MM.out.gr hgi.out).c0
            have m2 := (MM.out.gr hgi.out).c2
            by_cases hcx : x + c < W
            · have hd : decide ((x : Int) + (c : Int) < (W : Int)) = true := decide_eq_true (by omega)
              have hd2 : (x : Int) + (c : Int) < (W : Int) := by omega
              have e3 : IntKind.i64.wrap ((x : Int) + (c : Int) + (W : Int) * (y : Int)) = ((x + c + W * y : Nat) : Int) := by
                rw [show (x : Int) + (c : Int) = ((x + c : Nat) : Int) from (Int.natCast_add x c).symm]
                exact (wrap_cell (W := W) (x := x + c) (y := y) (by omega) hW (by omega)).2
              have hcl2 : x + c + W * y < xs.length := by rw [Hl.out]; exact cell_lt hcx hy
              obtain ⟨p2, hc2, hp2⟩ := (MM.out.gr hgi.out).fs.get (x + c + W * y) hcl2
              cases he : fcmp .eql .f32 (xs.getD (x + c + W * y) 0) p
              · have EC := Lib.hid ((gRun_end hcx (by rw [← HX.out]; exact he)).symm.trans hrun.out)
                clear hrun
                generalize xs.getD (x + c + W * y) 0 = Y at *
                go_wp2
                apply region_drew 26
                case hm => kernel_rfl
                case hB => kernel_rfl
                simp only [List.take_succ_cons, List.take_zero, List.drop_succ_cons, List.drop_zero]
                repeat (first
                  | (apply wpSoft_skip rfl; simp only [Act.put, List.setIfInBounds_toArray, List.set_cons_succ, List.set_cons_zero])
                  | (apply wpSoft_nilCheck rfl rfl; simp only [Act.put, List.setIfInBounds_toArray, List.set_cons_succ, List.set_cons_zero])
                  | ((with_reducible apply wpSoft_fop); (case hw => rfl); (case hD => exact closed_drew); (case hop => rfl); (case hx => rfl); (case hy => rfl); (case hA => (first | assumption | exact FE.ofInt _ _ | exact FE.lit (by decide +kernel))); (case hB => (first | assumption | exact FE.ofInt _ _ | exact FE.lit (by decide +kernel))); (intro r hr; simp only [Act.put, List.setIfInBounds_toArray, List.set_cons_succ, List.set_cons_zero]))

                  | ((with_reducible apply wpSoft_widen); (case hw => rfl); (case hD => exact closed_drew); (case hs => exact Try.underlying65); (case hd => exact Try.underlying147); (case hx => rfl); (case hA => (first | assumption | exact FE.ofInt _ _ | exact FE.lit (by decide +kernel))); (intro r hr; simp only [Act.put, List.setIfInBounds_toArray, List.set_cons_succ, List.set_cons_zero]))
                  | ((with_reducible apply wpSoft_fneg); (case hw => rfl); (case hx => rfl); (case hA => (first | assumption | exact FE.ofInt _ _ | exact FE.lit (by decide +kernel))); (intro r hr; simp only [Act.put, List.setIfInBounds_toArray, List.set_cons_succ, List.set_cons_zero]))
                  | ((with_reducible apply wpSoft_fcmp); (case hw => rfl); (case hop => rfl); (case hx => rfl); (case hy => rfl); (case hA => (first | assumption | exact FE.ofInt _ _ | exact FE.lit (by decide +kernel))); (case hB => (first | assumption | exact FE.ofInt _ _ | exact FE.lit (by decide +kernel))); (case hb => (first | assumption | rfl)); simp only [Act.put, List.setIfInBounds_toArray, List.set_cons_succ, List.set_cons_zero])
                  | (apply wpSoft_q rfl rfl; intro K hK; go_big_quiet_op; go_big_quiet_on))
                with_reducible apply wpSoft_nil
                intro m
                have hc1 : 1 ≤ c := by rw [EC.out]; exact hGM.1
                have HR := Lib.hid (gRow_next hrw.out hlt)
                rw [← EC.out, ← HX.out] at HR
                replace Ho := Lib.hid (Ho.out.gr hgi.out)
                replace Hg := Lib.hid (Hg.out.trans hgi.out)
                replace HS := Nat.le_trans HS (Gr.size hgi.out)
                have hgw : gWhole p = n := by unfold gWhole; rw [hn]; rfl
                rw [hgw] at HR
                have cv := fun w => conv_i64 hn n1 n2 w
                clear hn hgw hrw EC hgi
                go_wp2_with (first
      | (simp only [cv])
      | (apply wpList_append_b2 (hgd := rfl) (ho := rfl) (i := i0) (ht := Try.underlying144) (hi := hi) (hz := hz0) (hsize := hz1) (hby := hz2); (case hown => exact Ho.out.gr (by repeat (with_reducible first | assumption | exact Gr.refl _ | refine Gr.alloc ?_ _ | refine Gr.grew ?_ _ _ | refine Gr.drewN ?_ _ | refine Gr.drew ?_))); (case hs => rfl); (case hx => rfl); (case hcell => exact (Blk.atNew (by simp)).cellv 0 rfl); (case hcell2 => exact (Blk.atNew (by simp)).cellv 1 rfl); (case hn => omega); (case hB => exact Nat.le_trans (HS) (Gr.size ((by repeat (with_reducible first | assumption | exact Gr.refl _ | refine Gr.alloc ?_ _ | refine Gr.grew ?_ _ _ | refine Gr.drewN ?_ _ | refine Gr.drew ?_)) : Gr wr _))); intro v1 w1 ho1 hg1; have HG1 := Lib.hid (Gr.grownBy (Hg.out.trans (by repeat (with_reducible first | assumption | exact Gr.refl _ | refine Gr.alloc ?_ _ | refine Gr.grew ?_ _ _ | refine Gr.drewN ?_ _ | refine Gr.drew ?_))) hg1 (fun k hk => (BOwn.block Ho.out hk).1)); have HO1 := Lib.hid ho1; clear hg1 ho1)
      | ((with_reducible apply wpList_fop); (case hw => rfl); (case hop => rfl); (case hx => rfl); (case hy => rfl); (case hA => (first | assumption | exact FE.ofInt _ _ | exact FE.lit (by decide +kernel))); (case hB => (first | assumption | exact FE.ofInt _ _ | exact FE.lit (by decide +kernel))); intro r n hr)
      | ((with_reducible apply wpList_fcmp); (case hw => rfl); (case hop => rfl); (case hx => rfl); (case hy => rfl); (case hA => (first | assumption | exact FE.ofInt _ _ | exact FE.lit (by decide +kernel))); (case hB => (first | assumption | exact FE.ofInt _ _ | exact FE.lit (by decide +kernel))); (case hb => (first | assumption | rfl)))
      | ((with_reducible apply wpList_widen); (case hw => rfl); (case hs => exact Try.underlying65); (case hd => exact Try.underlying147); (case hx => rfl); (case hA => (first | assumption | exact FE.ofInt _ _ | exact FE.lit (by decide +kernel))); intro r n hr)
      | ((with_reducible apply wpList_fneg); (case hw => rfl); (case hx => rfl); (case hA => (first | assumption | exact FE.ofInt _ _ | exact FE.lit (by decide +kernel))); intro r hr))
                go_roundw
                case rel => exact ⟨j + 1, x + c, _, by omega, by omega, by go_num, HR, HO1.out, HG1.out⟩
                case measure => simp [intOf]; omega
              · have HN := Lib.hid ((gRun_next hcx (by rw [← HX.out]; exact he)).symm.trans hrun.out)
                clear hrun
                generalize xs.getD (x + c + W * y) 0 = Y at *
                go_wp2
                apply region_drew 26
                case hm => kernel_rfl
                case hB => kernel_rfl
                simp only [List.take_succ_cons, List.take_zero, List.drop_succ_cons, List.drop_zero]
                repeat (first
                  | (apply wpSoft_skip rfl; simp only [Act.put, List.setIfInBounds_toArray, List.set_cons_succ, List.set_cons_zero])
                  | (apply wpSoft_nilCheck rfl rfl; simp only [Act.put, List.setIfInBounds_toArray, List.set_cons_succ, List.set_cons_zero])
                  | ((with_reducible apply wpSoft_fop); (case hw => rfl); (case hD => exact closed_drew); (case hop => rfl); (case hx => rfl); (case hy => rfl); (case hA => (first | assumption | exact FE.ofInt _ _ | exact FE.lit (by decide +kernel))); (case hB => (first | assumption | exact FE.ofInt _ _ | exact FE.lit (by decide +kernel))); (intro r hr; simp only [Act.put, List.setIfInBounds_toArray, List.set_cons_succ, List.set_cons_zero]))

                  | ((with_reducible apply wpSoft_widen); (case hw => rfl); (case hD => exact closed_drew); (case hs => exact Try.underlying65); (case hd => exact Try.underlying147); (case hx => rfl); (case hA => (first | assumption | exact FE.ofInt _ _ | exact FE.lit (by decide +kernel))); (intro r hr; simp only [Act.put, List.setIfInBounds_toArray, List.set_cons_succ, List.set_cons_zero]))
                  | ((with_reducible apply wpSoft_fneg); (case hw => rfl); (case hx => rfl); (case hA => (first | assumption | exact FE.ofInt _ _ | exact FE.lit (by decide +kernel))); (intro r hr; simp only [Act.put, List.setIfInBounds_toArray, List.set_cons_succ, List.set_cons_zero]))
                  | ((with_reducible apply wpSoft_fcmp); (case hw => rfl); (case hop => rfl); (case hx => rfl); (case hy => rfl); (case hA => (first | assumption | exact FE.ofInt _ _ | exact FE.lit (by decide +kernel))); (case hB => (first | assumption | exact FE.ofInt _ _ | exact FE.lit (by decide +kernel))); (case hb => (first | assumption | rfl)); simp only [Act.put, List.setIfInBounds_toArray, List.set_cons_succ, List.set_cons_zero])
                  | (apply wpSoft_q rfl rfl; intro K hK; go_big_quiet_op; go_big_quiet_on))
                with_reducible apply wpSoft_nil
                intro m
                go_wp2_with (first
      | ((with_reducible apply wpList_fop); (case hw => rfl); (case hop => rfl); (case hx => rfl); (case hy => rfl); (case hA => (first | assumption | exact FE.ofInt _ _ | exact FE.lit (by decide +kernel))); (case hB => (first | assumption | exact FE.ofInt _ _ | exact FE.lit (by decide +kernel))); intro r n hr)
      | ((with_reducible apply wpList_fcmp); (case hw => rfl); (case hop => rfl); (case hx => rfl); (case hy => rfl); (case hA => (first | assumption | exact FE.ofInt _ _ | exact FE.lit (by decide +kernel))); (case hB => (first | assumption | exact FE.ofInt _ _ | exact FE.lit (by decide +kernel))); (case hb => (first | assumption | rfl)))
      | ((with_reducible apply wpList_widen); (case hw => rfl); (case hs => exact Try.underlying65); (case hd => exact Try.underlying147); (case hx => rfl); (case hA => (first | assumption | exact FE.ofInt _ _ | exact FE.lit (by decide +kernel))); intro r n hr)
      | ((with_reducible apply wpList_fneg); (case hw => rfl); (case hx => rfl); (case hA => (first | assumption | exact FE.ofInt _ _ | exact FE.lit (by decide +kernel))); intro r hr))
                go_roundw
                case rel => exact ⟨c + 1, by omega, by go_num, HN, Lib.hid (hgi.out.trans (by (try show Gr _ _); repeat (with_reducible first | exact Gr.refl _ | refine Gr.drewN ?_ _ | refine Gr.grew ?_ _ _ | refine Gr.alloc ?_ _ | refine Gr.drew ?_)))⟩
                case measure => simp [intOf]; omega
            · have hd : decide ((x : Int) + (c : Int) < (W : Int)) = false := decide_eq_false (by omega)
              have hd2 : ¬ (x : Int) + (c : Int) < (W : Int) := by omega
              have EC := Lib.hid ((gRun_full hcx).symm.trans hrun.out)
              clear hrun
              go_wp2
              apply region_drew 26
              case hm => kernel_rfl
              case hB => kernel_rfl
              simp only [List.take_succ_cons, List.take_zero, List.drop_succ_cons, List.drop_zero]
              repeat (first
                | (apply wpSoft_skip rfl; simp only [Act.put, List.setIfInBounds_toArray, List.set_cons_succ, List.set_cons_zero])
                | (apply wpSoft_nilCheck rfl rfl; simp only [Act.put, List.setIfInBounds_toArray, List.set_cons_succ, List.set_cons_zero])
                | ((with_reducible apply wpSoft_fop); (case hw => rfl); (case hD => exact closed_drew); (case hop => rfl); (case hx => rfl); (case hy => rfl); (case hA => (first | assumption | exact FE.ofInt _ _ | exact FE.lit (by decide +kernel))); (case hB => (first | assumption | exact FE.ofInt _ _ | exact FE.lit (by decide +kernel))); (intro r hr; simp only [Act.put, List.setIfInBounds_toArray, List.set_cons_succ, List.set_cons_zero]))

                | ((with_reducible apply wpSoft_widen); (case hw => rfl); (case hD => exact closed_drew); (case hs => exact Try.underlying65); (case hd => exact Try.underlying147); (case hx => rfl); (case hA => (first | assumption | exact FE.ofInt _ _ | exact FE.lit (by decide +kernel))); (intro r hr; simp only [Act.put, List.setIfInBounds_toArray, List.set_cons_succ, List.set_cons_zero]))
                | ((with_reducible apply wpSoft_fneg); (case hw => rfl); (case hx => rfl); (case hA => (first | assumption | exact FE.ofInt _ _ | exact FE.lit (by decide +kernel))); (intro r hr; simp only [Act.put, List.setIfInBounds_toArray, List.set_cons_succ, List.set_cons_zero]))
                | ((with_reducible apply wpSoft_fcmp); (case hw => rfl); (case hop => rfl); (case hx => rfl); (case hy => rfl); (case hA => (first | assumption | exact FE.ofInt _ _ | exact FE.lit (by decide +kernel))); (case hB => (first | assumption | exact FE.ofInt _ _ | exact FE.lit (by decide +kernel))); (case hb => (first | assumption | rfl)); simp only [Act.put, List.setIfInBounds_toArray, List.set_cons_succ, List.set_cons_zero])
                | (apply wpSoft_q rfl rfl; intro K hK; go_big_quiet_op; go_big_quiet_on))
              with_reducible apply wpSoft_nil
              intro m
              have hc1 : 1 ≤ c := by rw [EC.out]; exact hGM.1
              have HR := Lib.hid (gRow_next hrw.out hlt)
              rw [← EC.out, ← HX.out] at HR
              replace Ho := Lib.hid (Ho.out.gr hgi.out)
              replace Hg := Lib.hid (Hg.out.trans hgi.out)
              replace HS := Nat.le_trans HS (Gr.size hgi.out)
              have hgw : gWhole p = n := by unfold gWhole; rw [hn]; rfl
              rw [hgw] at HR
              have cv := fun w => conv_i64 hn n1 n2 w
              clear hn hgw hrw EC hgi
              go_wp2_with (first
      | (simp only [cv])
      | (apply wpList_append_b2 (hgd := rfl) (ho := rfl) (i := i0) (ht := Try.underlying144) (hi := hi) (hz := hz0) (hsize := hz1) (hby := hz2); (case hown => exact Ho.out.gr (by repeat (with_reducible first | assumption | exact Gr.refl _ | refine Gr.alloc ?_ _ | refine Gr.grew ?_ _ _ | refine Gr.drewN ?_ _ | refine Gr.drew ?_))); (case hs => rfl); (case hx => rfl); (case hcell => exact (Blk.atNew (by simp)).cellv 0 rfl); (case hcell2 => exact (Blk.atNew (by simp)).cellv 1 rfl); (case hn => omega); (case hB => exact Nat.le_trans (HS) (Gr.size ((by repeat (with_reducible first | assumption | exact Gr.refl _ | refine Gr.alloc ?_ _ | refine Gr.grew ?_ _ _ | refine Gr.drewN ?_ _ | refine Gr.drew ?_)) : Gr wr _))); intro v1 w1 ho1 hg1; have HG1 := Lib.hid (Gr.grownBy (Hg.out.trans (by repeat (with_reducible first | assumption | exact Gr.refl _ | refine Gr.alloc ?_ _ | refine Gr.grew ?_ _ _ | refine Gr.drewN ?_ _ | refine Gr.drew ?_))) hg1 (fun k hk => (BOwn.block Ho.out hk).1)); have HO1 := Lib.hid ho1; clear hg1 ho1)
      | ((with_reducible apply wpList_fop); (case hw => rfl); (case hop => rfl); (case hx => rfl); (case hy => rfl); (case hA => (first | assumption | exact FE.ofInt _ _ | exact FE.lit (by decide +kernel))); (case hB => (first | assumption | exact FE.ofInt _ _ | exact FE.lit (by decide +kernel))); intro r n hr)
      | ((with_reducible apply wpList_fcmp); (case hw => rfl); (case hop => rfl); (case hx => rfl); (case hy => rfl); (case hA => (first | assumption | exact FE.ofInt _ _ | exact FE.lit (by decide +kernel))); (case hB => (first | assumption | exact FE.ofInt _ _ | exact FE.lit (by decide +kernel))); (case hb => (first | assumption | rfl)))
      | ((with_reducible apply wpList_widen); (case hw => rfl); (case hs => exact Try.underlying65); (case hd => exact Try.underlying147); (case hx => rfl); (case hA => (first | assumption | exact FE.ofInt _ _ | exact FE.lit (by decide +kernel))); intro r n hr)
      | ((with_reducible apply wpList_fneg); (case hw => rfl); (case hx => rfl); (case hA => (first | assumption | exact FE.ofInt _ _ | exact FE.lit (by decide +kernel))); intro r hr))
              go_roundw
              case rel => exact ⟨j + 1, x + c, _, by omega, by omega, by go_num, HR, HO1.out, HG1.out⟩
              case measure => simp [intOf]; omega
        · obtain rfl : x = W := by omega
          have HE := Lib.hid (gRow_end hrw.out (by omega))
          clear hrw
          go_wp2
          go_roundw
          case rel => exact ⟨y + 1, by omega, by go_num, by rw [HE.out]; exact Ho.out, Hg.out⟩
          case measure => simp [intOf]; omega
    · obtain rfl : y = H := by omega
      have hcv := ho.conv (P := Try.prog) 144 9 Try.underlying144 Try.underlying5 Try.underlying9
      have Hg := Lib.hid hg
      clear ho hg
      go_wp2_with (simp only [hcv])
      exact bodyPost_ret (v := .string (strOfNums (gPack xs W y))) (by simp [results, Try.results59, go_sem]) rfl ⟨rfl, Hg.out.trans (by (try show Gr _ _); repeat (with_reducible first | exact Gr.refl _ | refine Gr.drewN ?_ _ | refine Gr.grew ?_ _ _ | refine Gr.alloc ?_ _ | refine Gr.drew ?_))⟩
end Go.Proofs.Ytaidkokgafojeaa
