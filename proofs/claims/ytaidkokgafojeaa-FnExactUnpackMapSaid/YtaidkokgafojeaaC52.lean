/- Contracts: PackMap of the program. MAXREC -/
import Derived.Test.YtaidkokgafojeaaProg
import Derived.Test.YtaidkokgafojeaaC51
import Derived.Deep.DeepCutAuto
namespace Go.Proofs.Ytaidkokgafojeaa
open Go.RowKit Go.Fx Go.Soft
theorem any_of_all {xs : List Nat} {b : Bool} (h : xs.all gPacks = b) : (xs.any fun x => !gPacks x) = !b := by
  rw [← h, List.all_eq_not_any_not, Bool.not_not]
theorem packs_at {xs : List Nat} (h : xs.all gPacks = true) {i : Nat} (hi : i < xs.length) : gPacks (xs.getD i 0) = true := by
  rw [List.getD_eq_getElem?_getD, List.getElem?_eq_getElem hi]
  exact List.all_eq_true.1 h _ (List.getElem_mem hi)
theorem packs_law {X : Nat} (h : gPacks X = true) : isN .f32 X = false ∧ isN .f64 (widen X) = false ∧ isN .f64 (flo (widen X)) = false ∧ ∃ n : Int, (Ieee.single.read X).toInt .zero = some n ∧ -1 ≤ n ∧ n ≤ 254 ∧
      fcmp .neq .f32 (floatOfInt .f32 n) X = !fcmp .eql .f64 (widen X) (flo (widen X)) := by
  unfold gPacks at h
  rw [Bool.and_eq_true, Bool.and_eq_true] at h
  exact pack_law h.1.1 h.1.2
theorem I_Map_at_add (W H x c y b : Nat) (a : Option Addr) (cap : Nat) (xs : List Nat) (w : World) (hm : MP w b W H a xs.length cap xs) (hW : W ≤ 24) (hH : H ≤ 24) (hx : x + c < W) (hy : y < H) (hn : xs.length = W * H) :
    Calls Try.prog 101 #[.pointer (some ⟨b, 0, none⟩), .int .i64 ((x : Int) + (c : Int)), .int .i64 y] w fun e w' => ∃ r, e = .returned (.float .f32 r) ∧ FE .f32 r (xs.getD (x + c + W * y) 0) ∧ ∃ n, w' = w.drewN n := by
  have h := I_Map_at W H (x + c) y b a cap xs w hm hW hH hx hy hn
  rw [Int.natCast_add] at h
  exact h
set_option maxRecDepth 20000 in
set_option maxHeartbeats 8000000 in
theorem I_PackMap (W H : Int) (a : Option Addr) (ca : Nat) (xs : List Nat) (w : World) (fx : FSl w a xs.length xs) (hn : xs.length ≤ 1048576) :
    Calls Try.prog 61 #[.agg #[.int .i64 W, .int .i64 H, .slice a xs.length ca]] w
      fun e w' => e = .returned (.tuple #[.string (if gPic W H xs.length && xs.all gPacks then strOfNums (gPack xs W.toNat H.toNat) else ByteArray.empty), .bool (gPic W H xs.length && xs.all gPacks)]) ∧ Gr w w' := by
  have hn' : xs.length ≤ maxLen := by unfold maxLen; omega
  have Fx := Lib.hid fx
  clear fx
  cases hT : gPic W H xs.length
  · go_enter Try.func61, Try.ntmps61
    go_wp2_with (first
      | (go_at_call 90; with_reducible refine (I_ValidMap _ _ _ _ _ _ hn').mono ?_; rintro e w' ⟨rfl, os, m, rfl⟩; rw [hT]))
    exact bodyPost_ret (v := .tuple #[.string ByteArray.empty, .bool false]) (by simp [results, Try.results61, go_sem] <;> rfl) rfl ⟨rfl, (by (try show Gr _ _); repeat (with_reducible first | exact Gr.refl _ | refine Gr.drewN ?_ _ | refine Gr.grew ?_ _ _ | refine Gr.alloc ?_ _ | refine Gr.drew ?_))⟩
  cases hA : xs.all gPacks
  · have hany := any_of_all hA
    go_enter Try.func61, Try.ntmps61
    go_wp2_with (first
      | (go_at_call 90; with_reducible refine (I_ValidMap _ _ _ _ _ _ hn').mono ?_; rintro e w' ⟨rfl, os, m, rfl⟩; rw [hT])
      | (go_at_call 117; refine (ContainsFunc a _ ca xs (fun x => !gPacks x) 118 #[] _ (Fx.out.keep (by (repeat (with_reducible first | exact Kp.refl _ | exact kp_same | exact kp_app1 | exact kp_app2 | exact kp_app3 | refine Kp.grew ?_ _ _ | refine Kp.drewN ?_ _ | refine Kp.drew ?_ | refine Kp.alloc ?_ _)))) hn' Try.call118 (fun i h r w1 _ hr => I_PackMap_1 r _ w1 hr)).mono ?_; rintro e w' ⟨rfl, os2, m2, rfl⟩; rw [hany]))
    exact bodyPost_ret (v := .tuple #[.string ByteArray.empty, .bool false]) (by simp [results, Try.results61, go_sem] <;> rfl) rfl ⟨rfl, (by (try show Gr _ _); repeat (with_reducible first | exact Gr.refl _ | refine Gr.drewN ?_ _ | refine Gr.grew ?_ _ _ | refine Gr.alloc ?_ _ | refine Gr.drew ?_))⟩
  have hany := any_of_all hA
  have HA := Lib.hid (fun i (h : i < xs.length) => packs_law (packs_at hA h))
  have hp1 := (gPic_true hT).2
  obtain ⟨s1, s2, s3, s4, s5, s6⟩ := gSize_true (gPic_true hT).1
  obtain ⟨W, rfl⟩ := Int.eq_ofNat_of_zero_le (show 0 ≤ W by omega)
  obtain ⟨H, rfl⟩ := Int.eq_ofNat_of_zero_le (show 0 ≤ H by omega)
  have Hl := Lib.hid (show xs.length = W * H by exact_mod_cast hp1)
  have hW : W ≤ 24 := by omega
  have hH : H ≤ 24 := by omega
  obtain ⟨i0, hi, hz0, hz1, hz2⟩ := info_parts info_uint8
  simp only [Int.toNat_natCast, Bool.true_and, if_true]
  clear hp1 s5 s6 hA
  go_enter Try.func61, Try.ntmps61
  go_wp2_with (first
      | (go_at_call 90; with_reducible refine (I_ValidMap _ _ _ _ _ _ hn').mono ?_; rintro e w' ⟨rfl, os, m, rfl⟩; rw [hT])
      | (go_at_call 117; refine (ContainsFunc a _ ca xs (fun x => !gPacks x) 118 #[] _ (Fx.out.keep (by (repeat (with_reducible first | exact Kp.refl _ | exact kp_same | exact kp_app1 | exact kp_app2 | exact kp_app3 | refine Kp.grew ?_ _ _ | refine Kp.drewN ?_ _ | refine Kp.drew ?_ | refine Kp.alloc ?_ _)))) hn' Try.call118 (fun i h r w1 _ hr => I_PackMap_1 r _ w1 hr)).mono ?_; rintro e w' ⟨rfl, os2, m2, rfl⟩; rw [hany]))
  clear hT hany
  go_loopw [4, 19] (fun s i wr => ∃ y : Nat, y ≤ H ∧ i = .int .i64 y ∧ BOwn wr (w.heap.size + 1) 5 s (gPack xs W y) ∧ Blk wr w.heap.size [.int .i64 W, .int .i64 H, .slice a xs.length ca] 24 ∧ Gr w wr) (fun _ i _ => H - (intOf i).toNat)
  case atStart => exact ⟨0, Nat.zero_le _, rfl, BOwn.empty (Blk.atNew (by simp)) (by first | omega | (simp <;> omega)), (by repeat (with_reducible first | assumption | exact Blk.atNew (by simp) | refine Blk.alloc ?_ _ | refine Blk.grew ?_ _ _ | refine Blk.drewN ?_ _ | refine Blk.drew ?_)), (by (try show Gr _ _); repeat (with_reducible first | exact Gr.refl _ | refine Gr.drewN ?_ _ | refine Gr.grew ?_ _ _ | refine Gr.alloc ?_ _ | refine Gr.drew ?_))⟩
  case round =>
    obtain ⟨y, hyH, rfl, ho, hB, hg⟩ := hrel
    by_cases hy : y < H
    · have Ho := Lib.hid ho
      have Hg := Lib.hid hg
      have HB := Lib.hid hB
      clear ho hg hB
      have hPL := gPack_len xs W y
      have hPL2 : 2 * W * y ≤ 2 * 24 * 24 := Nat.mul_le_mul (by omega) (by omega)
      go_wp2
      go_loopw [4, 6] (fun s i wr => ∃ (j x : Nat) (L : List Int), j ≤ x ∧ x ≤ W ∧ i = .int .i64 x ∧ Hid (gRow xs W y (gPack xs W y) j = (L, x)) ∧ BOwn wr (w.heap.size + 1) 5 s L ∧ Blk wr w.heap.size [.int .i64 W, .int .i64 H, .slice a xs.length ca] 24 ∧ Gr w wr) (fun _ i _ => W - (intOf i).toNat)
      case atStart => exact ⟨0, 0, _, Nat.le_refl _, Nat.zero_le _, rfl, Lib.hid rfl, Ho.out, HB.out, Hg.out⟩
      case round =>
        clear Ho Hg HB
        obtain ⟨j, x, L, hjx, hxW, rfl, hrw, ho, hB, hg⟩ := hrel
        have m0 := hB.cellv 0
        have m1 := hB.cellv 1
        have m2 := hB.cellv 2
        have HS := hB.lt
        have MM := Lib.hid (MP.mk m0 m1 m2 (Fx.out.keep hg.kp))
        have Ho := Lib.hid ho
        have Hg := Lib.hid hg
        have HB := Lib.hid hB
        clear ho hg hB
        by_cases hlt : x < W
        · have hLL : L.length ≤ (gPack xs W y).length + 2 * j := by have := gRow_len xs W y (gPack xs W y) j; rw [hrw.out] at this; exact this
          have hcl : x + W * y < xs.length := by rw [Hl.out]; exact cell_lt hlt hy
          have hpk := HA.out _ hcl
          have hGM := gMany_le (xs := xs) (y := y) hlt
          go_wp2
          go_loopw [7] (fun i wi => ∃ c : Nat, 1 ≤ c ∧ x + c ≤ W ∧ i = .int .i64 c ∧ Hid (gRun xs W y x (W - x - c) c = gMany xs W y x) ∧ Hid (Gr wr wi)) (fun i _ => W - x - (intOf i).toNat)
          case atStart => exact ⟨1, Nat.le_refl _, by omega, rfl, Lib.hid rfl, Lib.hid (Gr.refl _)⟩
          case round =>
            clear m0 m1 m2
            obtain ⟨c, hc1, hcW, rfl, hrun, hgi⟩ := hrel
            have m0 := (MM.out.gr hgi.out).c0
            by_cases hcx : x + c < W
            · have M2 := MM.out.gr hgi.out
              cases he : fcmp .eql .f32 (xs.getD (x + c + W * y) 0) (xs.getD (x + W * y) 0)
              · have EC := Lib.hid ((gRun_end hcx he).symm.trans hrun.out)
                clear hrun
                have HR := Lib.hid (gRow_next hrw.out hlt)
                rw [← EC.out] at HR
                replace Ho := Lib.hid (Ho.out.gr hgi.out)
                replace HB := Lib.hid (HB.out.gr hgi.out)
                replace Hg := Lib.hid (Hg.out.trans hgi.out)
                replace HS := Nat.lt_of_lt_of_le HS (Gr.size hgi.out)
                have M2 := MM.out.gr hgi.out
                obtain ⟨X, hX⟩ : ∃ X, X = xs.getD (x + W * y) 0 := ⟨_, rfl⟩
                have HX := Lib.hid hX
                rw [← hX] at hpk HR
                rw [← hX] at he
                clear hX
                obtain ⟨hN, -, -, n, hn, n1, n2, -⟩ := hpk
                have hgw : gWhole X = n := by unfold gWhole; rw [hn]; rfl
                rw [hgw] at HR
                have cv := fun w => conv_i64 hn n1 n2 w
                clear hn hgw hrw EC hgi
                go_wp2_with (first
      | (go_at_call 101; with_reducible refine (I_Map_at_add W H x c y w.heap.size _ _ xs _ (M2.gr (by repeat (with_reducible first | assumption | exact Gr.refl _ | refine Gr.alloc ?_ _ | refine Gr.grew ?_ _ _ | refine Gr.drewN ?_ _ | refine Gr.drew ?_))) hW hH hcx hy Hl.out).mono ?_; rintro e w' ⟨r, rfl, hr, n, rfl⟩)
      | (go_at_call 101; with_reducible refine (I_Map_at W H x y w.heap.size _ _ xs _ (M2.gr (by repeat (with_reducible first | assumption | exact Gr.refl _ | refine Gr.alloc ?_ _ | refine Gr.grew ?_ _ _ | refine Gr.drewN ?_ _ | refine Gr.drew ?_))) hW hH hlt hy Hl.out).mono ?_; rintro e w' ⟨r, rfl, hr, n, rfl⟩; rw [← HX.out] at hr; obtain rfl := FE.numF hr hN)
      | (simp only [cv])
      | (apply wpList_append_b2 (hgd := rfl) (ho := rfl) (i := i0) (ht := Try.underlying144) (hi := hi) (hz := hz0) (hsize := hz1) (hby := hz2); (case hown => exact Ho.out.gr (by repeat (with_reducible first | assumption | exact Gr.refl _ | refine Gr.alloc ?_ _ | refine Gr.grew ?_ _ _ | refine Gr.drewN ?_ _ | refine Gr.drew ?_))); (case hs => rfl); (case hx => rfl); (case hcell => exact (Blk.atNew (by simp)).cellv 0 rfl); (case hcell2 => exact (Blk.atNew (by simp)).cellv 1 rfl); (case hn => omega); (case hB => exact Nat.le_trans (show w.heap.size + 1 ≤ wr.heap.size from HS) (Gr.size ((by repeat (with_reducible first | assumption | exact Gr.refl _ | refine Gr.alloc ?_ _ | refine Gr.grew ?_ _ _ | refine Gr.drewN ?_ _ | refine Gr.drew ?_)) : Gr wr _))); intro v1 w1 ho1 hg1; have HB1 := Lib.hid (Blk.grown (HB.out.gr (by repeat (with_reducible first | assumption | exact Gr.refl _ | refine Gr.alloc ?_ _ | refine Gr.grew ?_ _ _ | refine Gr.drewN ?_ _ | refine Gr.drew ?_))) hg1 (fun hk => by have := (BOwn.block Ho.out hk).1; omega)); have HG1 := Lib.hid (Gr.grownBy (Hg.out.trans (by repeat (with_reducible first | assumption | exact Gr.refl _ | refine Gr.alloc ?_ _ | refine Gr.grew ?_ _ _ | refine Gr.drewN ?_ _ | refine Gr.drew ?_))) hg1 (fun k hk => Nat.le_of_succ_le (BOwn.block Ho.out hk).1)); have HO1 := Lib.hid ho1; clear hg1 ho1)
      | ((with_reducible apply wpList_fop); (case hw => rfl); (case hop => rfl); (case hx => rfl); (case hy => rfl); (case hA => (first | assumption | exact FE.ofInt _ _ | exact FE.lit (by decide +kernel))); (case hB => (first | assumption | exact FE.ofInt _ _ | exact FE.lit (by decide +kernel))); intro r n hr)
      | ((with_reducible apply wpList_fcmp); (case hw => rfl); (case hop => rfl); (case hx => rfl); (case hy => rfl); (case hA => (first | assumption | exact FE.ofInt _ _ | exact FE.lit (by decide +kernel))); (case hB => (first | assumption | exact FE.ofInt _ _ | exact FE.lit (by decide +kernel))); (case hb => (first | assumption | rfl)))
      | ((with_reducible apply wpList_widen); (case hw => rfl); (case hs => exact Try.underlying65); (case hd => exact Try.underlying147); (case hx => rfl); (case hA => (first | assumption | exact FE.ofInt _ _ | exact FE.lit (by decide +kernel))); intro r n hr)
      | ((with_reducible apply wpList_fneg); (case hw => rfl); (case hx => rfl); (case hA => (first | assumption | exact FE.ofInt _ _ | exact FE.lit (by decide +kernel))); intro r hr))
                go_roundw
                case rel => exact ⟨j + 1, x + c, _, by omega, by omega, by go_num, HR, HO1.out, HB1.out, HG1.out⟩
                case measure => simp [intOf]; omega
              · have HN := Lib.hid ((gRun_next hcx he).symm.trans hrun.out)
                clear hrun
                go_wp2_with (first
      | (go_at_call 101; with_reducible refine (I_Map_at_add W H x c y w.heap.size _ _ xs _ (M2.gr (by repeat (with_reducible first | assumption | exact Gr.refl _ | refine Gr.alloc ?_ _ | refine Gr.grew ?_ _ _ | refine Gr.drewN ?_ _ | refine Gr.drew ?_))) hW hH hcx hy Hl.out).mono ?_; rintro e w' ⟨r, rfl, hr, n, rfl⟩)
      | (go_at_call 101; with_reducible refine (I_Map_at W H x y w.heap.size _ _ xs _ (M2.gr (by repeat (with_reducible first | assumption | exact Gr.refl _ | refine Gr.alloc ?_ _ | refine Gr.grew ?_ _ _ | refine Gr.drewN ?_ _ | refine Gr.drew ?_))) hW hH hlt hy Hl.out).mono ?_; rintro e w' ⟨r2, rfl, hr2, n2, rfl⟩)
      | ((with_reducible apply wpList_fop); (case hw => rfl); (case hop => rfl); (case hx => rfl); (case hy => rfl); (case hA => (first | assumption | exact FE.ofInt _ _ | exact FE.lit (by decide +kernel))); (case hB => (first | assumption | exact FE.ofInt _ _ | exact FE.lit (by decide +kernel))); intro r n hr)
      | ((with_reducible apply wpList_fcmp); (case hw => rfl); (case hop => rfl); (case hx => rfl); (case hy => rfl); (case hA => (first | assumption | exact FE.ofInt _ _ | exact FE.lit (by decide +kernel))); (case hB => (first | assumption | exact FE.ofInt _ _ | exact FE.lit (by decide +kernel))); (case hb => (first | assumption | rfl)))
      | ((with_reducible apply wpList_widen); (case hw => rfl); (case hs => exact Try.underlying65); (case hd => exact Try.underlying147); (case hx => rfl); (case hA => (first | assumption | exact FE.ofInt _ _ | exact FE.lit (by decide +kernel))); intro r n hr)
      | ((with_reducible apply wpList_fneg); (case hw => rfl); (case hx => rfl); (case hA => (first | assumption | exact FE.ofInt _ _ | exact FE.lit (by decide +kernel))); intro r hr))
                go_roundw
                case rel => exact ⟨c + 1, by omega, by omega, by go_num, HN, Lib.hid (hgi.out.trans (by (try show Gr _ _); repeat (with_reducible first | exact Gr.refl _ | refine Gr.drewN ?_ _ | refine Gr.grew ?_ _ _ | refine Gr.alloc ?_ _ | refine Gr.drew ?_)))⟩
                case measure => simp [intOf]; omega
            · have EC := Lib.hid ((gRun_full hcx).symm.trans hrun.out)
              clear hrun
              have HR := Lib.hid (gRow_next hrw.out hlt)
              rw [← EC.out] at HR
              replace Ho := Lib.hid (Ho.out.gr hgi.out)
              replace HB := Lib.hid (HB.out.gr hgi.out)
              replace Hg := Lib.hid (Hg.out.trans hgi.out)
              replace HS := Nat.lt_of_lt_of_le HS (Gr.size hgi.out)
              have M2 := MM.out.gr hgi.out
              obtain ⟨X, hX⟩ : ∃ X, X = xs.getD (x + W * y) 0 := ⟨_, rfl⟩
              have HX := Lib.hid hX
              rw [← hX] at hpk HR
              clear hX
              obtain ⟨hN, -, -, n, hn, n1, n2, -⟩ := hpk
              have hgw : gWhole X = n := by unfold gWhole; rw [hn]; rfl
              rw [hgw] at HR
              have cv := fun w => conv_i64 hn n1 n2 w
              clear hn hgw hrw EC hgi
              go_wp2_with (first
      | (go_at_call 101; with_reducible refine (I_Map_at W H x y w.heap.size _ _ xs _ (M2.gr (by repeat (with_reducible first | assumption | exact Gr.refl _ | refine Gr.alloc ?_ _ | refine Gr.grew ?_ _ _ | refine Gr.drewN ?_ _ | refine Gr.drew ?_))) hW hH hlt hy Hl.out).mono ?_; rintro e w' ⟨r, rfl, hr, n, rfl⟩; rw [← HX.out] at hr; obtain rfl := FE.numF hr hN)
      | (simp only [cv])
      | (apply wpList_append_b2 (hgd := rfl) (ho := rfl) (i := i0) (ht := Try.underlying144) (hi := hi) (hz := hz0) (hsize := hz1) (hby := hz2); (case hown => exact Ho.out.gr (by repeat (with_reducible first | assumption | exact Gr.refl _ | refine Gr.alloc ?_ _ | refine Gr.grew ?_ _ _ | refine Gr.drewN ?_ _ | refine Gr.drew ?_))); (case hs => rfl); (case hx => rfl); (case hcell => exact (Blk.atNew (by simp)).cellv 0 rfl); (case hcell2 => exact (Blk.atNew (by simp)).cellv 1 rfl); (case hn => omega); (case hB => exact Nat.le_trans (show w.heap.size + 1 ≤ wr.heap.size from HS) (Gr.size ((by repeat (with_reducible first | assumption | exact Gr.refl _ | refine Gr.alloc ?_ _ | refine Gr.grew ?_ _ _ | refine Gr.drewN ?_ _ | refine Gr.drew ?_)) : Gr wr _))); intro v1 w1 ho1 hg1; have HB1 := Lib.hid (Blk.grown (HB.out.gr (by repeat (with_reducible first | assumption | exact Gr.refl _ | refine Gr.alloc ?_ _ | refine Gr.grew ?_ _ _ | refine Gr.drewN ?_ _ | refine Gr.drew ?_))) hg1 (fun hk => by have := (BOwn.block Ho.out hk).1; omega)); have HG1 := Lib.hid (Gr.grownBy (Hg.out.trans (by repeat (with_reducible first | assumption | exact Gr.refl _ | refine Gr.alloc ?_ _ | refine Gr.grew ?_ _ _ | refine Gr.drewN ?_ _ | refine Gr.drew ?_))) hg1 (fun k hk => Nat.le_of_succ_le (BOwn.block Ho.out hk).1)); have HO1 := Lib.hid ho1; clear hg1 ho1)
      | ((with_reducible apply wpList_fop); (case hw => rfl); (case hop => rfl); (case hx => rfl); (case hy => rfl); (case hA => (first | assumption | exact FE.ofInt _ _ | exact FE.lit (by decide +kernel))); (case hB => (first | assumption | exact FE.ofInt _ _ | exact FE.lit (by decide +kernel))); intro r n hr)
      | ((with_reducible apply wpList_fcmp); (case hw => rfl); (case hop => rfl); (case hx => rfl); (case hy => rfl); (case hA => (first | assumption | exact FE.ofInt _ _ | exact FE.lit (by decide +kernel))); (case hB => (first | assumption | exact FE.ofInt _ _ | exact FE.lit (by decide +kernel))); (case hb => (first | assumption | rfl)))
      | ((with_reducible apply wpList_widen); (case hw => rfl); (case hs => exact Try.underlying65); (case hd => exact Try.underlying147); (case hx => rfl); (case hA => (first | assumption | exact FE.ofInt _ _ | exact FE.lit (by decide +kernel))); intro r n hr)
      | ((with_reducible apply wpList_fneg); (case hw => rfl); (case hx => rfl); (case hA => (first | assumption | exact FE.ofInt _ _ | exact FE.lit (by decide +kernel))); intro r hr))
              go_roundw
              case rel => exact ⟨j + 1, x + c, _, by omega, by omega, by go_num, HR, HO1.out, HB1.out, HG1.out⟩
              case measure => simp [intOf]; omega
        · obtain rfl : x = W := by omega
          have HE := Lib.hid (gRow_end hrw.out (by omega))
          clear hrw
          go_wp2
          go_roundw
          case rel => exact ⟨y + 1, by omega, by go_num, by rw [HE.out]; exact Ho.out, HB.out, Hg.out⟩
          case measure => simp [intOf]; omega
    · obtain rfl : y = H := by omega
      have hcv := ho.conv (P := Try.prog) 144 9 Try.underlying144 Try.underlying5 Try.underlying9
      have Hg := Lib.hid hg
      clear ho hg hB
      go_wp2_with (simp only [hcv])
      exact bodyPost_ret (v := .tuple #[.string (strOfNums (gPack xs W y)), .bool true]) (by simp [results, Try.results61, go_sem]) rfl ⟨rfl, Hg.out.trans (by (try show Gr _ _); repeat (with_reducible first | exact Gr.refl _ | refine Gr.drewN ?_ _ | refine Gr.grew ?_ _ _ | refine Gr.alloc ?_ _ | refine Gr.drew ?_))⟩
end Go.Proofs.Ytaidkokgafojeaa
