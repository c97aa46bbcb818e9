/- Contracts: rows that are filled from beside. MAXREC -/
import Derived.Test.YthpdnblkbadhaaaProg
import Derived.Test.YthpdnblkbadhaaaC15
namespace Go.Proofs.Ythpdnblkbadhaaa
open Go.RowKit Go.Fx Go.Soft
/-- The nearest value that is no hole among n cells from i on; -1 without one. -/
def gFwd (xs : List Nat) : Nat → Nat → Nat
  | _, 0 => 3212836864
  | i, n + 1 => if gHole (xs.getD i 0) then gFwd xs (i + 1) n else xs.getD i 0
/-- The same among the n cells from b on, from the last one down. -/
def gBwd (xs : List Nat) (b : Nat) : Nat → Nat
  | 0 => 3212836864
  | n + 1 => if gHole (xs.getD (b + n) 0) then gBwd xs b n else xs.getD (b + n) 0
theorem gFwd_hole {xs : List Nat} {i n : Nat} (h : gHole (xs.getD i 0) = true) : gFwd xs i (n + 1) = gFwd xs (i + 1) n := by rw [gFwd, if_pos h]
theorem gFwd_num {xs : List Nat} {i n : Nat} (h : gHole (xs.getD i 0) = false) : gFwd xs i (n + 1) = xs.getD i 0 := by rw [gFwd, if_neg (by rw [h]; decide)]
theorem gBwd_hole {xs : List Nat} {b n : Nat} (h : gHole (xs.getD (b + n) 0) = true) : gBwd xs b (n + 1) = gBwd xs b n := by rw [gBwd, if_pos h]
theorem gBwd_num {xs : List Nat} {b n : Nat} (h : gHole (xs.getD (b + n) 0) = false) : gBwd xs b (n + 1) = xs.getD (b + n) 0 := by rw [gBwd, if_neg (by rw [h]; decide)]
def gFill (xs : List Nat) (W x y : Nat) : Nat :=
  if gHole (xs.getD (x + W * y) 0) then
    (if gHole (gBwd xs (W * y) x) || (!gHole (gFwd xs (x + W * y + 1) (W - 1 - x)) && fcmp .lss .f32 (gFwd xs (x + W * y + 1) (W - 1 - x)) (gBwd xs (W * y) x)) then gFwd xs (x + W * y + 1) (W - 1 - x) else gBwd xs (W * y) x)
  else xs.getD (x + W * y) 0
theorem gHas_in {W H x y : Nat} (hx : x < W) (hy : y < H) : gHas W H x y = true := by
  simp only [gHas, gIn, Bool.and_eq_true, decide_eq_true_eq]; omega
theorem gHas_right {W H : Nat} {x : Int} {y : Int} (hx : (W : Int) ≤ x) : gHas W H x y = false := by
  simp only [gHas, gIn, Bool.and_eq_false_iff, decide_eq_false_iff_not]; omega
theorem gHas_left {W H : Nat} {x : Int} {y : Int} (hx : x < 0) : gHas W H x y = false := by
  simp only [gHas, gIn, Bool.and_eq_false_iff, decide_eq_false_iff_not]; omega
set_option maxRecDepth 20000 in
set_option maxHeartbeats 1000000 in
theorem I_Map_next (W H x y b : Nat) (a : Option Addr) (cap : Nat) (xs : List Nat) (w : World) (hm : MP w b W H a xs.length cap xs) (hW : W ≤ 24) (hH : H ≤ 24) (hx : x < W) (hy : y < H) (hn : xs.length = W * H) :
    Calls Try.prog 104 #[.pointer (some ⟨b, 0, none⟩), .int .i64 x, .int .i64 y, .int .i64 1] w fun e w' => ∃ r, e = .returned (.float .f32 r) ∧ FE .f32 r (gFwd xs (x + W * y + 1) (W - 1 - x)) ∧ ∃ n, w' = w.drewN n := by
  have M := Lib.hid hm
  have Hn := Lib.hid hn
  clear hm hn
  go_enter Try.func104, Try.ntmps104
  go_wp2
  go_loopw [9] (fun i wr => ∃ u : Nat, u ≤ W ∧ i = .int .i64 u ∧ gFwd xs (x + W * y + 1) (W - 1 - x) = gFwd xs (u + W * y) (W - u) ∧ ∃ n, wr = w.drewN n) (fun i _ => W - (intOf i).toNat)
  case atStart => exact ⟨x + 1, by omega, by go_num, by congr 1 <;> omega, (by first | exact ⟨0, rfl⟩ | exact ⟨_, rfl⟩)⟩
  case round =>
    obtain ⟨u, hu, rfl, he, n, rfl⟩ := hrel
    have He := Lib.hid he
    clear he
    by_cases hlt : u < W
    · have hh := gHas_in hlt hy
      have e1 : W - u = (W - (u + 1)) + 1 := by omega
      cases hv : gHole (xs.getD (u + W * y) 0)
      · have E := Lib.hid (show gFwd xs (x + W * y + 1) (W - 1 - x) = xs.getD (u + W * y) 0 by rw [He.out, e1, gFwd_num hv])
        clear e1
        go_wp2_with (first
      | (go_at_call 114; with_reducible refine (I_Map_has W H u y b cap a xs _ (M.out.gr (gr_drewN w _)) hW hH).mono ?_; rintro e w' ⟨rfl, n, rfl⟩; rw [hh])
      | (go_at_call 84; refine (I_Map_at W H u y b _ _ xs _ (M.out.gr (gr_drewN w _)) hW hH hlt hy Hn.out).mono ?_; rintro e w' ⟨r, rfl, hr, n, rfl⟩)
      | (go_at_call 103; with_reducible refine (I_noHole _ _ _ (by assumption)).mono ?_; rintro e w' ⟨rfl, n, rfl⟩; rw [hv]))
        go_ret
        exact ⟨_, rfl, by rw [E.out]; assumption, (by first | exact ⟨0, rfl⟩ | exact ⟨_, rfl⟩)⟩
      · have E := Lib.hid (show gFwd xs (x + W * y + 1) (W - 1 - x) = gFwd xs (u + 1 + W * y) (W - (u + 1)) by rw [He.out, e1, gFwd_hole hv]; congr 1; omega)
        clear e1
        go_wp2_with (first
      | (go_at_call 114; with_reducible refine (I_Map_has W H u y b cap a xs _ (M.out.gr (gr_drewN w _)) hW hH).mono ?_; rintro e w' ⟨rfl, n, rfl⟩; rw [hh])
      | (go_at_call 84; refine (I_Map_at W H u y b _ _ xs _ (M.out.gr (gr_drewN w _)) hW hH hlt hy Hn.out).mono ?_; rintro e w' ⟨r, rfl, hr, n, rfl⟩)
      | (go_at_call 103; with_reducible refine (I_noHole _ _ _ (by assumption)).mono ?_; rintro e w' ⟨rfl, n, rfl⟩; rw [hv]))
        go_roundw
        case rel => exact ⟨u + 1, by omega, by go_num, E.out, (by first | exact ⟨0, rfl⟩ | exact ⟨_, rfl⟩)⟩
        case measure => simp [intOf]; omega
    · obtain rfl : u = W := by omega
      have hh : gHas u H u y = false := gHas_right (Int.le_refl _)
      have E := Lib.hid (show gFwd xs (x + u * y + 1) (u - 1 - x) = 3212836864 by rw [He.out, Nat.sub_self]; rfl)
      go_wp2_with (first
      | (go_at_call 114; with_reducible refine (I_Map_has u H u y b cap a xs _ (M.out.gr (gr_drewN w _)) hW hH).mono ?_; rintro e w' ⟨rfl, n, rfl⟩; rw [hh]))
      go_ret
      exact ⟨_, rfl, by rw [E.out]; exact FE.lit (by decide +kernel), (by first | exact ⟨0, rfl⟩ | exact ⟨_, rfl⟩)⟩
set_option maxRecDepth 20000 in
set_option maxHeartbeats 1000000 in
theorem I_Map_prev (W H x y b : Nat) (a : Option Addr) (cap : Nat) (xs : List Nat) (w : World) (hm : MP w b W H a xs.length cap xs) (hW : W ≤ 24) (hH : H ≤ 24) (hx : x < W) (hy : y < H) (hn : xs.length = W * H) :
    Calls Try.prog 104 #[.pointer (some ⟨b, 0, none⟩), .int .i64 x, .int .i64 y, .int .i64 (-1)] w fun e w' => ∃ r, e = .returned (.float .f32 r) ∧ FE .f32 r (gBwd xs (W * y) x) ∧ ∃ n, w' = w.drewN n := by
  have M := Lib.hid hm
  have Hn := Lib.hid hn
  clear hm hn
  go_enter Try.func104, Try.ntmps104
  go_wp2
  go_loopw [9] (fun i wr => ∃ u : Nat, u ≤ x ∧ i = .int .i64 ((u : Int) - 1) ∧ gBwd xs (W * y) x = gBwd xs (W * y) u ∧ ∃ n, wr = w.drewN n) (fun i _ => (intOf i + 1).toNat)
  case atStart => exact ⟨x, by omega, by go_num, rfl, (by first | exact ⟨0, rfl⟩ | exact ⟨_, rfl⟩)⟩
  case round =>
    obtain ⟨u', hu, rfl, he, n, rfl⟩ := hrel
    have He := Lib.hid he
    clear he
    rcases u' with _ | u
    · rw [show ((0 : Nat) : Int) - 1 = -1 by rfl]
      have hh : gHas W H (-1) y = false := gHas_left (by omega)
      have E := Lib.hid (show gBwd xs (W * y) x = 3212836864 by rw [He.out]; rfl)
      go_wp2_with (first
      | (go_at_call 114; with_reducible refine (I_Map_has W H _ y b cap a xs _ (M.out.gr (gr_drewN w _)) hW hH).mono ?_; rintro e w' ⟨rfl, n, rfl⟩; rw [hh]))
      go_ret
      exact ⟨_, rfl, by rw [E.out]; exact FE.lit (by decide +kernel), (by first | exact ⟨0, rfl⟩ | exact ⟨_, rfl⟩)⟩
    · have hlt : u < W := by omega
      have hh := gHas_in hlt hy
      have e2 : ((u + 1 : Nat) : Int) - 1 = (u : Int) := by omega
      rw [e2]
      clear e2
      cases hv : gHole (xs.getD (W * y + u) 0)
      · have E := Lib.hid (show gBwd xs (W * y) x = xs.getD (u + W * y) 0 by rw [He.out, gBwd_num hv, Nat.add_comm])
        rw [Nat.add_comm] at hv
        go_wp2_with (first
      | (go_at_call 114; with_reducible refine (I_Map_has W H u y b cap a xs _ (M.out.gr (gr_drewN w _)) hW hH).mono ?_; rintro e w' ⟨rfl, n, rfl⟩; rw [hh])
      | (go_at_call 84; refine (I_Map_at W H u y b _ _ xs _ (M.out.gr (gr_drewN w _)) hW hH hlt hy Hn.out).mono ?_; rintro e w' ⟨r, rfl, hr, n, rfl⟩)
      | (go_at_call 103; with_reducible refine (I_noHole _ _ _ (by assumption)).mono ?_; rintro e w' ⟨rfl, n, rfl⟩; rw [hv]))
        go_ret
        exact ⟨_, rfl, by rw [E.out]; assumption, (by first | exact ⟨0, rfl⟩ | exact ⟨_, rfl⟩)⟩
      · have E := Lib.hid (show gBwd xs (W * y) x = gBwd xs (W * y) u by rw [He.out, gBwd_hole hv])
        rw [Nat.add_comm] at hv
        go_wp2_with (first
      | (go_at_call 114; with_reducible refine (I_Map_has W H u y b cap a xs _ (M.out.gr (gr_drewN w _)) hW hH).mono ?_; rintro e w' ⟨rfl, n, rfl⟩; rw [hh])
      | (go_at_call 84; refine (I_Map_at W H u y b _ _ xs _ (M.out.gr (gr_drewN w _)) hW hH hlt hy Hn.out).mono ?_; rintro e w' ⟨r, rfl, hr, n, rfl⟩)
      | (go_at_call 103; with_reducible refine (I_noHole _ _ _ (by assumption)).mono ?_; rintro e w' ⟨rfl, n, rfl⟩; rw [hv]))
        go_roundw
        case rel => exact ⟨u, by omega, by go_num, E.out, (by first | exact ⟨0, rfl⟩ | exact ⟨_, rfl⟩)⟩
        case measure => simp [intOf]; omega
set_option maxRecDepth 20000 in
set_option maxHeartbeats 1000000 in
theorem I_FillRows_1 (W H x y b1 ca : Nat) (a : Option Addr) (xs : List Nat) (w : World) (m1 : MP w b1 W H a xs.length ca xs)
    (hW : W ≤ 24) (hH : H ≤ 24) (hx : x < W) (hy : y < H) (hn : xs.length = W * H) :
    Calls Try.prog 102 #[.int .i64 x, .int .i64 y, .pointer (some ⟨b1, 0, none⟩)] w fun e w' => (∃ r, e = .returned (.float .f32 r) ∧ FE .f32 r (gFill xs W x y)) ∧ Gr w w' := by
  have M1 := Lib.hid m1
  have Hn := Lib.hid hn
  clear m1 hn
  have h3 : (gHole (xs.getD (x + W * y) 0) = false) ∨ (gHole (xs.getD (x + W * y) 0) = true ∧ gHole (gBwd xs (W * y) x) = true) ∨ (gHole (xs.getD (x + W * y) 0) = true ∧ gHole (gBwd xs (W * y) x) = false ∧ gHole (gFwd xs (x + W * y + 1) (W - 1 - x)) = true) ∨
      (gHole (xs.getD (x + W * y) 0) = true ∧ gHole (gBwd xs (W * y) x) = false ∧ gHole (gFwd xs (x + W * y + 1) (W - 1 - x)) = false ∧ fcmp .lss .f32 (gFwd xs (x + W * y + 1) (W - 1 - x)) (gBwd xs (W * y) x) = true) ∨
      (gHole (xs.getD (x + W * y) 0) = true ∧ gHole (gBwd xs (W * y) x) = false ∧ gHole (gFwd xs (x + W * y + 1) (W - 1 - x)) = false ∧ fcmp .lss .f32 (gFwd xs (x + W * y + 1) (W - 1 - x)) (gBwd xs (W * y) x) = false) := by
    cases gHole (xs.getD (x + W * y) 0) <;> cases gHole (gBwd xs (W * y) x) <;> cases gHole (gFwd xs (x + W * y + 1) (W - 1 - x)) <;> cases fcmp .lss .f32 (gFwd xs (x + W * y + 1) (W - 1 - x)) (gBwd xs (W * y) x) <;> simp
  rcases h3 with t1 | ⟨t1, t2⟩ | ⟨t1, t2, t3⟩ | ⟨t1, t2, t3, t4⟩ | ⟨t1, t2, t3, t4⟩
  · have eG := Lib.hid (show gFill xs W x y = xs.getD (x + W * y) 0 by unfold gFill; rw [t1]; rfl)
    go_enter Try.func102, Try.ntmps102
    go_wp2_with (first
      | (go_at_call 84; with_reducible refine (I_Map_at W H x y b1 _ _ xs _ (M1.out.gr (gr_drewN w _)) hW hH hx hy Hn.out).mono ?_; rintro e w' ⟨r, rfl, hr, n, rfl⟩)
      | (go_at_call 84; refine (I_Map_at W H x y b1 _ _ xs _ M1.out hW hH hx hy Hn.out).mono ?_; rintro e w' ⟨r, rfl, hr, n, rfl⟩)
      | (go_at_call 103; with_reducible refine (I_noHole _ _ _ (by assumption)).mono ?_; rintro e w' ⟨rfl, n, rfl⟩; rw [t1]))
    go_ret
    exact ⟨⟨_, rfl, by rw [eG.out]; assumption⟩, (by (try show Gr _ _); repeat (with_reducible first | exact Gr.refl _ | refine Gr.drewN ?_ _ | refine Gr.grew ?_ _ _ | refine Gr.alloc ?_ _ | refine Gr.drew ?_))⟩
  all_goals
    have eG := Lib.hid (show gFill xs W x y = _ by unfold gFill; simp only [t1, t2, Bool.not_true, Bool.not_false, Bool.true_and, Bool.false_and, Bool.true_or, Bool.false_or, if_true, *]; rfl)
    go_enter Try.func102, Try.ntmps102
    go_wp2_with (first
      | (go_at_call 84; refine (I_Map_at W H x y b1 _ _ xs _ M1.out hW hH hx hy Hn.out).mono ?_; rintro e w' ⟨r, rfl, hr, n, rfl⟩)
      | (go_at_call 104; with_reducible refine (I_Map_prev W H x y b1 _ _ xs _ (M1.out.gr (gr_drewN w _)) hW hH hx hy Hn.out).mono ?_; rintro e w' ⟨r, rfl, hr, n, rfl⟩)
      | (go_at_call 104; with_reducible refine (I_Map_next W H x y b1 _ _ xs _ (M1.out.gr (gr_drewN w _)) hW hH hx hy Hn.out).mono ?_; rintro e w' ⟨r, rfl, hr, n, rfl⟩)
      | (go_at_call 103; with_reducible refine (I_noHole _ _ _ (by assumption)).mono ?_; rintro e w' ⟨rfl, n, rfl⟩; (first | rw [t1] | rw [t3]))
      | (go_at_call 86; with_reducible refine (I_isHole _ _ _ (by assumption)).mono ?_; rintro e w' ⟨rfl, n, rfl⟩; rw [t2])
      | ((with_reducible apply wpList_fop); (case hw => rfl); (case hop => rfl); (case hx => rfl); (case hy => rfl); (case hA => (first | assumption | exact FE.ofInt _ _ | exact FE.lit (by decide +kernel))); (case hB => (first | assumption | exact FE.ofInt _ _ | exact FE.lit (by decide +kernel))); intro r n hr)
      | ((with_reducible apply wpList_fcmp); (case hw => rfl); (case hop => rfl); (case hx => rfl); (case hy => rfl); (case hA => (first | assumption | exact FE.ofInt _ _ | exact FE.lit (by decide +kernel))); (case hB => (first | assumption | exact FE.ofInt _ _ | exact FE.lit (by decide +kernel))); (case hb => (first | assumption | rfl)))
      | ((with_reducible apply wpList_widen); (case hw => rfl); (case hs => exact Try.underlying37); (case hd => exact Try.underlying63); (case hx => rfl); (case hA => (first | assumption | exact FE.ofInt _ _ | exact FE.lit (by decide +kernel))); intro r n hr)
      | ((with_reducible apply wpList_fneg); (case hw => rfl); (case hx => rfl); (case hA => (first | assumption | exact FE.ofInt _ _ | exact FE.lit (by decide +kernel))); intro r hr))
    go_ret
    exact ⟨⟨_, rfl, by rw [eG.out]; assumption⟩, (by (try show Gr _ _); repeat (with_reducible first | exact Gr.refl _ | refine Gr.drewN ?_ _ | refine Gr.grew ?_ _ _ | refine Gr.alloc ?_ _ | refine Gr.drew ?_))⟩
theorem div_row {W y k : Nat} (h1 : W * y ≤ k) (h2 : k < W * y + W) : (k : Int) / (W : Int) = (y : Int) := by
  have e : k = (k - W * y) + W * y := by omega
  have e2 : k / W = y := by rw [e, div_of (by omega)]
  rw [← Int.natCast_ediv, e2]
theorem div_row_next {W y k : Nat} (h0 : 0 < W) (h1 : k = W * y + W) : (k : Int) / (W : Int) = (y : Int) + 1 := by
  have e := div_row (W := W) (y := y + 1) (k := k) (by rw [Nat.mul_succ]; omega) (by rw [Nat.mul_succ]; omega)
  simpa using e
set_option maxRecDepth 20000 in
set_option maxHeartbeats 1000000 in
theorem S_l05Beside_fwd (W H x y i b : Nat) (a : Option Addr) (cap : Nat) (xs : List Nat) (w : World) (hm : MP w b W H a xs.length cap xs) (hW : W ≤ 24) (hH : H ≤ 24) (hx : x < W) (hy : y < H) (hi : i = x + W * y) (hn : xs.length = W * H) :
    Calls Try.prog 101 #[.pointer (some ⟨b, 0, none⟩), .int .i64 i, .int .i64 1] w fun e w' => ∃ r, e = .returned (.float .f32 r) ∧ FE .f32 r (gFwd xs (x + W * y + 1) (W - 1 - x)) ∧ ∃ n, w' = w.drewN n := by
  have h24 : W * H ≤ 576 := Nat.mul_le_mul hW hH
  have hc := cell_lt hx hy
  have h25 := cell_lt (w := W) (x := W - 1) (by omega) hy
  have c0 := hm.c0
  have c2 := hm.c2
  obtain ⟨bx, off, rfl⟩ := hm.fs.ptr (by omega)
  have M := Lib.hid hm
  have Hn := Lib.hid hn
  have hl : xs.length ≤ 576 := by omega
  have hl2 : W + W * y ≤ xs.length := by omega
  clear hm hn h24 hc h25
  have eq : (i : Int) / (W : Int) = (y : Int) := div_row (by omega) (by omega)
  have Hi := Lib.hid hi
  have hil : i < 576 := by omega
  clear hi
  go_enter Try.func101, Try.ntmps101
  go_wp2
  clear eq
  go_loopw [8] (fun s wr => ∃ k : Nat, x + W * y < k ∧ k ≤ W + W * y ∧ s = .int .i64 k ∧ gFwd xs (x + W * y + 1) (W - 1 - x) = gFwd xs k (W + W * y - k) ∧ ∃ n, wr = w.drewN n) (fun s _ => W + W * y - (intOf s).toNat)
  case atStart => have hi := Hi.out; exact ⟨i + 1, by omega, by omega, by go_num, by congr 1 <;> omega, (by first | exact ⟨0, rfl⟩ | exact ⟨_, rfl⟩)⟩
  case round =>
    obtain ⟨k, hk1, hk, rfl, he, n, rfl⟩ := hrel
    have He := Lib.hid he
    clear he
    by_cases hlt : k < W + W * y
    · have ek : (k : Int) / (W : Int) = (y : Int) := div_row (by omega) (by omega)
      have hkl : k < xs.length := by omega
      obtain ⟨r, hr, hfr⟩ := M.out.fs.get k hkl
      have e1 : W + W * y - k = (W + W * y - (k + 1)) + 1 := by omega
      cases hv : gHole (xs.getD k 0)
      · have E := Lib.hid (show gFwd xs (x + W * y + 1) (W - 1 - x) = xs.getD k 0 by rw [He.out, e1, gFwd_num hv])
        clear e1
        go_wp2_with (first
      | (go_at_call 89; with_reducible refine (S_l05Hole _ _ _ (by assumption)).mono ?_; rintro e w' ⟨rfl, n, rfl⟩; rw [hv]))
        go_ret
        exact ⟨_, rfl, by rw [E.out]; assumption, (by first | exact ⟨0, rfl⟩ | exact ⟨_, rfl⟩)⟩
      · have E := Lib.hid (show gFwd xs (x + W * y + 1) (W - 1 - x) = gFwd xs (k + 1) (W + W * y - (k + 1)) by rw [He.out, e1, gFwd_hole hv])
        clear e1
        go_wp2_with (first
      | (go_at_call 89; with_reducible refine (S_l05Hole _ _ _ (by assumption)).mono ?_; rintro e w' ⟨rfl, n, rfl⟩; rw [hv]))
        go_roundw
        case rel => exact ⟨k + 1, by omega, by omega, by go_num, E.out, (by first | exact ⟨0, rfl⟩ | exact ⟨_, rfl⟩)⟩
        case measure => simp [intOf]; omega
    · obtain rfl : k = W + W * y := by omega
      have E := Lib.hid (show gFwd xs (x + W * y + 1) (W - 1 - x) = 3212836864 by rw [He.out, Nat.sub_self]; rfl)
      have ek : ((W + W * y : Nat) : Int) / (W : Int) = (y : Int) + 1 := div_row_next (by omega) (by omega)
      generalize hK : W + W * y = K at *
      by_cases hkl : K < xs.length
      · have en : ¬ (y : Int) + 1 = (y : Int) := by omega
        go_wp2
        go_ret
        exact ⟨_, rfl, by rw [E.out]; exact FE.lit (by decide +kernel), (by first | exact ⟨0, rfl⟩ | exact ⟨_, rfl⟩)⟩
      · go_wp2
        go_ret
        exact ⟨_, rfl, by rw [E.out]; exact FE.lit (by decide +kernel), (by first | exact ⟨0, rfl⟩ | exact ⟨_, rfl⟩)⟩
set_option maxRecDepth 20000 in
set_option maxHeartbeats 1000000 in
theorem S_l05Beside_bwd (W H x y i b : Nat) (a : Option Addr) (cap : Nat) (xs : List Nat) (w : World) (hm : MP w b W H a xs.length cap xs) (hW : W ≤ 24) (hH : H ≤ 24) (hx : x < W) (hy : y < H) (hi : i = x + W * y) (hn : xs.length = W * H) :
    Calls Try.prog 101 #[.pointer (some ⟨b, 0, none⟩), .int .i64 i, .int .i64 (-1)] w fun e w' => ∃ r, e = .returned (.float .f32 r) ∧ FE .f32 r (gBwd xs (W * y) x) ∧ ∃ n, w' = w.drewN n := by
  have h24 : W * H ≤ 576 := Nat.mul_le_mul hW hH
  have hc := cell_lt hx hy
  have c0 := hm.c0
  have c2 := hm.c2
  obtain ⟨bx, off, rfl⟩ := hm.fs.ptr (by omega)
  have M := Lib.hid hm
  have Hn := Lib.hid hn
  have hl : xs.length ≤ 576 := by omega
  have hl2 : i < xs.length := by omega
  clear hm hn h24 hc
  have eq : (i : Int) / (W : Int) = (y : Int) := div_row (by omega) (by omega)
  have Hi := Lib.hid hi
  have hil : i < 576 := by omega
  clear hi
  go_enter Try.func101, Try.ntmps101
  go_wp2
  clear eq
  go_loopw [8] (fun s wr => ∃ u : Nat, u ≤ x ∧ s = .int .i64 (((u + W * y : Nat) : Int) - 1) ∧ gBwd xs (W * y) x = gBwd xs (W * y) u ∧ ∃ n, wr = w.drewN n) (fun s _ => (intOf s + 1).toNat)
  case atStart => have hi := Hi.out; exact ⟨x, by omega, by rw [← hi]; go_num, rfl, (by first | exact ⟨0, rfl⟩ | exact ⟨_, rfl⟩)⟩
  case round =>
    obtain ⟨u', hu, rfl, he, n, rfl⟩ := hrel
    have He := Lib.hid he
    clear he
    rcases u' with _ | u
    · have E := Lib.hid (show gBwd xs (W * y) x = 3212836864 by rw [He.out]; rfl)
      rcases y with _ | y
      · rw [show (((0 + W * 0 : Nat) : Int) - 1) = -1 by simp]
        go_wp2
        go_ret
        exact ⟨_, rfl, by rw [E.out]; exact FE.lit (by decide +kernel), (by first | exact ⟨0, rfl⟩ | exact ⟨_, rfl⟩)⟩
      · obtain ⟨K, hK⟩ : ∃ K : Nat, K + 1 = W * (y + 1) := ⟨W * (y + 1) - 1, by rw [Nat.mul_succ]; omega⟩
        rw [show (((0 + W * (y + 1) : Nat) : Int) - 1) = (K : Int) by omega]
        have ek : (K : Int) / (W : Int) = (y : Int) := div_row (by rw [Nat.mul_succ] at hK; omega) (by rw [Nat.mul_succ] at hK; omega)
        have hkl : K < xs.length := by have hi := Hi.out; omega
        have en : ¬ (y : Int) = ((y + 1 : Nat) : Int) := by omega
        go_wp2
        go_ret
        exact ⟨_, rfl, by rw [E.out]; exact FE.lit (by decide +kernel), (by first | exact ⟨0, rfl⟩ | exact ⟨_, rfl⟩)⟩
    · obtain ⟨k, hk⟩ : ∃ k : Nat, k = W * y + u := ⟨_, rfl⟩
      rw [show (((u + 1 + W * y : Nat) : Int) - 1) = (k : Int) by omega]
      have ek : (k : Int) / (W : Int) = (y : Int) := div_row (by omega) (by omega)
      have hkl : k < xs.length := by have hi := Hi.out; omega
      obtain ⟨r, hr, hfr⟩ := M.out.fs.get k hkl
      cases hv : gHole (xs.getD k 0)
      · have E := Lib.hid (show gBwd xs (W * y) x = xs.getD k 0 by subst hk; rw [He.out, gBwd_num hv])
        clear hk
        go_wp2_with (first
      | (go_at_call 89; with_reducible refine (S_l05Hole _ _ _ (by assumption)).mono ?_; rintro e w' ⟨rfl, n, rfl⟩; rw [hv]))
        go_ret
        exact ⟨_, rfl, by rw [E.out]; assumption, (by first | exact ⟨0, rfl⟩ | exact ⟨_, rfl⟩)⟩
      · have E := Lib.hid (show gBwd xs (W * y) x = gBwd xs (W * y) u by subst hk; rw [He.out, gBwd_hole hv])
        have Hk := Lib.hid hk
        clear hk
        go_wp2_with (first
      | (go_at_call 89; with_reducible refine (S_l05Hole _ _ _ (by assumption)).mono ?_; rintro e w' ⟨rfl, n, rfl⟩; rw [hv]))
        go_roundw
        case rel => have hk := Hk.out; exact ⟨u, by omega, by rw [show ((u + W * y : Nat) : Int) = k by omega]; go_num, E.out, (by first | exact ⟨0, rfl⟩ | exact ⟨_, rfl⟩)⟩
        case measure => simp [intOf]; omega
def gFillAt (xs : List Nat) (W : Int) (i : Nat) : Nat := gFill xs W.toNat (i % W.toNat) (i / W.toNat)
set_option maxRecDepth 20000 in
set_option maxHeartbeats 600000 in
theorem S_FillRows (W H : Int) (a : Option Addr) (ca : Nat) (xs : List Nat) (w : World) (fx : FSl w a xs.length xs) (hn : xs.length ≤ 1048576) :
    Calls Try.prog 39 #[.agg #[.int .i64 W, .int .i64 H, .slice a xs.length ca]] w
      (PostP w (gW (gPic W H xs.length) W) (gW (gPic W H xs.length) H) (gPic W H xs.length) (gVals (gPic W H xs.length) xs.length (gFillAt xs W))) := by
  have hn' : xs.length ≤ maxLen := by unfold maxLen; omega
  have Fx := Lib.hid fx
  clear fx
  cases hT : gPic W H xs.length
  · go_enter Try.func39, Try.ntmps39
    go_wp2_with (first
      | (go_at_call 80; with_reducible refine (S_l03IsMap W H a _ ca _ _ _ hn' (by first | (simp (maxDischargeDepth := 12) [go_sem]; done) | (simp (maxDischargeDepth := 12) [go_sem, *]; done)) (by first | (simp (maxDischargeDepth := 12) [go_sem]; done) | (simp (maxDischargeDepth := 12) [go_sem, *]; done)) (by first | (simp (maxDischargeDepth := 12) [go_sem]; done) | (simp (maxDischargeDepth := 12) [go_sem, *]; done))).mono ?_; rintro e w' ⟨rfl, n, rfl⟩; rw [hT]))
    exact bodyPost_ret (v := .tuple #[.agg #[.int .i64 0, .int .i64 0, .slice none 0 0], .bool false]) (by simp [results, Try.results39, go_sem]) rfl ⟨⟨_, rfl, FOwn.nil _ _ _⟩, (by (try show Gr _ _); repeat (with_reducible first | exact Gr.refl _ | refine Gr.drewN ?_ _ | refine Gr.grew ?_ _ _ | refine Gr.alloc ?_ _ | refine Gr.drew ?_))⟩
  · have hp1 := (gPic_true hT).2
    obtain ⟨s1, s2, s3, s4, s5, s6⟩ := gSize_true (gPic_true hT).1
    obtain ⟨W, rfl⟩ := Int.eq_ofNat_of_zero_le (show 0 ≤ W by omega)
    obtain ⟨H, rfl⟩ := Int.eq_ofNat_of_zero_le (show 0 ≤ H by omega)
    have hl : xs.length = W * H := by exact_mod_cast hp1
    have hpos : 0 < xs.length := by omega
    have Hl := Lib.hid hl
    obtain ⟨bx, ox, rfl⟩ := Fx.out.ptr hpos
    have EG : ∀ i, gFillAt xs (W : Int) i = gFill xs W (i % W) (i / W) := fun i => by unfold gFillAt; simp
    have EG := Lib.hid EG
    clear hp1 hl s5 s6
    go_enter Try.func39, Try.ntmps39
    go_wp2_with (first
      | (go_at_call 80; with_reducible refine (S_l03IsMap W H (some ⟨bx, ox, none⟩) _ ca _ _ _ hn' (by first | (simp (maxDischargeDepth := 12) [go_sem]; done) | (simp (maxDischargeDepth := 12) [go_sem, *]; done)) (by first | (simp (maxDischargeDepth := 12) [go_sem]; done) | (simp (maxDischargeDepth := 12) [go_sem, *]; done)) (by first | (simp (maxDischargeDepth := 12) [go_sem]; done) | (simp (maxDischargeDepth := 12) [go_sem, *]; done))).mono ?_; rintro e w' ⟨rfl, n, rfl⟩; rw [hT])
      | (go_at_call 100; refine (S_l05Own W H _ ca _ xs _ ⟨(by first | (simp (maxDischargeDepth := 12) [go_sem]; done) | (simp (maxDischargeDepth := 12) [go_sem, *]; done)), (by first | (simp (maxDischargeDepth := 12) [go_sem]; done) | (simp (maxDischargeDepth := 12) [go_sem, *]; done)), (by first | (simp (maxDischargeDepth := 12) [go_sem]; done) | (simp (maxDischargeDepth := 12) [go_sem, *]; done)), Fx.out.keep (by (repeat (with_reducible first | exact Kp.refl _ | exact kp_same | exact kp_app1 | exact kp_app2 | exact kp_app3 | refine Kp.grew ?_ _ _ | refine Kp.drewN ?_ _ | refine Kp.drew ?_ | refine Kp.alloc ?_ _)))⟩ hpos hn).mono ?_; rintro e w1 ⟨⟨v0, rfl, ho0⟩, os0, m0, rfl⟩; obtain ⟨g, cg, rfl, -⟩ := ho0.ptr hpos; have Ho0 := Lib.hid ho0; clear ho0))
    go_loopw [5, 6, 7, 15] (fun s5 s6 s7 i wr => ∃ k : Nat, k ≤ xs.length ∧ i = .int .i64 k ∧ Blk wr w.heap.size [.int .i64 W, .int .i64 H, .slice (some ⟨bx, ox, none⟩) xs.length ca] 43 ∧ Blk wr (w.heap.size + 1) [.int .i64 0, .int .i64 0, .slice none 0 0] 43 ∧
      Blk wr (w.heap.size + 1 + 1 + os0.size) [.int .i64 W, .int .i64 H, .slice (some ⟨g, 0, none⟩) xs.length cg] 43 ∧ FOwn wr (w.heap.size + 1 + 1) 37 (.slice (some ⟨g, 0, none⟩) xs.length cg) (upto xs.length k (gFillAt xs W) (fun i => xs.getD i 0)) ∧ Gr w wr) (fun _ _ _ i _ => xs.length - (intOf i).toNat)
    case atStart => exact ⟨0, Nat.zero_le _, rfl, (by repeat (with_reducible first | assumption | exact Blk.atNew (by simp) | refine Blk.alloc ?_ _ | refine Blk.grew ?_ _ _ | refine Blk.drewN ?_ _ | refine Blk.drew ?_)), (by repeat (with_reducible first | assumption | exact Blk.atNew (by simp) | refine Blk.alloc ?_ _ | refine Blk.grew ?_ _ _ | refine Blk.drewN ?_ _ | refine Blk.drew ?_)), (by repeat (with_reducible first | assumption | exact Blk.atNew (by simp) | refine Blk.alloc ?_ _ | refine Blk.grew ?_ _ _ | refine Blk.drewN ?_ _ | refine Blk.drew ?_)), (by have h2 := Ho0.out.base (B' := w.heap.size + 1 + 1) (by simp <;> omega); simp only [grew_drewN] at h2; rw [upto_zero, lst_of]; exact h2.gr (by (try show Gr _ _); repeat (with_reducible first | exact Gr.refl _ | refine Gr.drewN ?_ _ | refine Gr.grew ?_ _ _ | refine Gr.alloc ?_ _ | refine Gr.drew ?_))), (by (try show Gr _ _); repeat (with_reducible first | exact Gr.refl _ | refine Gr.drewN ?_ _ | refine Gr.grew ?_ _ _ | refine Gr.alloc ?_ _ | refine Gr.drew ?_))⟩
    case round =>
      clear Ho0
      obtain ⟨k, hk, rfl, b3, b6, b8, ho, hg⟩ := hrel
      by_cases hlt : k < xs.length
      · obtain ⟨rx, hcx, hrx⟩ := (Fx.out.keep hg.kp).get k hlt
        obtain ⟨ro, hco, -⟩ := ho.get k (by simp; exact hlt)
        have hz := ho.free k
        have m0 := b3.cellv 0
        have m1 := b3.cellv 1
        have m2 := b3.cellv 2
        have o2 := b8.cellv 2
        have MM := Lib.hid (MP.mk m0 m1 m2 (Fx.out.keep hg.kp))
        have hgb : g ≠ w.heap.size + 1 + 1 + os0.size := by
          intro e
          exact ho.okb (.inr (b8.okb (e := 37) (by decide))) (by simp [Value.ownBlock, e])
        have hg3 : w.heap.size + 1 + 1 ≤ g := (ho.block rfl).1
        have hxW : k % W < W := Nat.mod_lt _ (by omega)
        have hyH : k / W < H := Nat.div_lt_of_lt_mul (by have := Hl.out; omega)
        have hkk : k = k % W + W * (k / W) := (Nat.mod_add_div k W).symm
        obtain ⟨x, hx⟩ : ∃ x, x = k % W := ⟨_, rfl⟩
        obtain ⟨y, hy⟩ : ∃ y, y = k / W := ⟨_, rfl⟩
        have EK := Lib.hid (EG.out k)
        rw [← hx, ← hy] at hkk EK
        rw [← hx] at hxW
        rw [← hy] at hyH
        have EX : xs.getD k 0 = xs.getD (x + W * y) 0 := by rw [← hkk]
        rw [EX] at hrx
        have Hgb := Lib.hid hgb
        have Hg3 := Lib.hid hg3
        have B3 := Lib.hid b3
        have B6 := Lib.hid b6
        have B8 := Lib.hid b8
        have Ho := Lib.hid ho
        have Hg := Lib.hid hg
        have Hkk := Lib.hid hkk
        have EX := Lib.hid EX
        clear b3 b6 b8 ho hg hgb hg3 hkk hx hy
        have h3 : (gHole (xs.getD (x + W * y) 0) = false) ∨ (gHole (xs.getD (x + W * y) 0) = true ∧ gHole (gBwd xs (W * y) x) = true) ∨ (gHole (xs.getD (x + W * y) 0) = true ∧ gHole (gBwd xs (W * y) x) = false ∧ gHole (gFwd xs (x + W * y + 1) (W - 1 - x)) = true) ∨
            (gHole (xs.getD (x + W * y) 0) = true ∧ gHole (gBwd xs (W * y) x) = false ∧ gHole (gFwd xs (x + W * y + 1) (W - 1 - x)) = false ∧ fcmp .lss .f32 (gFwd xs (x + W * y + 1) (W - 1 - x)) (gBwd xs (W * y) x) = true) ∨
            (gHole (xs.getD (x + W * y) 0) = true ∧ gHole (gBwd xs (W * y) x) = false ∧ gHole (gFwd xs (x + W * y + 1) (W - 1 - x)) = false ∧ fcmp .lss .f32 (gFwd xs (x + W * y + 1) (W - 1 - x)) (gBwd xs (W * y) x) = false) := by
          cases gHole (xs.getD (x + W * y) 0) <;> cases gHole (gBwd xs (W * y) x) <;> cases gHole (gFwd xs (x + W * y + 1) (W - 1 - x)) <;> cases fcmp .lss .f32 (gFwd xs (x + W * y + 1) (W - 1 - x)) (gBwd xs (W * y) x) <;> simp
        rcases h3 with t1 | ⟨t1, t2⟩ | ⟨t1, t2, t3⟩ | ⟨t1, t2, t3, t4⟩ | ⟨t1, t2, t3, t4⟩
        · have eG := Lib.hid (show gFillAt xs W k = xs.getD k 0 by rw [EK.out, EX.out]; unfold gFill; rw [t1]; rfl)
          go_wp2_with (first
      | (go_at_call 89; with_reducible refine (S_l05Hole _ _ _ (by assumption)).mono ?_; rintro e w' ⟨rfl, n, rfl⟩; rw [t1]))
          go_roundw
          case rel => exact ⟨k + 1, by omega, by go_num, B3.out.drewN _, B6.out.drewN _, B8.out.drewN _, (by rw [← upto_keep (n := xs.length) (k := k) (G := gFillAt xs W) (O := fun i => xs.getD i 0) eG.out.symm]; exact Ho.out.gr (gr_drewN _ _)), Hg.out.drewN _⟩
          case measure => simp [intOf]; omega
        all_goals
          have eG := Lib.hid (EK.out.trans <| show gFill xs W x y = _ by unfold gFill; simp only [t1, t2, Bool.not_true, Bool.not_false, Bool.true_and, Bool.false_and, Bool.true_or, Bool.false_or, if_true, *]; rfl)
          go_wp2_with (first
      | (go_at_call 89; with_reducible refine (S_l05Hole _ _ _ (by assumption)).mono ?_; rintro e w' ⟨rfl, n, rfl⟩; first | rw [t1] | rw [t2] | rw [t3])
      | (go_at_call 101; with_reducible refine (S_l05Beside_bwd W H x y k _ _ _ xs _ (MM.out.gr (gr_drewN _ _)) (by omega) (by omega) hxW hyH Hkk.out Hl.out).mono ?_; rintro e w' ⟨r, rfl, hr, n, rfl⟩)
      | (go_at_call 101; with_reducible refine (S_l05Beside_fwd W H x y k _ _ _ xs _ (MM.out.gr (gr_drewN _ _)) (by omega) (by omega) hxW hyH Hkk.out Hl.out).mono ?_; rintro e w' ⟨r, rfl, hr, n, rfl⟩)
      | ((with_reducible apply wpList_fop); (case hw => rfl); (case hop => rfl); (case hx => rfl); (case hy => rfl); (case hA => (first | assumption | exact FE.ofInt _ _ | exact FE.lit (by decide +kernel))); (case hB => (first | assumption | exact FE.ofInt _ _ | exact FE.lit (by decide +kernel))); intro r n hr)
      | ((with_reducible apply wpList_fcmp); (case hw => rfl); (case hop => rfl); (case hx => rfl); (case hy => rfl); (case hA => (first | assumption | exact FE.ofInt _ _ | exact FE.lit (by decide +kernel))); (case hB => (first | assumption | exact FE.ofInt _ _ | exact FE.lit (by decide +kernel))); (case hb => (first | assumption | rfl)))
      | ((with_reducible apply wpList_widen); (case hw => rfl); (case hs => exact Try.underlying37); (case hd => exact Try.underlying63); (case hx => rfl); (case hA => (first | assumption | exact FE.ofInt _ _ | exact FE.lit (by decide +kernel))); intro r n hr)
      | ((with_reducible apply wpList_fneg); (case hw => rfl); (case hx => rfl); (case hA => (first | assumption | exact FE.ofInt _ _ | exact FE.lit (by decide +kernel))); intro r hr))
          go_roundw
          case rel =>
            have hx := Hg3.out
            refine ⟨k + 1, by omega, by go_num, (B3.out.setOther _ (by simp; omega)).drewN _, (B6.out.setOther _ (by simp; omega)).drewN _, (B8.out.setOther _ Hgb.out).drewN _, ?_, (Hg.out.setCell (by simp; omega) _).drewN _⟩
            rw [← upto_set (G := gFillAt xs W) (O := fun i => xs.getD i 0) hlt]
            refine FOwn.gr ?_ (gr_drewN _ _)
            rw [eG.out]
            exact Ho.out.store (k := k) (by assumption)
          case measure => simp [intOf]; omega
      · obtain rfl : k = xs.length := by omega
        have p0 := b8.cellv 0
        have p1 := b8.cellv 1
        have p2 := b8.cellv 2
        have q0 := b6.cellv 0
        have q1 := b6.cellv 1
        have q2 := b6.cellv 2
        have z0 := b6.frozen 0
        have z1 := b6.frozen 1
        have z2 := b6.frozen 2
        have Ho := Lib.hid ho
        have Hg := Lib.hid hg
        clear b3 b6 b8 ho hg
        go_wp2
        refine bodyPost_ret (v := .tuple #[.agg #[.int .i64 W, .int .i64 H, .slice (some ⟨g, 0, none⟩) xs.length cg], .bool true]) (by simp [results, Try.results39, go_sem, *]) rfl ⟨⟨_, rfl, ?_⟩, ?_⟩
        · have h := Ho.out
          rw [upto_all] at h
          show FOwn _ _ _ _ (lst xs.length _)
          exact FOwn.base (B := w.heap.size + 1 + 1) (by repeat (with_reducible first | assumption | refine FOwn.setOther ?_ _ (by simp <;> omega))) (by omega)
        · have h := Hg.out
          exact (by repeat (with_reducible first | assumption | refine Gr.setCell ?_ (by simp <;> omega) _))
theorem tells_FillRows (W H b1 ca : Nat) (a : Option Addr) (xs : List Nat) (w : World) (m1 : MP w b1 W H a xs.length ca xs) (hW : W ≤ 24) (hH : H ≤ 24) (hn : xs.length = W * H) :
    Tells w 102 #[.pointer (some ⟨b1, 0, none⟩)] W H (gFill xs W) :=
  ⟨Try.call102, fun x y hx hy w1 g => I_FillRows_1 W H x y b1 ca a xs w1 (m1.gr g) hW hH hx hy hn⟩
set_option maxRecDepth 20000 in
set_option maxHeartbeats 600000 in
theorem I_FillRows (W H : Int) (a : Option Addr) (ca : Nat) (xs : List Nat) (w : World) (fx : FSl w a xs.length xs) (hn : xs.length ≤ 1048576) :
    Calls Try.prog 40 #[.agg #[.int .i64 W, .int .i64 H, .slice a xs.length ca]] w
      (PostP w (gW (gPic W H xs.length) W) (gW (gPic W H xs.length) H) (gPic W H xs.length) (gVals (gPic W H xs.length) xs.length (gFillAt xs W))) := by
  have hn' : xs.length ≤ maxLen := by unfold maxLen; omega
  obtain ⟨L, hL⟩ : ∃ L, L = gVals (gPic W H xs.length) xs.length (gFillAt xs W) := ⟨_, rfl⟩
  have HR := Lib.hid (fun (u : World) (b1 : Nat) (m1 : MP u b1 W H a xs.length ca xs) =>
    show Calls _ _ _ _ (PostP u _ _ _ (gVals (gPic W H xs.length) xs.length (gFillAt xs W))) from
    I_remap W H a ca xs 102 #[.pointer (some ⟨b1, 0, none⟩)] (gFill xs W.toNat) u m1.fs hn'
      (fun W' H' h1 h2 _ h3 _ h4 e1 => by
        subst h1 h2
        rw [Int.toNat_natCast]
        exact tells_FillRows W' H' b1 ca a xs u m1 h3 h4 e1))
  have Fx := Lib.hid fx
  clear fx
  rw [← hL] at HR ⊢
  clear hL
  cases hP : gPic W H xs.length
  all_goals
    rw [hP] at HR
    go_enter Try.func40, Try.ntmps40
    go_wp2_with fail
    refine (HR.out _ w.heap.size ⟨(by first | (simp (maxDischargeDepth := 12) [go_sem]; done) | (simp (maxDischargeDepth := 12) [go_sem, *]; done)), (by first | (simp (maxDischargeDepth := 12) [go_sem]; done) | (simp (maxDischargeDepth := 12) [go_sem, *]; done)), (by first | (simp (maxDischargeDepth := 12) [go_sem]; done) | (simp (maxDischargeDepth := 12) [go_sem, *]; done)), Fx.out.keep (by (repeat (with_reducible first | exact Kp.refl _ | exact kp_same | exact kp_app1 | exact kp_app2 | exact kp_app3 | refine Kp.grew ?_ _ _ | refine Kp.drewN ?_ _ | refine Kp.drew ?_ | refine Kp.alloc ?_ _)))⟩).mono ?_
    rintro e u1 ⟨⟨v0, rfl, ho⟩, g⟩
    have k : Gr w u1 := Gr.trans (by (try show Gr _ _); repeat (with_reducible first | exact Gr.refl _ | refine Gr.drewN ?_ _ | refine Gr.grew ?_ _ _ | refine Gr.alloc ?_ _ | refine Gr.drew ?_)) g
    have B6 := Lib.hid (Blk.gr (show Blk _ (w.heap.size + 1) [.int .i64 0, .int .i64 0, .slice none 0 0] 43 from (by repeat (with_reducible first | assumption | exact Blk.atNew (by simp) | refine Blk.alloc ?_ _ | refine Blk.grew ?_ _ _ | refine Blk.drewN ?_ _ | refine Blk.drew ?_))) g)
    obtain ⟨a1, c1, rfl, -, -⟩ := ho.sl
    have Ho := Lib.hid ho
    have G := Lib.hid k
    clear ho g k
    have q0 := B6.out.cellv 0
    have q1 := B6.out.cellv 1
    have q2 := B6.out.cellv 2
    have z0 := B6.out.frozen 0
    have z1 := B6.out.frozen 1
    have z2 := B6.out.frozen 2
    go_wp2
    refine bodyPost_ret (v := .tuple #[.agg #[.int .i64 _, .int .i64 _, .slice a1 _ c1], .bool _]) (by simp [results, Try.results40, go_sem, *]; rfl) rfl ⟨⟨_, rfl, ?_⟩, ?_⟩
    · have h := Ho.out.base (B' := w.heap.size + 1 + 1) (by simp)
      exact FOwn.base (B := w.heap.size + 1 + 1) (by repeat (with_reducible first | assumption | refine FOwn.setOther ?_ _ (by simp <;> omega))) (by omega)
    · have h := G.out
      exact (by repeat (with_reducible first | assumption | refine Gr.setCell ?_ (by simp <;> omega) _))
end Go.Proofs.Ythpdnblkbadhaaa
