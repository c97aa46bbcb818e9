/- Contracts: winners near the places of a map. MAXREC -/
import Derived.Test.YtomlfdkcgaogcaaProg
import Derived.Test.YtomlfdkcgaogcaaC27
import Derived.Test.YtomlfdkcgaogcaaC23
import Derived.Test.YtomlfdkcgaogcaaC29
namespace Go.Proofs.Ytomlfdkcgaogcaa
open Go.RowKit Go.Fx Go.Soft
/-- A winner's number, counted from lo on; -1 stays -1. -/
def gUp (lo g : Int) : Int := if g < 0 then -1 else lo + g
/-- The winner among the costs that are no more than r from p. -/
def gWinN (c : Nat → Nat) (D : Nat) (r p : Int) : Int :=
  if p < 0 ∨ min (p + r) ((D : Int) - 1) < max (p - r) 0 then -1
  else gUp (max (p - r) 0) (gWin (fun j => c ((max (p - r) 0).toNat + j)) (-1) ((min (p + r) ((D : Int) - 1)).toNat + 1 - (max (p - r) 0).toNat))
theorem gWinN_ways (c : Nat → Nat) (D : Nat) (r p : Int) (hr : 0 ≤ r) (hD : 1 ≤ D) :
    (p < 0 ∧ gWinN c D r p = -1) ∨ (0 ≤ p ∧ min (p + r) ((D : Int) - 1) < max (p - r) 0 ∧ gWinN c D r p = -1) ∨
    ∃ lo m : Nat, 0 ≤ p ∧ max (p - r) 0 = (lo : Int) ∧ min (p + r) ((D : Int) - 1) = (lo : Int) + m ∧ lo + m < D ∧ gWinN c D r p = gUp lo (gWin (fun j => c (lo + j)) (-1) (m + 1)) := by
  by_cases h0 : p < 0
  · left; exact ⟨h0, by unfold gWinN; rw [if_pos (Or.inl h0)]⟩
  · right
    by_cases h1 : min (p + r) ((D : Int) - 1) < max (p - r) 0
    · left; exact ⟨by omega, h1, by unfold gWinN; rw [if_pos (Or.inr h1)]⟩
    · right
      obtain ⟨lo, hlo⟩ := Int.eq_ofNat_of_zero_le (show 0 ≤ max (p - r) 0 by omega)
      obtain ⟨m, hm⟩ := Int.eq_ofNat_of_zero_le (show 0 ≤ min (p + r) ((D : Int) - 1) - lo by omega)
      refine ⟨lo, m, by omega, hlo, by omega, by omega, ?_⟩
      unfold gWinN
      rw [if_neg (by omega), hlo, show min (p + r) ((D : Int) - 1) = ((lo + m : Nat) : Int) by omega, Int.toNat_natCast, Int.toNat_natCast, show lo + m + 1 - lo = m + 1 by omega]
theorem gWinN_cap (c : Nat → Nat) (D : Nat) (r p : Int) (hr : 0 ≤ r) (hr8 : r ≤ 8) (hD : 1 ≤ D) (hD8 : D ≤ 8) : gWinN c D r (min p 25) = gWinN c D r p := by
  by_cases h : p ≤ 25
  · rw [Int.min_eq_left h]
  · unfold gWinN
    rw [if_pos (by omega), if_pos (by omega)]
theorem vol_fs2 {w : World} {bx ox n L m : Nat} {xs : List Nat} (h : FSl w (some ⟨bx, ox, none⟩) n xs) (hi : L + m ≤ xs.length) : FSl w (some ⟨bx, ox + L, none⟩) m (lst m fun j => xs.getD (L + j) 0) := by
  refine ⟨by simp, fun j hj => ?_⟩
  have hj' : j < m := by simpa using hj
  obtain ⟨r, h1, h2⟩ := h.get (L + j) (by omega)
  refine ⟨bx, ox + L, r, rfl, ?_, ?_⟩
  · rw [show ox + L + j = ox + (L + j) by omega]; exact h1
  · rw [lst_get]; exact h2
theorem lst_getD {n i : Nat} {G : Nat → Nat} (h : i < n) : (lst n G).getD i 0 = G i := by
  rw [List.getD_eq_getElem?_getD, List.getElem?_eq_getElem (by simpa using h)]
  simp [lst]
theorem FE_int {a b : Int} (h : a = b) : FE .f32 (floatOfInt .f32 a) (floatOfInt .f32 b) := by subst h; exact FE.ofInt _ _
theorem FE_m1 {b : Int} (h : b = -1) : FE .f32 3212836864 (floatOfInt .f32 b) := by
  subst h
  have e : floatOfInt .f32 (-1) = 3212836864 := by decide +kernel
  rw [e]; exact FE.lit (by decide +kernel)
set_option maxRecDepth 20000 in
set_option maxHeartbeats 2000000 in
theorem I_WinnersNear_1 (W H D x y b1 b2 b3 bx ox ca cap : Nat) (a : Option Addr) (ms xs : List Nat) (r : Int) (w : World) (m1 : MP w b1 W H a ms.length ca ms) (c0 : w.cell? ⟨b2, 0, none⟩ = some (.int .i64 r)) (mv : MV w b3 W H D (some ⟨bx, ox, none⟩) xs.length cap xs)
    (hW : W ≤ 24) (hH : H ≤ 24) (hD0 : 1 ≤ D) (hD : D ≤ 8) (hr0 : 0 ≤ r) (hr8 : r ≤ 8) (hx : x < W) (hy : y < H) (hm : ms.length = W * H) (hn : xs.length = W * H * D) (hc : xs.length ≤ cap) :
    Calls Try.prog 111 #[.int .i64 x, .int .i64 y, .pointer (some ⟨b1, 0, none⟩), .pointer (some ⟨b2, 0, none⟩), .pointer (some ⟨b3, 0, none⟩)] w fun e w' =>
      (∃ q, e = .returned (.float .f32 q) ∧ FE .f32 q (floatOfInt .f32 (gWinN (fun j => xs.getD ((x + W * y) * D + j) 0) D r (gPlaceBig (ms.getD (x + W * y) 0))))) ∧ Gr w w' := by
  have hcl := vol_cell (D := D) hx hy
  have HA := Lib.hid (I_Map_at W H x y b1 _ _ ms _ m1 hW hH hx hy hm)
  have HC := Lib.hid (fun (n : Nat) => I_Volume_cell W H D x y b3 bx ox cap xs (w.drewN n) (mv.gr (gr_drewN w n)) hW hH hD0 hD hx hy hn hc)
  have hb := gPlaceBig_ge (ms.getD (x + W * y) 0)
  have HP := Lib.hid (fun (q : Nat) (u : World) (hq : FE .f32 q (ms.getD (x + W * y) 0)) => I_place q _ u hq)
  have hw := gWinN_ways (fun j => xs.getD ((x + W * y) * D + j) 0) D r (gPlaceBig (ms.getD (x + W * y) 0)) hr0 hD0
  have c2 := mv.c2
  have FX := Lib.hid mv.fs
  clear m1 mv
  generalize gWinN (fun j => xs.getD ((x + W * y) * D + j) 0) D r (gPlaceBig (ms.getD (x + W * y) 0)) = G at *
  generalize gPlaceBig (ms.getD (x + W * y) 0) = p at *
  generalize ms.getD (x + W * y) 0 = v at *
  rw [hn.symm] at hcl
  obtain ⟨L, hL⟩ : ∃ L, L = (x + W * y) * D := ⟨_, rfl⟩
  rw [← hL] at HC hw hcl
  have hn6 : xs.length ≤ 4608 := by rw [hn]; exact Nat.mul_le_mul (Nat.mul_le_mul hW hH) hD
  clear hn hL hm
  have w1 : IntKind.i64.wrap (p - r) = p - r := IntWalk.i64_in _ (by omega)
  have w2 : IntKind.i64.wrap (p + r) = p + r := IntWalk.i64_in _ (by omega)
  have w3 : IntKind.i64.wrap ((D : Int) - 1) = (D : Int) - 1 := IntWalk.i64_in _ (by omega)
  rcases hw with ⟨h0, hG⟩ | ⟨h0, h1, hG⟩ | ⟨lo, m, h0, h1, h2, h3, hG⟩
  · have HG := Lib.hid hG
    clear hG
    go_enter Try.func111, Try.ntmps111
    go_wp2_with (first
      | (go_at_call 49; with_reducible refine HA.out.mono ?_; rintro e w' ⟨r1, rfl, hr1, n, rfl⟩)
      | (go_at_call 97; with_reducible refine (HP.out _ _ (by assumption)).mono ?_; rintro e w' ⟨rfl, n, rfl⟩))
    apply region_drew 12
    case hm => kernel_rfl
    case hB => kernel_rfl
    simp only [List.take_succ_cons, List.take_zero, List.drop_succ_cons, List.drop_zero]
    repeat (first
      | (apply wpSoft_skip rfl; simp only [Act.put, List.setIfInBounds_toArray, List.set_cons_succ, List.set_cons_zero])
      | (apply wpSoft_nilCheck rfl rfl; simp only [Act.put, List.setIfInBounds_toArray, List.set_cons_succ, List.set_cons_zero])
      | ((with_reducible apply wpSoft_fop); (case hw => rfl); (case hD => exact closed_drew); (case hop => rfl); (case hx => rfl); (case hy => rfl); (case hA => (first | assumption | exact FE.ofInt _ _ | exact FE.lit (by decide +kernel))); (case hB => (first | assumption | exact FE.ofInt _ _ | exact FE.lit (by decide +kernel))); (intro r hr; simp only [Act.put, List.setIfInBounds_toArray, List.set_cons_succ, List.set_cons_zero]))

      | ((with_reducible apply wpSoft_widen); (case hw => rfl); (case hD => exact closed_drew); (case hs => exact Try.underlying25); (case hd => exact Try.underlying61); (case hx => rfl); (case hA => (first | assumption | exact FE.ofInt _ _ | exact FE.lit (by decide +kernel))); (intro r hr; simp only [Act.put, List.setIfInBounds_toArray, List.set_cons_succ, List.set_cons_zero]))
      | ((with_reducible apply wpSoft_fneg); (case hw => rfl); (case hx => rfl); (case hA => (first | assumption | exact FE.ofInt _ _ | exact FE.lit (by decide +kernel))); (intro r hr; simp only [Act.put, List.setIfInBounds_toArray, List.set_cons_succ, List.set_cons_zero]))
      | ((with_reducible apply wpSoft_fcmp); (case hw => rfl); (case hop => rfl); (case hx => rfl); (case hy => rfl); (case hA => (first | assumption | exact FE.ofInt _ _ | exact FE.lit (by decide +kernel))); (case hB => (first | assumption | exact FE.ofInt _ _ | exact FE.lit (by decide +kernel))); (case hb => (first | assumption | rfl)); simp only [Act.put, List.setIfInBounds_toArray, List.set_cons_succ, List.set_cons_zero])
      | (apply wpSoft_q rfl rfl; intro K hK; go_big_quiet_op; go_big_quiet_on))
    with_reducible apply wpSoft_nil
    intro m
    go_wp2
    all_goals
      go_ret
      exact ⟨⟨_, rfl, FE_m1 HG.out⟩, (by (try show Gr _ _); repeat (with_reducible first | exact Gr.refl _ | refine Gr.drewN ?_ _ | refine Gr.grew ?_ _ _ | refine Gr.alloc ?_ _ | refine Gr.drew ?_))⟩
  · have HG := Lib.hid hG
    clear hG
    rcases (show p < r ∨ r ≤ p by omega) with q1 | q1 <;> rcases (show p + r ≤ (D : Int) - 1 ∨ (D : Int) - 1 < p + r by omega) with q2 | q2
    all_goals try (exfalso; omega)
    all_goals
      go_enter Try.func111, Try.ntmps111
      go_wp2_with (first
      | (go_at_call 49; with_reducible refine HA.out.mono ?_; rintro e w' ⟨r1, rfl, hr1, n, rfl⟩)
      | (go_at_call 97; with_reducible refine (HP.out _ _ (by assumption)).mono ?_; rintro e w' ⟨rfl, n, rfl⟩))
      apply region_drew 12
      case hm => kernel_rfl
      case hB => kernel_rfl
      simp only [List.take_succ_cons, List.take_zero, List.drop_succ_cons, List.drop_zero]
      repeat (first
        | (apply wpSoft_skip rfl; simp only [Act.put, List.setIfInBounds_toArray, List.set_cons_succ, List.set_cons_zero])
        | (apply wpSoft_nilCheck rfl rfl; simp only [Act.put, List.setIfInBounds_toArray, List.set_cons_succ, List.set_cons_zero])
        | ((with_reducible apply wpSoft_fop); (case hw => rfl); (case hD => exact closed_drew); (case hop => rfl); (case hx => rfl); (case hy => rfl); (case hA => (first | assumption | exact FE.ofInt _ _ | exact FE.lit (by decide +kernel))); (case hB => (first | assumption | exact FE.ofInt _ _ | exact FE.lit (by decide +kernel))); (intro r hr; simp only [Act.put, List.setIfInBounds_toArray, List.set_cons_succ, List.set_cons_zero]))

        | ((with_reducible apply wpSoft_widen); (case hw => rfl); (case hD => exact closed_drew); (case hs => exact Try.underlying25); (case hd => exact Try.underlying61); (case hx => rfl); (case hA => (first | assumption | exact FE.ofInt _ _ | exact FE.lit (by decide +kernel))); (intro r hr; simp only [Act.put, List.setIfInBounds_toArray, List.set_cons_succ, List.set_cons_zero]))
        | ((with_reducible apply wpSoft_fneg); (case hw => rfl); (case hx => rfl); (case hA => (first | assumption | exact FE.ofInt _ _ | exact FE.lit (by decide +kernel))); (intro r hr; simp only [Act.put, List.setIfInBounds_toArray, List.set_cons_succ, List.set_cons_zero]))
        | ((with_reducible apply wpSoft_fcmp); (case hw => rfl); (case hop => rfl); (case hx => rfl); (case hy => rfl); (case hA => (first | assumption | exact FE.ofInt _ _ | exact FE.lit (by decide +kernel))); (case hB => (first | assumption | exact FE.ofInt _ _ | exact FE.lit (by decide +kernel))); (case hb => (first | assumption | rfl)); simp only [Act.put, List.setIfInBounds_toArray, List.set_cons_succ, List.set_cons_zero])
        | (apply wpSoft_q rfl rfl; intro K hK; go_big_quiet_op; go_big_quiet_on))
      with_reducible apply wpSoft_nil
      intro m
      go_wp2
    all_goals
      go_ret
      exact ⟨⟨_, rfl, FE_m1 HG.out⟩, (by (try show Gr _ _); repeat (with_reducible first | exact Gr.refl _ | refine Gr.drewN ?_ _ | refine Gr.grew ?_ _ _ | refine Gr.alloc ?_ _ | refine Gr.drew ?_))⟩
  · have HG := Lib.hid hG
    clear hG
    have eg : gWin (fun j => (lst (m + 1) fun j => xs.getD (L + lo + j) 0).getD j 0) (-1) (m + 1) = gWin (fun j => xs.getD (L + (lo + j)) 0) (-1) (m + 1) := gWin_congr fun j hj => by
      show (lst (m + 1) fun j => xs.getD (L + lo + j) 0).getD j 0 = _
      rw [lst_getD hj, Nat.add_assoc]
    have gr := gWin_range (fun j => xs.getD (L + (lo + j)) 0) (-1) (m + 1)
    have HWn := Lib.hid (fun (a' n' c' : Nat) (u : World) (ha : a' = ox + L + lo) (hn : n' = m + 1) (hu : ∃ n, u = w.drewN n) => (by
      obtain ⟨n, rfl⟩ := hu
      subst ha hn
      have h := I_winner (some ⟨bx, ox + L + lo, none⟩) c' (lst (m + 1) fun j => xs.getD (L + lo + j) 0) (-1) (w.drewN n) (by
        have h2 := vol_fs2 (L := L + lo) (m := m + 1) (FX.out.drewN n) (by omega)
        rw [lst_length, Nat.add_assoc]; exact h2) (by rw [lst_length]; omega)
      rw [lst_length, eg] at h
      exact h : Calls Try.prog 91 #[.slice (some ⟨bx, a', none⟩) n' c', .int .i64 (-1)] u fun e w' => e = .returned (.int .i64 (gWin (fun j => xs.getD (L + (lo + j)) 0) (-1) (m + 1))) ∧ ∃ n, w' = u.drewN n))
    clear eg
    generalize gWin (fun j => xs.getD (L + (lo + j)) 0) (-1) (m + 1) = g at *
    rcases (show p < r ∨ r ≤ p by omega) with q1 | q1 <;> rcases (show p + r ≤ (D : Int) - 1 ∨ (D : Int) - 1 < p + r by omega) with q2 | q2 <;> rcases (show g = -1 ∨ 0 ≤ g by omega) with q3 | q3
    all_goals try (exfalso; omega)
    all_goals
      go_enter Try.func111, Try.ntmps111
      go_wp2_with (first
      | (go_at_call 49; with_reducible refine HA.out.mono ?_; rintro e w' ⟨r1, rfl, hr1, n, rfl⟩)
      | (go_at_call 97; with_reducible refine (HP.out _ _ (by assumption)).mono ?_; rintro e w' ⟨rfl, n, rfl⟩))
      apply region_drew 12
      case hm => kernel_rfl
      case hB => kernel_rfl
      simp only [List.take_succ_cons, List.take_zero, List.drop_succ_cons, List.drop_zero]
      repeat (first
        | (apply wpSoft_skip rfl; simp only [Act.put, List.setIfInBounds_toArray, List.set_cons_succ, List.set_cons_zero])
        | (apply wpSoft_nilCheck rfl rfl; simp only [Act.put, List.setIfInBounds_toArray, List.set_cons_succ, List.set_cons_zero])
        | ((with_reducible apply wpSoft_fop); (case hw => rfl); (case hD => exact closed_drew); (case hop => rfl); (case hx => rfl); (case hy => rfl); (case hA => (first | assumption | exact FE.ofInt _ _ | exact FE.lit (by decide +kernel))); (case hB => (first | assumption | exact FE.ofInt _ _ | exact FE.lit (by decide +kernel))); (intro r hr; simp only [Act.put, List.setIfInBounds_toArray, List.set_cons_succ, List.set_cons_zero]))

        | ((with_reducible apply wpSoft_widen); (case hw => rfl); (case hD => exact closed_drew); (case hs => exact Try.underlying25); (case hd => exact Try.underlying61); (case hx => rfl); (case hA => (first | assumption | exact FE.ofInt _ _ | exact FE.lit (by decide +kernel))); (intro r hr; simp only [Act.put, List.setIfInBounds_toArray, List.set_cons_succ, List.set_cons_zero]))
        | ((with_reducible apply wpSoft_fneg); (case hw => rfl); (case hx => rfl); (case hA => (first | assumption | exact FE.ofInt _ _ | exact FE.lit (by decide +kernel))); (intro r hr; simp only [Act.put, List.setIfInBounds_toArray, List.set_cons_succ, List.set_cons_zero]))
        | ((with_reducible apply wpSoft_fcmp); (case hw => rfl); (case hop => rfl); (case hx => rfl); (case hy => rfl); (case hA => (first | assumption | exact FE.ofInt _ _ | exact FE.lit (by decide +kernel))); (case hB => (first | assumption | exact FE.ofInt _ _ | exact FE.lit (by decide +kernel))); (case hb => (first | assumption | rfl)); simp only [Act.put, List.setIfInBounds_toArray, List.set_cons_succ, List.set_cons_zero])
        | (apply wpSoft_q rfl rfl; intro K hK; go_big_quiet_op; go_big_quiet_on))
      with_reducible apply wpSoft_nil
      intro m
      go_wp2_with (first
      | (go_at_call 94; with_reducible refine (HC.out _).mono ?_; rintro e w' ⟨rfl, n, rfl⟩)
      | (go_at_call 91; with_reducible refine (HWn.out _ _ _ _ (by omega) (by omega) (by with_reducible first | exact ⟨_, rfl⟩ | exact drew_self _)).mono ?_; rintro e w' ⟨rfl, n, rfl⟩))
    all_goals
      go_ret
      exact ⟨⟨_, rfl, by first | exact FE_m1 (by have := HG.out; unfold gUp at this; split at this <;> omega) | exact FE_int (by have := HG.out; unfold gUp at this; split at this <;> omega)⟩, (by (try show Gr _ _); repeat (with_reducible first | exact Gr.refl _ | refine Gr.drewN ?_ _ | refine Gr.grew ?_ _ _ | refine Gr.alloc ?_ _ | refine Gr.drew ?_))⟩
end Go.Proofs.Ytomlfdkcgaogcaa
