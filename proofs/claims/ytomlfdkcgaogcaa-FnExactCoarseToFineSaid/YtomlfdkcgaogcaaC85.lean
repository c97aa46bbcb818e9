/- Contracts: the values that two maps of winners tell. MAXREC -/
import Derived.Test.YtomlfdkcgaogcaaProg
import Derived.Test.YtomlfdkcgaogcaaC84
import Derived.Test.YtomlfdkcgaogcaaC28
import Derived.Test.YtomlfdkcgaogcaaC40
namespace Go.Proofs.Ytomlfdkcgaogcaa
open Go.RowKit Go.Fx Go.Soft
theorem small_place (v : Int) (h : -1 ≤ v ∧ v < 8) : gPlaceBig (floatOfInt .f32 v) = v ∧ gHole (floatOfInt .f32 v) = decide (v < 0) := by
  have H : ∀ n : Fin 9, gPlaceBig (floatOfInt .f32 ((n.val : Int) - 1)) = (n.val : Int) - 1 ∧ gHole (floatOfInt .f32 ((n.val : Int) - 1)) = decide ((n.val : Int) - 1 < 0) := by decide +kernel
  obtain ⟨k, hk⟩ := Int.eq_ofNat_of_zero_le (show 0 ≤ v + 1 by omega)
  have := H ⟨k, by omega⟩
  simp only at this
  rw [show (k : Int) - 1 = v by omega] at this
  exact this
theorem small_place' (v : Int) (h : -1 ≤ v ∧ v < 8) : gPlace (floatOfInt .f32 v) = v := by
  unfold gPlace
  rw [(small_place v h).1]
  omega
/-- The value that both maps of winners tell. -/
def gChk (p q : Nat → Int) (W N i : Nat) : Nat :=
  if p i < 0 ∨ ((i % W : Nat) : Int) < p i then 3212836864
  else if q (i - (p i).toNat) < 0 then 3212836864
  else if gNear (floatOfInt .f32 (p i)) (floatOfInt .f32 (q (i - (p i).toNat))) N = true then floatOfInt .f32 (p i) else 3212836864
theorem gChk_ways (p q : Nat → Int) (W N i : Nat) :
    (p i < 0 ∧ gChk p q W N i = 3212836864) ∨ (0 ≤ p i ∧ ((i % W : Nat) : Int) < p i ∧ gChk p q W N i = 3212836864) ∨
    ∃ n : Nat, p i = n ∧ n ≤ i % W ∧ ((q (i - n) < 0 ∧ gChk p q W N i = 3212836864) ∨ (0 ≤ q (i - n) ∧ gNear (floatOfInt .f32 (p i)) (floatOfInt .f32 (q (i - n))) N = false ∧ gChk p q W N i = 3212836864) ∨
      (0 ≤ q (i - n) ∧ gNear (floatOfInt .f32 (p i)) (floatOfInt .f32 (q (i - n))) N = true ∧ gChk p q W N i = floatOfInt .f32 (p i))) := by
  by_cases h0 : p i < 0
  · exact .inl ⟨h0, by unfold gChk; rw [if_pos (.inl h0)]⟩
  · by_cases h1 : ((i % W : Nat) : Int) < p i
    · exact .inr (.inl ⟨by omega, h1, by unfold gChk; rw [if_pos (.inr h1)]⟩)
    · obtain ⟨n, hn⟩ := Int.eq_ofNat_of_zero_le (show 0 ≤ p i by omega)
      refine .inr (.inr ⟨n, hn, by omega, ?_⟩)
      have hE : gChk p q W N i = if q (i - n) < 0 then 3212836864 else if gNear (floatOfInt .f32 (p i)) (floatOfInt .f32 (q (i - n))) N = true then floatOfInt .f32 (p i) else 3212836864 := by
        unfold gChk
        rw [if_neg (by omega), show (p i).toNat = n by omega]
      rw [hE]
      by_cases h2 : q (i - n) < 0
      · exact .inl ⟨h2, by rw [if_pos h2]⟩
      · rw [if_neg h2]
        cases h3 : gNear (floatOfInt .f32 (p i)) (floatOfInt .f32 (q (i - n))) N
        · exact .inr (.inl ⟨by omega, rfl, by rw [if_neg (by decide)]⟩)
        · exact .inr (.inr ⟨by omega, rfl, by rw [if_pos rfl]⟩)
set_option maxRecDepth 20000 in
set_option maxHeartbeats 4000000 in
theorem I_CheckMaps_1 (W H x y b1 b2 b3 ca cb near N : Nat) (a b : Option Addr) (xs ys : List Nat) (p q : Nat → Int) (w : World) (m1 : MP w b1 W H a xs.length ca xs) (m2 : MP w b2 W H b ys.length cb ys) (c3 : w.cell? ⟨b3, 0, none⟩ = some (.float .f32 near)) (hN : FE .f32 near N)
    (hW : W ≤ 24) (hH : H ≤ 24) (hx : x < W) (hy : y < H) (hl : xs.length = W * H) (hm : ys.length = W * H) (hX : ∀ k, k < W * H → xs.getD k 0 = floatOfInt .f32 (p k)) (hY : ∀ k, k < W * H → ys.getD k 0 = floatOfInt .f32 (q k)) (hp : ∀ k, -1 ≤ p k ∧ p k < 8) (hq : ∀ k, -1 ≤ q k ∧ q k < 8) :
    Calls Try.prog 96 #[.int .i64 x, .int .i64 y, .pointer (some ⟨b1, 0, none⟩), .pointer (some ⟨b2, 0, none⟩), .pointer (some ⟨b3, 0, none⟩)] w fun e w' => (∃ r, e = .returned (.float .f32 r) ∧ FE .f32 r (gChk p q W N (x + W * y))) ∧ Gr w w' := by
  have hw := gChk_ways p q W N (x + W * y)
  have hmod : (x + W * y) % W = x := by rw [Nat.add_mul_mod_self_left, Nat.mod_eq_of_lt hx]
  rw [hmod] at hw
  have HL := fun (u : World) (g : Gr w u) => I_Map_at W H x y b1 a ca xs u (m1.gr g) hW hH hx hy hl
  rw [hX _ (cell_lt hx hy)] at HL
  have hp' := hp (x + W * y)
  have h1 := small_place _ hp'
  have HR := fun (n : Nat) (hn : n ≤ x) (u : World) (g : Gr w u) => I_Map_at W H (x - n) y b2 b cb ys u (m2.gr g) hW hH (show x - n < W by omega) hy hm
  obtain ⟨G, hG⟩ : ∃ G, G = gChk p q W N (x + W * y) := ⟨_, rfl⟩
  rw [← hG] at hw ⊢
  obtain ⟨pk, hpk⟩ : ∃ pk, pk = p (x + W * y) := ⟨_, rfl⟩
  rw [← hpk] at hw h1 hp' HL
  obtain ⟨o, ho⟩ : ∃ o, o = floatOfInt .f32 pk := ⟨_, rfl⟩
  have hfo : FE .f32 o o := by rw [ho]; exact FE.ofInt _ _
  rw [← ho] at hw h1 HL
  obtain ⟨hP, hT⟩ := h1
  have HPl := Lib.hid (fun (r : Nat) (u : World) (h : FE .f32 r o) => (by have := I_place r o u h; rwa [hP] at this : Calls Try.prog 97 #[.float .f32 r] u fun e w' => e = .returned (.int .i64 pk) ∧ ∃ n, w' = u.drewN n))
  have HL := Lib.hid HL
  clear hG hpk ho hP hX hp m1
  rcases hw with ⟨h0, rfl⟩ | ⟨h0, h1, rfl⟩ | ⟨n, rfl, hn, hw⟩
  · rw [decide_eq_true h0] at hT
    clear HR hY hq
    go_enter Try.func96, Try.ntmps96
    go_wp2_with (first
      | (go_at_call 49; refine (HL.out _ (by (try show Gr _ _); repeat (with_reducible first | exact Gr.refl _ | refine Gr.drewN ?_ _ | refine Gr.grew ?_ _ _ | refine Gr.alloc ?_ _ | refine Gr.drew ?_))).mono ?_; rintro e w' ⟨r, rfl, hr, n, rfl⟩)
      | (go_at_call 97; refine (HPl.out _ _ hr).mono ?_; rintro e w' ⟨rfl, n, rfl⟩))
    apply region_drew 24
    case hm => kernel_rfl
    case hB => kernel_rfl
    simp only [List.take_succ_cons, List.take_zero, List.drop_succ_cons, List.drop_zero]
    repeat (first
      | ((with_reducible apply wpSoft_calleq (f := 79)); (case hw => rfl); (case hc => exact Try.call79); (case hv => ((conv => lhs; simp [Act.eval]); try rfl)); (case hS => (rintro _ ⟨m, rfl⟩; with_reducible refine (I_isHole _ _ _ (by assumption)).mono ?_; rintro e w' ⟨rfl, n, rfl⟩; exact ⟨rfl, ⟨_, World.drewN_drewN _ _ _⟩⟩)); (simp only [Act.put, List.setIfInBounds_toArray, List.set_cons_succ, List.set_cons_zero]; try simp only [hT]))
      | (apply wpSoft_skip rfl; simp only [Act.put, List.setIfInBounds_toArray, List.set_cons_succ, List.set_cons_zero])
      | (apply wpSoft_nilCheck rfl rfl; simp only [Act.put, List.setIfInBounds_toArray, List.set_cons_succ, List.set_cons_zero])
      | ((with_reducible apply wpSoft_fop); (case hw => rfl); (case hD => exact closed_drew); (case hop => rfl); (case hx => rfl); (case hy => rfl); (case hA => (first | assumption | exact FE.ofInt _ _ | exact FE.lit (by decide +kernel))); (case hB => (first | assumption | exact FE.ofInt _ _ | exact FE.lit (by decide +kernel))); (intro r hr; simp only [Act.put, List.setIfInBounds_toArray, List.set_cons_succ, List.set_cons_zero]))

      | ((with_reducible apply wpSoft_widen); (case hw => rfl); (case hD => exact closed_drew); (case hs => exact Try.underlying25); (case hd => exact Try.underlying61); (case hx => rfl); (case hA => (first | assumption | exact FE.ofInt _ _ | exact FE.lit (by decide +kernel))); (intro r hr; simp only [Act.put, List.setIfInBounds_toArray, List.set_cons_succ, List.set_cons_zero]))
      | ((with_reducible apply wpSoft_fneg); (case hw => rfl); (case hx => rfl); (case hA => (first | assumption | exact FE.ofInt _ _ | exact FE.lit (by decide +kernel))); (intro r hr; simp only [Act.put, List.setIfInBounds_toArray, List.set_cons_succ, List.set_cons_zero]))
      | ((with_reducible apply wpSoft_fcmp); (case hw => rfl); (case hop => rfl); (case hx => rfl); (case hy => rfl); (case hA => (first | assumption | exact FE.ofInt _ _ | exact FE.lit (by decide +kernel))); (case hB => (first | assumption | exact FE.ofInt _ _ | exact FE.lit (by decide +kernel))); (case hb => (first | assumption | rfl)); simp only [Act.put, List.setIfInBounds_toArray, List.set_cons_succ, List.set_cons_zero])
      | (apply wpSoft_q rfl rfl; intro K hK; go_big_quiet_op; go_big_quiet_on))
    with_reducible apply wpSoft_nil
    intro m
    go_wp2
    go_ret
    exact ⟨⟨_, rfl, FE.lit (by decide +kernel)⟩, (by (try show Gr _ _); repeat (with_reducible first | exact Gr.refl _ | refine Gr.drewN ?_ _ | refine Gr.grew ?_ _ _ | refine Gr.alloc ?_ _ | refine Gr.drew ?_))⟩
  · have hT' : gHole o = false := by rw [hT]; simp; omega
    clear HR hY hq hT
    go_enter Try.func96, Try.ntmps96
    go_wp2_with (first
      | (go_at_call 49; refine (HL.out _ (by (try show Gr _ _); repeat (with_reducible first | exact Gr.refl _ | refine Gr.drewN ?_ _ | refine Gr.grew ?_ _ _ | refine Gr.alloc ?_ _ | refine Gr.drew ?_))).mono ?_; rintro e w' ⟨r, rfl, hr, n, rfl⟩)
      | (go_at_call 97; refine (HPl.out _ _ hr).mono ?_; rintro e w' ⟨rfl, n, rfl⟩))
    apply region_drew 24
    case hm => kernel_rfl
    case hB => kernel_rfl
    simp only [List.take_succ_cons, List.take_zero, List.drop_succ_cons, List.drop_zero]
    repeat (first
      | ((with_reducible apply wpSoft_calleq (f := 79)); (case hw => rfl); (case hc => exact Try.call79); (case hv => ((conv => lhs; simp [Act.eval]); try rfl)); (case hS => (rintro _ ⟨m, rfl⟩; with_reducible refine (I_isHole _ _ _ (by assumption)).mono ?_; rintro e w' ⟨rfl, n, rfl⟩; exact ⟨rfl, ⟨_, World.drewN_drewN _ _ _⟩⟩)); (simp only [Act.put, List.setIfInBounds_toArray, List.set_cons_succ, List.set_cons_zero]; try simp only [hT']))
      | (apply wpSoft_skip rfl; simp only [Act.put, List.setIfInBounds_toArray, List.set_cons_succ, List.set_cons_zero])
      | (apply wpSoft_nilCheck rfl rfl; simp only [Act.put, List.setIfInBounds_toArray, List.set_cons_succ, List.set_cons_zero])
      | ((with_reducible apply wpSoft_fop); (case hw => rfl); (case hD => exact closed_drew); (case hop => rfl); (case hx => rfl); (case hy => rfl); (case hA => (first | assumption | exact FE.ofInt _ _ | exact FE.lit (by decide +kernel))); (case hB => (first | assumption | exact FE.ofInt _ _ | exact FE.lit (by decide +kernel))); (intro r hr; simp only [Act.put, List.setIfInBounds_toArray, List.set_cons_succ, List.set_cons_zero]))

      | ((with_reducible apply wpSoft_widen); (case hw => rfl); (case hD => exact closed_drew); (case hs => exact Try.underlying25); (case hd => exact Try.underlying61); (case hx => rfl); (case hA => (first | assumption | exact FE.ofInt _ _ | exact FE.lit (by decide +kernel))); (intro r hr; simp only [Act.put, List.setIfInBounds_toArray, List.set_cons_succ, List.set_cons_zero]))
      | ((with_reducible apply wpSoft_fneg); (case hw => rfl); (case hx => rfl); (case hA => (first | assumption | exact FE.ofInt _ _ | exact FE.lit (by decide +kernel))); (intro r hr; simp only [Act.put, List.setIfInBounds_toArray, List.set_cons_succ, List.set_cons_zero]))
      | ((with_reducible apply wpSoft_fcmp); (case hw => rfl); (case hop => rfl); (case hx => rfl); (case hy => rfl); (case hA => (first | assumption | exact FE.ofInt _ _ | exact FE.lit (by decide +kernel))); (case hB => (first | assumption | exact FE.ofInt _ _ | exact FE.lit (by decide +kernel))); (case hb => (first | assumption | rfl)); simp only [Act.put, List.setIfInBounds_toArray, List.set_cons_succ, List.set_cons_zero])
      | (apply wpSoft_q rfl rfl; intro K hK; go_big_quiet_op; go_big_quiet_on))
    with_reducible apply wpSoft_nil
    intro m
    go_wp2
    go_ret
    exact ⟨⟨_, rfl, FE.lit (by decide +kernel)⟩, (by (try show Gr _ _); repeat (with_reducible first | exact Gr.refl _ | refine Gr.drewN ?_ _ | refine Gr.grew ?_ _ _ | refine Gr.alloc ?_ _ | refine Gr.drew ?_))⟩
  · have hT' : gHole o = false := by rw [hT]; simp
    have hij : x + W * y - n = x - n + W * y := by omega
    have hnx : ¬ x < n := by omega
    have hnx' : ¬ (x : Int) < (n : Int) := by omega
    have HR := HR n hn
    rw [hY _ (cell_lt (show x - n < W by omega) hy), show ((x - n : Nat) : Int) = (x : Int) - (n : Int) by omega] at HR
    have h2 := small_place _ (hq (x - n + W * y))
    rw [hij] at hw
    obtain ⟨qk, hqk⟩ : ∃ qk, qk = q (x - n + W * y) := ⟨_, rfl⟩
    rw [← hqk] at hw h2 HR
    obtain ⟨z, hz⟩ : ∃ z, z = floatOfInt .f32 qk := ⟨_, rfl⟩
    rw [← hz] at hw h2 HR
    have h2 := h2.2
    have HR := Lib.hid HR
    clear hqk hz hY hq hT hij
    rcases hw with ⟨g0, rfl⟩ | ⟨g0, g1, rfl⟩ | ⟨g0, g1, rfl⟩
    · rw [decide_eq_true g0] at h2
      go_enter Try.func96, Try.ntmps96
      go_wp2_with (first
      | (go_at_call 49; refine (HL.out _ (by (try show Gr _ _); repeat (with_reducible first | exact Gr.refl _ | refine Gr.drewN ?_ _ | refine Gr.grew ?_ _ _ | refine Gr.alloc ?_ _ | refine Gr.drew ?_))).mono ?_; rintro e w' ⟨r, rfl, hr, n, rfl⟩)
      | (go_at_call 97; refine (HPl.out _ _ hr).mono ?_; rintro e w' ⟨rfl, n, rfl⟩))
      apply region_drew 24
      case hm => kernel_rfl
      case hB => kernel_rfl
      simp only [List.take_succ_cons, List.take_zero, List.drop_succ_cons, List.drop_zero]
      repeat (first
        | ((with_reducible apply wpSoft_calleq (f := 79)); (case hw => rfl); (case hc => exact Try.call79); (case hv => ((conv => lhs; simp [Act.eval]); try rfl)); (case hS => (rintro _ ⟨m, rfl⟩; with_reducible refine (I_isHole _ _ _ (by assumption)).mono ?_; rintro e w' ⟨rfl, n, rfl⟩; exact ⟨rfl, ⟨_, World.drewN_drewN _ _ _⟩⟩)); (simp only [Act.put, List.setIfInBounds_toArray, List.set_cons_succ, List.set_cons_zero]; try simp only [hT', h2]))
        | ((with_reducible apply wpSoft_callf (f := 49)); (case hw => rfl); (case hc => exact Try.call49); (case hv => ((conv => lhs; simp [Act.eval]); try rfl)); (case hS => (rintro _ ⟨m, rfl⟩; refine (HR.out _ (by (try show Gr _ _); repeat (with_reducible first | exact Gr.refl _ | refine Gr.drewN ?_ _ | refine Gr.grew ?_ _ _ | refine Gr.alloc ?_ _ | refine Gr.drew ?_))).mono ?_; rintro e w' ⟨r, rfl, hr, n, rfl⟩; exact ⟨_, rfl, hr, ⟨_, World.drewN_drewN _ _ _⟩⟩)); (intro r hr; simp only [Act.put, List.setIfInBounds_toArray, List.set_cons_succ, List.set_cons_zero]))
        | (apply wpSoft_skip rfl; simp only [Act.put, List.setIfInBounds_toArray, List.set_cons_succ, List.set_cons_zero])
        | (apply wpSoft_nilCheck rfl rfl; simp only [Act.put, List.setIfInBounds_toArray, List.set_cons_succ, List.set_cons_zero])
        | ((with_reducible apply wpSoft_fop); (case hw => rfl); (case hD => exact closed_drew); (case hop => rfl); (case hx => rfl); (case hy => rfl); (case hA => (first | assumption | exact FE.ofInt _ _ | exact FE.lit (by decide +kernel))); (case hB => (first | assumption | exact FE.ofInt _ _ | exact FE.lit (by decide +kernel))); (intro r hr; simp only [Act.put, List.setIfInBounds_toArray, List.set_cons_succ, List.set_cons_zero]))

        | ((with_reducible apply wpSoft_widen); (case hw => rfl); (case hD => exact closed_drew); (case hs => exact Try.underlying25); (case hd => exact Try.underlying61); (case hx => rfl); (case hA => (first | assumption | exact FE.ofInt _ _ | exact FE.lit (by decide +kernel))); (intro r hr; simp only [Act.put, List.setIfInBounds_toArray, List.set_cons_succ, List.set_cons_zero]))
        | ((with_reducible apply wpSoft_fneg); (case hw => rfl); (case hx => rfl); (case hA => (first | assumption | exact FE.ofInt _ _ | exact FE.lit (by decide +kernel))); (intro r hr; simp only [Act.put, List.setIfInBounds_toArray, List.set_cons_succ, List.set_cons_zero]))
        | ((with_reducible apply wpSoft_fcmp); (case hw => rfl); (case hop => rfl); (case hx => rfl); (case hy => rfl); (case hA => (first | assumption | exact FE.ofInt _ _ | exact FE.lit (by decide +kernel))); (case hB => (first | assumption | exact FE.ofInt _ _ | exact FE.lit (by decide +kernel))); (case hb => (first | assumption | rfl)); simp only [Act.put, List.setIfInBounds_toArray, List.set_cons_succ, List.set_cons_zero])
        | (apply wpSoft_q rfl rfl; intro K hK; go_big_quiet_op; go_big_quiet_on))
      with_reducible apply wpSoft_nil
      intro m
      go_wp2
      go_ret
      exact ⟨⟨_, rfl, FE.lit (by decide +kernel)⟩, (by (try show Gr _ _); repeat (with_reducible first | exact Gr.refl _ | refine Gr.drewN ?_ _ | refine Gr.grew ?_ _ _ | refine Gr.alloc ?_ _ | refine Gr.drew ?_))⟩
    all_goals
      replace h2 : gHole z = false := by rw [h2]; simp; omega
      go_enter Try.func96, Try.ntmps96
      go_wp2_with (first
      | (go_at_call 49; refine (HL.out _ (by (try show Gr _ _); repeat (with_reducible first | exact Gr.refl _ | refine Gr.drewN ?_ _ | refine Gr.grew ?_ _ _ | refine Gr.alloc ?_ _ | refine Gr.drew ?_))).mono ?_; rintro e w' ⟨r, rfl, hr, n, rfl⟩)
      | (go_at_call 97; refine (HPl.out _ _ hr).mono ?_; rintro e w' ⟨rfl, n, rfl⟩))
      apply region_drew 24
      case hm => kernel_rfl
      case hB => kernel_rfl
      simp only [List.take_succ_cons, List.take_zero, List.drop_succ_cons, List.drop_zero]
      repeat (first
        | ((with_reducible apply wpSoft_calleq (f := 79)); (case hw => rfl); (case hc => exact Try.call79); (case hv => ((conv => lhs; simp [Act.eval]); try rfl)); (case hS => (rintro _ ⟨m, rfl⟩; with_reducible refine (I_isHole _ _ _ (by assumption)).mono ?_; rintro e w' ⟨rfl, n, rfl⟩; exact ⟨rfl, ⟨_, World.drewN_drewN _ _ _⟩⟩)); (simp only [Act.put, List.setIfInBounds_toArray, List.set_cons_succ, List.set_cons_zero]; try simp only [hT', h2]))
        | ((with_reducible apply wpSoft_callf (f := 49)); (case hw => rfl); (case hc => exact Try.call49); (case hv => ((conv => lhs; simp [Act.eval]); try rfl)); (case hS => (rintro _ ⟨m, rfl⟩; refine (HR.out _ (by (try show Gr _ _); repeat (with_reducible first | exact Gr.refl _ | refine Gr.drewN ?_ _ | refine Gr.grew ?_ _ _ | refine Gr.alloc ?_ _ | refine Gr.drew ?_))).mono ?_; rintro e w' ⟨r, rfl, hr, n, rfl⟩; exact ⟨_, rfl, hr, ⟨_, World.drewN_drewN _ _ _⟩⟩)); (intro rz hrz; simp only [Act.put, List.setIfInBounds_toArray, List.set_cons_succ, List.set_cons_zero]))
        | ((with_reducible apply wpSoft_calleq (f := 98)); (case hw => rfl); (case hc => exact Try.call98); (case hv => ((conv => lhs; simp [Act.eval]); try rfl)); (case hS => (rintro _ ⟨m, rfl⟩; with_reducible refine (I_nearTo _ _ _ _ _ _ _ hr hrz hN).mono ?_; rintro e w' ⟨rfl, n, rfl⟩; exact ⟨rfl, ⟨_, World.drewN_drewN _ _ _⟩⟩)); (simp only [Act.put, List.setIfInBounds_toArray, List.set_cons_succ, List.set_cons_zero]; try simp only [g1]))
        | (apply wpSoft_skip rfl; simp only [Act.put, List.setIfInBounds_toArray, List.set_cons_succ, List.set_cons_zero])
        | (apply wpSoft_nilCheck rfl rfl; simp only [Act.put, List.setIfInBounds_toArray, List.set_cons_succ, List.set_cons_zero])
        | ((with_reducible apply wpSoft_fop); (case hw => rfl); (case hD => exact closed_drew); (case hop => rfl); (case hx => rfl); (case hy => rfl); (case hA => (first | assumption | exact FE.ofInt _ _ | exact FE.lit (by decide +kernel))); (case hB => (first | assumption | exact FE.ofInt _ _ | exact FE.lit (by decide +kernel))); (intro r hr; simp only [Act.put, List.setIfInBounds_toArray, List.set_cons_succ, List.set_cons_zero]))

        | ((with_reducible apply wpSoft_widen); (case hw => rfl); (case hD => exact closed_drew); (case hs => exact Try.underlying25); (case hd => exact Try.underlying61); (case hx => rfl); (case hA => (first | assumption | exact FE.ofInt _ _ | exact FE.lit (by decide +kernel))); (intro r hr; simp only [Act.put, List.setIfInBounds_toArray, List.set_cons_succ, List.set_cons_zero]))
        | ((with_reducible apply wpSoft_fneg); (case hw => rfl); (case hx => rfl); (case hA => (first | assumption | exact FE.ofInt _ _ | exact FE.lit (by decide +kernel))); (intro r hr; simp only [Act.put, List.setIfInBounds_toArray, List.set_cons_succ, List.set_cons_zero]))
        | ((with_reducible apply wpSoft_fcmp); (case hw => rfl); (case hop => rfl); (case hx => rfl); (case hy => rfl); (case hA => (first | assumption | exact FE.ofInt _ _ | exact FE.lit (by decide +kernel))); (case hB => (first | assumption | exact FE.ofInt _ _ | exact FE.lit (by decide +kernel))); (case hb => (first | assumption | rfl)); simp only [Act.put, List.setIfInBounds_toArray, List.set_cons_succ, List.set_cons_zero])
        | (apply wpSoft_q rfl rfl; intro K hK; go_big_quiet_op; go_big_quiet_on))
      with_reducible apply wpSoft_nil
      intro m
      go_wp2
      go_ret
      exact ⟨⟨_, rfl, by first | exact FE.lit (by decide +kernel) | assumption⟩, (by (try show Gr _ _); repeat (with_reducible first | exact Gr.refl _ | refine Gr.drewN ?_ _ | refine Gr.grew ?_ _ _ | refine Gr.alloc ?_ _ | refine Gr.drew ?_))⟩
end Go.Proofs.Ytomlfdkcgaogcaa
