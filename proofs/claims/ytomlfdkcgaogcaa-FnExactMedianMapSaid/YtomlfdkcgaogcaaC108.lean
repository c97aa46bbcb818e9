/- Contracts: the comparison of two numbers, as the sort asks for it; parts that change places. MAXREC -/
import Derived.Test.YtomlfdkcgaogcaaProg
import Derived.Test.YtomlfdkcgaogcaaC107
import Derived.Test.YtomlfdkcgaogcaaFk
import Derived.Test.YtomlfdkcgaogcaaWk2
namespace Go.Fx
open Go Go.Soft Go.RowKit Go.Sort
/-- Less, more or neither. -/
def cfF (x y : Nat) : Int := if fkey x < fkey y then -1 else if fkey y < fkey x then 1 else 0
theorem gtr_key {x y : Nat} (hx : isN .f32 x = false) (hy : isN .f32 y = false) : fcmp .gtr .f32 x y = decide (fkey y < fkey x) := by
  unfold fcmp
  show (Ieee.single.order x y == some .gt) = _
  rw [order_key hx hy]
  by_cases h : fkey y < fkey x
  · rw [Int.compare_eq_gt.2 h, decide_eq_true h]; rfl
  · rw [decide_eq_false h]
    have h2 : ¬ compare (fkey x) (fkey y) = .gt := fun e => h (Int.compare_eq_gt.1 e)
    cases hc : compare (fkey x) (fkey y)
    · rfl
    · rfl
    · exact absurd hc h2
theorem cfF_lss (x y : Nat) : decide (cfF x y < 0) = decide (fkey x < fkey y) := by
  unfold cfF
  by_cases h : fkey x < fkey y
  · simp [h]
  · by_cases h2 : fkey y < fkey x <;> simp [h, h2]
end Go.Fx
namespace Go.Proofs.Ytomlfdkcgaogcaa
open Go.RowKit Go.Fx Go.Soft Go.Sort
set_option maxRecDepth 20000 in
set_option maxHeartbeats 1000000 in
theorem I_cmpNaN (x : Nat) (w : World) (hx : FE .f32 x x) (hn : isN .f32 x = false) :
    Calls Try.prog 131 #[.float .f32 x] w fun e w' => e = .returned (.bool false) ∧ ∃ n, w' = w.drewN n := by
  have c1 : fcmp .neq .f32 x x = false := fcmp_neq_self hn
  go_enter Try.func131, Try.ntmps131
  go_wp2_with (first
      | ((with_reducible apply wpList_fop); (case hw => rfl); (case hop => rfl); (case hx => rfl); (case hy => rfl); (case hA => (first | assumption | exact FE.ofInt _ _ | exact FE.lit (by decide +kernel))); (case hB => (first | assumption | exact FE.ofInt _ _ | exact FE.lit (by decide +kernel))); intro r n hr)
      | ((with_reducible apply wpList_fcmp); (case hw => rfl); (case hop => rfl); (case hx => rfl); (case hy => rfl); (case hA => (first | assumption | exact FE.ofInt _ _ | exact FE.lit (by decide +kernel))); (case hB => (first | assumption | exact FE.ofInt _ _ | exact FE.lit (by decide +kernel))); (case hb => (first | assumption | rfl)))
      | ((with_reducible apply wpList_widen); (case hw => rfl); (case hs => exact Try.underlying25); (case hd => exact Try.underlying61); (case hx => rfl); (case hA => (first | assumption | exact FE.ofInt _ _ | exact FE.lit (by decide +kernel))); intro r n hr)
      | ((with_reducible apply wpList_fneg); (case hw => rfl); (case hx => rfl); (case hA => (first | assumption | exact FE.ofInt _ _ | exact FE.lit (by decide +kernel))); intro r hr))
  go_ret
  exact ⟨rfl, (by first | exact ⟨0, rfl⟩ | exact ⟨_, rfl⟩)⟩
set_option maxRecDepth 20000 in
set_option maxHeartbeats 1000000 in
theorem I_cmpCompare (x y : Nat) (w : World) (hx : FE .f32 x x) (hnx : isN .f32 x = false) (hy : FE .f32 y y) (hny : isN .f32 y = false) :
    Calls Try.prog 118 #[.float .f32 x, .float .f32 y] w fun e w' => e = .returned (.int .i64 (cfF x y)) ∧ ∃ n, w' = w.drewN n := by
  have c1 := lss_key hnx hny
  have c2 : fcmp .gtr .f32 x y = decide (fkey y < fkey x) := gtr_key hnx hny
  have eC : cfF x y = if fkey x < fkey y then -1 else if fkey y < fkey x then 1 else 0 := rfl
  have h3 : (fcmp .lss .f32 x y = true ∧ cfF x y = -1) ∨ (fcmp .lss .f32 x y = false ∧ fcmp .gtr .f32 x y = true ∧ cfF x y = 1) ∨ (fcmp .lss .f32 x y = false ∧ fcmp .gtr .f32 x y = false ∧ cfF x y = 0) := by
    rw [c1, c2, eC]
    by_cases h : fkey x < fkey y
    · left; simp [h]
    · by_cases h2 : fkey y < fkey x
      · right; left; simp [h, h2]
      · right; right; simp [h, h2]
  clear c1 c2 eC
  rcases h3 with ⟨t1, t3⟩ | ⟨t1, t2, t3⟩ | ⟨t1, t2, t3⟩
  all_goals
    have T3 := Lib.hid t3
    clear t3
    go_enter Try.func118, Try.ntmps118
    go_wp2_with (first
      | (go_at_call 131; (first | refine (I_cmpNaN x _ hx hnx).mono ?_ | refine (I_cmpNaN y _ hy hny).mono ?_); rintro e w' ⟨rfl, n, rfl⟩)
      | ((with_reducible apply wpList_fop); (case hw => rfl); (case hop => rfl); (case hx => rfl); (case hy => rfl); (case hA => (first | assumption | exact FE.ofInt _ _ | exact FE.lit (by decide +kernel))); (case hB => (first | assumption | exact FE.ofInt _ _ | exact FE.lit (by decide +kernel))); intro r n hr)
      | ((with_reducible apply wpList_fcmp); (case hw => rfl); (case hop => rfl); (case hx => rfl); (case hy => rfl); (case hA => (first | assumption | exact FE.ofInt _ _ | exact FE.lit (by decide +kernel))); (case hB => (first | assumption | exact FE.ofInt _ _ | exact FE.lit (by decide +kernel))); (case hb => (first | assumption | rfl)))
      | ((with_reducible apply wpList_widen); (case hw => rfl); (case hs => exact Try.underlying25); (case hd => exact Try.underlying61); (case hx => rfl); (case hA => (first | assumption | exact FE.ofInt _ _ | exact FE.lit (by decide +kernel))); intro r n hr)
      | ((with_reducible apply wpList_fneg); (case hw => rfl); (case hx => rfl); (case hA => (first | assumption | exact FE.ofInt _ _ | exact FE.lit (by decide +kernel))); intro r hr))
    go_ret
    exact ⟨by rw [T3.out]; rfl, (by first | exact ⟨0, rfl⟩ | exact ⟨_, rfl⟩)⟩
set_option maxRecDepth 20000 in
set_option maxHeartbeats 1000000 in
theorem I_median_2 (x y : Nat) (w : World) (hx : FE .f32 x x) (hnx : isN .f32 x = false) (hy : FE .f32 y y) (hny : isN .f32 y = false) :
    Calls Try.prog 117 #[.float .f32 x, .float .f32 y] w fun e w' => e = .returned (.int .i64 (cfF x y)) ∧ ∃ n, w' = w.drewN n := by
  go_enter Try.func117, Try.ntmps117
  go_wp2_with fail
  refine (I_cmpCompare x y _ hx hnx hy hny).mono ?_
  rintro e w' ⟨rfl, n, rfl⟩
  go_wp2
  go_ret
  exact ⟨rfl, (by first | exact ⟨0, rfl⟩ | exact ⟨_, rfl⟩)⟩
set_option maxRecDepth 20000 in
set_option maxHeartbeats 8000000 in
theorem I_rotate (w0 : World) (g n0 cap a m b : Nat) (d : Array (Nat × Nat)) (w : World) (f : Value) (S : SRow w0 g n0 d w) (ham : a < m) (hmb : m < b) (hb : b ≤ n0) (hn : n0 ≤ 4096) :
    Calls Try.prog 139 #[.slice (some ⟨g, 0, none⟩) n0 cap, .int .i64 a, .int .i64 m, .int .i64 b, f] w fun e w' => e = .returned (.tuple #[]) ∧ ∃ d', SRow w0 g n0 d' w' ∧ PermIn a b d d' ∧ ∀ p, d'[p]! = d[rotI a m b p]! := by
  have HS := Lib.hid S
  clear S
  obtain ⟨i0, hi0⟩ : ∃ i0, i0 = m - a := ⟨_, rfl⟩
  obtain ⟨j0, hj0⟩ : ∃ j0, j0 = b - m := ⟨_, rfl⟩
  have ei : (m : Int) - (a : Int) = (i0 : Int) := by omega
  have ej : (b : Int) - (m : Int) = (j0 : Int) := by omega
  have wi : IntKind.i64.wrap (i0 : Int) = (i0 : Int) := IntWalk.i64_in _ (by omega)
  have wj : IntKind.i64.wrap (j0 : Int) = (j0 : Int) := IntWalk.i64_in _ (by omega)
  have HI := Lib.hid hi0
  have HJ := Lib.hid hj0
  have hp1 : 0 < i0 := by omega
  have hp2 : 0 < j0 := by omega
  clear hi0 hj0
  go_enter Try.func139, Try.ntmps139
  go_wp2
  go_loopg [10, 11] (i0 + j0) (fun g1 s t wr => ∃ (i j : Nat) (e : Array (Nat × Nat)), s = .int .i64 i ∧ t = .int .i64 j ∧ 0 < i ∧ 0 < j ∧ a + i ≤ m ∧ m + j ≤ b ∧ g1 = i + j ∧ SRow w0 g n0 e wr ∧ Hid (PermIn a b d e) ∧ Hid (∀ p, e[rotI (m - i) m (m + j) p]! = d[rotI a m b p]!))
  case atStart => exact ⟨i0, j0, d, rfl, rfl, hp1, hp2, by have := HI.out; omega, by have := HJ.out; omega, rfl, HS.out, permIn_refl d _ _, fun p => by rw [show m - i0 = a by have := HI.out; omega, show m + j0 = b by have := HJ.out; omega]⟩
  case round =>
    clear ei ej wi wj HI HJ
    obtain ⟨i, j, e, rfl, rfl, h1, h2, h3, h4, rfl, hs, hp, hq⟩ := hrel
    obtain ⟨x, hx⟩ : ∃ x, x = m - i := ⟨_, rfl⟩
    have ex : (m : Int) - (i : Int) = (x : Int) := by omega
    have wx : IntKind.i64.wrap (x : Int) = (x : Int) := IntWalk.i64_in _ (by omega)
    have HX := Lib.hid hx
    have hE := hs.size
    have HE := Lib.hid hE
    have HSR := Lib.hid hs
    clear hx hE hs
    by_cases hij : i = j
    · subst hij
      have hsw := I_swapRange w0 g n0 cap x m i e wr f HSR.out (by have := HX.out; omega) (by omega) hn
      have HC := Lib.hid hsw
      clear hsw
      go_wp2_with fail
      refine HC.out.mono ?_
      rintro e' w' ⟨rfl, d', s', p', q'⟩
      have S1 := Lib.hid s'
      clear s'
      go_wp2
      refine bodyPost_end (v := .tuple #[]) (by simp [results, Try.results139, go_sem]) rfl ⟨rfl, d', S1.out, ?_, ?_⟩
      · exact permIn_trans _ _ _ _ _ hp.out (permIn_mono _ _ _ _ _ _ (by have := HX.out; omega) (by omega) (by rw [HE.out]; exact hb) p')
      · intro p
        rw [q', HX.out, rot_last (by omega), hq.out]
    · by_cases hgt : j < i
      · have eij : (i : Int) - (j : Int) = ((i - j : Nat) : Int) := by omega
        have wij : IntKind.i64.wrap ((i - j : Nat) : Int) = ((i - j : Nat) : Int) := IntWalk.i64_in _ (by omega)
        have nij : ¬ (i : Int) = (j : Int) := by omega
        have hsw := I_swapRange w0 g n0 cap x m j e wr f HSR.out (by have := HX.out; omega) (by omega) hn
        have HC := Lib.hid hsw
        clear hsw
        go_wp2_with fail
        refine HC.out.mono ?_
        rintro e' w' ⟨rfl, d', s', p', q'⟩
        have S1 := Lib.hid s'
        have Q1 := Lib.hid q'
        have P1 := Lib.hid p'
        clear s' q' p'
        go_wp2
        go_roundg ((i - j) + j)
        case measure => omega
        case rel =>
          refine ⟨i - j, j, d', by go_num, rfl, by omega, h2, by omega, h4, rfl, S1.out, permIn_trans _ _ _ _ _ hp.out (permIn_mono _ _ _ _ _ _ (by have := HX.out; omega) (by omega) (by rw [HE.out]; exact hb) P1.out), ?_⟩
          intro p
          rw [Q1.out, HX.out, rot_step1 hgt (by omega) h2, hq.out]
      · have hlt : i < j := by omega
        obtain ⟨y, hy⟩ : ∃ y, y = m + j - i := ⟨_, rfl⟩
        have ey : (m : Int) + (j : Int) - (i : Int) = (y : Int) := by omega
        have wy : IntKind.i64.wrap (y : Int) = (y : Int) := IntWalk.i64_in _ (by omega)
        have wmj : IntKind.i64.wrap ((m : Int) + (j : Int)) = (m : Int) + (j : Int) := IntWalk.i64_in _ (by omega)
        have eij : (j : Int) - (i : Int) = ((j - i : Nat) : Int) := by omega
        have wij : IntKind.i64.wrap ((j - i : Nat) : Int) = ((j - i : Nat) : Int) := IntWalk.i64_in _ (by omega)
        have nij : ¬ (i : Int) = (j : Int) := by omega
        have HY := Lib.hid hy
        have hsw := I_swapRange w0 g n0 cap x y i e wr f HSR.out (by have := HX.out; omega) (by omega) hn
        have HC := Lib.hid hsw
        clear hsw hy
        go_wp2_with fail
        refine HC.out.mono ?_
        rintro e' w' ⟨rfl, d', s', p', q'⟩
        have S1 := Lib.hid s'
        have Q1 := Lib.hid q'
        have P1 := Lib.hid p'
        clear s' q' p'
        go_wp2
        go_roundg (i + (j - i))
        case measure => omega
        case rel =>
          refine ⟨i, j - i, d', rfl, by go_num, h1, by omega, h3, by omega, rfl, S1.out, permIn_trans _ _ _ _ _ hp.out (permIn_mono _ _ _ _ _ _ (by have := HX.out; omega) (by have := HY.out; omega) (by rw [HE.out]; exact hb) P1.out), ?_⟩
          intro p
          rw [Q1.out, HX.out, HY.out, rot_step2 hlt (by omega) h1, hq.out]
end Go.Proofs.Ytomlfdkcgaogcaa
