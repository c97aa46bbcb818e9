/- Contracts: two sorted parts are merged: the second is one number. MAXREC -/
import Derived.Test.YtomlfdkcgaogcaaProg
import Derived.Test.YtomlfdkcgaogcaaCka
import Derived.Deep.DeepCutAuto
namespace Go.Proofs.Ytomlfdkcgaogcaa
open Go.RowKit Go.Fx Go.Soft Go.Sort
set_option maxRecDepth 20000 in
set_option maxHeartbeats 16000000 in
theorem I_symRight (w0 : World) (g n0 cap a m b : Nat) (d : Array (Nat × Nat)) (w : World) (hn : n0 ≤ 4096) (h1 : a < m) (h2 : m < b) (h3 : b ≤ n0) (S : SRow w0 g n0 d w) (s1 : SortedIn (tlt fkey) a m d) (s2 : SortedIn (tlt fkey) m b d) (ht : Tag a m b d) (hm1 : ¬ m - a = 1) (hb1 : b - m = 1) :
    Calls Try.prog 138 #[.slice (some ⟨g, 0, none⟩) n0 cap, .int .i64 a, .int .i64 m, .int .i64 b, .func (.func 117) #[] #[]] w fun e w' =>
      e = .returned (.tuple #[]) ∧ ∃ d', SRow w0 g n0 d' w' ∧ PermIn a b d d' ∧ SortedIn (tlt fkey) a b d' := by
  have HS := Lib.hid S
  have H1 := Lib.hid s1
  have H2 := Lib.hid s2
  have HT := Lib.hid ht
  have HZ := Lib.hid S.size
  clear S s1 s2 ht
  have wma : IntKind.i64.wrap ((m : Int) - (a : Int)) = (m : Int) - (a : Int) := IntWalk.i64_in _ (by omega)
  have c1 : ¬ (m : Int) - (a : Int) = 1 := by omega
  have c1b : ((m : Int) - (a : Int) == 1) = false := by simpa using c1
  have wbm : IntKind.i64.wrap ((b : Int) - (m : Int)) = (b : Int) - (m : Int) := IntWalk.i64_in _ (by omega)
  have c2 : (b : Int) - (m : Int) = 1 := by omega
  have HB1 := Lib.hid hb1
  clear hb1
  go_enter Try.func138, Try.ntmps138
  go_wp2
  go_loopg [14, 15] (m - a) (fun g1 s t wr => ∃ i j : Nat, s = .int .i64 i ∧ t = .int .i64 j ∧ a ≤ i ∧ i ≤ j ∧ j ≤ m ∧ g1 = j - i ∧ SRow w0 g n0 d wr ∧ Hid (∀ p, a ≤ p → p < i → fkey d[p]!.1 ≤ fkey d[m]!.1) ∧ Hid (∀ p, j ≤ p → p < m → fkey d[m]!.1 < fkey d[p]!.1))
  case atStart => exact ⟨a, m, rfl, rfl, Nat.le_refl _, by omega, Nat.le_refl _, rfl, HS.out, fun p hp hq => by omega, fun p hp hq => by omega⟩
  case round =>
    obtain ⟨i, j, rfl, rfl, hi, hij, hj, rfl, hs, ha, hb⟩ := hrel
    by_cases hlt : i < j
    · obtain ⟨h, hh⟩ : ∃ h, h = (i + j) / 2 := ⟨_, rfl⟩
      have eh : ((i : Int) + (j : Int)) / 2 = (h : Int) := by omega
      have hhi : i ≤ h := by omega
      have hhj : h < j := by omega
      have hh0 : h < n0 := by omega
      have kh : (h : Int) < (n0 : Int) := by omega
      have km : (m : Int) < (n0 : Int) := by omega
      have ch := hs.cell hh0
      have cm := hs.cell (show m < n0 by omega)
      have hc := I_cmpAt hs (show m < n0 by omega) hh0
      have mono := Lib.hid (fun p (h1 : a ≤ p) (h2 : p ≤ h) => key_up H1.out h1 h2 (show h < m by omega))
      have mono2 := Lib.hid (fun p (h1 : h ≤ p) (h2 : p < m) => key_up H1.out (show a ≤ h by omega) h1 h2)
      have HSR := Lib.hid hs
      have HC := cfF_lss d[m]!.1 d[h]!.1
      generalize d[h]!.1 = xh at *
      generalize d[m]!.1 = xm at *
      clear hs hh
      cases hlv : decide (cfF xm xh < 0)
      · rw [hlv] at HC
        have HK := Lib.hid (Int.not_lt.1 (of_decide_eq_false HC.symm))
        clear HC
        go_wp2_with fail
        go_quiet (first | (go_at_call 117; refine Calls.quiet_of (hc _)))
        go_wp2
        go_roundg (j - (h + 1))
        case measure => omega
        case rel => exact ⟨h + 1, j, by go_num, rfl, by omega, by omega, hj, rfl, HSR.out.drewN _, fun p hp hq => Int.le_trans (mono.out p hp (by omega)) HK.out, hb⟩
      · rw [hlv] at HC
        have HK := Lib.hid (of_decide_eq_true HC.symm)
        clear HC
        go_wp2_with fail
        go_quiet (first | (go_at_call 117; refine Calls.quiet_of (hc _)))
        go_wp2
        go_roundg (h - i)
        case measure => omega
        case rel => exact ⟨i, h, rfl, rfl, hi, hhi, by omega, rfl, HSR.out.drewN _, ha, fun p hp hq => Int.lt_of_lt_of_le HK.out (mono2.out p hp hq)⟩
    · obtain rfl : i = j := by omega
      have HSR := Lib.hid hs
      clear hs
      go_wp2
      go_loopg [17] (m - i) (fun g1 s wr => ∃ (k : Nat) (e : Array (Nat × Nat)), s = .int .i64 k ∧ i ≤ k ∧ k ≤ m ∧ g1 = k - i ∧ SRow w0 g n0 e wr ∧ Hid (PermIn a b d e) ∧ Hid (∀ p, e[p]! = d[rotI k m (m + 1) p]!))
      case atStart => exact ⟨m, d, rfl, hj, Nat.le_refl _, rfl, HSR.out, permIn_refl d _ _, fun p => by rw [rotI_none (Or.inl (Nat.le_refl _)) (Nat.le_refl _) (by omega)]⟩
      case round =>
        obtain ⟨k, e, rfl, hk1, hk2, rfl, hs, hp, hq⟩ := hrel
        by_cases hkt : i < k
        · obtain ⟨k1, hk⟩ : ∃ k1, k = k1 + 1 := ⟨k - 1, by omega⟩
          have hp0 : k < n0 := by omega
          have hq0 : k1 < n0 := by omega
          have cp := hs.cell hp0
          have cq := hs.cell hq0
          have fp := hs.free hp0
          have fq := hs.free hq0
          have wk : IntKind.i64.wrap ((k : Int) - 1) = (k1 : Int) := by rw [hk, IntKind.wrap_i64]; omega
          have kp : (k : Int) < (n0 : Int) := by omega
          have kq : (k1 : Int) < (n0 : Int) := by omega
          have hne : k ≠ k1 := by omega
          have HK := Lib.hid hk
          have HR := Lib.hid hs
          clear hk hs
          go_wp2
          go_big_region
          all_goals go_wp2
          go_roundg (k1 - i)
          case measure => have := HK.out; omega
          case rel =>
            have hz := HR.out.size
            have hk := HK.out
            refine ⟨k1, swp e k k1, rfl, by omega, by omega, rfl, (HR.out.swap hp0 hq0).drew, permIn_trans _ _ _ _ _ hp.out (swp_permIn e a b k k1 (by omega) (by omega) (by omega) (by omega) (by omega)), ?_⟩
            intro r
            rw [swp_at (by omega) (by omega), hq.out]
            congr 1
            rw [hk, ← rot_down (show k1 < m by omega)]
            repeat' split
            all_goals rfl
        · obtain rfl : k = i := by omega
          have HSR := Lib.hid hs
          clear hs
          go_wp2
          refine bodyPost_ret (v := .tuple #[]) (by simp [results, Try.results138, go_sem]) rfl ⟨rfl, e, HSR.out, hp.out, ?_⟩
          have hbm : b = m + 1 := by have := HB1.out; omega
          have ht := HT.out
          rw [hbm] at ht ⊢
          exact one_right H1.out ht hi (by omega) ha.out hb.out hq.out
end Go.Proofs.Ytomlfdkcgaogcaa
