/- Contracts: a row of fewer than sixty numbers is sorted, stably. MAXREC -/
import Derived.Test.YtomlfdkcgaogcaaProg
import Derived.Test.YtomlfdkcgaogcaaC112
import Derived.Test.YtomlfdkcgaogcaaSp
import Derived.Deep.DeepCutAuto
namespace Go.Proofs.Ytomlfdkcgaogcaa
open Go.RowKit Go.Fx Go.Soft Go.Sort
/-- What the merge of two parts does. -/
def MergeOk (w0 : World) (g n0 cap : Nat) : Prop := ∀ (a m b : Nat) (d : Array (Nat × Nat)) (w : World), a < m → m < b → b ≤ n0 → SRow w0 g n0 d w → SortedIn (tlt fkey) a m d → SortedIn (tlt fkey) m b d → Tag a m b d →
    Calls Try.prog 138 #[.slice (some ⟨g, 0, none⟩) n0 cap, .int .i64 a, .int .i64 m, .int .i64 b, .func (.func 117) #[] #[]] w fun e w' =>
      e = .returned (.tuple #[]) ∧ ∃ d', SRow w0 g n0 d' w' ∧ PermIn a b d d' ∧ SortedIn (tlt fkey) a b d'
set_option maxRecDepth 20000 in
set_option maxHeartbeats 16000000 in
theorem I_stable (w0 : World) (g n0 cap : Nat) (d : Array (Nat × Nat)) (w : World) (hn : n0 < 60) (MO : MergeOk w0 g n0 cap) (S : SRow w0 g n0 d w) (ht : ∀ p q, p < q → q < n0 → d[p]!.2 < d[q]!.2) :
    Calls Try.prog 130 #[.slice (some ⟨g, 0, none⟩) n0 cap, .int .i64 n0, .func (.func 117) #[] #[]] w fun e w' =>
      e = .returned (.tuple #[]) ∧ ∃ d', SRow w0 g n0 d' w' ∧ PermIn 0 n0 d d' ∧ SortedIn (tlt fkey) 0 n0 d' := by
  have HM := Lib.hid MO
  have HS := Lib.hid S
  have HD := Lib.hid (show n0 ≤ d.size by rw [S.size]; exact Nat.le_refl _)
  have HA := Lib.hid (StA.start (k := fkey) ht)
  clear S ht MO
  go_enter Try.func130, Try.ntmps130
  go_wp2
  go_loopg [7, 8] n0 (fun g1 s u wr => ∃ (t : Nat) (e : Array (Nat × Nat)), s = .int .i64 ((20 * t : Nat) : Int) ∧ u = .int .i64 ((20 * t + 20 : Nat) : Int) ∧ 20 * t ≤ n0 ∧ t ≤ 2 ∧ g1 = n0 - 20 * t ∧ SRow w0 g n0 e wr ∧ Hid (StA fkey n0 t d e))
  case atStart => exact ⟨0, d, rfl, rfl, by omega, by omega, rfl, HS.out, HA.out⟩
  case round =>
    obtain ⟨t, e, rfl, rfl, h1, h2, rfl, hs, ha⟩ := hrel
    obtain ⟨a, ea⟩ : ∃ a, a = 20 * t := ⟨_, rfl⟩
    obtain ⟨b, eb⟩ : ∃ b, b = 20 * t + 20 := ⟨_, rfl⟩
    rw [← eb, ← ea]
    have EA := Lib.hid ea
    have EB := Lib.hid eb
    have hi := I_insertion w0 g n0 cap a (min b n0) e wr (by omega) (by omega) (by omega) hs (fun p q hp hpq hq => ha.out.tag p q hpq (by omega) (Or.inl (by omega)))
    have HI := Lib.hid hi
    have wb : IntKind.i64.wrap ((b : Int) + 20) = (b : Int) + 20 := IntWalk.i64_in _ (by omega)
    clear hi hs ea eb
    by_cases hb : b ≤ n0
    · have hi := HI.out
      rw [Nat.min_eq_left hb] at hi
      have HI2 := Lib.hid hi
      clear hi HI
      go_wp2_with fail
      refine HI2.out.mono ?_
      rintro e' w' ⟨rfl, f, s', p', q'⟩
      have S1 := Lib.hid s'
      have P1 := Lib.hid p'
      have Q1 := Lib.hid q'
      clear s' p' q'
      go_wp2
      go_roundg (n0 - 20 * (t + 1))
      case measure => have := EB.out; omega
      case rel =>
        have ea := EA.out
        have eb := EB.out
        have p1 := P1.out
        have q1 := Q1.out
        rw [ea, eb] at p1 q1
        exact ⟨t + 1, f, congrArg (Value.int .i64) (by omega), congrArg (Value.int .i64) (by omega), by omega, by omega, rfl, S1.out, ha.out.step HD.out (by omega) (by omega) p1 q1⟩
    · have hi := HI.out
      rw [Nat.min_eq_right (by omega)] at hi
      have HI2 := Lib.hid hi
      clear hi HI
      go_wp2_with fail
      refine HI2.out.mono ?_
      rintro e' w' ⟨rfl, f, s', p', q'⟩
      have hB : StB fkey n0 d f := by
        have ea := EA.out
        have eb := EB.out
        rw [ea] at p' q'
        exact ha.out.last HD.out h1 (by omega) hn p' q'
      have S1 := Lib.hid s'
      have HB := Lib.hid hB
      clear s' p' q' hB
      go_wp2
      go_loopg [6] 2 (fun g1 s wr => ∃ e : Array (Nat × Nat), SRow w0 g n0 e wr ∧ ((s = .int .i64 20 ∧ g1 = 2 ∧ Hid (StB fkey n0 d e)) ∨ (s = .int .i64 40 ∧ g1 = 1 ∧ Hid (StC fkey n0 d e)) ∨ (s = .int .i64 80 ∧ g1 = 0 ∧ Hid (PermIn 0 n0 d e ∧ SortedIn (tlt fkey) 0 n0 e))))
      case atStart => exact ⟨f, S1.out, Or.inl ⟨rfl, rfl, HB.out⟩⟩
      case round =>
        clear S1 HB
        obtain ⟨f, hs, hrel⟩ := hrel
        rcases hrel with ⟨rfl, rfl, hB⟩ | ⟨rfl, rfl, hC⟩ | ⟨rfl, rfl, hP⟩
        · by_cases h20 : 20 < n0
          · have hlt : (20 : Int) < (n0 : Int) := by omega
            have HSR := Lib.hid hs
            clear hs
            go_wp2
            go_loopg [7, 8] 1 (fun g2 s u wx => ∃ h : Array (Nat × Nat), SRow w0 g n0 h wx ∧ ((s = .int .i64 0 ∧ u = .int .i64 40 ∧ g2 = 1 ∧ Hid (StB fkey n0 d h)) ∨ (s = .int .i64 40 ∧ u = .int .i64 80 ∧ g2 = 0 ∧ Hid (StC fkey n0 d h))))
            case atStart => exact ⟨f, HSR.out, Or.inl ⟨rfl, rfl, rfl, hB.out⟩⟩
            case round =>
              clear HSR
              obtain ⟨h, hs, hrel⟩ := hrel
              rcases hrel with ⟨rfl, rfl, rfl, hB2⟩ | ⟨rfl, rfl, rfl, hC⟩
              · by_cases h40 : 40 ≤ n0
                · have h40i : (40 : Int) ≤ (n0 : Int) := by omega
                  have hc : Calls Try.prog 138 #[.slice (some ⟨g, 0, none⟩) n0 cap, .int .i64 0, .int .i64 20, .int .i64 40, .func (.func 117) #[] #[]] wr (fun e' w' => e' = .returned (.tuple #[]) ∧ ∃ d', SRow w0 g n0 d' w' ∧ PermIn 0 40 h d' ∧ SortedIn (tlt fkey) 0 40 d') := HM.out 0 20 40 h wr (by omega) (by omega) h40 hs (sorted_sub hB2.out.s0 (by omega) (by omega)) (sorted_sub hB2.out.s1 (by omega) (by omega)) (tag_sub hB2.out.t0 (by omega) rfl h40)
                  have HC := Lib.hid hc
                  clear hc hs
                  go_wp2_with fail
                  refine HC.out.mono ?_
                  rintro e' w' ⟨rfl, k, s', p', q'⟩
                  have hC : StC fkey n0 d k := hB2.out.merge HD.out h20 (by rw [Nat.min_eq_left h40]; exact p') (by rw [Nat.min_eq_left h40]; exact q')
                  have S2 := Lib.hid s'
                  have HC2 := Lib.hid hC
                  clear s' p' q' hC
                  go_wp2
                  go_roundg 0
                  case measure => omega
                  case rel => exact ⟨k, S2.out, Or.inr ⟨rfl, by go_num, rfl, HC2.out⟩⟩
                · have h40i : ¬ (40 : Int) ≤ (n0 : Int) := by omega
                  have hc : Calls Try.prog 138 #[.slice (some ⟨g, 0, none⟩) n0 cap, .int .i64 0, .int .i64 20, .int .i64 n0, .func (.func 117) #[] #[]] wr (fun e' w' => e' = .returned (.tuple #[]) ∧ ∃ d', SRow w0 g n0 d' w' ∧ PermIn 0 n0 h d' ∧ SortedIn (tlt fkey) 0 n0 d') := HM.out 0 20 n0 h wr (by omega) h20 (Nat.le_refl _) hs (sorted_sub hB2.out.s0 (by omega) (by omega)) (sorted_sub hB2.out.s1 (by omega) (by omega)) hB2.out.t0
                  have HC := Lib.hid hc
                  clear hc hs
                  go_wp2_with fail
                  refine HC.out.mono ?_
                  rintro e' w' ⟨rfl, k, s', p', q'⟩
                  have hC : StC fkey n0 d k := hB2.out.merge HD.out h20 (by rw [Nat.min_eq_right (by omega)]; exact p') (by rw [Nat.min_eq_right (by omega)]; exact q')
                  have S2 := Lib.hid s'
                  have HC2 := Lib.hid hC
                  clear s' p' q' hC
                  go_wp2
                  go_roundg 1
                  case measure => omega
                  case rel => exact ⟨k, S2.out, Or.inr (Or.inl ⟨by go_num, rfl, HC2.out⟩)⟩
              · have h80 : ¬ (80 : Int) ≤ (n0 : Int) := by omega
                have h60 : ¬ (60 : Int) < (n0 : Int) := by omega
                have HSR := Lib.hid hs
                clear hs
                go_wp2
                go_roundg 1
                case measure => omega
                case rel => exact ⟨h, HSR.out, Or.inr (Or.inl ⟨by go_num, rfl, hC.out⟩)⟩
          · have hlt : ¬ (20 : Int) < (n0 : Int) := by omega
            have HSR := Lib.hid hs
            clear hs
            go_wp2
            exact bodyPost_end (v := .tuple #[]) (by simp [results, Try.results130, go_sem]) rfl ⟨rfl, f, HSR.out, hB.out.perm, sorted_sub hB.out.s0 (by omega) (by omega)⟩
        · by_cases h40 : 40 < n0
          · have hlt : (40 : Int) < (n0 : Int) := by omega
            have HSR := Lib.hid hs
            clear hs
            go_wp2
            go_loopg [7, 8] 0 (fun g2 s u wx => SRow w0 g n0 f wx ∧ s = .int .i64 0 ∧ u = .int .i64 80)
            case atStart => exact ⟨HSR.out, rfl, by go_num⟩
            case round =>
              clear HSR
              obtain ⟨hs, rfl, rfl⟩ := hrel
              have h80 : ¬ (80 : Int) ≤ (n0 : Int) := by omega
              have hc : Calls Try.prog 138 #[.slice (some ⟨g, 0, none⟩) n0 cap, .int .i64 0, .int .i64 40, .int .i64 n0, .func (.func 117) #[] #[]] wr (fun e' w' => e' = .returned (.tuple #[]) ∧ ∃ d', SRow w0 g n0 d' w' ∧ PermIn 0 n0 f d' ∧ SortedIn (tlt fkey) 0 n0 d') := HM.out 0 40 n0 f wr (by omega) h40 (Nat.le_refl _) hs (sorted_sub hC.out.s0 (by omega) (by omega)) hC.out.s1 hC.out.t0
              have HC := Lib.hid hc
              clear hc hs
              go_wp2_with fail
              refine HC.out.mono ?_
              rintro e' w' ⟨rfl, k, s', p', q'⟩
              have hP := permIn_trans _ _ _ _ _ hC.out.perm p'
              have S2 := Lib.hid s'
              have HP := Lib.hid hP
              have HQ := Lib.hid q'
              clear s' p' q' hP
              go_wp2
              go_roundg 0
              case measure => omega
              case rel => exact ⟨k, S2.out, Or.inr (Or.inr ⟨by go_num, rfl, HP.out, HQ.out⟩)⟩
          · have hlt : ¬ (40 : Int) < (n0 : Int) := by omega
            have HSR := Lib.hid hs
            clear hs
            go_wp2
            exact bodyPost_end (v := .tuple #[]) (by simp [results, Try.results130, go_sem]) rfl ⟨rfl, f, HSR.out, hC.out.perm, sorted_sub hC.out.s0 (by omega) (by omega)⟩
        · have hlt : ¬ (80 : Int) < (n0 : Int) := by omega
          have HSR := Lib.hid hs
          clear hs
          go_wp2
          exact bodyPost_end (v := .tuple #[]) (by simp [results, Try.results130, go_sem]) rfl ⟨rfl, f, HSR.out, hP.out.1, hP.out.2⟩
set_option maxRecDepth 20000 in
set_option maxHeartbeats 1000000 in
theorem I_SortStable (w0 : World) (g n0 cap : Nat) (d : Array (Nat × Nat)) (w : World) (hn : n0 < 60) (MO : MergeOk w0 g n0 cap) (S : SRow w0 g n0 d w) (ht : ∀ p q, p < q → q < n0 → d[p]!.2 < d[q]!.2) :
    Calls Try.prog 116 #[.slice (some ⟨g, 0, none⟩) n0 cap, .func (.func 117) #[] #[]] w fun e w' =>
      e = .returned (.tuple #[]) ∧ ∃ d', SRow w0 g n0 d' w' ∧ PermIn 0 n0 d d' ∧ SortedIn (tlt fkey) 0 n0 d' := by
  have HC := Lib.hid (I_stable w0 g n0 cap d w hn MO S ht)
  clear MO S ht
  go_enter Try.func116, Try.ntmps116
  go_wp2_with fail
  refine HC.out.mono ?_
  rintro e' w' ⟨rfl, k, s', p', q'⟩
  have HH := Lib.hid (⟨s', p', q'⟩ : _ ∧ _ ∧ _)
  clear s' p' q'
  go_wp2
  exact bodyPost_end (v := .tuple #[]) (by simp [results, Try.results116, go_sem]) rfl ⟨rfl, k, HH.out.1, HH.out.2.1, HH.out.2.2⟩
end Go.Proofs.Ytomlfdkcgaogcaa
