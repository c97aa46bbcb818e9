/- Contracts: a row sorted by insertion; a row sorted. MAXREC -/
import Derived.Test.YtomlfdkcgaogcaaProg
import Derived.Test.YtomlfdkcgaogcaaCka
import Derived.Deep.DeepCutAuto
namespace Go.Fx
open Go.Sort
theorem insO_go (lt : Nat × Nat → Nat × Nat → Bool) (a b i : Nat) (d : Array (Nat × Nat)) (h : i < b) : insOuter lt a b i d = insOuter lt a b (i + 1) (insInner lt a i d) := by rw [insOuter, if_pos h]
theorem insO_stop (lt : Nat × Nat → Nat × Nat → Bool) (a b i : Nat) (d : Array (Nat × Nat)) (h : ¬ i < b) : insOuter lt a b i d = d := by rw [insOuter, if_neg h]
theorem insI_go (lt : Nat × Nat → Nat × Nat → Bool) (a j : Nat) (d : Array (Nat × Nat)) (h : a < j + 1) (hl : lt d[j + 1]! d[j]! = true) : insInner lt a (j + 1) d = insInner lt a j (swp d (j + 1) j) := by
  unfold insInner
  rw [if_pos (by simp [hl]; omega)]
  cases j <;> rfl
theorem insI_stop (lt : Nat × Nat → Nat × Nat → Bool) (a j : Nat) (d : Array (Nat × Nat)) (h : j ≤ a ∨ lt d[j]! d[j - 1]! = false) : insInner lt a j d = d := by
  cases j with
  | zero => rfl
  | succ j =>
    unfold insInner
    rw [if_neg]
    simp only [Bool.and_eq_true, decide_eq_true_eq, not_and, Bool.not_eq_true]
    intro h1
    rcases h with h | h
    · omega
    · simpa using h
end Go.Fx
namespace Go.Proofs.Ytomlfdkcgaogcaa
open Go.RowKit Go.Fx Go.Soft Go.Sort
set_option maxRecDepth 20000 in
set_option maxHeartbeats 8000000 in
theorem I_insertion (w0 : World) (g n0 cap a b : Nat) (d : Array (Nat × Nat)) (w : World) (hn : n0 ≤ 4096) (hab : a ≤ b) (hb : b ≤ n0) (S : SRow w0 g n0 d w) (ht : ∀ p q, a ≤ p → p < q → q < b → d[p]!.2 < d[q]!.2) :
    Calls Try.prog 137 #[.slice (some ⟨g, 0, none⟩) n0 cap, .int .i64 a, .int .i64 b, .func (.func 117) #[] #[]] w fun e w' =>
      e = .returned (.tuple #[]) ∧ ∃ d', SRow w0 g n0 d' w' ∧ PermIn a b d d' ∧ SortedIn (tlt fkey) a b d' := by
  have hIT := insertion_tag (k := fkey) hab (by rw [S.size]; exact hb) ht
  have HIT := Lib.hid hIT
  have HS := Lib.hid S
  clear S ht hIT
  go_enter Try.func137, Try.ntmps137
  go_wp2
  go_loopg [8] (b - a) (fun g1 s wr => ∃ (i : Nat) (e : Array (Nat × Nat)), s = .int .i64 i ∧ a < i ∧ i ≤ b + 1 ∧ g1 = b + 1 - i ∧ SRow w0 g n0 e wr ∧ Hid (insOuter (klt fkey) a b i e = insertionSort (klt fkey) d a b))
  case atStart => exact ⟨a + 1, d, by go_num, by omega, by omega, by omega, HS.out, rfl⟩
  case round =>
    obtain ⟨i, e, rfl, hai, hib, rfl, hs, ho⟩ := hrel
    by_cases hlt : i < b
    · have HSe := Lib.hid hs
      clear hs
      go_wp2
      go_loopg [9] i (fun g1 s wx => ∃ (j : Nat) (f : Array (Nat × Nat)), s = .int .i64 j ∧ a ≤ j ∧ j ≤ i ∧ j ≤ g1 ∧ SRow w0 g n0 f wx ∧ Hid (insInner (klt fkey) a j f = insInner (klt fkey) a i e))
      case atStart => exact ⟨i, e, rfl, by omega, Nat.le_refl _, Nat.le_refl _, HSe.out, rfl⟩
      case round =>
        clear HSe
        obtain ⟨j, f, rfl, haj, hji, hgk, hs, hj⟩ := hrel
        have out : (j ≤ a ∨ klt fkey f[j]! f[j - 1]! = false) → insOuter (klt fkey) a b (i + 1) f = insertionSort (klt fkey) d a b := fun h => by
          rw [← ho.out, insO_go _ _ _ _ _ hlt, ← hj.out, insI_stop _ _ _ _ h]
        have OUT := Lib.hid out
        clear out
        by_cases hja : a < j
        · obtain ⟨q, hq⟩ : ∃ q, j = q + 1 := ⟨j - 1, by omega⟩
          have hjn : j < n0 := by omega
          have hqn : q < n0 := by omega
          have wq : IntKind.i64.wrap ((j : Int) - 1) = (q : Int) := by rw [hq, IntKind.wrap_i64]; omega
          have kj : (j : Int) < (n0 : Int) := by omega
          have kq : (q : Int) < (n0 : Int) := by omega
          have kaj : decide ((j : Int) > (a : Int)) = true := decide_eq_true (by omega)
          have cj := hs.cell hjn
          have cq := hs.cell hqn
          have fj := hs.free hjn
          have fq := hs.free hqn
          have hc := I_cmpAt hs hjn hqn
          have HSR := Lib.hid hs
          have HQ := Lib.hid hq
          have HC := cfF_lss f[j]!.1 f[q]!.1
          have HKL := Lib.hid (show klt fkey f[j]! f[q]! = decide (fkey f[j]!.1 < fkey f[q]!.1) from rfl)
          have hne : j ≠ q := by omega
          clear hs hq
          cases hlv : decide (cfF f[j]!.1 f[q]!.1 < 0)
          · rw [hlv] at HC
            have HK := Lib.hid (show klt fkey f[j]! f[q]! = false by rw [HKL.out, ← HC])
            clear HC
            generalize f[j]!.1 = xj at *
            generalize f[q]!.1 = xq at *
            go_wp2_with fail
            go_quiet (first | (go_at_call 117; refine Calls.quiet_of (hc _)))
            go_wp2
            go_roundg (b + 1 - (i + 1))
            case measure => omega
            case rel => exact ⟨i + 1, f, by go_num, by omega, by omega, rfl, HSR.out.drewN _, OUT.out (Or.inr (by rw [show j - 1 = q by rw [HQ.out]; rfl]; exact HK.out))⟩
          · rw [hlv] at HC
            have HK := Lib.hid (show klt fkey f[j]! f[q]! = true by rw [HKL.out, ← HC])
            clear HC
            have HSW := Lib.hid (fun (u : World) (h : SRow w0 g n0 f u) => h.swap hjn hqn)
            generalize f[j]!.1 = xj at *
            generalize f[q]!.1 = xq at *
            go_wp2_with fail
            go_quiet (first | (go_at_call 117; refine Calls.quiet_of (hc _)))
            generalize hwz : World.drewN _ _ = wz
            have HSZ : Hid (SRow w0 g n0 f wz) := by show SRow _ _ _ _ _; rw [← hwz]; exact HSR.out.drewN _
            have cj2 : wz.cell? ⟨g, j, none⟩ = some (.float .f32 xj) := by rw [← hwz]; exact cj
            have cq2 : wz.cell? ⟨g, q, none⟩ = some (.float .f32 xq) := by rw [← hwz]; exact cq
            have fj2 : wz.frozen? ⟨g, j, none⟩ = false := by rw [← hwz]; exact fj
            have fq2 : wz.frozen? ⟨g, q, none⟩ = false := by rw [← hwz]; exact fq
            clear hwz cj cq fj fq hc
            go_wp2
            go_big_region
            all_goals go_wp2
            go_roundg q
            case measure => have := HQ.out; omega
            case rel =>
              refine ⟨q, swp f j q, rfl, by have := HQ.out; omega, by have := HQ.out; omega, Nat.le_refl _, (HSW.out _ HSZ.out).drew, ?_⟩
              have hk := HK.out
              have hq := HQ.out
              rw [← hj.out, hq]
              rw [hq] at hk
              exact (insI_go _ _ _ _ (by omega) hk).symm
        · have kaj : decide ((j : Int) > (a : Int)) = false := decide_eq_false (by omega)
          have kaj' : ¬ (a : Int) < (j : Int) := by omega
          have HSR := Lib.hid hs
          clear hs
          go_wp2_with fail
          go_big_region
          all_goals go_wp2
          go_roundg (b + 1 - (i + 1))
          case measure => omega
          case rel => exact ⟨i + 1, f, by go_num, by omega, by omega, rfl, HSR.out.drew, OUT.out (Or.inl (by omega))⟩
    · go_wp2
      refine bodyPost_end (v := .tuple #[]) (by simp [results, Try.results137, go_sem]) rfl ⟨rfl, e, hs, ?_⟩
      have h := ho.out
      rw [insO_stop _ _ _ _ _ hlt] at h
      rw [h]
      exact HIT.out
end Go.Proofs.Ytomlfdkcgaogcaa
