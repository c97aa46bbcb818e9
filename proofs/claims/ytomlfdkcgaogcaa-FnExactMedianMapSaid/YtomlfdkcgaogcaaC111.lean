/- Contracts: two sorted parts are merged. MAXREC -/
import Derived.Test.YtomlfdkcgaogcaaProg
import Derived.Test.YtomlfdkcgaogcaaCka
import Derived.Deep.DeepCutAuto
namespace Go.Proofs.Ytomlfdkcgaogcaa
open Go.RowKit Go.Fx Go.Soft Go.Sort
/-- What the merge of parts of at most N numbers does. -/
def SymOk (w0 : World) (g n0 cap N : Nat) : Prop := ∀ (a m b : Nat) (d : Array (Nat × Nat)) (w : World), b - a ≤ N → a < m → m < b → b ≤ n0 → SRow w0 g n0 d w → SortedIn (tlt fkey) a m d → SortedIn (tlt fkey) m b d → Tag a m b d →
    Calls Try.prog 138 #[.slice (some ⟨g, 0, none⟩) n0 cap, .int .i64 a, .int .i64 m, .int .i64 b, .func (.func 117) #[] #[]] w fun e w' =>
      e = .returned (.tuple #[]) ∧ ∃ d', SRow w0 g n0 d' w' ∧ PermIn a b d d' ∧ SortedIn (tlt fkey) a b d'
set_option maxRecDepth 20000 in
set_option maxHeartbeats 16000000 in
theorem I_symMid (w0 : World) (g n0 cap a m b N : Nat) (d : Array (Nat × Nat)) (w : World) (hn : n0 ≤ 4096) (IH : SymOk w0 g n0 cap N) (hN : b - a ≤ N + 1) (h1 : a < m) (h2 : m < b) (h3 : b ≤ n0) (S : SRow w0 g n0 d w) (s1 : SortedIn (tlt fkey) a m d) (s2 : SortedIn (tlt fkey) m b d) (ht : Tag a m b d) (hm1 : ¬ m - a = 1) (hb1 : ¬ b - m = 1) :
    Calls Try.prog 138 #[.slice (some ⟨g, 0, none⟩) n0 cap, .int .i64 a, .int .i64 m, .int .i64 b, .func (.func 117) #[] #[]] w fun e w' =>
      e = .returned (.tuple #[]) ∧ ∃ d', SRow w0 g n0 d' w' ∧ PermIn a b d d' ∧ SortedIn (tlt fkey) a b d' := by
  have IH := Lib.hid IH
  have HS := Lib.hid S
  have H1 := Lib.hid s1
  have H2 := Lib.hid s2
  have HT := Lib.hid ht
  have HZ := Lib.hid S.size
  clear S s1 s2 ht
  have wma : IntKind.i64.wrap ((m : Int) - (a : Int)) = (m : Int) - (a : Int) := IntWalk.i64_in _ (by omega)
  have wbm : IntKind.i64.wrap ((b : Int) - (m : Int)) = (b : Int) - (m : Int) := IntWalk.i64_in _ (by omega)
  have c1 : ((m : Int) - (a : Int) == 1) = false := by simp; omega
  have c2 : ((b : Int) - (m : Int) == 1) = false := by simp; omega
  obtain ⟨mid, hmid⟩ : ∃ mid, mid = (a + b) / 2 := ⟨_, rfl⟩
  have em : ((a : Int) + (b : Int)) / 2 = (mid : Int) := by omega
  obtain ⟨n, hnm⟩ : ∃ n, n = mid + m := ⟨_, rfl⟩
  have en : (mid : Int) + (m : Int) = (n : Int) := by omega
  have wn : IntKind.i64.wrap (n : Int) = (n : Int) := IntWalk.i64_in _ (by omega)
  obtain ⟨n1, hn1⟩ : ∃ n1, n = n1 + 1 := ⟨n - 1, by omega⟩
  have en1 : (n : Int) - 1 = (n1 : Int) := by omega
  have wn1 : IntKind.i64.wrap (n1 : Int) = (n1 : Int) := IntWalk.i64_in _ (by omega)
  obtain ⟨lo, hlo⟩ : ∃ lo, lo = max a (n - b) := ⟨_, rfl⟩
  obtain ⟨hi, hhi⟩ : ∃ hi, hi = min mid m := ⟨_, rfl⟩
  have hlohi : lo ≤ hi := by omega
  have HF := Lib.hid (show mid = (a + b) / 2 ∧ n = mid + m ∧ n = n1 + 1 ∧ lo = max a (n - b) ∧ hi = min mid m from ⟨hmid, hnm, hn1, hlo, hhi⟩)
  clear hmid hnm hn1 hlo hhi
  go_enter Try.func138, Try.ntmps138
  go_upto_if 140 with fail
  go_cut [20, 21] (fun s t wq => s = .int .i64 lo ∧ t = .int .i64 hi ∧ wq = w)
  case first =>
    as_aux_lemma =>
      by_cases hgt : mid < m
      · have e1 : (n : Int) - (b : Int) = (lo : Int) := by have := HF.out; omega
        have w1 : IntKind.i64.wrap (lo : Int) = (lo : Int) := IntWalk.i64_in _ (by have := HF.out; omega)
        go_wp2
        all_goals
          go_meet
          exact ⟨rfl, congrArg (Value.int .i64) (by have := HF.out; omega), rfl⟩
      · go_wp2
        all_goals
          go_meet
          exact ⟨congrArg (Value.int .i64) (by have := HF.out; omega), congrArg (Value.int .i64) (by have := HF.out; omega), rfl⟩
  case rest =>
  obtain ⟨rfl, rfl, hw⟩ := hcut
  obtain rfl := hw.symm
  have g0 := HF.out
  have lo1 : a ≤ lo := by omega
  have lo2 : n ≤ lo + b := by omega
  have hi1 : hi ≤ m := by omega
  have hi2 : hi + m ≤ n := by omega
  have hmb : mid < b := by omega
  have ham : a < mid := by omega
  have hl0 : ∀ s, lo < s ↔ (a < s ∧ n < s + b) := fun s => by omega
  have hr0 : ∀ s, s < hi ↔ (s < m ∧ s + m < n) := fun s => by omega
  have hnn : n = n1 + 1 := by omega
  have HL := Lib.hid hl0
  have HR := Lib.hid hr0
  have HNN := Lib.hid hnn
  have HMD := Lib.hid (show n = mid + m by omega)
  clear g0 hl0 hr0 hnn HF
  go_wp2
  go_loopg [20, 21] (hi - lo) (fun g1 s t wr => ∃ i j : Nat, s = .int .i64 i ∧ t = .int .i64 j ∧ lo ≤ i ∧ i ≤ j ∧ j ≤ hi ∧ g1 = j - i ∧ SRow w0 g n0 d wr ∧ Hid (lo < i → fkey d[i - 1]!.1 ≤ fkey d[n - i]!.1) ∧ Hid (j < hi → fkey d[n - j - 1]!.1 < fkey d[j]!.1))
  case atStart => exact ⟨lo, hi, rfl, rfl, Nat.le_refl _, hlohi, Nat.le_refl _, rfl, HS.out, fun h => by omega, fun h => by omega⟩
  case round =>
    obtain ⟨i, j, rfl, rfl, hi', hij, hj, rfl, hs, ha, hb⟩ := hrel
    by_cases hlt : i < j
    · as_aux_lemma =>
      obtain ⟨c, hc0⟩ : ∃ c, c = (i + j) / 2 := ⟨_, rfl⟩
      have eh : ((i : Int) + (j : Int)) / 2 = (c : Int) := by omega
      have hci : i ≤ c := by omega
      have hcj : c < j := by omega
      have hcn : c < n0 := by omega
      obtain ⟨q, hq⟩ : ∃ q, q = n1 - c := ⟨_, rfl⟩
      have hcn1 : c ≤ n1 := by have := HNN.out; omega
      have eq : (n1 : Int) - (c : Int) = (q : Int) := by omega
      have wq : IntKind.i64.wrap (q : Int) = (q : Int) := IntWalk.i64_in _ (by omega)
      have hqn : q < n0 := by have := HNN.out; omega
      have kc : (c : Int) < (n0 : Int) := by omega
      have kq : (q : Int) < (n0 : Int) := by omega
      have cc := hs.cell hcn
      have cq := hs.cell hqn
      have hc := I_cmpAt hs hqn hcn
      have HSR := Lib.hid hs
      have HC := cfF_lss d[q]!.1 d[c]!.1
      have E1 := Lib.hid (show n - (c + 1) = q by have := HNN.out; omega)
      have E2 := Lib.hid (show n - c - 1 = q by have := HNN.out; omega)
      have X1 : Hid (fkey d[c]!.1 ≤ fkey d[q]!.1 → fkey d[c + 1 - 1]!.1 ≤ fkey d[n - (c + 1)]!.1) := fun h => by rw [E1.out]; exact h
      have X2 : Hid (fkey d[q]!.1 < fkey d[c]!.1 → fkey d[n - c - 1]!.1 < fkey d[c]!.1) := fun h => by rw [E2.out]; exact h
      generalize hxc : d[c]!.1 = xc at *
      have EXC := Lib.hid hxc
      clear hxc
      generalize d[q]!.1 = xq at *
      clear hs hc0 hq
      cases hlv : decide (cfF xq xc < 0)
      · rw [hlv] at HC
        have HK := Lib.hid (Int.not_lt.1 (of_decide_eq_false HC.symm))
        clear HC
        go_wp2_with fail
        go_quiet (first | (go_at_call 117; refine Calls.quiet_of (hc _)))
        go_wp2
        go_roundg (j - (c + 1))
        case measure => omega
        case rel => exact ⟨c + 1, j, by go_num, rfl, by omega, by omega, hj, rfl, HSR.out.drewN _, fun _ => X1.out HK.out, hb⟩
      · rw [hlv] at HC
        have HK := Lib.hid (of_decide_eq_true HC.symm)
        clear HC
        go_wp2_with fail
        go_quiet (first | (go_at_call 117; refine Calls.quiet_of (hc _)))
        go_wp2
        go_roundg (c - i)
        case measure => omega
        case rel => exact ⟨i, c, rfl, rfl, hi', hci, by omega, rfl, HSR.out.drewN _, ha, fun _ => by rw [EXC.out]; exact X2.out HK.out⟩
    · obtain rfl : i = j := by omega
      obtain ⟨hx, hy⟩ := sym_cut H1.out H2.out (n := n) (s := i) (by have := HMD.out; omega) (by omega) (by omega) (by omega) (by omega) (fun h => ha.out ((HL.out i).2 h)) (fun h => hb.out ((HR.out i).2 h))
      obtain ⟨en', hen⟩ : ∃ en', en' = n - i := ⟨_, rfl⟩
      rw [← hen] at hx hy
      have een : (n : Int) - (i : Int) = (en' : Int) := by omega
      have wen : IntKind.i64.wrap (en' : Int) = (en' : Int) := IntWalk.i64_in _ (by omega)
      have hme : m ≤ en' := by omega
      have heb : en' ≤ b := by omega
      have him : i ≤ m := by omega
      have hia : a ≤ i := by omega
      have himid : i ≤ mid := by have := HMD.out; omega
      have hmide : mid ≤ en' := by have := HMD.out; omega
      have HMD2 := Lib.hid (show i + (en' - m) = mid by have := HMD.out; omega)
      have HX := Lib.hid hx
      have HY := Lib.hid hy
      have HSR := Lib.hid hs
      clear hx hy ha hb hs hen HL HR HNN HMD
      as_aux_lemma =>
        go_upto_region 39 with fail
        go_cut [185] (fun v wq => v = .bool (decide (i < m ∧ m < en')) ∧ wq = wr)
        case first =>
          as_aux_lemma =>
            by_cases t1 : i < m
            · by_cases t2 : m < en'
              all_goals
                go_wp2
                all_goals
                  go_meet
                  exact ⟨by simp [t1, t2], rfl⟩
            · go_wp2
              all_goals
                go_meet
                exact ⟨by simp [t1], rfl⟩
        case rest =>
        obtain ⟨rfl, hw⟩ := hcut
        obtain rfl := hw.symm
        go_upto_if 185 with fail
        go_cut [20] (fun v wq => v = .int .i64 (i : Nat) ∧ ∃ e, SRow w0 g n0 e wq ∧ Hid (PermIn a b d e) ∧ Hid (∀ p, e[p]! = d[rotI i m en' p]!))
        case first =>
          as_aux_lemma =>
            by_cases t1 : i < m ∧ m < en'
            · have HC := Lib.hid (I_rotate w0 g n0 cap i m en' d wr (.func (.func 117) #[] #[]) HSR.out t1.1 t1.2 (by omega) hn)
              go_wp2_with fail
              refine HC.out.mono ?_
              rintro e' w' ⟨rfl, d', s', p', q'⟩
              have P1 := Lib.hid p'
              have Q1 := Lib.hid q'
              have S1 := Lib.hid s'
              clear p' q' s'
              go_wp2
              all_goals
                go_meet
                exact ⟨rfl, d', S1.out, permIn_mono _ _ _ _ _ _ hia heb (by rw [HZ.out]; exact h3) P1.out, Q1.out⟩
            · go_wp2
              all_goals
                go_meet
                exact ⟨rfl, d, HSR.out, permIn_refl d _ _, fun p => by rw [rotI_none (by omega) him hme]⟩
        case rest =>
        obtain ⟨rfl, e, se, pe, qe⟩ := hcut
        generalize wc = w1 at *
        have Sp := split_of H1.out H2.out HT.out hia him hme heb HX.out HY.out qe.out
        rw [HMD2.out] at Sp
        have hez := se.size
        have SP := Lib.hid Sp
        have PE := Lib.hid pe.out
        have SE := Lib.hid se
        have EZ := Lib.hid hez
        clear Sp se pe qe hez HSR HX HY
        as_aux_lemma =>
          go_upto_region 41 with fail
          go_cut [199] (fun v wq => v = .bool (decide (a < i ∧ i < mid)) ∧ wq = w1)
          case first =>
            as_aux_lemma =>
              by_cases t1 : a < i
              · by_cases t2 : i < mid
                all_goals
                  go_wp2
                  all_goals
                    go_meet
                    exact ⟨by simp [t1, t2], rfl⟩
              · go_wp2
                all_goals
                  go_meet
                  exact ⟨by simp [t1], rfl⟩
          case rest =>
          obtain ⟨rfl, hw⟩ := hcut
          obtain rfl := hw.symm
          go_upto_if 199 with fail
          go_cut [20] (fun v wq => v = .int .i64 (i : Nat) ∧ ∃ f, SRow w0 g n0 f wq ∧ Hid (PermIn a mid e f) ∧ Hid (SortedIn (tlt fkey) a mid f))
          case first =>
            as_aux_lemma =>
              by_cases t1 : a < i ∧ i < mid
              · have HC := Lib.hid (IH.out a i mid e w1 (by omega) t1.1 t1.2 (by omega) SE.out SP.out.s1 SP.out.s2 SP.out.t1)
                go_wp2_with fail
                refine HC.out.mono ?_
                rintro e' w' ⟨rfl, f, s', p', q'⟩
                have P1 := Lib.hid p'
                have Q1 := Lib.hid q'
                have S1 := Lib.hid s'
                clear p' q' s'
                go_wp2
                all_goals
                  go_meet
                  exact ⟨rfl, f, S1.out, P1.out, Q1.out⟩
              · go_wp2
                all_goals
                  go_meet
                  exact ⟨rfl, e, SE.out, permIn_refl e _ _, SP.out.left t1 hia himid⟩
          case rest =>
          obtain ⟨rfl, f, sf, pf, qf⟩ := hcut
          generalize wc = w2 at *
          have SF := Lib.hid sf
          have PF := Lib.hid pf.out
          have QF := Lib.hid qf.out
          clear sf pf qf SE
          as_aux_lemma =>
            go_upto_region 43 with fail
            go_cut [213] (fun v wq => v = .bool (decide (mid < en' ∧ en' < b)) ∧ wq = w2)
            case first =>
              as_aux_lemma =>
                by_cases t1 : mid < en'
                · by_cases t2 : en' < b
                  all_goals
                    go_wp2
                    all_goals
                      go_meet
                      exact ⟨by simp [t1, t2], rfl⟩
                · go_wp2
                  all_goals
                    go_meet
                    exact ⟨by simp [t1], rfl⟩
            case rest =>
            obtain ⟨rfl, hw⟩ := hcut
            obtain rfl := hw.symm
            by_cases t1 : mid < en' ∧ en' < b
            · have HC := Lib.hid (IH.out mid en' b f w2 (by omega) t1.1 t1.2 h3 SF.out (sorted_perm_out SP.out.s3 PF.out (Or.inr (Nat.le_refl _))) (sorted_perm_out SP.out.s4 PF.out (Or.inr (by omega))) (tag_perm_out SP.out.t2 PF.out (Or.inr (Nat.le_refl _))))
              go_wp2_with fail
              refine HC.out.mono ?_
              rintro e' w' ⟨rfl, h, s', p', q'⟩
              have S1 := Lib.hid s'
              have P1 := Lib.hid p'
              have Q1 := Lib.hid q'
              clear p' q' s'
              go_wp2
              refine bodyPost_end (v := .tuple #[]) (by simp [results, Try.results138, go_sem]) rfl ⟨rfl, h, S1.out, ?_, ?_⟩
              · refine permIn_trans _ _ _ _ _ PE.out (permIn_trans _ _ _ _ _ (permIn_mono _ _ _ _ _ _ (Nat.le_refl _) (by omega) (by rw [EZ.out]; exact h3) PF.out) (permIn_mono _ _ _ _ _ _ (by omega) (Nat.le_refl _) ?_ P1.out))
                rw [SF.out.size]; exact h3
              · exact SP.out.join (by omega) (by rw [EZ.out]; exact h3) PF.out QF.out P1.out Q1.out
            · go_wp2
              refine bodyPost_end (v := .tuple #[]) (by simp [results, Try.results138, go_sem]) rfl ⟨rfl, f, SF.out, ?_, ?_⟩
              · exact permIn_trans _ _ _ _ _ PE.out (permIn_mono _ _ _ _ _ _ (Nat.le_refl _) (by omega) (by rw [EZ.out]; exact h3) PF.out)
              · have hr := SP.out.right t1 hmide heb
                exact SP.out.join (by omega) (by rw [EZ.out]; exact h3) PF.out QF.out (permIn_refl f _ _) (sorted_perm_out hr PF.out (Or.inr (Nat.le_refl _)))
theorem I_symMerge (w0 : World) (g n0 cap : Nat) (hn : n0 ≤ 4096) (L : ∀ (a m b : Nat) (d : Array (Nat × Nat)) (w : World) (_ : a < m) (_ : m < b) (_ : b ≤ n0) (_ : SRow w0 g n0 d w) (_ : SortedIn (tlt fkey) a m d) (_ : SortedIn (tlt fkey) m b d) (_ : Tag a m b d) (_ : m - a = 1 ∨ (¬ m - a = 1 ∧ b - m = 1)),
    Calls Try.prog 138 #[.slice (some ⟨g, 0, none⟩) n0 cap, .int .i64 a, .int .i64 m, .int .i64 b, .func (.func 117) #[] #[]] w fun e w' =>
      e = .returned (.tuple #[]) ∧ ∃ d', SRow w0 g n0 d' w' ∧ PermIn a b d d' ∧ SortedIn (tlt fkey) a b d') : ∀ N, SymOk w0 g n0 cap N
  | 0 => fun a m b d w hN h1 h2 h3 S s1 s2 ht => by omega
  | N + 1 => fun a m b d w hN h1 h2 h3 S s1 s2 ht => by
    by_cases hm1 : m - a = 1
    · exact L a m b d w h1 h2 h3 S s1 s2 ht (Or.inl hm1)
    · by_cases hb1 : b - m = 1
      · exact L a m b d w h1 h2 h3 S s1 s2 ht (Or.inr ⟨hm1, hb1⟩)
      · exact I_symMid w0 g n0 cap a m b N d w hn (I_symMerge w0 g n0 cap hn L N) hN h1 h2 h3 S s1 s2 ht hm1 hb1
end Go.Proofs.Ytomlfdkcgaogcaa
