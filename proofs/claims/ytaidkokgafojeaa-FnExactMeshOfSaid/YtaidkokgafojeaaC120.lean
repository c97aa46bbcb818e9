/- Contracts: a number is looked up in a rising row; the greatest and the least of some floats. MAXREC -/
import Derived.Test.YtaidkokgafojeaaProg
import Derived.Test.YtaidkokgafojeaaGi
import Derived.Test.YtaidkokgafojeaaGd
import Derived.Test.YtaidkokgafojeaaFk
import Derived.Test.YtaidkokgafojeaaWk2
import Derived.Deep.DeepCutAuto
import Derived.Deep.LoopGhost
namespace Go.Fx
open Go Go.Soft Go.RowKit
/-- Where a number stands in a list; behind its end if nowhere. -/
def gIx (I : List Int) (c : Int) : Nat := I.findIdx (· == c)
theorem gIx_at {I : List Int} {c : Int} {i : Nat} (hi : i < I.length) (h : I.getD i 0 = c) (hb : ∀ p, p < i → I.getD p 0 ≠ c) : gIx I c = i := by
  unfold gIx
  rw [List.findIdx_eq hi]
  have e : ∀ p (hp : p < I.length), I.getD p 0 = I[p] := fun p hp => by simp [hp]
  refine ⟨by rw [e i hi] at h; simpa using h, fun j hj => ?_⟩
  have := hb j hj
  rw [e j (by omega)] at this
  simpa using this
theorem gIx_no {I : List Int} {c : Int} (h : ∀ p, p < I.length → I.getD p 0 ≠ c) : ¬ gIx I c < I.length := by
  intro hlt
  unfold gIx at hlt
  obtain ⟨x, hx, hc⟩ := List.findIdx_lt_length.1 hlt
  obtain ⟨p, hp, rfl⟩ := List.getElem_of_mem hx
  have := h p hp
  apply this
  simpa [hp] using hc
theorem gIx_get {I : List Int} {c : Int} (h : gIx I c < I.length) : I.getD (gIx I c) 0 = c := by
  have := List.findIdx_getElem (xs := I) (p := (· == c)) (w := h)
  unfold gIx at *
  simpa [h] using this
theorem gIx_first {I : List Int} {c : Int} {p : Nat} (h : p < gIx I c) : I.getD p 0 ≠ c := by
  have hp : p < I.length := Nat.lt_of_lt_of_le h (List.findIdx_le_length)
  have := List.not_of_lt_findIdx (xs := I) (p := (· == c)) h
  simpa [hp] using this
end Go.Fx
namespace Go.Proofs.Ytaidkokgafojeaa
open Go.RowKit Go.Fx Go.Soft
set_option maxRecDepth 20000 in
set_option maxHeartbeats 1000000 in
theorem I_cmpNaNi (x : Int) (w : World) : Calls Try.prog 164 #[.int .i64 x] w fun e w' => e = .returned (.bool false) ∧ w' = w := by
  go_enter Try.func164, Try.ntmps164
  go_wp2
  go_ret
  exact ⟨by simp, rfl⟩
set_option maxRecDepth 20000 in
set_option maxHeartbeats 1000000 in
theorem I_cmpLessi (x y : Int) (w : World) : Calls Try.prog 149 #[.int .i64 x, .int .i64 y] w fun e w' => e = .returned (.bool (decide (x < y))) ∧ w' = w := by
  go_enter Try.func149, Try.ntmps149
  go_wp2_with (first | (go_at_call 164; with_reducible refine (I_cmpNaNi _ _).mono ?_; rintro e w' ⟨rfl, hw⟩; (obtain rfl := hw.symm)))
  all_goals
    go_ret
    exact ⟨by simp [*], rfl⟩
set_option maxRecDepth 20000 in
set_option maxHeartbeats 1000000 in
theorem I_slNaNi (x : Int) (w : World) : Calls Try.prog 150 #[.int .i64 x] w fun e w' => e = .returned (.bool false) ∧ w' = w := by
  go_enter Try.func150, Try.ntmps150
  go_wp2
  go_ret
  exact ⟨by simp, rfl⟩
set_option maxRecDepth 20000 in
set_option maxHeartbeats 4000000 in
theorem I_BinSearch (a : Option Addr) (c : Nat) (I : List Int) (x : Int) (w : World) (hs : ISl w a I.length I) (hr : ∀ i j, i < j → j < I.length → I.getD i 0 < I.getD j 0) (hn : I.length ≤ 4096) :
    Calls Try.prog 114 #[.slice a I.length c, .int .i64 x] w fun e w' => (∃ k : Nat, e = .returned (.tuple #[.int .i64 k, .bool (decide (gIx I x < I.length))]) ∧ (gIx I x < I.length → k = gIx I x)) ∧ w' = w := by
  have HS := Lib.hid hs
  have HR := Lib.hid hr
  obtain ⟨n, hnn⟩ : ∃ n, n = I.length := ⟨_, rfl⟩
  obtain ⟨B, hB⟩ : ∃ B, B = decide (gIx I x < I.length) := ⟨_, rfl⟩
  rw [← hB]
  have HB := Lib.hid hB
  rw [← hnn] at hn ⊢
  have HN := Lib.hid hnn
  clear hs hr hnn hB
  go_enter Try.func114, Try.ntmps114
  go_wp2
  go_loopg [7, 8] n (fun g1 s t wr => ∃ i j : Nat, s = .int .i64 i ∧ t = .int .i64 j ∧ i ≤ j ∧ j ≤ n ∧ g1 = j - i ∧ wr = w ∧ Hid (∀ p, p < i → I.getD p 0 < x) ∧ Hid (∀ p, j ≤ p → p < n → x ≤ I.getD p 0))
  case atStart => exact ⟨0, n, rfl, rfl, Nat.zero_le _, Nat.le_refl _, by omega, rfl, fun p hp => by omega, fun p h1 h2 => by omega⟩
  case round =>
    obtain ⟨i, j, rfl, rfl, hij, hj, rfl, rfl, ha, hb⟩ := hrel
    by_cases hlt : i < j
    · obtain ⟨h, hh⟩ : ∃ h, h = (i + j) / 2 := ⟨_, rfl⟩
      have eh : ((i : Int) + (j : Int)) / 2 = (h : Int) := by omega
      have hhi : i ≤ h := by omega
      have hhj : h < j := by omega
      have hhn : h < I.length := by have := HN.out; omega
      obtain ⟨b, off, rfl⟩ := HS.out.ptr (by omega)
      have ch := HS.out.get h hhn
      have kh : (h : Int) < (n : Int) := by omega
      have up := Lib.hid (fun p (h1 : p ≤ h) => show I.getD p 0 ≤ I.getD h 0 by
        by_cases e : p = h
        · rw [e]; exact Int.le_refl _
        · exact Int.le_of_lt (HR.out p h (by omega) hhn))
      have dn := Lib.hid (fun p (h1 : h ≤ p) (h2 : p < n) => show I.getD h 0 ≤ I.getD p 0 by
        by_cases e : h = p
        · rw [e]; exact Int.le_refl _
        · exact Int.le_of_lt (HR.out h p (by omega) (by have := HN.out; omega)))
      generalize I.getD h 0 = z at *
      clear hh hhn
      by_cases hz : z < x
      · go_wp2_with (first | (go_at_call 149; with_reducible refine (I_cmpLessi _ _ _).mono ?_; rintro e w' ⟨rfl, hw⟩; (obtain rfl := hw.symm)))
        go_roundg (j - (h + 1))
        case measure => omega
        case rel => exact ⟨h + 1, j, by go_num, rfl, by omega, hj, rfl, rfl, fun p hp => Int.lt_of_le_of_lt (up.out p (by omega)) hz, hb⟩
      · go_wp2_with (first | (go_at_call 149; with_reducible refine (I_cmpLessi _ _ _).mono ?_; rintro e w' ⟨rfl, hw⟩; (obtain rfl := hw.symm)))
        go_roundg (h - i)
        case measure => omega
        case rel => exact ⟨i, h, rfl, rfl, hhi, by omega, rfl, rfl, ha, fun p h1 h2 => Int.le_trans hz (dn.out p h1 h2)⟩
    · obtain rfl : i = j := by omega
      by_cases hin : i < n
      · have hin' : i < I.length := by have := HN.out; omega
        obtain ⟨b, off, rfl⟩ := HS.out.ptr (by omega)
        have ci := HS.out.get i hin'
        have ki : (i : Int) < (n : Int) := by omega
        by_cases hz : I.getD i 0 = x
        · have eI := gIx_at hin' hz (fun p hp => Int.ne_of_lt (ha.out p hp))
          have EB := Lib.hid (show B = true by rw [HB.out, eI]; exact decide_eq_true hin')
          have EI := Lib.hid eI
          generalize I.getD i 0 = z at *
          subst hz
          clear eI hin'
          go_wp2_with (first | (go_at_call 150; with_reducible refine (I_slNaNi _ _).mono ?_; rintro e w' ⟨rfl, hw⟩; (obtain rfl := hw.symm)))
          exact bodyPost_ret (v := .tuple #[.int .i64 i, .bool true]) (by simp [results, Try.results114, go_sem]) rfl ⟨⟨i, by rw [EB.out], fun _ => EI.out.symm⟩, rfl⟩
        · have hno := gIx_no (I := I) (c := x) (fun p hp => by
            by_cases e1 : p < i
            · exact Int.ne_of_lt (ha.out p e1)
            · by_cases e2 : p = i
              · rw [e2]; exact hz
              · have h1 := HR.out i p (by omega) hp
                have h2 := hb.out i (Nat.le_refl _) hin
                intro e
                omega)
          have EB := Lib.hid (show B = false by rw [HB.out]; exact decide_eq_false hno)
          have HNO := Lib.hid hno
          generalize I.getD i 0 = z at *
          clear hno hin'
          go_wp2_with (first | (go_at_call 150; with_reducible refine (I_slNaNi _ _).mono ?_; rintro e w' ⟨rfl, hw⟩; (obtain rfl := hw.symm)))
          exact bodyPost_ret (v := .tuple #[.int .i64 i, .bool false]) (by simp [results, Try.results114, go_sem, *]) rfl ⟨⟨i, by rw [EB.out], fun h => absurd (show gIx I x < I.length by have := HN.out; omega) HNO.out⟩, rfl⟩
      · have hno := gIx_no (I := I) (c := x) (fun p hp => Int.ne_of_lt (ha.out p (by have := HN.out; omega)))
        have EB := Lib.hid (show B = false by rw [HB.out]; exact decide_eq_false hno)
        have HNO := Lib.hid hno
        clear hno
        go_wp2
        exact bodyPost_ret (v := .tuple #[.int .i64 i, .bool false]) (by simp [results, Try.results114, go_sem, *]) rfl ⟨⟨i, by rw [EB.out], fun h => absurd (show gIx I x < I.length by have := HN.out; omega) HNO.out⟩, rfl⟩
set_option maxRecDepth 20000 in
set_option maxHeartbeats 4000000 in
theorem S_l06Number (a : Option Addr) (c : Nat) (I : List Int) (x : Int) (w : World) (hs : ISl w a I.length I) (hn : I.length ≤ 4096) :
    Calls Try.prog 113 #[.slice a I.length c, .int .i64 x] w fun e w' => e = .returned (.int .i64 (if gIx I x < I.length then (gIx I x : Int) else -1)) ∧ w' = w := by
  have HS := Lib.hid hs
  obtain ⟨n, hnn⟩ : ∃ n, n = I.length := ⟨_, rfl⟩
  obtain ⟨R, hR⟩ : ∃ R : Int, R = if gIx I x < I.length then (gIx I x : Int) else -1 := ⟨_, rfl⟩
  rw [← hR]
  have HR := Lib.hid hR
  rw [← hnn] at hn ⊢
  have HN := Lib.hid hnn
  clear hs hnn hR
  go_enter Try.func113, Try.ntmps113
  go_wp2
  go_loopg [5] n (fun g1 s wr => ∃ i : Nat, s = .int .i64 i ∧ i ≤ n ∧ g1 = n - i ∧ wr = w ∧ Hid (∀ p, p < i → I.getD p 0 ≠ x))
  case atStart => exact ⟨0, rfl, Nat.zero_le _, by omega, rfl, fun p hp => by omega⟩
  case round =>
    obtain ⟨i, rfl, hi, rfl, rfl, ha⟩ := hrel
    by_cases hin : i < n
    · have hin' : i < I.length := by have := HN.out; omega
      obtain ⟨b, off, rfl⟩ := HS.out.ptr (by omega)
      have ci := HS.out.get i hin'
      have ki : (i : Int) < (n : Int) := by omega
      by_cases hz : I.getD i 0 = x
      · have eI := gIx_at hin' hz ha.out
        have ER := Lib.hid (show R = (i : Int) by rw [HR.out, eI, if_pos hin'])
        generalize I.getD i 0 = z at *
        subst hz
        clear eI hin'
        go_wp2
        go_ret
        exact ⟨by rw [ER.out]; rfl, rfl⟩
      · have HZ := Lib.hid hz
        have hz' : ¬ I.getD i 0 = x := hz
        generalize hzz : I.getD i 0 = z at *
        have HZZ := Lib.hid hzz
        clear hzz hin' hz'
        go_wp2
        go_roundg (n - (i + 1))
        case measure => omega
        case rel => exact ⟨i + 1, by go_num, by omega, rfl, rfl, fun p hp => by
          by_cases e : p = i
          · rw [e, HZZ.out]; exact hz
          · exact ha.out p (by omega)⟩
    · have hno := gIx_no (I := I) (c := x) (fun p hp => ha.out p (by have := HN.out; omega))
      have ER := Lib.hid (show R = -1 by rw [HR.out, if_neg hno])
      clear hno
      go_wp2
      go_ret
      exact ⟨by rw [ER.out]; rfl, rfl⟩
end Go.Proofs.Ytaidkokgafojeaa
