/- Contracts: albums that are valid. MAXREC -/
import Derived.Test.YtaidkokgafojeaaProg
import Derived.Test.YtaidkokgafojeaaC63
import Derived.Test.YtaidkokgafojeaaC8
import Derived.Test.YtaidkokgafojeaaC9
import Derived.Deep.DeepCutAuto
namespace Go.Fx
open Go Go.Soft Go.RowKit
/-- Whether each picture of a row is so. -/
def gAlls (ps : List Pic) (p : Pic → Bool) : Bool := (List.range ps.length).all fun i => p (pAt ps i)
theorem gAlls_no {ps : List Pic} {p : Pic → Bool} {i : Nat} (hi : i < ps.length) (h : p (pAt ps i) = false) : gAlls ps p = false := by
  cases hg : gAlls ps p
  · rfl
  · have := List.all_eq_true.1 hg i (List.mem_range.2 hi)
    rw [h] at this; cases this
theorem gAlls_yes {ps : List Pic} {p : Pic → Bool} (h : ∀ i, i < ps.length → p (pAt ps i) = true) : gAlls ps p = true :=
  List.all_eq_true.2 fun i hi => h i (List.mem_range.1 hi)
theorem gAlls_at {ps : List Pic} {p : Pic → Bool} (h : gAlls ps p = true) {i : Nat} (hi : i < ps.length) : p (pAt ps i) = true := List.all_eq_true.1 h i (List.mem_range.2 hi)
end Go.Fx
namespace Go.Proofs.Ytaidkokgafojeaa
open Go.RowKit Go.Fx Go.Soft
def gPicP (p : Pic) : Bool := gPic p.wide p.high p.gs.length
def gAlb (ps : List Pic) : Bool := decide (ps.length ≤ 8) && gAlls ps gPicP
set_option maxRecDepth 20000 in
set_option maxHeartbeats 2000000 in
theorem S_l07Album (b : Nat) (a : Option Addr) (n cap : Nat) (ps : List Pic) (w : World) (c0 : w.cell? ⟨b, 0, none⟩ = some (.slice a n cap)) (hs : PSl w a ps) (hl : ps.length = n) (hn : n ≤ 1048576) :
    Calls Try.prog 74 #[.pointer (some ⟨b, 0, none⟩)] w fun e w' => e = .returned (.bool (gAlb ps)) ∧ ∃ q, w' = w.drewN q := by
  have Hs := Lib.hid hs
  have Hl := Lib.hid hl
  obtain ⟨R, hR⟩ : ∃ R, R = gAlb ps := ⟨_, rfl⟩
  rw [← hR]
  have HR := Lib.hid hR
  clear hs hl hR
  go_enter Try.func74, Try.ntmps74
  go_wp2
  go_loopw [3] (fun i wr => ∃ k : Nat, k ≤ n ∧ i = .int .i64 k ∧ Hid (∀ j, j < k → gPicP (pAt ps j) = true) ∧ ∃ q, wr = w.drewN q) (fun i _ => n - (intOf i).toNat)
  case atStart => exact ⟨0, Nat.zero_le _, rfl, Lib.hid (fun j h => absurd h (Nat.not_lt_zero _)), 0, rfl⟩
  case round =>
    obtain ⟨k, hk, rfl, hv, q, rfl⟩ := hrel
    by_cases hlt : k < n
    · obtain ⟨bl, off, rfl⟩ := Hs.out.ptr (by rw [Hl.out]; omega)
      obtain ⟨ga, gc, d0, d1, d2, -, hm⟩ := Hs.out.get (i := k) (by rw [Hl.out]; exact hlt)
      have LI := Lib.hid (fun w1 x0 x1 x2 => S_l02Is (pAt ps k).wide (pAt ps k).high ga (pAt ps k).gs.length gc bl (off + k * 3) w1 hm x0 x1 x2)
      have HP := Lib.hid (show gPicP (pAt ps k) = gPic (pAt ps k).wide (pAt ps k).high (pAt ps k).gs.length from rfl)
      generalize (pAt ps k).wide = W at *
      generalize (pAt ps k).high = H at *
      generalize (pAt ps k).gs.length = L at *
      cases hT : gPic W H L
      · obtain rfl : R = false := by
          rw [HR.out]; unfold gAlb
          rw [gAlls_no (i := k) (by rw [Hl.out]; exact hlt) (by rw [HP.out, hT]), Bool.and_false]
        rw [hT] at LI
        clear hT
        go_wp2_with (first
      | (go_at_call 66; refine (LI.out _ (by first | (simp (maxDischargeDepth := 12) [go_sem]; done) | (simp (maxDischargeDepth := 12) [go_sem, *]; done)) (by first | (simp (maxDischargeDepth := 12) [go_sem]; done) | (simp (maxDischargeDepth := 12) [go_sem, *]; done)) (by first | (simp (maxDischargeDepth := 12) [go_sem]; done) | (simp (maxDischargeDepth := 12) [go_sem, *]; done))).mono ?_; rintro e w' ⟨rfl, n2, rfl⟩))
        go_ret
        exact ⟨rfl, (by first | exact ⟨0, rfl⟩ | exact ⟨_, rfl⟩)⟩
      · have HV := Lib.hid (show ∀ j, j < k + 1 → gPicP (pAt ps j) = true from fun j hj => by
          by_cases hjk : j < k
          · exact hv.out j hjk
          · obtain rfl : j = k := by omega
            rw [HP.out, hT])
        rw [hT] at LI
        clear hT
        go_wp2_with (first
      | (go_at_call 66; refine (LI.out _ (by first | (simp (maxDischargeDepth := 12) [go_sem]; done) | (simp (maxDischargeDepth := 12) [go_sem, *]; done)) (by first | (simp (maxDischargeDepth := 12) [go_sem]; done) | (simp (maxDischargeDepth := 12) [go_sem, *]; done)) (by first | (simp (maxDischargeDepth := 12) [go_sem]; done) | (simp (maxDischargeDepth := 12) [go_sem, *]; done))).mono ?_; rintro e w' ⟨rfl, n2, rfl⟩))
        go_roundw
        case rel => exact ⟨k + 1, by omega, by go_num, HV, (by first | exact ⟨0, rfl⟩ | exact ⟨_, rfl⟩)⟩
        case measure => simp [intOf]; omega
    · obtain rfl : k = n := by omega
      have HR2 := Lib.hid (show R = decide (k ≤ 8) by
        rw [HR.out]; unfold gAlb
        rw [gAlls_yes (by rw [Hl.out]; exact hv.out), Bool.and_true, Hl.out])
      clear HR
      by_cases h8 : k ≤ 8
      · obtain rfl : R = true := by rw [HR2.out, decide_eq_true h8]
        go_wp2
        go_ret
        exact ⟨congrArg (fun z => Ending.returned (.bool z)) (decide_eq_true (show (k : Int) ≤ 8 by omega)), (by first | exact ⟨0, rfl⟩ | exact ⟨_, rfl⟩)⟩
      · obtain rfl : R = false := by rw [HR2.out, decide_eq_false h8]
        go_wp2
        go_ret
        exact ⟨congrArg (fun z => Ending.returned (.bool z)) (decide_eq_false (show ¬ (k : Int) ≤ 8 by omega)), (by first | exact ⟨0, rfl⟩ | exact ⟨_, rfl⟩)⟩
set_option maxRecDepth 20000 in
set_option maxHeartbeats 1000000 in
theorem S_ValidAlbum (a : Option Addr) (n cap : Nat) (ps : List Pic) (w : World) (hs : PSl w a ps) (hl : ps.length = n) (hn : n ≤ 1048576) :
    Calls Try.prog 28 #[.agg #[.slice a n cap]] w fun e w' => e = .returned (.bool (gAlb ps)) ∧ Gr w w' := by
  have Hs := Lib.hid hs
  clear hs
  go_enter Try.func28, Try.ntmps28
  go_wp2_with (first
      | (go_at_call 74; refine (S_l07Album _ a n cap ps _ (by first | (simp (maxDischargeDepth := 12) [go_sem]; done) | (simp (maxDischargeDepth := 12) [go_sem, *]; done)) (Hs.out.keep (by (repeat (with_reducible first | exact Kp.refl _ | exact kp_same | exact kp_app1 | exact kp_app2 | exact kp_app3 | refine Kp.grew ?_ _ _ | refine Kp.drewN ?_ _ | refine Kp.drew ?_ | refine Kp.alloc ?_ _)))) hl hn).mono ?_; rintro e w' ⟨rfl, q, rfl⟩))
  go_ret
  exact ⟨rfl, (by (try show Gr _ _); repeat (with_reducible first | exact Gr.refl _ | refine Gr.drewN ?_ _ | refine Gr.grew ?_ _ _ | refine Gr.alloc ?_ _ | refine Gr.drew ?_))⟩
set_option maxRecDepth 20000 in
set_option maxHeartbeats 2000000 in
theorem IndexFuncP (a : Option Addr) (n cap : Nat) (ps : List Pic) (p : Pic → Bool) (F : FuncId) (cs : Array Value) (w : World) (hs : PSl w a ps) (hl : ps.length = n) (hn : n ≤ 1048576)
    (hc : ∀ args w, (callFunc F args).run Try.prog w = .ok (.enter F args) w)
    (hF : ∀ (i : Nat) (_ : i < ps.length) (ga : Option Addr) (gc : Nat) (w1 : World), Gr w w1 → Calls Try.prog F (#[.agg #[.int .i64 (pAt ps i).wide, .int .i64 (pAt ps i).high, .slice ga (pAt ps i).gs.length gc]] ++ cs) w1 fun e w' => e = .returned (.bool (!p (pAt ps i))) ∧ Gr w1 w') :
    Calls Try.prog 130 #[.slice a n cap, .func (.func F) #[] cs] w fun e w' => (∃ r : Int, e = .returned (.int .i64 r) ∧ decide (0 ≤ r) = !gAlls ps p) ∧ Gr w w' := by
  have Hs := Lib.hid hs
  have Hl := Lib.hid hl
  have HF := Lib.hid hF
  clear hs hl hF
  go_enter Try.func130, Try.ntmps130
  go_wp2
  go_loopw [8] (fun i wr => ∃ k : Nat, k ≤ n ∧ i = .int .i64 k ∧ Hid (∀ j, j < k → p (pAt ps j) = true) ∧ Gr w wr) (fun i _ => n - (intOf i).toNat)
  case atStart => exact ⟨0, Nat.zero_le _, rfl, Lib.hid (fun j h => absurd h (Nat.not_lt_zero _)), Gr.refl w⟩
  case round =>
    obtain ⟨k, hk, rfl, hv, hg⟩ := hrel
    by_cases hlt : k < n
    · obtain ⟨bl, off, rfl⟩ := Hs.out.ptr (by rw [Hl.out]; omega)
      obtain ⟨ga, gc, d0, d1, d2, -, hm⟩ := (Hs.out.keep hg.kp).get (i := k) (by rw [Hl.out]; exact hlt)
      have LI := Lib.hid (fun w1 (g : Gr w w1) => HF.out k (by rw [Hl.out]; exact hlt) ga gc w1 g)
      have Hg := Lib.hid hg
      cases hT : p (pAt ps k)
      · have HR := Lib.hid (gAlls_no (ps := ps) (i := k) (by rw [Hl.out]; exact hlt) hT)
        rw [hT] at LI
        generalize (pAt ps k).wide = W at *
        generalize (pAt ps k).high = H at *
        generalize (pAt ps k).gs.length = L at *
        clear hT hg
        go_wp2_with fail
        refine (LI.out _ (Hg.out.trans (by (try show Gr _ _); repeat (with_reducible first | exact Gr.refl _ | refine Gr.drewN ?_ _ | refine Gr.grew ?_ _ _ | refine Gr.alloc ?_ _ | refine Gr.drew ?_)))).mono ?_
        rintro e w1 ⟨rfl, g⟩
        have G1 := Lib.hid (Hg.out.trans (Gr.trans (by (try show Gr _ _); repeat (with_reducible first | exact Gr.refl _ | refine Gr.drewN ?_ _ | refine Gr.grew ?_ _ _ | refine Gr.alloc ?_ _ | refine Gr.drew ?_)) g))
        clear g LI
        go_wp2
        go_ret
        exact ⟨⟨_, rfl, by rw [HR.out]; simp⟩, G1.out⟩
      · have HV := Lib.hid (show ∀ j, j < k + 1 → p (pAt ps j) = true from fun j hj => by
          by_cases hjk : j < k
          · exact hv.out j hjk
          · obtain rfl : j = k := by omega
            exact hT)
        rw [hT] at LI
        generalize (pAt ps k).wide = W at *
        generalize (pAt ps k).high = H at *
        generalize (pAt ps k).gs.length = L at *
        clear hT hg
        go_wp2_with fail
        refine (LI.out _ (Hg.out.trans (by (try show Gr _ _); repeat (with_reducible first | exact Gr.refl _ | refine Gr.drewN ?_ _ | refine Gr.grew ?_ _ _ | refine Gr.alloc ?_ _ | refine Gr.drew ?_)))).mono ?_
        rintro e w1 ⟨rfl, g⟩
        have G1 := Lib.hid (Hg.out.trans (Gr.trans (by (try show Gr _ _); repeat (with_reducible first | exact Gr.refl _ | refine Gr.drewN ?_ _ | refine Gr.grew ?_ _ _ | refine Gr.alloc ?_ _ | refine Gr.drew ?_)) g))
        clear g LI
        go_wp2
        go_roundw
        case rel => exact ⟨k + 1, by omega, by go_num, HV, G1.out⟩
        case measure => simp [intOf]; omega
    · obtain rfl : k = n := by omega
      have HR := Lib.hid (gAlls_yes (ps := ps) (p := p) (by rw [Hl.out]; exact hv.out))
      have Hg := Lib.hid hg
      clear hg
      go_wp2
      go_ret
      exact ⟨⟨_, rfl, by rw [HR.out]; decide⟩, Hg.out⟩
set_option maxRecDepth 20000 in
set_option maxHeartbeats 1000000 in
theorem ContainsFuncP (a : Option Addr) (n cap : Nat) (ps : List Pic) (p : Pic → Bool) (F : FuncId) (cs : Array Value) (w : World) (hs : PSl w a ps) (hl : ps.length = n) (hn : n ≤ 1048576)
    (hc : ∀ args w, (callFunc F args).run Try.prog w = .ok (.enter F args) w)
    (hF : ∀ (i : Nat) (_ : i < ps.length) (ga : Option Addr) (gc : Nat) (w1 : World), Gr w w1 → Calls Try.prog F (#[.agg #[.int .i64 (pAt ps i).wide, .int .i64 (pAt ps i).high, .slice ga (pAt ps i).gs.length gc]] ++ cs) w1 fun e w' => e = .returned (.bool (!p (pAt ps i))) ∧ Gr w1 w') :
    Calls Try.prog 76 #[.slice a n cap, .func (.func F) #[] cs] w fun e w' => e = .returned (.bool (!gAlls ps p)) ∧ Gr w w' := by
  have H := Lib.hid (IndexFuncP a n cap ps p F cs w hs hl hn hc hF)
  clear hF hs
  go_enter Try.func76, Try.ntmps76
  go_wp2_with fail
  refine H.out.mono ?_
  rintro e w' ⟨⟨r, rfl, hr⟩, g⟩
  have HR := Lib.hid hr
  have G := Lib.hid g
  clear hr g H
  go_wp2
  go_ret
  exact ⟨by rw [← HR.out]; rfl, G.out⟩
set_option maxRecDepth 20000 in
set_option maxHeartbeats 1000000 in
theorem I_ValidAlbum_1 (W H : Int) (a : Option Addr) (n c : Nat) (w : World) (hn : n ≤ maxLen) :
    Calls Try.prog 77 #[.agg #[.int .i64 W, .int .i64 H, .slice a n c]] w fun e w' => e = .returned (.bool (!gPic W H n)) ∧ Gr w w' := by
  go_enter Try.func77, Try.ntmps77
  go_wp2_with (first
      | (go_at_call 69; with_reducible refine (I_ValidPicture _ _ _ _ _ _ hn).mono ?_; rintro e w' ⟨rfl, os, m, rfl⟩))
  go_ret
  exact ⟨rfl, (by (try show Gr _ _); repeat (with_reducible first | exact Gr.refl _ | refine Gr.drewN ?_ _ | refine Gr.grew ?_ _ _ | refine Gr.alloc ?_ _ | refine Gr.drew ?_))⟩
set_option maxRecDepth 20000 in
set_option maxHeartbeats 1000000 in
theorem I_ValidAlbum (a : Option Addr) (n cap : Nat) (ps : List Pic) (w : World) (hs : PSl w a ps) (hl : ps.length = n) (hn : n ≤ 1048576) (hm : ∀ i, i < n → (pAt ps i).gs.length ≤ maxLen) :
    Calls Try.prog 30 #[.agg #[.slice a n cap]] w fun e w' => e = .returned (.bool (gAlb ps)) ∧ Gr w w' := by
  have LC := Lib.hid (fun w1 (g : Gr w w1) => ContainsFuncP a n cap ps gPicP 77 #[] w1 (hs.keep g.kp) hl hn Try.call77 (fun i hi ga gc w2 _ => I_ValidAlbum_1 (pAt ps i).wide (pAt ps i).high ga (pAt ps i).gs.length gc w2 (hm i (by rw [← hl]; exact hi))))
  have HR := Lib.hid (show gAlb ps = (decide (n ≤ 8) && gAlls ps gPicP) by unfold gAlb; rw [hl])
  rw [HR.out]
  clear hs hl hm HR
  generalize gAlls ps gPicP = R at *
  by_cases h8 : n ≤ 8
  · rw [decide_eq_true h8, Bool.true_and]
    go_enter Try.func30, Try.ntmps30
    go_wp2_with fail
    refine (LC.out _ (by (try show Gr _ _); repeat (with_reducible first | exact Gr.refl _ | refine Gr.drewN ?_ _ | refine Gr.grew ?_ _ _ | refine Gr.alloc ?_ _ | refine Gr.drew ?_))).mono ?_
    rintro e w1 ⟨rfl, g⟩
    have G := Lib.hid (show Gr w w1 from Gr.trans (by (try show Gr _ _); repeat (with_reducible first | exact Gr.refl _ | refine Gr.drewN ?_ _ | refine Gr.grew ?_ _ _ | refine Gr.alloc ?_ _ | refine Gr.drew ?_)) g)
    clear g LC
    cases R
    · go_wp2
      go_ret
      exact ⟨rfl, G.out⟩
    · go_wp2
      go_ret
      exact ⟨rfl, G.out⟩
  · rw [decide_eq_false h8, Bool.false_and]
    go_enter Try.func30, Try.ntmps30
    go_wp2
    go_ret
    exact ⟨rfl, (by (try show Gr _ _); repeat (with_reducible first | exact Gr.refl _ | refine Gr.drewN ?_ _ | refine Gr.grew ?_ _ _ | refine Gr.alloc ?_ _ | refine Gr.drew ?_))⟩
end Go.Proofs.Ytaidkokgafojeaa
