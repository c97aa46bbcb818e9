/- Contracts: finite numbers, cameras. -/
import Derived.Test.YtaidkokgafojeaaProg
import Derived.Test.YtaidkokgafojeaaC1
import Derived.Test.YtaidkokgafojeaaSl
import Derived.Lib.Hide
namespace Go.Proofs.Ytaidkokgafojeaa
open Go.RowKit Go.Fx Go.Soft
def gFin (x : Nat) : Bool := fcmp .eql .f32 (fop .sub .f32 x x) 0
def gPlus (x : Nat) : Bool := gFin x && fcmp .gtr .f32 x 0
def gFinAll (xs : List Nat) : Bool := !xs.any fun x => !gFin x
def gCam (f b x y : Nat) : Bool := gPlus f && gPlus b && gFin x && gFin y
set_option maxHeartbeats 400000 in
theorem I_IsFinite (x X : Nat) (w : World) (hx : FE .f32 x X) :
    Calls Try.prog 162 #[.float .f32 x] w fun e w' => e = .returned (.bool (gFin X)) ∧ ∃ n, w' = w.drewN n := by
  have h0 := FE0
  go_enter Try.func162, Try.ntmps162
  go_wp2_with (first
      | ((with_reducible apply wpList_fop); (case hw => rfl); (case hop => rfl); (case hx => rfl); (case hy => rfl); (case hA => (first | assumption | exact FE.ofInt _ _ | exact FE.lit (by decide +kernel))); (case hB => (first | assumption | exact FE.ofInt _ _ | exact FE.lit (by decide +kernel))); intro r n hr)
      | ((with_reducible apply wpList_fcmp); (case hw => rfl); (case hop => rfl); (case hx => rfl); (case hy => rfl); (case hA => (first | assumption | exact FE.ofInt _ _ | exact FE.lit (by decide +kernel))); (case hB => (first | assumption | exact FE.ofInt _ _ | exact FE.lit (by decide +kernel))); (case hb => (first | assumption | rfl)))
      | ((with_reducible apply wpList_widen); (case hw => rfl); (case hs => exact Try.underlying65); (case hd => exact Try.underlying147); (case hx => rfl); (case hA => (first | assumption | exact FE.ofInt _ _ | exact FE.lit (by decide +kernel))); intro r n hr)
      | ((with_reducible apply wpList_fneg); (case hw => rfl); (case hx => rfl); (case hA => (first | assumption | exact FE.ofInt _ _ | exact FE.lit (by decide +kernel))); intro r hr))
  go_ret
  exact ⟨rfl, (by first | exact ⟨0, rfl⟩ | exact ⟨_, rfl⟩)⟩
set_option maxHeartbeats 400000 in
theorem S_l01Finite (x X : Nat) (w : World) (hx : FE .f32 x X) :
    Calls Try.prog 145 #[.float .f32 x] w fun e w' => e = .returned (.bool (gFin X)) ∧ ∃ n, w' = w.drewN n := by
  have h0 := FE0
  go_enter Try.func145, Try.ntmps145
  go_wp2_with (first
      | ((with_reducible apply wpList_fop); (case hw => rfl); (case hop => rfl); (case hx => rfl); (case hy => rfl); (case hA => (first | assumption | exact FE.ofInt _ _ | exact FE.lit (by decide +kernel))); (case hB => (first | assumption | exact FE.ofInt _ _ | exact FE.lit (by decide +kernel))); intro r n hr)
      | ((with_reducible apply wpList_fcmp); (case hw => rfl); (case hop => rfl); (case hx => rfl); (case hy => rfl); (case hA => (first | assumption | exact FE.ofInt _ _ | exact FE.lit (by decide +kernel))); (case hB => (first | assumption | exact FE.ofInt _ _ | exact FE.lit (by decide +kernel))); (case hb => (first | assumption | rfl)))
      | ((with_reducible apply wpList_widen); (case hw => rfl); (case hs => exact Try.underlying65); (case hd => exact Try.underlying147); (case hx => rfl); (case hA => (first | assumption | exact FE.ofInt _ _ | exact FE.lit (by decide +kernel))); intro r n hr)
      | ((with_reducible apply wpList_fneg); (case hw => rfl); (case hx => rfl); (case hA => (first | assumption | exact FE.ofInt _ _ | exact FE.lit (by decide +kernel))); intro r hr))
  go_ret
  exact ⟨rfl, (by first | exact ⟨0, rfl⟩ | exact ⟨_, rfl⟩)⟩
set_option maxHeartbeats 400000 in
theorem I_plus (x X : Nat) (w : World) (hx : FE .f32 x X) :
    Calls Try.prog 147 #[.float .f32 x] w fun e w' => e = .returned (.bool (gPlus X)) ∧ ∃ n, w' = w.drewN n := by
  have h0 := FE0
  cases hF : gFin X
  all_goals
    go_enter Try.func147, Try.ntmps147
    go_wp2_with (first
      | (go_at_call 162; with_reducible refine (I_IsFinite _ _ _ hx).mono ?_; rintro e w' ⟨rfl, n, rfl⟩)
      | ((with_reducible apply wpList_fop); (case hw => rfl); (case hop => rfl); (case hx => rfl); (case hy => rfl); (case hA => (first | assumption | exact FE.ofInt _ _ | exact FE.lit (by decide +kernel))); (case hB => (first | assumption | exact FE.ofInt _ _ | exact FE.lit (by decide +kernel))); intro r n hr)
      | ((with_reducible apply wpList_fcmp); (case hw => rfl); (case hop => rfl); (case hx => rfl); (case hy => rfl); (case hA => (first | assumption | exact FE.ofInt _ _ | exact FE.lit (by decide +kernel))); (case hB => (first | assumption | exact FE.ofInt _ _ | exact FE.lit (by decide +kernel))); (case hb => (first | assumption | rfl)))
      | ((with_reducible apply wpList_widen); (case hw => rfl); (case hs => exact Try.underlying65); (case hd => exact Try.underlying147); (case hx => rfl); (case hA => (first | assumption | exact FE.ofInt _ _ | exact FE.lit (by decide +kernel))); intro r n hr)
      | ((with_reducible apply wpList_fneg); (case hw => rfl); (case hx => rfl); (case hA => (first | assumption | exact FE.ofInt _ _ | exact FE.lit (by decide +kernel))); intro r hr))
    go_ret
    exact ⟨by simp [gPlus, hF], (by first | exact ⟨0, rfl⟩ | exact ⟨_, rfl⟩)⟩
set_option maxHeartbeats 400000 in
theorem S_l06Above (x X : Nat) (w : World) (hx : FE .f32 x X) :
    Calls Try.prog 144 #[.float .f32 x] w fun e w' => e = .returned (.bool (gPlus X)) ∧ ∃ n, w' = w.drewN n := by
  have h0 := FE0
  cases hF : gFin X
  all_goals
    go_enter Try.func144, Try.ntmps144
    go_wp2_with (first
      | (go_at_call 145; with_reducible refine (S_l01Finite _ _ _ hx).mono ?_; rintro e w' ⟨rfl, n, rfl⟩)
      | ((with_reducible apply wpList_fop); (case hw => rfl); (case hop => rfl); (case hx => rfl); (case hy => rfl); (case hA => (first | assumption | exact FE.ofInt _ _ | exact FE.lit (by decide +kernel))); (case hB => (first | assumption | exact FE.ofInt _ _ | exact FE.lit (by decide +kernel))); intro r n hr)
      | ((with_reducible apply wpList_fcmp); (case hw => rfl); (case hop => rfl); (case hx => rfl); (case hy => rfl); (case hA => (first | assumption | exact FE.ofInt _ _ | exact FE.lit (by decide +kernel))); (case hB => (first | assumption | exact FE.ofInt _ _ | exact FE.lit (by decide +kernel))); (case hb => (first | assumption | rfl)))
      | ((with_reducible apply wpList_widen); (case hw => rfl); (case hs => exact Try.underlying65); (case hd => exact Try.underlying147); (case hx => rfl); (case hA => (first | assumption | exact FE.ofInt _ _ | exact FE.lit (by decide +kernel))); intro r n hr)
      | ((with_reducible apply wpList_fneg); (case hw => rfl); (case hx => rfl); (case hA => (first | assumption | exact FE.ofInt _ _ | exact FE.lit (by decide +kernel))); intro r hr))
    go_ret
    exact ⟨by simp [gPlus, hF], (by first | exact ⟨0, rfl⟩ | exact ⟨_, rfl⟩)⟩
set_option maxHeartbeats 400000 in
theorem I_finite_1 (x X : Nat) (w : World) (hx : FE .f32 x X) :
    Calls Try.prog 163 #[.float .f32 x] w fun e w' => e = .returned (.bool (!gFin X)) ∧ ∃ os m, w' = w.grew os m := by
  go_enter Try.func163, Try.ntmps163
  go_wp2_with (first
      | (go_at_call 162; with_reducible refine (I_IsFinite _ _ _ hx).mono ?_; rintro e w' ⟨rfl, n, rfl⟩)
      | ((with_reducible apply wpList_fop); (case hw => rfl); (case hop => rfl); (case hx => rfl); (case hy => rfl); (case hA => (first | assumption | exact FE.ofInt _ _ | exact FE.lit (by decide +kernel))); (case hB => (first | assumption | exact FE.ofInt _ _ | exact FE.lit (by decide +kernel))); intro r n hr)
      | ((with_reducible apply wpList_fcmp); (case hw => rfl); (case hop => rfl); (case hx => rfl); (case hy => rfl); (case hA => (first | assumption | exact FE.ofInt _ _ | exact FE.lit (by decide +kernel))); (case hB => (first | assumption | exact FE.ofInt _ _ | exact FE.lit (by decide +kernel))); (case hb => (first | assumption | rfl)))
      | ((with_reducible apply wpList_widen); (case hw => rfl); (case hs => exact Try.underlying65); (case hd => exact Try.underlying147); (case hx => rfl); (case hA => (first | assumption | exact FE.ofInt _ _ | exact FE.lit (by decide +kernel))); intro r n hr)
      | ((with_reducible apply wpList_fneg); (case hw => rfl); (case hx => rfl); (case hA => (first | assumption | exact FE.ofInt _ _ | exact FE.lit (by decide +kernel))); intro r hr))
  go_ret
  exact ⟨rfl, (by (try show Gr _ _); repeat (with_reducible first | exact Gr.refl _ | refine Gr.drewN ?_ _ | refine Gr.grew ?_ _ _ | refine Gr.alloc ?_ _ | refine Gr.drew ?_))⟩
set_option maxHeartbeats 400000 in
theorem IndexFunc (a : Option Addr) (n cap : Nat) (xs : List Nat) (p : Nat → Bool) (F : FuncId) (cs : Array Value) (w : World) (hs : FSl w a n xs) (hn : n ≤ maxLen)
    (hc : ∀ args w, (callFunc F args).run Try.prog w = .ok (.enter F args) w)
    (hF : ∀ (i : Nat) (h : i < xs.length) (r : Nat) (w1 : World), Gr w w1 → FE .f32 r xs[i] → Calls Try.prog F (#[.float .f32 r] ++ cs) w1 fun e w' => e = .returned (.bool (p xs[i])) ∧ ∃ os m, w' = w1.grew os m) :
    Calls Try.prog 151 #[.slice a n cap, .func (.func F) #[] cs] w fun e w' => e = .returned (.int .i64 (fstIx p xs 0)) ∧ ∃ os m, w' = w.grew os m := by
  unfold maxLen at hn
  obtain rfl := hs.len
  have hcl := hs.at_
  clear hs
  go_enter Try.func151, Try.ntmps151
  go_wp2
  go_loopw [8] (fun i wr => ∃ k : Nat, k ≤ xs.length ∧ i = .int .i64 k ∧ fstIx p xs 0 = fstIx p (xs.drop k) k ∧ ∃ os m, wr = w.grew os m) (fun i _ => xs.length - (intOf i).toNat)
  case atStart => exact ⟨0, Nat.zero_le _, rfl, rfl, (by (try show Gr _ _); repeat (with_reducible first | exact Gr.refl _ | refine Gr.drewN ?_ _ | refine Gr.grew ?_ _ _ | refine Gr.alloc ?_ _ | refine Gr.drew ?_))⟩
  case round =>
    obtain ⟨k, hk, rfl, hf, os, m, rfl⟩ := hrel
    by_cases hlt : k < xs.length
    · obtain ⟨b, off, r, rfl, hcell, hr⟩ := hcl k hlt
      have hfd := fstIx_drop (p := p) hlt
      have hFk := hF k hlt r (w.grew os m) ⟨os, m, rfl⟩ hr
      clear hcl hF
      cases hp : p xs[k]
      · rw [hp] at hFk hfd
        have Hf := Lib.hid (hf.trans hfd)
        have Hc := Lib.hid hFk
        clear hf hfd hp hFk
        go_wp2_with fail
        refine Hc.out.mono ?_
        rintro e w' ⟨rfl, os', m', rfl⟩
        go_wp2
        go_roundw
        case rel => exact ⟨k + 1, by omega, by go_num, by rw [Hf.out]; simp, (by (try show Gr _ _); repeat (with_reducible first | exact Gr.refl _ | refine Gr.drewN ?_ _ | refine Gr.grew ?_ _ _ | refine Gr.alloc ?_ _ | refine Gr.drew ?_))⟩
        case measure => simp [intOf]; omega
      · rw [hp] at hFk hfd
        have Hf := Lib.hid (hf.trans hfd)
        have Hc := Lib.hid hFk
        clear hf hfd hp hFk
        go_wp2_with fail
        refine Hc.out.mono ?_
        rintro e w' ⟨rfl, os', m', rfl⟩
        go_wp2
        go_ret
        exact ⟨by rw [Hf.out]; simp, (by (try show Gr _ _); repeat (with_reducible first | exact Gr.refl _ | refine Gr.drewN ?_ _ | refine Gr.grew ?_ _ _ | refine Gr.alloc ?_ _ | refine Gr.drew ?_))⟩
    · obtain rfl : k = xs.length := by omega
      have Hf : Hid (fstIx p xs 0 = -1) := by rw [hf, List.drop_length]; rfl
      clear hcl hF hf
      go_wp2
      go_ret
      exact ⟨congrArg (fun z => Ending.returned (.int .i64 z)) Hf.out.symm, (by (try show Gr _ _); repeat (with_reducible first | exact Gr.refl _ | refine Gr.drewN ?_ _ | refine Gr.grew ?_ _ _ | refine Gr.alloc ?_ _ | refine Gr.drew ?_))⟩
set_option maxHeartbeats 400000 in
theorem ContainsFunc (a : Option Addr) (n cap : Nat) (xs : List Nat) (p : Nat → Bool) (F : FuncId) (cs : Array Value) (w : World) (hs : FSl w a n xs) (hn : n ≤ maxLen)
    (hc : ∀ args w, (callFunc F args).run Try.prog w = .ok (.enter F args) w)
    (hF : ∀ (i : Nat) (h : i < xs.length) (r : Nat) (w1 : World), Gr w w1 → FE .f32 r xs[i] → Calls Try.prog F (#[.float .f32 r] ++ cs) w1 fun e w' => e = .returned (.bool (p xs[i])) ∧ ∃ os m, w' = w1.grew os m) :
    Calls Try.prog 117 #[.slice a n cap, .func (.func F) #[] cs] w fun e w' => e = .returned (.bool (xs.any p)) ∧ ∃ os m, w' = w.grew os m := by
  have H := Lib.hid (IndexFunc a n cap xs p F cs w hs hn hc hF)
  have Hn := Lib.hid (fstIx_nonneg p xs 0)
  clear hF hs
  go_enter Try.func117, Try.ntmps117
  go_wp2_with fail
  refine H.out.mono ?_
  rintro e w' ⟨rfl, os, m, rfl⟩
  go_wp2
  go_ret
  exact ⟨by rw [← Hn.out]; rfl, (by (try show Gr _ _); repeat (with_reducible first | exact Gr.refl _ | refine Gr.drewN ?_ _ | refine Gr.grew ?_ _ _ | refine Gr.alloc ?_ _ | refine Gr.drew ?_))⟩
set_option maxHeartbeats 400000 in
theorem I_finite (a : Option Addr) (n cap : Nat) (xs : List Nat) (w : World) (hs : FSl w a n xs) (hn : n ≤ maxLen) :
    Calls Try.prog 148 #[.slice a n cap] w fun e w' => e = .returned (.bool (gFinAll xs)) ∧ ∃ os m, w' = w.grew os m := by
  have H := Lib.hid (ContainsFunc a n cap xs (fun x => !gFin x) 163 #[] w hs hn Try.call163 (fun i h r w1 _ hr => I_finite_1 r _ w1 hr))
  clear hs
  go_enter Try.func148, Try.ntmps148
  go_wp2_with fail
  refine H.out.mono ?_
  rintro e w' ⟨rfl, os, m, rfl⟩
  go_wp2
  go_ret
  exact ⟨rfl, (by (try show Gr _ _); repeat (with_reducible first | exact Gr.refl _ | refine Gr.drewN ?_ _ | refine Gr.grew ?_ _ _ | refine Gr.alloc ?_ _ | refine Gr.drew ?_))⟩
set_option maxHeartbeats 400000 in
theorem S_l06Is (f b x y F B X Y bl of : Nat) (w : World) (hf : FE .f32 f F) (hb : FE .f32 b B) (hx : FE .f32 x X) (hy : FE .f32 y Y)
    (c0 : w.cell? ⟨bl, of, none⟩ = some (.float .f32 f)) (c1 : w.cell? ⟨bl, of + 1, none⟩ = some (.float .f32 b)) (c2 : w.cell? ⟨bl, of + 2, none⟩ = some (.float .f32 x)) (c3 : w.cell? ⟨bl, of + 3, none⟩ = some (.float .f32 y)) :
    Calls Try.prog 107 #[.pointer (some ⟨bl, of, none⟩)] w fun e w' => e = .returned (.bool (gCam F B X Y)) ∧ ∃ n, w' = w.drewN n := by
  rcases (show (gPlus F = false) ∨ (gPlus F = true ∧ gPlus B = false) ∨ (gPlus F = true ∧ gPlus B = true ∧ gFin X = false) ∨ (gPlus F = true ∧ gPlus B = true ∧ gFin X = true ∧ gFin Y = false) ∨ (gPlus F = true ∧ gPlus B = true ∧ gFin X = true ∧ gFin Y = true) by cases gPlus F <;> cases gPlus B <;> cases gFin X <;> cases gFin Y <;> simp) with t1 | ⟨t1, t2⟩ | ⟨t1, t2, t3⟩ | ⟨t1, t2, t3, t4⟩ | ⟨t1, t2, t3, t4⟩
  all_goals
    go_enter Try.func107, Try.ntmps107
    go_wp2_with (first
      | (go_at_call 144; with_reducible refine (S_l06Above _ _ _ ‹_›).mono ?_; rintro e w' ⟨rfl, n, rfl⟩)
      | (go_at_call 145; with_reducible refine (S_l01Finite _ _ _ ‹_›).mono ?_; rintro e w' ⟨rfl, n, rfl⟩)
      | ((with_reducible apply wpList_fop); (case hw => rfl); (case hop => rfl); (case hx => rfl); (case hy => rfl); (case hA => (first | assumption | exact FE.ofInt _ _ | exact FE.lit (by decide +kernel))); (case hB => (first | assumption | exact FE.ofInt _ _ | exact FE.lit (by decide +kernel))); intro r n hr)
      | ((with_reducible apply wpList_fcmp); (case hw => rfl); (case hop => rfl); (case hx => rfl); (case hy => rfl); (case hA => (first | assumption | exact FE.ofInt _ _ | exact FE.lit (by decide +kernel))); (case hB => (first | assumption | exact FE.ofInt _ _ | exact FE.lit (by decide +kernel))); (case hb => (first | assumption | rfl)))
      | ((with_reducible apply wpList_widen); (case hw => rfl); (case hs => exact Try.underlying65); (case hd => exact Try.underlying147); (case hx => rfl); (case hA => (first | assumption | exact FE.ofInt _ _ | exact FE.lit (by decide +kernel))); intro r n hr)
      | ((with_reducible apply wpList_fneg); (case hw => rfl); (case hx => rfl); (case hA => (first | assumption | exact FE.ofInt _ _ | exact FE.lit (by decide +kernel))); intro r hr))
    go_ret
    exact ⟨by simp [gCam, *], (by first | exact ⟨0, rfl⟩ | exact ⟨_, rfl⟩)⟩
set_option maxHeartbeats 400000 in
theorem L_toCamera (a b c d : Nat) (w : World) :
    Calls Try.prog 45 #[.agg #[.float .f32 a, .float .f32 b, .float .f32 c, .float .f32 d]] w fun e w' => e = .returned (.agg #[.float .f32 a, .float .f32 b, .float .f32 c, .float .f32 d]) ∧ ∃ os m, w' = w.grew os m := by
  go_enter Try.func45, Try.ntmps45
  go_wp2_with (first
      | ((with_reducible apply wpList_fop); (case hw => rfl); (case hop => rfl); (case hx => rfl); (case hy => rfl); (case hA => (first | assumption | exact FE.ofInt _ _ | exact FE.lit (by decide +kernel))); (case hB => (first | assumption | exact FE.ofInt _ _ | exact FE.lit (by decide +kernel))); intro r n hr)
      | ((with_reducible apply wpList_fcmp); (case hw => rfl); (case hop => rfl); (case hx => rfl); (case hy => rfl); (case hA => (first | assumption | exact FE.ofInt _ _ | exact FE.lit (by decide +kernel))); (case hB => (first | assumption | exact FE.ofInt _ _ | exact FE.lit (by decide +kernel))); (case hb => (first | assumption | rfl)))
      | ((with_reducible apply wpList_widen); (case hw => rfl); (case hs => exact Try.underlying65); (case hd => exact Try.underlying147); (case hx => rfl); (case hA => (first | assumption | exact FE.ofInt _ _ | exact FE.lit (by decide +kernel))); intro r n hr)
      | ((with_reducible apply wpList_fneg); (case hw => rfl); (case hx => rfl); (case hA => (first | assumption | exact FE.ofInt _ _ | exact FE.lit (by decide +kernel))); intro r hr))
  exact bodyPost_ret (v := .agg #[.float .f32 a, .float .f32 b, .float .f32 c, .float .f32 d]) (by simp [results, Try.results45, go_sem]) rfl ⟨rfl, (by (try show Gr _ _); repeat (with_reducible first | exact Gr.refl _ | refine Gr.drewN ?_ _ | refine Gr.grew ?_ _ _ | refine Gr.alloc ?_ _ | refine Gr.drew ?_))⟩
set_option maxHeartbeats 400000 in
theorem I_ValidCamera (f b x y F B X Y : Nat) (w : World) (hf : FE .f32 f F) (hb : FE .f32 b B) (hx : FE .f32 x X) (hy : FE .f32 y Y) :
    Calls Try.prog 109 #[.agg #[.float .f32 f, .float .f32 b, .float .f32 x, .float .f32 y]] w fun e w' => e = .returned (.bool (gCam F B X Y)) ∧ ∃ os m, w' = w.grew os m := by
  have e1 : gCam F B X Y = (gPlus F && (gPlus B && gFinAll [X, Y])) := by simp [gCam, gFinAll, Bool.and_assoc]
  rw [e1]
  clear e1
  rcases (show (gPlus F = false) ∨ (gPlus F = true ∧ gPlus B = false) ∨ (gPlus F = true ∧ gPlus B = true) by cases gPlus F <;> cases gPlus B <;> simp) with t1 | ⟨t1, t2⟩ | ⟨t1, t2⟩
  all_goals
    go_enter Try.func109, Try.ntmps109
    go_wp2_with (first
      | (go_at_call 147; with_reducible refine (I_plus _ _ _ ‹_›).mono ?_; rintro e w' ⟨rfl, n, rfl⟩)
      | (go_at_call 148; with_reducible refine (I_finite _ _ _ [X, Y] _ (by exact FSl.two hx hy (by simp [go_sem]) (by simp [go_sem])) (by unfold maxLen; omega)).mono ?_; rintro e w' ⟨rfl, os, m, rfl⟩)
      | ((with_reducible apply wpList_fop); (case hw => rfl); (case hop => rfl); (case hx => rfl); (case hy => rfl); (case hA => (first | assumption | exact FE.ofInt _ _ | exact FE.lit (by decide +kernel))); (case hB => (first | assumption | exact FE.ofInt _ _ | exact FE.lit (by decide +kernel))); intro r n hr)
      | ((with_reducible apply wpList_fcmp); (case hw => rfl); (case hop => rfl); (case hx => rfl); (case hy => rfl); (case hA => (first | assumption | exact FE.ofInt _ _ | exact FE.lit (by decide +kernel))); (case hB => (first | assumption | exact FE.ofInt _ _ | exact FE.lit (by decide +kernel))); (case hb => (first | assumption | rfl)))
      | ((with_reducible apply wpList_widen); (case hw => rfl); (case hs => exact Try.underlying65); (case hd => exact Try.underlying147); (case hx => rfl); (case hA => (first | assumption | exact FE.ofInt _ _ | exact FE.lit (by decide +kernel))); intro r n hr)
      | ((with_reducible apply wpList_fneg); (case hw => rfl); (case hx => rfl); (case hA => (first | assumption | exact FE.ofInt _ _ | exact FE.lit (by decide +kernel))); intro r hr))
    go_ret
    exact ⟨by simp [*], (by (try show Gr _ _); repeat (with_reducible first | exact Gr.refl _ | refine Gr.drewN ?_ _ | refine Gr.grew ?_ _ _ | refine Gr.alloc ?_ _ | refine Gr.drew ?_))⟩
def gFar (f b d : Nat) : Option Nat :=
  if gPlus d && gPlus (fop .quo .f32 (fop .mul .f32 f b) d) then some (fop .quo .f32 (fop .mul .f32 f b) d) else none
set_option maxHeartbeats 400000 in
theorem S_l06Depth (f b d F B D : Nat) (bl of : Nat) (w : World) (hf : FE .f32 f F) (hb : FE .f32 b B) (hd : FE .f32 d D)
    (c0 : w.cell? ⟨bl, of, none⟩ = some (.float .f32 f)) (c1 : w.cell? ⟨bl, of + 1, none⟩ = some (.float .f32 b)) :
    Calls Try.prog 161 #[.pointer (some ⟨bl, of, none⟩), .float .f32 d] w fun e w' => (∃ r, e = .returned (.tuple #[.float .f32 r, .bool (gFar F B D).isSome]) ∧ FE .f32 r ((gFar F B D).getD 0)) ∧ ∃ n, w' = w.drewN n := by
  have h0 := FE0
  rcases (show (gPlus D = false) ∨ (gPlus D = true ∧ gPlus (fop .quo .f32 (fop .mul .f32 F B) D) = false) ∨ (gPlus D = true ∧ gPlus (fop .quo .f32 (fop .mul .f32 F B) D) = true) by cases gPlus D <;> cases gPlus (fop .quo .f32 (fop .mul .f32 F B) D) <;> simp) with t1 | ⟨t1, t2⟩ | ⟨t1, t2⟩
  · go_enter Try.func161, Try.ntmps161
    go_wp2_with (first
      | (go_at_call 144; with_reducible refine (S_l06Above _ _ _ ‹_›).mono ?_; rintro e w' ⟨rfl, n, rfl⟩)
      | ((with_reducible apply wpList_fop); (case hw => rfl); (case hop => rfl); (case hx => rfl); (case hy => rfl); (case hA => (first | assumption | exact FE.ofInt _ _ | exact FE.lit (by decide +kernel))); (case hB => (first | assumption | exact FE.ofInt _ _ | exact FE.lit (by decide +kernel))); intro r n hr)
      | ((with_reducible apply wpList_fcmp); (case hw => rfl); (case hop => rfl); (case hx => rfl); (case hy => rfl); (case hA => (first | assumption | exact FE.ofInt _ _ | exact FE.lit (by decide +kernel))); (case hB => (first | assumption | exact FE.ofInt _ _ | exact FE.lit (by decide +kernel))); (case hb => (first | assumption | rfl)))
      | ((with_reducible apply wpList_widen); (case hw => rfl); (case hs => exact Try.underlying65); (case hd => exact Try.underlying147); (case hx => rfl); (case hA => (first | assumption | exact FE.ofInt _ _ | exact FE.lit (by decide +kernel))); intro r n hr)
      | ((with_reducible apply wpList_fneg); (case hw => rfl); (case hx => rfl); (case hA => (first | assumption | exact FE.ofInt _ _ | exact FE.lit (by decide +kernel))); intro r hr))
    go_ret2
    exact ⟨⟨0, by simp [gFar, *], by simp [gFar, *]⟩, (by first | exact ⟨0, rfl⟩ | exact ⟨_, rfl⟩)⟩
  all_goals
    go_enter Try.func161, Try.ntmps161
    go_wp2_with (first
      | (go_at_call 144; with_reducible refine (S_l06Above _ _ _ ‹_›).mono ?_; rintro e w' ⟨rfl, n, rfl⟩)
      | ((with_reducible apply wpList_fop); (case hw => rfl); (case hop => rfl); (case hx => rfl); (case hy => rfl); (case hA => (first | assumption | exact FE.ofInt _ _ | exact FE.lit (by decide +kernel))); (case hB => (first | assumption | exact FE.ofInt _ _ | exact FE.lit (by decide +kernel))); intro r n hr)
      | ((with_reducible apply wpList_fcmp); (case hw => rfl); (case hop => rfl); (case hx => rfl); (case hy => rfl); (case hA => (first | assumption | exact FE.ofInt _ _ | exact FE.lit (by decide +kernel))); (case hB => (first | assumption | exact FE.ofInt _ _ | exact FE.lit (by decide +kernel))); (case hb => (first | assumption | rfl)))
      | ((with_reducible apply wpList_widen); (case hw => rfl); (case hs => exact Try.underlying65); (case hd => exact Try.underlying147); (case hx => rfl); (case hA => (first | assumption | exact FE.ofInt _ _ | exact FE.lit (by decide +kernel))); intro r n hr)
      | ((with_reducible apply wpList_fneg); (case hw => rfl); (case hx => rfl); (case hA => (first | assumption | exact FE.ofInt _ _ | exact FE.lit (by decide +kernel))); intro r hr))
    apply region_drew 11
    case hm => kernel_rfl
    case hB => kernel_rfl
    simp only [List.take_succ_cons, List.take_zero, List.drop_succ_cons, List.drop_zero]
    repeat (first
      | (apply wpSoft_skip rfl; simp only [Act.put, List.setIfInBounds_toArray, List.set_cons_succ, List.set_cons_zero])
      | (apply wpSoft_nilCheck rfl rfl; simp only [Act.put, List.setIfInBounds_toArray, List.set_cons_succ, List.set_cons_zero])
      | ((with_reducible apply wpSoft_fop); (case hw => rfl); (case hD => exact closed_drew); (case hop => rfl); (case hx => rfl); (case hy => rfl); (case hA => (first | assumption | exact FE.ofInt _ _ | exact FE.lit (by decide +kernel))); (case hB => (first | assumption | exact FE.ofInt _ _ | exact FE.lit (by decide +kernel))); (intro r hr; simp only [Act.put, List.setIfInBounds_toArray, List.set_cons_succ, List.set_cons_zero]))

      | ((with_reducible apply wpSoft_widen); (case hw => rfl); (case hD => exact closed_drew); (case hs => exact Try.underlying65); (case hd => exact Try.underlying147); (case hx => rfl); (case hA => (first | assumption | exact FE.ofInt _ _ | exact FE.lit (by decide +kernel))); (intro r hr; simp only [Act.put, List.setIfInBounds_toArray, List.set_cons_succ, List.set_cons_zero]))
      | ((with_reducible apply wpSoft_fneg); (case hw => rfl); (case hx => rfl); (case hA => (first | assumption | exact FE.ofInt _ _ | exact FE.lit (by decide +kernel))); (intro r hr; simp only [Act.put, List.setIfInBounds_toArray, List.set_cons_succ, List.set_cons_zero]))
      | ((with_reducible apply wpSoft_fcmp); (case hw => rfl); (case hop => rfl); (case hx => rfl); (case hy => rfl); (case hA => (first | assumption | exact FE.ofInt _ _ | exact FE.lit (by decide +kernel))); (case hB => (first | assumption | exact FE.ofInt _ _ | exact FE.lit (by decide +kernel))); (case hb => (first | assumption | rfl)); simp only [Act.put, List.setIfInBounds_toArray, List.set_cons_succ, List.set_cons_zero])
      | (apply wpSoft_q rfl rfl; intro K hK; go_big_quiet_op; go_big_quiet_on))
    with_reducible apply wpSoft_nil
    intro m
    go_wp2_with (first
      | (go_at_call 144; with_reducible refine (S_l06Above _ _ _ ‹_›).mono ?_; rintro e w' ⟨rfl, n, rfl⟩)
      | ((with_reducible apply wpList_fop); (case hw => rfl); (case hop => rfl); (case hx => rfl); (case hy => rfl); (case hA => (first | assumption | exact FE.ofInt _ _ | exact FE.lit (by decide +kernel))); (case hB => (first | assumption | exact FE.ofInt _ _ | exact FE.lit (by decide +kernel))); intro r n hr)
      | ((with_reducible apply wpList_fcmp); (case hw => rfl); (case hop => rfl); (case hx => rfl); (case hy => rfl); (case hA => (first | assumption | exact FE.ofInt _ _ | exact FE.lit (by decide +kernel))); (case hB => (first | assumption | exact FE.ofInt _ _ | exact FE.lit (by decide +kernel))); (case hb => (first | assumption | rfl)))
      | ((with_reducible apply wpList_widen); (case hw => rfl); (case hs => exact Try.underlying65); (case hd => exact Try.underlying147); (case hx => rfl); (case hA => (first | assumption | exact FE.ofInt _ _ | exact FE.lit (by decide +kernel))); intro r n hr)
      | ((with_reducible apply wpList_fneg); (case hw => rfl); (case hx => rfl); (case hA => (first | assumption | exact FE.ofInt _ _ | exact FE.lit (by decide +kernel))); intro r hr))
    go_ret2
    refine ⟨⟨_, by simp [gFar, *]; rfl, by simp [gFar, *]⟩, (by first | exact ⟨0, rfl⟩ | exact ⟨_, rfl⟩)⟩
set_option maxHeartbeats 400000 in
theorem I_Camera_far (f b d F B D : Nat) (bl of : Nat) (w : World) (hf : FE .f32 f F) (hb : FE .f32 b B) (hd : FE .f32 d D)
    (c0 : w.cell? ⟨bl, of, none⟩ = some (.float .f32 f)) (c1 : w.cell? ⟨bl, of + 1, none⟩ = some (.float .f32 b)) :
    Calls Try.prog 110 #[.pointer (some ⟨bl, of, none⟩), .float .f32 d] w fun e w' => (∃ r, e = .returned (.tuple #[.float .f32 r, .bool (gFar F B D).isSome]) ∧ FE .f32 r ((gFar F B D).getD 0)) ∧ ∃ n, w' = w.drewN n := by
  have h0 := FE0
  rcases (show (gPlus D = false) ∨ (gPlus D = true ∧ gPlus (fop .quo .f32 (fop .mul .f32 F B) D) = false) ∨ (gPlus D = true ∧ gPlus (fop .quo .f32 (fop .mul .f32 F B) D) = true) by cases gPlus D <;> cases gPlus (fop .quo .f32 (fop .mul .f32 F B) D) <;> simp) with t1 | ⟨t1, t2⟩ | ⟨t1, t2⟩
  · go_enter Try.func110, Try.ntmps110
    go_wp2_with (first
      | (go_at_call 147; with_reducible refine (I_plus _ _ _ ‹_›).mono ?_; rintro e w' ⟨rfl, n, rfl⟩)
      | ((with_reducible apply wpList_fop); (case hw => rfl); (case hop => rfl); (case hx => rfl); (case hy => rfl); (case hA => (first | assumption | exact FE.ofInt _ _ | exact FE.lit (by decide +kernel))); (case hB => (first | assumption | exact FE.ofInt _ _ | exact FE.lit (by decide +kernel))); intro r n hr)
      | ((with_reducible apply wpList_fcmp); (case hw => rfl); (case hop => rfl); (case hx => rfl); (case hy => rfl); (case hA => (first | assumption | exact FE.ofInt _ _ | exact FE.lit (by decide +kernel))); (case hB => (first | assumption | exact FE.ofInt _ _ | exact FE.lit (by decide +kernel))); (case hb => (first | assumption | rfl)))
      | ((with_reducible apply wpList_widen); (case hw => rfl); (case hs => exact Try.underlying65); (case hd => exact Try.underlying147); (case hx => rfl); (case hA => (first | assumption | exact FE.ofInt _ _ | exact FE.lit (by decide +kernel))); intro r n hr)
      | ((with_reducible apply wpList_fneg); (case hw => rfl); (case hx => rfl); (case hA => (first | assumption | exact FE.ofInt _ _ | exact FE.lit (by decide +kernel))); intro r hr))
    go_ret2
    exact ⟨⟨0, by simp [gFar, *], by simp [gFar, *]⟩, (by first | exact ⟨0, rfl⟩ | exact ⟨_, rfl⟩)⟩
  all_goals
    go_enter Try.func110, Try.ntmps110
    go_wp2_with (first
      | (go_at_call 147; with_reducible refine (I_plus _ _ _ ‹_›).mono ?_; rintro e w' ⟨rfl, n, rfl⟩)
      | ((with_reducible apply wpList_fop); (case hw => rfl); (case hop => rfl); (case hx => rfl); (case hy => rfl); (case hA => (first | assumption | exact FE.ofInt _ _ | exact FE.lit (by decide +kernel))); (case hB => (first | assumption | exact FE.ofInt _ _ | exact FE.lit (by decide +kernel))); intro r n hr)
      | ((with_reducible apply wpList_fcmp); (case hw => rfl); (case hop => rfl); (case hx => rfl); (case hy => rfl); (case hA => (first | assumption | exact FE.ofInt _ _ | exact FE.lit (by decide +kernel))); (case hB => (first | assumption | exact FE.ofInt _ _ | exact FE.lit (by decide +kernel))); (case hb => (first | assumption | rfl)))
      | ((with_reducible apply wpList_widen); (case hw => rfl); (case hs => exact Try.underlying65); (case hd => exact Try.underlying147); (case hx => rfl); (case hA => (first | assumption | exact FE.ofInt _ _ | exact FE.lit (by decide +kernel))); intro r n hr)
      | ((with_reducible apply wpList_fneg); (case hw => rfl); (case hx => rfl); (case hA => (first | assumption | exact FE.ofInt _ _ | exact FE.lit (by decide +kernel))); intro r hr))
    apply region_drew 11
    case hm => kernel_rfl
    case hB => kernel_rfl
    simp only [List.take_succ_cons, List.take_zero, List.drop_succ_cons, List.drop_zero]
    repeat (first
      | (apply wpSoft_skip rfl; simp only [Act.put, List.setIfInBounds_toArray, List.set_cons_succ, List.set_cons_zero])
      | (apply wpSoft_nilCheck rfl rfl; simp only [Act.put, List.setIfInBounds_toArray, List.set_cons_succ, List.set_cons_zero])
      | ((with_reducible apply wpSoft_fop); (case hw => rfl); (case hD => exact closed_drew); (case hop => rfl); (case hx => rfl); (case hy => rfl); (case hA => (first | assumption | exact FE.ofInt _ _ | exact FE.lit (by decide +kernel))); (case hB => (first | assumption | exact FE.ofInt _ _ | exact FE.lit (by decide +kernel))); (intro r hr; simp only [Act.put, List.setIfInBounds_toArray, List.set_cons_succ, List.set_cons_zero]))

      | ((with_reducible apply wpSoft_widen); (case hw => rfl); (case hD => exact closed_drew); (case hs => exact Try.underlying65); (case hd => exact Try.underlying147); (case hx => rfl); (case hA => (first | assumption | exact FE.ofInt _ _ | exact FE.lit (by decide +kernel))); (intro r hr; simp only [Act.put, List.setIfInBounds_toArray, List.set_cons_succ, List.set_cons_zero]))
      | ((with_reducible apply wpSoft_fneg); (case hw => rfl); (case hx => rfl); (case hA => (first | assumption | exact FE.ofInt _ _ | exact FE.lit (by decide +kernel))); (intro r hr; simp only [Act.put, List.setIfInBounds_toArray, List.set_cons_succ, List.set_cons_zero]))
      | ((with_reducible apply wpSoft_fcmp); (case hw => rfl); (case hop => rfl); (case hx => rfl); (case hy => rfl); (case hA => (first | assumption | exact FE.ofInt _ _ | exact FE.lit (by decide +kernel))); (case hB => (first | assumption | exact FE.ofInt _ _ | exact FE.lit (by decide +kernel))); (case hb => (first | assumption | rfl)); simp only [Act.put, List.setIfInBounds_toArray, List.set_cons_succ, List.set_cons_zero])
      | (apply wpSoft_q rfl rfl; intro K hK; go_big_quiet_op; go_big_quiet_on))
    with_reducible apply wpSoft_nil
    intro m
    go_wp2_with (first
      | (go_at_call 147; with_reducible refine (I_plus _ _ _ ‹_›).mono ?_; rintro e w' ⟨rfl, n, rfl⟩)
      | ((with_reducible apply wpList_fop); (case hw => rfl); (case hop => rfl); (case hx => rfl); (case hy => rfl); (case hA => (first | assumption | exact FE.ofInt _ _ | exact FE.lit (by decide +kernel))); (case hB => (first | assumption | exact FE.ofInt _ _ | exact FE.lit (by decide +kernel))); intro r n hr)
      | ((with_reducible apply wpList_fcmp); (case hw => rfl); (case hop => rfl); (case hx => rfl); (case hy => rfl); (case hA => (first | assumption | exact FE.ofInt _ _ | exact FE.lit (by decide +kernel))); (case hB => (first | assumption | exact FE.ofInt _ _ | exact FE.lit (by decide +kernel))); (case hb => (first | assumption | rfl)))
      | ((with_reducible apply wpList_widen); (case hw => rfl); (case hs => exact Try.underlying65); (case hd => exact Try.underlying147); (case hx => rfl); (case hA => (first | assumption | exact FE.ofInt _ _ | exact FE.lit (by decide +kernel))); intro r n hr)
      | ((with_reducible apply wpList_fneg); (case hw => rfl); (case hx => rfl); (case hA => (first | assumption | exact FE.ofInt _ _ | exact FE.lit (by decide +kernel))); intro r hr))
    go_ret2
    refine ⟨⟨_, by simp [gFar, *]; rfl, by simp [gFar, *]⟩, (by first | exact ⟨0, rfl⟩ | exact ⟨_, rfl⟩)⟩
/-- DepthOf: the depth, and whether there is one. -/
def gDepth (f b x y d : Nat) : Option Nat := if gCam f b x y then gFar f b d else none
end Go.Proofs.Ytaidkokgafojeaa
