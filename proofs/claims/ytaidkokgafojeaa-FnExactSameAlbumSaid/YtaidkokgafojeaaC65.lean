/- Contracts: pictures and albums that are the same. MAXREC -/
import Derived.Test.YtaidkokgafojeaaProg
import Derived.Test.YtaidkokgafojeaaC56
import Derived.Test.YtaidkokgafojeaaC64
import Derived.Deep.DeepCutAuto
import Derived.Deep.RegionHeld3
namespace Go.Fx
open Go Go.Soft Go.RowKit
def gSame (X Y : Nat) : Bool := decide (gBits X = gBits Y)
theorem nan_bits : isN .f32 2143289344 = true := by decide +kernel
theorem gSame_nn {X Y : Nat} (hX : isN .f32 X = true) (hY : isN .f32 Y = true) : gSame X Y = true := by unfold gSame gBits; rw [hX, hY]; rfl
theorem gSame_ny {X Y : Nat} (hX : isN .f32 X = true) (hY : isN .f32 Y = false) : gSame X Y = false := by
  unfold gSame gBits; rw [hX, hY]
  refine decide_eq_false ?_
  intro e
  rw [if_pos rfl, if_neg (by decide)] at e
  rw [← e, nan_bits] at hY; cases hY
theorem gSame_yn {X Y : Nat} (hX : isN .f32 X = false) (hY : isN .f32 Y = true) : gSame X Y = false := by
  unfold gSame gBits; rw [hX, hY]
  refine decide_eq_false ?_
  intro e
  rw [if_pos rfl, if_neg (by decide)] at e
  rw [e, nan_bits] at hX; cases hX
theorem gSame_yy {X Y : Nat} (hX : isN .f32 X = false) (hY : isN .f32 Y = false) : gSame X Y = decide (X = Y) := by
  unfold gSame gBits; rw [hX, hY]; rfl
/-- Whether two lists of floats are the same. -/
def gSames (xs ys : List Nat) : Bool := decide (xs.length = ys.length) && (List.range xs.length).all fun i => gSame (xs.getD i 0) (ys.getD i 0)
theorem gSames_len {xs ys : List Nat} (h : ¬ xs.length = ys.length) : gSames xs ys = false := by unfold gSames; rw [decide_eq_false h]; rfl
theorem gSames_no {xs ys : List Nat} {i : Nat} (hi : i < xs.length) (h : gSame (xs.getD i 0) (ys.getD i 0) = false) : gSames xs ys = false := by
  cases hg : gSames xs ys
  · rfl
  · unfold gSames at hg
    rw [Bool.and_eq_true] at hg
    have := List.all_eq_true.1 hg.2 i (List.mem_range.2 hi)
    rw [h] at this; cases this
theorem gSames_yes {xs ys : List Nat} (hl : xs.length = ys.length) (h : ∀ i, i < xs.length → gSame (xs.getD i 0) (ys.getD i 0) = true) : gSames xs ys = true := by
  unfold gSames
  rw [decide_eq_true hl, Bool.true_and]
  exact List.all_eq_true.2 fun i hi => h i (List.mem_range.1 hi)
def gSamePic (p q : Pic) : Bool := decide (p.wide = q.wide) && (decide (p.high = q.high) && gSames p.gs q.gs)
def gSamePics (ps qs : List Pic) : Bool := decide (ps.length = qs.length) && (List.range ps.length).all fun i => gSamePic (pAt ps i) (pAt qs i)
theorem gSamePics_len {xs ys : List Pic} (h : ¬ xs.length = ys.length) : gSamePics xs ys = false := by unfold gSamePics; rw [decide_eq_false h]; rfl
theorem gSamePics_no {xs ys : List Pic} {i : Nat} (hi : i < xs.length) (h : gSamePic (pAt xs i) (pAt ys i) = false) : gSamePics xs ys = false := by
  cases hg : gSamePics xs ys
  · rfl
  · unfold gSamePics at hg
    rw [Bool.and_eq_true] at hg
    have := List.all_eq_true.1 hg.2 i (List.mem_range.2 hi)
    rw [h] at this; cases this
theorem gSamePics_yes {xs ys : List Pic} (hl : xs.length = ys.length) (h : ∀ i, i < xs.length → gSamePic (pAt xs i) (pAt ys i) = true) : gSamePics xs ys = true := by
  unfold gSamePics
  rw [decide_eq_true hl, Bool.true_and]
  exact List.all_eq_true.2 fun i hi => h i (List.mem_range.1 hi)
end Go.Fx
namespace Go.Proofs.Ytaidkokgafojeaa
open Go.RowKit Go.Fx Go.Soft
set_option maxRecDepth 20000 in
set_option maxHeartbeats 1000000 in
theorem S_l01Same (x y X Y : Nat) (w : World) (hx : FE .f32 x X) (hy : FE .f32 y Y) :
    Calls Try.prog 157 #[.float .f32 x, .float .f32 y] w fun e w' => e = .returned (.bool (gSame X Y)) ∧ ∃ n, w' = w.drewN n := by
  have L1 := Lib.hid (fun w1 => S_l01Bits x X w1 hx)
  have L2 := Lib.hid (fun w1 => S_l01Bits y Y w1 hy)
  obtain ⟨R, hR⟩ : ∃ R, R = gSame X Y := ⟨_, rfl⟩
  rw [← hR]
  unfold gSame at hR
  generalize gBits X = p at *
  generalize gBits Y = q at *
  by_cases hpq : p = q
  · rw [decide_eq_true hpq] at hR
    subst hR hpq
    go_enter Try.func157, Try.ntmps157
    go_wp2_with (first
      | (go_at_call 120; refine (L1.out _).mono ?_; rintro e w' ⟨rfl, n, rfl⟩)
      | (go_at_call 120; refine (L2.out _).mono ?_; rintro e w' ⟨rfl, n2, rfl⟩))
    go_ret
    exact ⟨by simp, (by first | exact ⟨0, rfl⟩ | exact ⟨_, rfl⟩)⟩
  · rw [decide_eq_false hpq] at hR
    subst hR
    go_enter Try.func157, Try.ntmps157
    go_wp2_with (first
      | (go_at_call 120; refine (L1.out _).mono ?_; rintro e w' ⟨rfl, n, rfl⟩)
      | (go_at_call 120; refine (L2.out _).mono ?_; rintro e w' ⟨rfl, n2, rfl⟩))
    go_ret
    exact ⟨congrArg (fun z => Ending.returned (.bool z)) (by simp; omega), (by first | exact ⟨0, rfl⟩ | exact ⟨_, rfl⟩)⟩
set_option maxRecDepth 20000 in
set_option maxHeartbeats 2000000 in
theorem S_l01SameAll (a b : Option Addr) (ca cb : Nat) (xs ys : List Nat) (w : World) (hx : FSl w a xs.length xs) (hy : FSl w b ys.length ys) (hn : xs.length ≤ 1048576) (hm : ys.length ≤ 1048576) :
    Calls Try.prog 131 #[.slice a xs.length ca, .slice b ys.length cb] w fun e w' => e = .returned (.bool (gSames xs ys)) ∧ ∃ n, w' = w.drewN n := by
  have Hx := Lib.hid hx
  have Hy := Lib.hid hy
  clear hx hy
  obtain ⟨R, hR⟩ : ∃ R, R = gSames xs ys := ⟨_, rfl⟩
  rw [← hR]
  have HR := Lib.hid hR
  clear hR
  by_cases hl : xs.length = ys.length
  · have Hl := Lib.hid hl
    rw [← hl] at Hy ⊢
    clear hm hl
    go_enter Try.func131, Try.ntmps131
    go_wp2
    go_loopw [5] (fun i wr => ∃ k : Nat, k ≤ xs.length ∧ i = .int .i64 k ∧ Hid (∀ j, j < k → gSame (xs.getD j 0) (ys.getD j 0) = true) ∧ ∃ q, wr = w.drewN q) (fun i _ => xs.length - (intOf i).toNat)
    case atStart => exact ⟨0, Nat.zero_le _, rfl, Lib.hid (fun j h => absurd h (Nat.not_lt_zero _)), 0, rfl⟩
    case round =>
      obtain ⟨k, hk, rfl, hv, q, rfl⟩ := hrel
      by_cases hlt : k < xs.length
      · obtain ⟨bx, ox, rfl⟩ := Hx.out.ptr (by omega)
        obtain ⟨by', oy, rfl⟩ := Hy.out.ptr (by rw [← Hl.out]; omega)
        obtain ⟨p, hc, hp⟩ := Hx.out.get k hlt
        obtain ⟨p', hc', hp'⟩ := Hy.out.get k (by rw [← Hl.out]; exact hlt)
        have LS := Lib.hid (fun w1 => S_l01Same p p' _ _ w1 hp hp')
        cases hT : gSame (xs.getD k 0) (ys.getD k 0)
        · obtain rfl : R = false := by rw [HR.out]; exact gSames_no hlt hT
          rw [hT] at LS
          clear hT hp hp'
          go_wp2
          go_region_held3 (fun w' => w'.cell? ⟨bx, ox + k, none⟩ = some (.float .f32 p) ∧ w'.cell? ⟨by', oy + k, none⟩ = some (.float .f32 p'))
      (first | (simp (maxDischargeDepth := 12) [go_sem]; done) | (simp (maxDischargeDepth := 12) [go_sem, *]; done)) (first
      | (go_at_call 157; refine (LS.out _).mono ?_; rintro e w' ⟨rfl, n, rfl⟩))
          go_wp2
          go_ret
          exact ⟨rfl, (by first | exact ⟨0, rfl⟩ | exact ⟨_, rfl⟩)⟩
        · have HV := Lib.hid (show ∀ j, j < k + 1 → gSame (xs.getD j 0) (ys.getD j 0) = true from fun j hj => by
            by_cases hjk : j < k
            · exact hv.out j hjk
            · obtain rfl : j = k := by omega
              exact hT)
          rw [hT] at LS
          clear hT hp hp'
          go_wp2
          go_region_held3 (fun w' => w'.cell? ⟨bx, ox + k, none⟩ = some (.float .f32 p) ∧ w'.cell? ⟨by', oy + k, none⟩ = some (.float .f32 p'))
      (first | (simp (maxDischargeDepth := 12) [go_sem]; done) | (simp (maxDischargeDepth := 12) [go_sem, *]; done)) (first
      | (go_at_call 157; refine (LS.out _).mono ?_; rintro e w' ⟨rfl, n, rfl⟩))
          go_wp2
          go_roundw
          case rel => exact ⟨k + 1, by omega, by go_num, HV, (by first | exact ⟨0, rfl⟩ | exact ⟨_, rfl⟩)⟩
          case measure => simp [intOf]; omega
      · obtain rfl : k = xs.length := by omega
        obtain rfl : R = true := by rw [HR.out]; exact gSames_yes Hl.out hv.out
        go_wp2
        go_ret
        exact ⟨rfl, (by first | exact ⟨0, rfl⟩ | exact ⟨_, rfl⟩)⟩
  · obtain rfl : R = false := by rw [HR.out]; exact gSames_len hl
    go_enter Try.func131, Try.ntmps131
    go_wp2
    go_ret
    exact ⟨rfl, (by first | exact ⟨0, rfl⟩ | exact ⟨_, rfl⟩)⟩
set_option maxRecDepth 20000 in
set_option maxHeartbeats 1000000 in
theorem I_SameNumber (x y X Y : Nat) (w : World) (hx : FE .f32 x X) (hy : FE .f32 y Y) :
    Calls Try.prog 159 #[.float .f32 x, .float .f32 y] w fun e w' => e = .returned (.bool (gSame X Y)) ∧ Gr w w' := by
  have cb := call_bits
  cases hX : isN .f32 X
  · have c1 : fcmp .neq .f32 X X = false := fcmp_neq_self hX
    cases hY : isN .f32 Y
    · have c2 : fcmp .neq .f32 Y Y = false := fcmp_neq_self hY
      rw [gSame_yy hX hY]
      obtain rfl := FE.numF hx hX
      obtain rfl := FE.numF hy hY
      obtain ⟨R, hR⟩ : ∃ R, R = decide (x = y) := ⟨_, rfl⟩
      rw [← hR]
      by_cases hxy : x = y
      · rw [decide_eq_true hxy] at hR
        subst hR hxy
        go_enter Try.func159, Try.ntmps159
        go_wp2_with (first
      | (simp only [cb])
      | go_in
      | ((with_reducible apply wpList_fop); (case hw => rfl); (case hop => rfl); (case hx => rfl); (case hy => rfl); (case hA => (first | assumption | exact FE.ofInt _ _ | exact FE.lit (by decide +kernel))); (case hB => (first | assumption | exact FE.ofInt _ _ | exact FE.lit (by decide +kernel))); intro r n hr)
      | ((with_reducible apply wpList_fcmp); (case hw => rfl); (case hop => rfl); (case hx => rfl); (case hy => rfl); (case hA => (first | assumption | exact FE.ofInt _ _ | exact FE.lit (by decide +kernel))); (case hB => (first | assumption | exact FE.ofInt _ _ | exact FE.lit (by decide +kernel))); (case hb => (first | assumption | rfl)))
      | ((with_reducible apply wpList_widen); (case hw => rfl); (case hs => exact Try.underlying65); (case hd => exact Try.underlying147); (case hx => rfl); (case hA => (first | assumption | exact FE.ofInt _ _ | exact FE.lit (by decide +kernel))); intro r n hr)
      | ((with_reducible apply wpList_fneg); (case hw => rfl); (case hx => rfl); (case hA => (first | assumption | exact FE.ofInt _ _ | exact FE.lit (by decide +kernel))); intro r hr))
        go_ret
        exact ⟨by simp, (by (try show Gr _ _); repeat (with_reducible first | exact Gr.refl _ | refine Gr.drewN ?_ _ | refine Gr.grew ?_ _ _ | refine Gr.alloc ?_ _ | refine Gr.drew ?_))⟩
      · rw [decide_eq_false hxy] at hR
        subst hR
        go_enter Try.func159, Try.ntmps159
        go_wp2_with (first
      | (simp only [cb])
      | go_in
      | ((with_reducible apply wpList_fop); (case hw => rfl); (case hop => rfl); (case hx => rfl); (case hy => rfl); (case hA => (first | assumption | exact FE.ofInt _ _ | exact FE.lit (by decide +kernel))); (case hB => (first | assumption | exact FE.ofInt _ _ | exact FE.lit (by decide +kernel))); intro r n hr)
      | ((with_reducible apply wpList_fcmp); (case hw => rfl); (case hop => rfl); (case hx => rfl); (case hy => rfl); (case hA => (first | assumption | exact FE.ofInt _ _ | exact FE.lit (by decide +kernel))); (case hB => (first | assumption | exact FE.ofInt _ _ | exact FE.lit (by decide +kernel))); (case hb => (first | assumption | rfl)))
      | ((with_reducible apply wpList_widen); (case hw => rfl); (case hs => exact Try.underlying65); (case hd => exact Try.underlying147); (case hx => rfl); (case hA => (first | assumption | exact FE.ofInt _ _ | exact FE.lit (by decide +kernel))); intro r n hr)
      | ((with_reducible apply wpList_fneg); (case hw => rfl); (case hx => rfl); (case hA => (first | assumption | exact FE.ofInt _ _ | exact FE.lit (by decide +kernel))); intro r hr))
        go_ret
        exact ⟨congrArg (fun z => Ending.returned (.bool z)) (by simp; omega), (by (try show Gr _ _); repeat (with_reducible first | exact Gr.refl _ | refine Gr.drewN ?_ _ | refine Gr.grew ?_ _ _ | refine Gr.alloc ?_ _ | refine Gr.drew ?_))⟩
    · have c2 : fcmp .neq .f32 Y Y = true := fcmp_neq_nan hY
      rw [gSame_yn hX hY]
      go_enter Try.func159, Try.ntmps159
      go_wp2_with (first
      | (simp only [cb])
      | go_in
      | ((with_reducible apply wpList_fop); (case hw => rfl); (case hop => rfl); (case hx => rfl); (case hy => rfl); (case hA => (first | assumption | exact FE.ofInt _ _ | exact FE.lit (by decide +kernel))); (case hB => (first | assumption | exact FE.ofInt _ _ | exact FE.lit (by decide +kernel))); intro r n hr)
      | ((with_reducible apply wpList_fcmp); (case hw => rfl); (case hop => rfl); (case hx => rfl); (case hy => rfl); (case hA => (first | assumption | exact FE.ofInt _ _ | exact FE.lit (by decide +kernel))); (case hB => (first | assumption | exact FE.ofInt _ _ | exact FE.lit (by decide +kernel))); (case hb => (first | assumption | rfl)))
      | ((with_reducible apply wpList_widen); (case hw => rfl); (case hs => exact Try.underlying65); (case hd => exact Try.underlying147); (case hx => rfl); (case hA => (first | assumption | exact FE.ofInt _ _ | exact FE.lit (by decide +kernel))); intro r n hr)
      | ((with_reducible apply wpList_fneg); (case hw => rfl); (case hx => rfl); (case hA => (first | assumption | exact FE.ofInt _ _ | exact FE.lit (by decide +kernel))); intro r hr))
      go_ret
      exact ⟨rfl, (by (try show Gr _ _); repeat (with_reducible first | exact Gr.refl _ | refine Gr.drewN ?_ _ | refine Gr.grew ?_ _ _ | refine Gr.alloc ?_ _ | refine Gr.drew ?_))⟩
  · have c1 : fcmp .neq .f32 X X = true := fcmp_neq_nan hX
    cases hY : isN .f32 Y
    · have c2 : fcmp .neq .f32 Y Y = false := fcmp_neq_self hY
      rw [gSame_ny hX hY]
      go_enter Try.func159, Try.ntmps159
      go_wp2_with (first
      | (simp only [cb])
      | go_in
      | ((with_reducible apply wpList_fop); (case hw => rfl); (case hop => rfl); (case hx => rfl); (case hy => rfl); (case hA => (first | assumption | exact FE.ofInt _ _ | exact FE.lit (by decide +kernel))); (case hB => (first | assumption | exact FE.ofInt _ _ | exact FE.lit (by decide +kernel))); intro r n hr)
      | ((with_reducible apply wpList_fcmp); (case hw => rfl); (case hop => rfl); (case hx => rfl); (case hy => rfl); (case hA => (first | assumption | exact FE.ofInt _ _ | exact FE.lit (by decide +kernel))); (case hB => (first | assumption | exact FE.ofInt _ _ | exact FE.lit (by decide +kernel))); (case hb => (first | assumption | rfl)))
      | ((with_reducible apply wpList_widen); (case hw => rfl); (case hs => exact Try.underlying65); (case hd => exact Try.underlying147); (case hx => rfl); (case hA => (first | assumption | exact FE.ofInt _ _ | exact FE.lit (by decide +kernel))); intro r n hr)
      | ((with_reducible apply wpList_fneg); (case hw => rfl); (case hx => rfl); (case hA => (first | assumption | exact FE.ofInt _ _ | exact FE.lit (by decide +kernel))); intro r hr))
      go_ret
      exact ⟨rfl, (by (try show Gr _ _); repeat (with_reducible first | exact Gr.refl _ | refine Gr.drewN ?_ _ | refine Gr.grew ?_ _ _ | refine Gr.alloc ?_ _ | refine Gr.drew ?_))⟩
    · have c2 : fcmp .neq .f32 Y Y = true := fcmp_neq_nan hY
      rw [gSame_nn hX hY]
      go_enter Try.func159, Try.ntmps159
      go_wp2_with (first
      | (simp only [cb])
      | go_in
      | ((with_reducible apply wpList_fop); (case hw => rfl); (case hop => rfl); (case hx => rfl); (case hy => rfl); (case hA => (first | assumption | exact FE.ofInt _ _ | exact FE.lit (by decide +kernel))); (case hB => (first | assumption | exact FE.ofInt _ _ | exact FE.lit (by decide +kernel))); intro r n hr)
      | ((with_reducible apply wpList_fcmp); (case hw => rfl); (case hop => rfl); (case hx => rfl); (case hy => rfl); (case hA => (first | assumption | exact FE.ofInt _ _ | exact FE.lit (by decide +kernel))); (case hB => (first | assumption | exact FE.ofInt _ _ | exact FE.lit (by decide +kernel))); (case hb => (first | assumption | rfl)))
      | ((with_reducible apply wpList_widen); (case hw => rfl); (case hs => exact Try.underlying65); (case hd => exact Try.underlying147); (case hx => rfl); (case hA => (first | assumption | exact FE.ofInt _ _ | exact FE.lit (by decide +kernel))); intro r n hr)
      | ((with_reducible apply wpList_fneg); (case hw => rfl); (case hx => rfl); (case hA => (first | assumption | exact FE.ofInt _ _ | exact FE.lit (by decide +kernel))); intro r hr))
      go_ret
      exact ⟨rfl, (by (try show Gr _ _); repeat (with_reducible first | exact Gr.refl _ | refine Gr.drewN ?_ _ | refine Gr.grew ?_ _ _ | refine Gr.alloc ?_ _ | refine Gr.drew ?_))⟩
set_option maxRecDepth 20000 in
set_option maxHeartbeats 2000000 in
theorem EqualFuncF (a b : Option Addr) (ca cb : Nat) (xs ys : List Nat) (w : World) (hx : FSl w a xs.length xs) (hy : FSl w b ys.length ys) (hn : xs.length ≤ 1048576) (hm : ys.length ≤ 1048576) :
    Calls Try.prog 158 #[.slice a xs.length ca, .slice b ys.length cb, .func (.func 159) #[] #[]] w fun e w' => e = .returned (.bool (gSames xs ys)) ∧ Gr w w' := by
  have Hx := Lib.hid hx
  have Hy := Lib.hid hy
  clear hx hy
  have hcf := Try.call159
  obtain ⟨R, hR⟩ : ∃ R, R = gSames xs ys := ⟨_, rfl⟩
  rw [← hR]
  have HR := Lib.hid hR
  clear hR
  by_cases hl : xs.length = ys.length
  · have Hl := Lib.hid hl
    rw [← hl] at Hy ⊢
    clear hm hl
    go_enter Try.func158, Try.ntmps158
    go_wp2
    go_loopw [17] (fun i wr => ∃ k : Nat, k ≤ xs.length ∧ i = .int .i64 k ∧ Hid (∀ j, j < k → gSame (xs.getD j 0) (ys.getD j 0) = true) ∧ Gr w wr) (fun i _ => xs.length - (intOf i).toNat)
    case atStart => exact ⟨0, Nat.zero_le _, rfl, Lib.hid (fun j h => absurd h (Nat.not_lt_zero _)), Gr.refl w⟩
    case round =>
      obtain ⟨k, hk, rfl, hv, hg⟩ := hrel
      by_cases hlt : k < xs.length
      · obtain ⟨bx, ox, rfl⟩ := Hx.out.ptr (by omega)
        obtain ⟨by', oy, rfl⟩ := Hy.out.ptr (by rw [← Hl.out]; omega)
        obtain ⟨p, hc, hp⟩ := (Hx.out.keep hg.kp).get k hlt
        obtain ⟨p', hc', hp'⟩ := (Hy.out.keep hg.kp).get k (by rw [← Hl.out]; exact hlt)
        have LS := Lib.hid (fun w1 => I_SameNumber p p' _ _ w1 hp hp')
        have Hg := Lib.hid hg
        clear hg
        cases hT : gSame (xs.getD k 0) (ys.getD k 0)
        · obtain rfl : R = false := by rw [HR.out]; exact gSames_no hlt hT
          rw [hT] at LS
          clear hT hp hp'
          go_wp2_with fail
          refine (LS.out _).mono ?_
          rintro e w1 ⟨rfl, g⟩
          have G1 := Lib.hid (Hg.out.trans (Gr.trans (by (try show Gr _ _); repeat (with_reducible first | exact Gr.refl _ | refine Gr.drewN ?_ _ | refine Gr.grew ?_ _ _ | refine Gr.alloc ?_ _ | refine Gr.drew ?_)) g))
          clear g
          go_wp2
          go_ret
          exact ⟨rfl, G1.out⟩
        · have HV := Lib.hid (show ∀ j, j < k + 1 → gSame (xs.getD j 0) (ys.getD j 0) = true from fun j hj => by
            by_cases hjk : j < k
            · exact hv.out j hjk
            · obtain rfl : j = k := by omega
              exact hT)
          rw [hT] at LS
          clear hT hp hp'
          go_wp2_with fail
          refine (LS.out _).mono ?_
          rintro e w1 ⟨rfl, g⟩
          have G1 := Lib.hid (Hg.out.trans (Gr.trans (by (try show Gr _ _); repeat (with_reducible first | exact Gr.refl _ | refine Gr.drewN ?_ _ | refine Gr.grew ?_ _ _ | refine Gr.alloc ?_ _ | refine Gr.drew ?_)) g))
          clear g
          go_wp2
          go_roundw
          case rel => exact ⟨k + 1, by omega, by go_num, HV, G1.out⟩
          case measure => simp [intOf]; omega
      · obtain rfl : k = xs.length := by omega
        obtain rfl : R = true := by rw [HR.out]; exact gSames_yes Hl.out hv.out
        have Hg := Lib.hid hg
        clear hg
        go_wp2
        go_ret
        exact ⟨rfl, Hg.out⟩
  · obtain rfl : R = false := by rw [HR.out]; exact gSames_len hl
    go_enter Try.func158, Try.ntmps158
    go_wp2
    go_ret
    exact ⟨rfl, (by (try show Gr _ _); repeat (with_reducible first | exact Gr.refl _ | refine Gr.drewN ?_ _ | refine Gr.grew ?_ _ _ | refine Gr.alloc ?_ _ | refine Gr.drew ?_))⟩
set_option maxRecDepth 20000 in
set_option maxHeartbeats 1000000 in
theorem I_sameList (a b : Option Addr) (ca cb : Nat) (xs ys : List Nat) (w : World) (hx : FSl w a xs.length xs) (hy : FSl w b ys.length ys) (hn : xs.length ≤ 1048576) (hm : ys.length ≤ 1048576) :
    Calls Try.prog 132 #[.slice a xs.length ca, .slice b ys.length cb] w fun e w' => e = .returned (.bool (gSames xs ys)) ∧ Gr w w' := by
  have LE := Lib.hid (EqualFuncF a b ca cb xs ys w hx hy hn hm)
  clear hx hy
  go_enter Try.func132, Try.ntmps132
  go_wp2_with fail
  refine LE.out.mono ?_
  rintro e w1 ⟨rfl, g⟩
  have G := Lib.hid g
  clear g LE
  go_wp2
  go_ret
  exact ⟨rfl, G.out⟩
end Go.Proofs.Ytaidkokgafojeaa
