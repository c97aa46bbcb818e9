/- Contracts: how far points are from a plane. MAXREC -/
import Derived.Test.YtldeeijfipiafaaProg
import Derived.Test.YtldeeijfipiafaaC43
import Derived.Test.YtldeeijfipiafaaC28
import Derived.Test.YtldeeijfipiafaaFk
import Derived.Test.YtldeeijfipiafaaGi
namespace Go.Proofs.Ytldeeijfipiafaa
open Go.RowKit Go.Fx Go.Soft
/-- What a height is off, as the reference finds it. -/
def gNegV (x : Nat) : Nat := if fcmp .lss .f32 x 0 then fneg .f32 x else x
theorem negV_abs {x : Nat} (hx : x < 2 ^ 32) (hc : cz .f32 x = x) : gNegV x = gAbs x ∨ (gNegV x = 2147483648 ∧ gAbs x = 0) := by
  rcases neg_abs hx hc with h | ⟨_, h1, h2⟩
  · exact .inl h
  · exact .inr ⟨h1, h2⟩
theorem gtr_abs (x M : Nat) (h : fcmp .gtr .f32 0 M = false) (hx : gNegV x = gAbs x ∨ (gNegV x = 2147483648 ∧ gAbs x = 0)) : fcmp .gtr .f32 (gNegV x) M = fcmp .gtr .f32 (gAbs x) M ∧ (fcmp .gtr .f32 (gAbs x) M = true → gNegV x = gAbs x) := by
  rcases hx with e | ⟨e1, e2⟩
  · rw [e]; exact ⟨rfl, fun _ => rfl⟩
  · rw [e1, e2, h]
    refine ⟨?_, fun h' => by cases h'⟩
    unfold fcmp at h ⊢
    have e : FloatKind.f32.format.order 2147483648 M = FloatKind.f32.format.order 0 M := order_negzero M
    rw [e]; exact h
theorem leq_abs (x M : Nat) (hx : gNegV x = gAbs x ∨ (gNegV x = 2147483648 ∧ gAbs x = 0)) : fcmp .leq .f32 (gNegV x) M = fcmp .leq .f32 (gAbs x) M := by
  rcases hx with e | ⟨e1, e2⟩
  · rw [e]
  · rw [e1, e2]
    unfold fcmp
    have e : FloatKind.f32.format.order 2147483648 M = FloatKind.f32.format.order 0 M := order_negzero M
    rw [e]
theorem gtr_zero_abs (x : Nat) : fcmp .gtr .f32 0 (gAbs x) = false := by
  unfold fcmp
  show (Ieee.single.order 0 (gAbs x) == some .gt) = false
  cases hn : isN .f32 (gAbs x)
  · have h0 : isN .f32 0 = false := by decide +kernel
    rw [order_key h0 hn]
    have k0 : fkey 0 = 0 := by rw [fkey_number read_zero32]; simp
    have k1 : 0 ≤ fkey (gAbs x) := by
      rcases read_up (abs_lt x) hn with ⟨m, e, hr, -⟩ | hr
      · rw [fkey_number hr]
        simp only [Bool.false_eq_true, if_false]
        exact Int.mul_nonneg (Int.natCast_nonneg _) (Int.natCast_nonneg _)
      · rw [fkey_inf hr]
        simp only [Bool.false_eq_true, if_false]
        exact Int.natCast_nonneg _
    rw [k0]
    cases hc : compare 0 (fkey (gAbs x))
    · rfl
    · rfl
    · rw [Int.compare_eq_gt] at hc; omega
  · rw [show Ieee.single.order 0 (gAbs x) = none from order_nan_right (k := .f32) hn]; rfl
/-- What the k-th point lacks to its plane. -/
def gOffD (A B C : Nat) (xs : List Nat) (k : Nat) : Nat := fop .sub .f32 (xs.getD (k * 3 + 2) 0) (gHeight A B C (xs.getD (k * 3) 0) (xs.getD (k * 3 + 1) 0))
theorem gOffD_neg (A B C : Nat) (xs : List Nat) (k : Nat) : gNegV (gOffD A B C xs k) = gAbs (gOffD A B C xs k) ∨ (gNegV (gOffD A B C xs k) = 2147483648 ∧ gAbs (gOffD A B C xs k) = 0) :=
  negV_abs (fop_can .sub _ _ rfl).1 (fop_can .sub _ _ rfl).2
/-- The most that any of k points is off. -/
def gMostTo (A B C : Nat) (xs : List Nat) : Nat → Nat
  | 0 => 0
  | k + 1 => if fcmp .gtr .f32 (gAbs (gOffD A B C xs k)) (gMostTo A B C xs k) then gAbs (gOffD A B C xs k) else gMostTo A B C xs k
theorem gMostTo_up (A B C : Nat) (xs : List Nat) : ∀ k, fcmp .gtr .f32 0 (gMostTo A B C xs k) = false
  | 0 => by show fcmp .gtr .f32 0 0 = false; decide +kernel
  | k + 1 => by
    rw [gMostTo]
    split
    · exact gtr_zero_abs _
    · exact gMostTo_up A B C xs k
/-- The numbers below k that p picks. -/
def gPk (p : Nat → Bool) : Nat → List Int
  | 0 => []
  | k + 1 => if p k then gPk p k ++ [(k : Int)] else gPk p k
theorem gPk_length (p : Nat → Bool) (k : Nat) : (gPk p k).length ≤ k := by
  induction k with
  | zero => exact Nat.le_refl _
  | succ k ih =>
    show (if p k then gPk p k ++ [(k : Int)] else gPk p k).length ≤ k + 1
    split
    · rw [List.length_append]; exact Nat.add_le_add_right ih 1
    · omega
set_option maxRecDepth 20000 in
set_option maxHeartbeats 1000000 in
theorem I_off (x y z a b c X Y Z A B C : Nat) (w : World) (hx : FE .f32 x X) (hy : FE .f32 y Y) (hz : FE .f32 z Z) (ha : FE .f32 a A) (hb : FE .f32 b B) (hc : FE .f32 c C) :
    Calls Try.prog 125 #[.agg #[.float .f32 x, .float .f32 y, .float .f32 z], .agg #[.float .f32 a, .float .f32 b, .float .f32 c]] w fun e w' => ∃ r, e = .returned (.float .f32 r) ∧ FE .f32 r (gAbs (fop .sub .f32 Z (gHeight A B C X Y))) ∧ Gr w w' := by
  go_enter Try.func125, Try.ntmps125
  go_wp2
  apply region_grew 10
  case hm => kernel_rfl
  case hB => kernel_rfl
  simp only [List.take_succ_cons, List.take_zero, List.drop_succ_cons, List.drop_zero]
  repeat (first
    | ((with_reducible apply wpSoft_callf (f := 171)); (case hw => rfl); (case hc => exact Try.call171); (case hv => ((conv => lhs; simp [Act.eval]); try rfl)); (case hS => (rintro _ ⟨⟨os, m⟩, rfl⟩; with_reducible refine (I_HeightAt _ _ _ _ _ _ _ _ _ _ _ ha hb hc hx hy).mono ?_; rintro e w' ⟨r, rfl, hr, os2, m2, rfl⟩; exact ⟨_, rfl, hr, ⟨⟨_, _⟩, grew_grew _ _ _ _ _⟩⟩)); (intro r hr; simp only [Act.put, List.setIfInBounds_toArray, List.set_cons_succ, List.set_cons_zero]))
    | ((with_reducible apply wpSoft_callf (f := 170)); (case hw => rfl); (case hc => exact Try.call170); (case hv => ((conv => lhs; simp [Act.eval]); try rfl)); (case hS => (rintro _ ⟨⟨os, m⟩, rfl⟩; refine (I_abs _ _ _ (by assumption)).mono ?_; rintro e w' ⟨r, rfl, hr, n, rfl⟩; exact ⟨_, rfl, hr, ⟨⟨_, _⟩, (by simp only [grew_drewN]; rfl)⟩⟩)); (intro r hr; simp only [Act.put, List.setIfInBounds_toArray, List.set_cons_succ, List.set_cons_zero]))
    | (apply wpSoft_skip rfl; simp only [Act.put, List.setIfInBounds_toArray, List.set_cons_succ, List.set_cons_zero])
    | (apply wpSoft_nilCheck rfl rfl; simp only [Act.put, List.setIfInBounds_toArray, List.set_cons_succ, List.set_cons_zero])
    | ((with_reducible apply wpSoft_fop); (case hw => rfl); (case hD => exact closed_grew); (case hop => rfl); (case hx => rfl); (case hy => rfl); (case hA => (first | assumption | exact FE.ofInt _ _ | exact FE.lit (by decide +kernel))); (case hB => (first | assumption | exact FE.ofInt _ _ | exact FE.lit (by decide +kernel))); (intro r hr; simp only [Act.put, List.setIfInBounds_toArray, List.set_cons_succ, List.set_cons_zero]))

    | ((with_reducible apply wpSoft_widen); (case hw => rfl); (case hD => exact closed_grew); (case hs => exact Try.underlying42); (case hd => exact Try.underlying84); (case hx => rfl); (case hA => (first | assumption | exact FE.ofInt _ _ | exact FE.lit (by decide +kernel))); (intro r hr; simp only [Act.put, List.setIfInBounds_toArray, List.set_cons_succ, List.set_cons_zero]))
    | ((with_reducible apply wpSoft_fneg); (case hw => rfl); (case hx => rfl); (case hA => (first | assumption | exact FE.ofInt _ _ | exact FE.lit (by decide +kernel))); (intro r hr; simp only [Act.put, List.setIfInBounds_toArray, List.set_cons_succ, List.set_cons_zero]))
    | ((with_reducible apply wpSoft_fcmp); (case hw => rfl); (case hop => rfl); (case hx => rfl); (case hy => rfl); (case hA => (first | assumption | exact FE.ofInt _ _ | exact FE.lit (by decide +kernel))); (case hB => (first | assumption | exact FE.ofInt _ _ | exact FE.lit (by decide +kernel))); (case hb => (first | assumption | rfl)); simp only [Act.put, List.setIfInBounds_toArray, List.set_cons_succ, List.set_cons_zero])
    | (apply wpSoft_q rfl rfl; intro K hK; go_big_quiet_op; go_big_quiet_on))
  with_reducible apply wpSoft_nil
  intro os m
  go_wp2
  go_ret
  exact ⟨_, rfl, by assumption, (by (try show Gr _ _); repeat (with_reducible first | exact Gr.refl _ | refine Gr.drewN ?_ _ | refine Gr.grew ?_ _ _ | refine Gr.alloc ?_ _ | refine Gr.drew ?_))⟩
set_option maxRecDepth 20000 in
set_option maxHeartbeats 1000000 in
theorem S_l06Off (x y z a b c X Y Z A B C bl : Nat) (w : World) (hx : FE .f32 x X) (hy : FE .f32 y Y) (hz : FE .f32 z Z) (ha : FE .f32 a A) (hb : FE .f32 b B) (hc : FE .f32 c C)
    (c0 : w.cell? ⟨bl, 0, none⟩ = some (.float .f32 a)) (c1 : w.cell? ⟨bl, 1, none⟩ = some (.float .f32 b)) (c2 : w.cell? ⟨bl, 2, none⟩ = some (.float .f32 c)) :
    Calls Try.prog 124 #[.agg #[.float .f32 x, .float .f32 y, .float .f32 z], .pointer (some ⟨bl, 0, none⟩)] w fun e w' => ∃ r, e = .returned (.float .f32 r) ∧ FE .f32 r (gNegV (fop .sub .f32 Z (gHeight A B C X Y))) ∧ Gr w w' := by
  have h0 := FE0
  cases hl : fcmp .lss .f32 (fop .sub .f32 Z (gHeight A B C X Y)) 0
  all_goals
    have HS := Lib.hid ((rfl : gNegV (fop .sub .f32 Z (gHeight A B C X Y)) = if fcmp .lss .f32 (fop .sub .f32 Z (gHeight A B C X Y)) 0 then fneg .f32 (fop .sub .f32 Z (gHeight A B C X Y)) else fop .sub .f32 Z (gHeight A B C X Y)).trans (by first | exact if_pos hl | exact if_neg (by rw [hl]; decide)))
    go_enter Try.func124, Try.ntmps124
    go_wp2
    apply region_drew 9
    case hm => kernel_rfl
    case hB => kernel_rfl
    simp only [List.take_succ_cons, List.take_zero, List.drop_succ_cons, List.drop_zero]
    repeat (first
      | ((with_reducible apply wpSoft_callf (f := 169)); (case hw => rfl); (case hc => exact Try.call169); (case hv => ((conv => lhs; simp [Act.eval]); try rfl)); (case hS => (rintro _ ⟨m, rfl⟩; with_reducible refine (S_l06Height _ _ _ _ _ A B C X Y bl 0 _ ha hb hc hx hy (by first | (simp (maxDischargeDepth := 12) [go_sem]; done) | (simp (maxDischargeDepth := 12) [go_sem, *]; done)) (by first | (simp (maxDischargeDepth := 12) [go_sem]; done) | (simp (maxDischargeDepth := 12) [go_sem, *]; done)) (by first | (simp (maxDischargeDepth := 12) [go_sem]; done) | (simp (maxDischargeDepth := 12) [go_sem, *]; done))).mono ?_; rintro e w' ⟨r, rfl, hr, n, rfl⟩; exact ⟨_, rfl, hr, ⟨_, World.drewN_drewN _ _ _⟩⟩)); (intro r hr; simp only [Act.put, List.setIfInBounds_toArray, List.set_cons_succ, List.set_cons_zero]))
      | (apply wpSoft_skip rfl; simp only [Act.put, List.setIfInBounds_toArray, List.set_cons_succ, List.set_cons_zero])
      | (apply wpSoft_nilCheck rfl rfl; simp only [Act.put, List.setIfInBounds_toArray, List.set_cons_succ, List.set_cons_zero])
      | ((with_reducible apply wpSoft_fop); (case hw => rfl); (case hD => exact closed_drew); (case hop => rfl); (case hx => rfl); (case hy => rfl); (case hA => (first | assumption | exact FE.ofInt _ _ | exact FE.lit (by decide +kernel))); (case hB => (first | assumption | exact FE.ofInt _ _ | exact FE.lit (by decide +kernel))); (intro r hr; simp only [Act.put, List.setIfInBounds_toArray, List.set_cons_succ, List.set_cons_zero]))

      | ((with_reducible apply wpSoft_widen); (case hw => rfl); (case hD => exact closed_drew); (case hs => exact Try.underlying42); (case hd => exact Try.underlying84); (case hx => rfl); (case hA => (first | assumption | exact FE.ofInt _ _ | exact FE.lit (by decide +kernel))); (intro r hr; simp only [Act.put, List.setIfInBounds_toArray, List.set_cons_succ, List.set_cons_zero]))
      | ((with_reducible apply wpSoft_fneg); (case hw => rfl); (case hx => rfl); (case hA => (first | assumption | exact FE.ofInt _ _ | exact FE.lit (by decide +kernel))); (intro r hr; simp only [Act.put, List.setIfInBounds_toArray, List.set_cons_succ, List.set_cons_zero]))
      | ((with_reducible apply wpSoft_fcmp); (case hw => rfl); (case hop => rfl); (case hx => rfl); (case hy => rfl); (case hA => (first | assumption | exact FE.ofInt _ _ | exact FE.lit (by decide +kernel))); (case hB => (first | assumption | exact FE.ofInt _ _ | exact FE.lit (by decide +kernel))); (case hb => (first | assumption | rfl)); simp only [Act.put, List.setIfInBounds_toArray, List.set_cons_succ, List.set_cons_zero])
      | (apply wpSoft_q rfl rfl; intro K hK; go_big_quiet_op; go_big_quiet_on))
    with_reducible apply wpSoft_nil
    intro m
    go_wp2_with (first
      | ((with_reducible apply wpList_fop); (case hw => rfl); (case hop => rfl); (case hx => rfl); (case hy => rfl); (case hA => (first | assumption | exact FE.ofInt _ _ | exact FE.lit (by decide +kernel))); (case hB => (first | assumption | exact FE.ofInt _ _ | exact FE.lit (by decide +kernel))); intro r n hr)
      | ((with_reducible apply wpList_fcmp); (case hw => rfl); (case hop => rfl); (case hx => rfl); (case hy => rfl); (case hA => (first | assumption | exact FE.ofInt _ _ | exact FE.lit (by decide +kernel))); (case hB => (first | assumption | exact FE.ofInt _ _ | exact FE.lit (by decide +kernel))); (case hb => (first | assumption | rfl)))
      | ((with_reducible apply wpList_widen); (case hw => rfl); (case hs => exact Try.underlying42); (case hd => exact Try.underlying84); (case hx => rfl); (case hA => (first | assumption | exact FE.ofInt _ _ | exact FE.lit (by decide +kernel))); intro r n hr)
      | ((with_reducible apply wpList_fneg); (case hw => rfl); (case hx => rfl); (case hA => (first | assumption | exact FE.ofInt _ _ | exact FE.lit (by decide +kernel))); intro r hr))
    go_ret
    exact ⟨_, rfl, by rw [HS.out]; assumption, (by (try show Gr _ _); repeat (with_reducible first | exact Gr.refl _ | refine Gr.drewN ?_ _ | refine Gr.grew ?_ _ _ | refine Gr.alloc ?_ _ | refine Gr.drew ?_))⟩
set_option maxRecDepth 20000 in
set_option maxHeartbeats 400000 in
theorem S_l06Many0 (a : Option Addr) (n cap : Nat) (w : World) (hn : n ≤ 1048576) :
    Calls Try.prog 119 #[.slice a n cap, .int .i64 0] w fun e w' => e = .returned (.bool (decide (n ≤ 256))) ∧ w' = w := by
  by_cases h : n ≤ 256
  all_goals
    go_enter Try.func119, Try.ntmps119
    go_wp2
    go_ret
    exact ⟨by simp [h] <;> omega, rfl⟩
set_option maxRecDepth 20000 in
set_option maxHeartbeats 2000000 in
theorem I_OffPlane (a b c A B C n : Nat) (p : Option Addr) (cp : Nat) (xs : List Nat) (w : World) (fx : FSl w p (n * 3) xs) (hn : n ≤ 1048576) (ha : FE .f32 a A) (hb : FE .f32 b B) (hc : FE .f32 c C) :
    Calls Try.prog 58 #[.slice p n cp, .agg #[.float .f32 a, .float .f32 b, .float .f32 c]] w fun e w' => (∃ r, e = .returned (.tuple #[.float .f32 r, .bool (decide (n ≤ 256))]) ∧ FE .f32 r (if n ≤ 256 then gMostTo A B C xs n else 0)) ∧ Gr w w' := by
  have Fx := Lib.hid fx
  have Hl := Lib.hid fx.len
  clear fx
  have f0 := FE0
  by_cases h256 : n ≤ 256
  · rw [if_pos h256, decide_eq_true h256]
    go_enter Try.func58, Try.ntmps58
    go_wp2
    go_loopw [6, 15] (fun s i wr => ∃ (k r : Nat), k ≤ n ∧ i = .int .i64 k ∧ s = .float .f32 r ∧ FE .f32 r (gMostTo A B C xs k) ∧ Blk wr w.heap.size [.float .f32 a, .float .f32 b, .float .f32 c] 76 ∧ Gr w wr) (fun _ i _ => n - (intOf i).toNat)
    case atStart => exact ⟨0, _, Nat.zero_le _, rfl, rfl, f0, (by repeat (with_reducible first | assumption | exact Blk.atNew (by simp) | refine Blk.alloc ?_ _ | refine Blk.grew ?_ _ _ | refine Blk.drewN ?_ _ | refine Blk.drew ?_)), (by (try show Gr _ _); repeat (with_reducible first | exact Gr.refl _ | refine Gr.drewN ?_ _ | refine Gr.grew ?_ _ _ | refine Gr.alloc ?_ _ | refine Gr.drew ?_))⟩
    case round =>
      obtain ⟨k, r, hk, rfl, rfl, hr, hB, hg⟩ := hrel
      by_cases hlt : k < n
      · have hl := Hl.out
        obtain ⟨bx, ox, rfl⟩ := Fx.out.ptr (by omega)
        have FX := Fx.out.keep hg.kp
        obtain ⟨r0, c0, g0⟩ := FX.get (k * 3) (by omega)
        obtain ⟨r1, c1, g1⟩ := FX.get (k * 3 + 1) (by omega)
        obtain ⟨r2, c2, g2⟩ := FX.get (k * 3 + 2) (by omega)
        rw [← Nat.add_assoc] at c1 c2
        have p0 := hB.cellv 0
        have p1 := hB.cellv 1
        have p2 := hB.cellv 2
        have HO := Lib.hid (fun (u : World) => I_off r0 r1 r2 a b c _ _ _ A B C u g0 g1 g2 ha hb hc)
        have EM := Lib.hid (show gMostTo A B C xs (k + 1) = if fcmp .gtr .f32 (gAbs (fop .sub .f32 (xs.getD (k * 3 + 2) 0) (gHeight A B C (xs.getD (k * 3) 0) (xs.getD (k * 3 + 1) 0)))) (gMostTo A B C xs k) then gAbs (fop .sub .f32 (xs.getD (k * 3 + 2) 0) (gHeight A B C (xs.getD (k * 3) 0) (xs.getD (k * 3 + 1) 0))) else gMostTo A B C xs k from rfl)
        have HB := Lib.hid hB
        have Hg := Lib.hid hg
        clear hB hg FX hl g0 g1 g2
        generalize gAbs (fop .sub .f32 (xs.getD (k * 3 + 2) 0) (gHeight A B C (xs.getD (k * 3) 0) (xs.getD (k * 3 + 1) 0))) = O at *
        generalize gMostTo A B C xs k = M at *
        cases t1 : fcmp .gtr .f32 O M
        all_goals
          go_wp2_with (first
      | (go_at_call 125; refine (HO.out _).mono ?_; rintro e w' ⟨q, rfl, hq, os, m, rfl⟩)
      | ((with_reducible apply wpList_fop); (case hw => rfl); (case hop => rfl); (case hx => rfl); (case hy => rfl); (case hA => (first | assumption | exact FE.ofInt _ _ | exact FE.lit (by decide +kernel))); (case hB => (first | assumption | exact FE.ofInt _ _ | exact FE.lit (by decide +kernel))); intro r n hr)
      | ((with_reducible apply wpList_fcmp); (case hw => rfl); (case hop => rfl); (case hx => rfl); (case hy => rfl); (case hA => (first | assumption | exact FE.ofInt _ _ | exact FE.lit (by decide +kernel))); (case hB => (first | assumption | exact FE.ofInt _ _ | exact FE.lit (by decide +kernel))); (case hb => (first | assumption | rfl)))
      | ((with_reducible apply wpList_widen); (case hw => rfl); (case hs => exact Try.underlying42); (case hd => exact Try.underlying84); (case hx => rfl); (case hA => (first | assumption | exact FE.ofInt _ _ | exact FE.lit (by decide +kernel))); intro r n hr)
      | ((with_reducible apply wpList_fneg); (case hw => rfl); (case hx => rfl); (case hA => (first | assumption | exact FE.ofInt _ _ | exact FE.lit (by decide +kernel))); intro r hr))
          go_roundw
          case rel => exact ⟨k + 1, _, by omega, by go_num, rfl, by rw [EM.out, t1]; assumption, HB.out.gr (by (try show Gr _ _); repeat (with_reducible first | exact Gr.refl _ | refine Gr.drewN ?_ _ | refine Gr.grew ?_ _ _ | refine Gr.alloc ?_ _ | refine Gr.drew ?_)), Hg.out.trans (by (try show Gr _ _); repeat (with_reducible first | exact Gr.refl _ | refine Gr.drewN ?_ _ | refine Gr.grew ?_ _ _ | refine Gr.alloc ?_ _ | refine Gr.drew ?_))⟩
          case measure => simp [intOf]; omega
      · obtain rfl : k = n := by omega
        have Hg := Lib.hid hg
        clear hB hg
        go_wp2
        exact bodyPost_ret (v := .tuple #[.float .f32 r, .bool true]) (by simp [results, Try.results58, go_sem]) rfl ⟨⟨_, rfl, hr⟩, Hg.out⟩
  · rw [if_neg h256, decide_eq_false h256]
    go_enter Try.func58, Try.ntmps58
    go_wp2
    exact bodyPost_ret (v := .tuple #[.float .f32 0, .bool false]) (by simp [results, Try.results58, go_sem]) rfl ⟨⟨_, rfl, f0⟩, (by (try show Gr _ _); repeat (with_reducible first | exact Gr.refl _ | refine Gr.drewN ?_ _ | refine Gr.grew ?_ _ _ | refine Gr.alloc ?_ _ | refine Gr.drew ?_))⟩
set_option maxRecDepth 20000 in
set_option maxHeartbeats 2000000 in
theorem S_OffPlane (a b c A B C n : Nat) (p : Option Addr) (cp : Nat) (xs : List Nat) (w : World) (fx : FSl w p (n * 3) xs) (hn : n ≤ 1048576) (ha : FE .f32 a A) (hb : FE .f32 b B) (hc : FE .f32 c C) :
    Calls Try.prog 57 #[.slice p n cp, .agg #[.float .f32 a, .float .f32 b, .float .f32 c]] w fun e w' => (∃ r, e = .returned (.tuple #[.float .f32 r, .bool (decide (n ≤ 256))]) ∧ FE .f32 r (if n ≤ 256 then gMostTo A B C xs n else 0)) ∧ Gr w w' := by
  have Fx := Lib.hid fx
  have Hl := Lib.hid fx.len
  clear fx
  have f0 := FE0
  by_cases h256 : n ≤ 256
  · rw [if_pos h256, decide_eq_true h256]
    have e256 : decide (n ≤ 256) = true := decide_eq_true h256
    go_enter Try.func57, Try.ntmps57
    go_wp2_with (first
      | (go_at_call 119; refine (S_l06Many0 _ _ _ _ hn).mono ?_; rintro e w' ⟨rfl, rfl⟩; rw [e256]))
    go_loopw [6, 7] (fun s i wr => ∃ (k r : Nat), k ≤ n ∧ i = .int .i64 k ∧ s = .float .f32 r ∧ FE .f32 r (gMostTo A B C xs k) ∧ Blk wr w.heap.size [.float .f32 a, .float .f32 b, .float .f32 c] 76 ∧ Gr w wr) (fun _ i _ => n - (intOf i).toNat)
    case atStart => exact ⟨0, _, Nat.zero_le _, rfl, rfl, f0, (by repeat (with_reducible first | assumption | exact Blk.atNew (by simp) | refine Blk.alloc ?_ _ | refine Blk.grew ?_ _ _ | refine Blk.drewN ?_ _ | refine Blk.drew ?_)), (by (try show Gr _ _); repeat (with_reducible first | exact Gr.refl _ | refine Gr.drewN ?_ _ | refine Gr.grew ?_ _ _ | refine Gr.alloc ?_ _ | refine Gr.drew ?_))⟩
    case round =>
      obtain ⟨k, r, hk, rfl, rfl, hr, hB, hg⟩ := hrel
      by_cases hlt : k < n
      · have hl := Hl.out
        obtain ⟨bx, ox, rfl⟩ := Fx.out.ptr (by omega)
        have FX := Fx.out.keep hg.kp
        obtain ⟨r0, c0, g0⟩ := FX.get (k * 3) (by omega)
        obtain ⟨r1, c1, g1⟩ := FX.get (k * 3 + 1) (by omega)
        obtain ⟨r2, c2, g2⟩ := FX.get (k * 3 + 2) (by omega)
        rw [← Nat.add_assoc] at c1 c2
        have HO := Lib.hid (fun (u : World) (hu : Gr wr u) => S_l06Off r0 r1 r2 a b c _ _ _ A B C w.heap.size u g0 g1 g2 ha hb hc ((hB.gr hu).cellv 0) ((hB.gr hu).cellv 1) ((hB.gr hu).cellv 2))
        have EM := Lib.hid (show gMostTo A B C xs (k + 1) = if fcmp .gtr .f32 (gAbs (gOffD A B C xs k)) (gMostTo A B C xs k) then gAbs (gOffD A B C xs k) else gMostTo A B C xs k from rfl)
        obtain ⟨ht1, ht2⟩ := gtr_abs _ _ (gMostTo_up A B C xs k) (gOffD_neg A B C xs k)
        have HB := Lib.hid hB
        have Hg := Lib.hid hg
        clear hB hg FX hl g0 g1 g2
        have eD : fop .sub .f32 (xs.getD (k * 3 + 2) 0) (gHeight A B C (xs.getD (k * 3) 0) (xs.getD (k * 3 + 1) 0)) = gOffD A B C xs k := rfl
        rw [eD] at HO
        clear eD
        generalize gNegV (gOffD A B C xs k) = N at *
        generalize gAbs (gOffD A B C xs k) = O at *
        generalize gMostTo A B C xs k = M at *
        cases t1 : fcmp .gtr .f32 O M
        · rw [t1] at ht1
          clear ht2
          go_wp2_with (first
      | (go_at_call 124; refine (HO.out _ (by (try show Gr _ _); repeat (with_reducible first | exact Gr.refl _ | refine Gr.drewN ?_ _ | refine Gr.grew ?_ _ _ | refine Gr.alloc ?_ _ | refine Gr.drew ?_))).mono ?_; rintro e w' ⟨q, rfl, hq, os, m, rfl⟩)
      | ((with_reducible apply wpList_fop); (case hw => rfl); (case hop => rfl); (case hx => rfl); (case hy => rfl); (case hA => (first | assumption | exact FE.ofInt _ _ | exact FE.lit (by decide +kernel))); (case hB => (first | assumption | exact FE.ofInt _ _ | exact FE.lit (by decide +kernel))); intro r n hr)
      | ((with_reducible apply wpList_fcmp); (case hw => rfl); (case hop => rfl); (case hx => rfl); (case hy => rfl); (case hA => (first | assumption | exact FE.ofInt _ _ | exact FE.lit (by decide +kernel))); (case hB => (first | assumption | exact FE.ofInt _ _ | exact FE.lit (by decide +kernel))); (case hb => (first | assumption | rfl)))
      | ((with_reducible apply wpList_widen); (case hw => rfl); (case hs => exact Try.underlying42); (case hd => exact Try.underlying84); (case hx => rfl); (case hA => (first | assumption | exact FE.ofInt _ _ | exact FE.lit (by decide +kernel))); intro r n hr)
      | ((with_reducible apply wpList_fneg); (case hw => rfl); (case hx => rfl); (case hA => (first | assumption | exact FE.ofInt _ _ | exact FE.lit (by decide +kernel))); intro r hr))
          go_roundw
          case rel => exact ⟨k + 1, _, by omega, by go_num, rfl, by rw [EM.out, t1]; assumption, HB.out.gr (by (try show Gr _ _); repeat (with_reducible first | exact Gr.refl _ | refine Gr.drewN ?_ _ | refine Gr.grew ?_ _ _ | refine Gr.alloc ?_ _ | refine Gr.drew ?_)), Hg.out.trans (by (try show Gr _ _); repeat (with_reducible first | exact Gr.refl _ | refine Gr.drewN ?_ _ | refine Gr.grew ?_ _ _ | refine Gr.alloc ?_ _ | refine Gr.drew ?_))⟩
          case measure => simp [intOf]; omega
        · rw [t1] at ht1
          obtain rfl := ht2 t1
          go_wp2_with (first
      | (go_at_call 124; refine (HO.out _ (by (try show Gr _ _); repeat (with_reducible first | exact Gr.refl _ | refine Gr.drewN ?_ _ | refine Gr.grew ?_ _ _ | refine Gr.alloc ?_ _ | refine Gr.drew ?_))).mono ?_; rintro e w' ⟨q, rfl, hq, os, m, rfl⟩)
      | ((with_reducible apply wpList_fop); (case hw => rfl); (case hop => rfl); (case hx => rfl); (case hy => rfl); (case hA => (first | assumption | exact FE.ofInt _ _ | exact FE.lit (by decide +kernel))); (case hB => (first | assumption | exact FE.ofInt _ _ | exact FE.lit (by decide +kernel))); intro r n hr)
      | ((with_reducible apply wpList_fcmp); (case hw => rfl); (case hop => rfl); (case hx => rfl); (case hy => rfl); (case hA => (first | assumption | exact FE.ofInt _ _ | exact FE.lit (by decide +kernel))); (case hB => (first | assumption | exact FE.ofInt _ _ | exact FE.lit (by decide +kernel))); (case hb => (first | assumption | rfl)))
      | ((with_reducible apply wpList_widen); (case hw => rfl); (case hs => exact Try.underlying42); (case hd => exact Try.underlying84); (case hx => rfl); (case hA => (first | assumption | exact FE.ofInt _ _ | exact FE.lit (by decide +kernel))); intro r n hr)
      | ((with_reducible apply wpList_fneg); (case hw => rfl); (case hx => rfl); (case hA => (first | assumption | exact FE.ofInt _ _ | exact FE.lit (by decide +kernel))); intro r hr))
          go_roundw
          case rel => exact ⟨k + 1, _, by omega, by go_num, rfl, by rw [EM.out, t1]; assumption, HB.out.gr (by (try show Gr _ _); repeat (with_reducible first | exact Gr.refl _ | refine Gr.drewN ?_ _ | refine Gr.grew ?_ _ _ | refine Gr.alloc ?_ _ | refine Gr.drew ?_)), Hg.out.trans (by (try show Gr _ _); repeat (with_reducible first | exact Gr.refl _ | refine Gr.drewN ?_ _ | refine Gr.grew ?_ _ _ | refine Gr.alloc ?_ _ | refine Gr.drew ?_))⟩
          case measure => simp [intOf]; omega
      · obtain rfl : k = n := by omega
        have Hg := Lib.hid hg
        clear hB hg
        go_wp2
        exact bodyPost_ret (v := .tuple #[.float .f32 r, .bool true]) (by simp [results, Try.results57, go_sem]) rfl ⟨⟨_, rfl, hr⟩, Hg.out⟩
  · rw [if_neg h256, decide_eq_false h256]
    have e256 : decide (n ≤ 256) = false := decide_eq_false h256
    go_enter Try.func57, Try.ntmps57
    go_wp2_with (first
      | (go_at_call 119; refine (S_l06Many0 _ _ _ _ hn).mono ?_; rintro e w' ⟨rfl, rfl⟩; rw [e256]))
    exact bodyPost_ret (v := .tuple #[.float .f32 0, .bool false]) (by simp [results, Try.results57, go_sem]) rfl ⟨⟨_, rfl, f0⟩, (by (try show Gr _ _); repeat (with_reducible first | exact Gr.refl _ | refine Gr.drewN ?_ _ | refine Gr.grew ?_ _ _ | refine Gr.alloc ?_ _ | refine Gr.drew ?_))⟩
end Go.Proofs.Ytldeeijfipiafaa
