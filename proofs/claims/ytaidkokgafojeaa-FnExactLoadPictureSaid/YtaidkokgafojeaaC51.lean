/- Contracts: maps that are packed. MAXREC -/
import Derived.Test.YtaidkokgafojeaaProg
import Derived.Test.YtaidkokgafojeaaC2
import Derived.Test.YtaidkokgafojeaaC14
import Derived.Test.YtaidkokgafojeaaC50
import Derived.Test.YtaidkokgafojeaaPk
import Derived.Deep.DeepCutAuto
namespace Go.Fx
open Go Go.Soft Go.RowKit
/-- How long a run is, from its c-th value on, f values being left in the row. -/
def gRun (xs : List Nat) (W y x : Nat) : Nat → Nat → Nat
  | 0, c => c
  | f + 1, c => if fcmp .eql .f32 (xs.getD (x + c + W * y) 0) (xs.getD (x + W * y) 0) then gRun xs W y x f (c + 1) else c
def gMany (xs : List Nat) (W y x : Nat) : Nat := gRun xs W y x (W - x - 1) 1
theorem gRun_le (xs : List Nat) (W y x : Nat) : ∀ f c, c ≤ gRun xs W y x f c ∧ gRun xs W y x f c ≤ c + f
  | 0, c => ⟨Nat.le_refl _, Nat.le_refl _⟩
  | f + 1, c => by
    have := gRun_le xs W y x f (c + 1)
    rw [gRun]; split <;> omega
theorem gMany_le {xs : List Nat} {W y x : Nat} (h : x < W) : 1 ≤ gMany xs W y x ∧ x + gMany xs W y x ≤ W := by
  have := gRun_le xs W y x (W - x - 1) 1
  unfold gMany; omega
theorem gRun_next {xs : List Nat} {W y x c : Nat} (h : x + c < W) (he : fcmp .eql .f32 (xs.getD (x + c + W * y) 0) (xs.getD (x + W * y) 0) = true) : gRun xs W y x (W - x - c) c = gRun xs W y x (W - x - (c + 1)) (c + 1) := by
  rw [show W - x - c = (W - x - (c + 1)) + 1 by omega, gRun, if_pos he]
theorem gRun_end {xs : List Nat} {W y x c : Nat} (h : x + c < W) (he : fcmp .eql .f32 (xs.getD (x + c + W * y) 0) (xs.getD (x + W * y) 0) = false) : gRun xs W y x (W - x - c) c = c := by
  rw [show W - x - c = (W - x - (c + 1)) + 1 by omega, gRun, if_neg (by rw [he]; decide)]
theorem gRun_full {xs : List Nat} {W y x c : Nat} (h : ¬ x + c < W) : gRun xs W y x (W - x - c) c = c := by
  rw [show W - x - c = 0 by omega]; rfl
/-- The runs of a row, behind L0; how far j of them reach. -/
def gRow (xs : List Nat) (W y : Nat) (L0 : List Int) : Nat → List Int × Nat
  | 0 => (L0, 0)
  | j + 1 => let p := gRow xs W y L0 j
    if p.2 < W then (p.1 ++ [(gMany xs W y p.2 : Int), gWhole (xs.getD (p.2 + W * y) 0) + 1], p.2 + gMany xs W y p.2) else p
def gPack (xs : List Nat) (W : Nat) : Nat → List Int
  | 0 => []
  | y + 1 => (gRow xs W y (gPack xs W y) W).1
theorem gRow_next {xs : List Nat} {W y j x : Nat} {L0 L : List Int} (h : gRow xs W y L0 j = (L, x)) (hx : x < W) : gRow xs W y L0 (j + 1) = (L ++ [(gMany xs W y x : Int), gWhole (xs.getD (x + W * y) 0) + 1], x + gMany xs W y x) := by
  rw [gRow, h]; exact if_pos hx
theorem gRow_stay {xs : List Nat} {W y j : Nat} {L0 L : List Int} (h : gRow xs W y L0 j = (L, W)) : ∀ d, gRow xs W y L0 (j + d) = (L, W)
  | 0 => h
  | d + 1 => by rw [← Nat.add_assoc, gRow, gRow_stay h d]; exact if_neg (Nat.lt_irrefl _)
theorem gRow_end {xs : List Nat} {W y j : Nat} {L : List Int} (h : gRow xs W y (gPack xs W y) j = (L, W)) (hj : j ≤ W) : gPack xs W (y + 1) = L := by
  rw [gPack]
  have := gRow_stay h (W - j)
  rw [show j + (W - j) = W by omega] at this
  rw [this]
theorem gRow_len (xs : List Nat) (W y : Nat) (L0 : List Int) : ∀ j, (gRow xs W y L0 j).1.length ≤ L0.length + 2 * j
  | 0 => by simp [gRow]
  | j + 1 => by
    have := gRow_len xs W y L0 j
    rw [gRow]
    split
    · simp; omega
    · omega
theorem gPack_len (xs : List Nat) (W : Nat) : ∀ y, (gPack xs W y).length ≤ 2 * W * y
  | 0 => by simp [gPack]
  | y + 1 => by
    have h1 := gPack_len xs W y
    have h2 := gRow_len xs W y (gPack xs W y) W
    rw [gPack, Nat.mul_add, Nat.mul_one]; omega
theorem toIntVal32 {X : Nat} {n : Int} (h : (Ieee.single.read X).toInt .zero = some n) (h1 : -1 ≤ n) (h2 : n ≤ 254) : floatToIntVal .f32 X .i64 = some n := by
  unfold floatToIntVal
  have hd : FloatKind.f32.decode X = Ieee.single.read X := rfl
  rw [hd, h]
  have a : IntKind.i64.min = -9223372036854775808 := by decide
  have b : IntKind.i64.max = 9223372036854775807 := by decide
  simp only [a, b]
  rw [if_pos (by omega)]
theorem FEm1 : FE .f32 3212836864 3212836864 := FE.lit (by decide +kernel)
theorem FE254 : FE .f32 1132331008 1132331008 := FE.lit (by decide +kernel)
theorem gPacks_no1 {X : Nat} (h : fcmp .geq .f32 X 3212836864 = false) : gPacks X = false := by unfold gPacks; rw [h]; rfl
theorem gPacks_no2 {X : Nat} (h : fcmp .leq .f32 X 1132331008 = false) : gPacks X = false := by unfold gPacks; rw [h]; simp
theorem gPacks_eq {X : Nat} (h1 : fcmp .geq .f32 X 3212836864 = true) (h2 : fcmp .leq .f32 X 1132331008 = true) : gPacks X = fcmp .eql .f64 (widen X) (flo (widen X)) := by unfold gPacks; rw [h1, h2]; rfl
theorem flo_FE {y : Nat} (h : isN .f64 (flo y) = false) : FE .f64 (flo y) (flo y) := ⟨cz_num h, by unfold flo; exact Ieee.Format.write_lt _ _⟩
end Go.Fx
namespace Go.Proofs.Ytaidkokgafojeaa
open Go.RowKit Go.Fx Go.Soft
theorem conv_i64 {X : Nat} {n : Int} (h : (Ieee.single.read X).toInt .zero = some n) (h1 : -1 ≤ n) (h2 : n ≤ 254) (w : World) : (convert 65 2 (.float .f32 X)).run Try.prog w = .ok (.int .i64 n) w :=
  run_convert_float_int (P := Try.prog) w 65 2 .f32 .i64 _ n (by rw [Try.underlying65]; rfl) Try.underlying2 (toIntVal32 h h1 h2)
set_option maxRecDepth 20000 in
set_option maxHeartbeats 1000000 in
theorem I_PackMap_1 (x X : Nat) (w : World) (hx : FE .f32 x X) :
    Calls Try.prog 118 #[.float .f32 x] w fun e w' => e = .returned (.bool (!gPacks X)) ∧ ∃ os m, w' = w.grew os m := by
  have z0 := FEm1
  have z1 := FE254
  cases h1 : fcmp .geq .f32 X 3212836864
  · rw [gPacks_no1 h1]
    go_enter Try.func118, Try.ntmps118
    go_wp2_with (first
      | ((with_reducible apply wpList_fop); (case hw => rfl); (case hop => rfl); (case hx => rfl); (case hy => rfl); (case hA => (first | assumption | exact FE.ofInt _ _ | exact FE.lit (by decide +kernel))); (case hB => (first | assumption | exact FE.ofInt _ _ | exact FE.lit (by decide +kernel))); intro r n hr)
      | ((with_reducible apply wpList_fcmp); (case hw => rfl); (case hop => rfl); (case hx => rfl); (case hy => rfl); (case hA => (first | assumption | exact FE.ofInt _ _ | exact FE.lit (by decide +kernel))); (case hB => (first | assumption | exact FE.ofInt _ _ | exact FE.lit (by decide +kernel))); (case hb => (first | assumption | rfl)))
      | ((with_reducible apply wpList_widen); (case hw => rfl); (case hs => exact Try.underlying65); (case hd => exact Try.underlying147); (case hx => rfl); (case hA => (first | assumption | exact FE.ofInt _ _ | exact FE.lit (by decide +kernel))); intro r n hr)
      | ((with_reducible apply wpList_fneg); (case hw => rfl); (case hx => rfl); (case hA => (first | assumption | exact FE.ofInt _ _ | exact FE.lit (by decide +kernel))); intro r hr))
    go_ret
    exact ⟨rfl, (by (try show Gr _ _); repeat (with_reducible first | exact Gr.refl _ | refine Gr.drewN ?_ _ | refine Gr.grew ?_ _ _ | refine Gr.alloc ?_ _ | refine Gr.drew ?_))⟩
  · cases h2 : fcmp .leq .f32 X 1132331008
    · rw [gPacks_no2 h2]
      go_enter Try.func118, Try.ntmps118
      go_wp2_with (first
      | ((with_reducible apply wpList_fop); (case hw => rfl); (case hop => rfl); (case hx => rfl); (case hy => rfl); (case hA => (first | assumption | exact FE.ofInt _ _ | exact FE.lit (by decide +kernel))); (case hB => (first | assumption | exact FE.ofInt _ _ | exact FE.lit (by decide +kernel))); intro r n hr)
      | ((with_reducible apply wpList_fcmp); (case hw => rfl); (case hop => rfl); (case hx => rfl); (case hy => rfl); (case hA => (first | assumption | exact FE.ofInt _ _ | exact FE.lit (by decide +kernel))); (case hB => (first | assumption | exact FE.ofInt _ _ | exact FE.lit (by decide +kernel))); (case hb => (first | assumption | rfl)))
      | ((with_reducible apply wpList_widen); (case hw => rfl); (case hs => exact Try.underlying65); (case hd => exact Try.underlying147); (case hx => rfl); (case hA => (first | assumption | exact FE.ofInt _ _ | exact FE.lit (by decide +kernel))); intro r n hr)
      | ((with_reducible apply wpList_fneg); (case hw => rfl); (case hx => rfl); (case hA => (first | assumption | exact FE.ofInt _ _ | exact FE.lit (by decide +kernel))); intro r hr))
      go_ret
      exact ⟨rfl, (by (try show Gr _ _); repeat (with_reducible first | exact Gr.refl _ | refine Gr.drewN ?_ _ | refine Gr.grew ?_ _ _ | refine Gr.alloc ?_ _ | refine Gr.drew ?_))⟩
    · obtain ⟨hN, -, -, n, hn, n1, n2, hq⟩ := pack_law h1 h2
      obtain rfl := FE.numF hx hN
      rw [gPacks_eq h1 h2]
      have cv := fun w => conv_i64 hn n1 n2 w
      have hof := FE.ofInt .f32 n
      cases hb : fcmp .eql .f64 (widen x) (flo (widen x))
      all_goals
        rw [hb] at hq
        clear hn hb
        go_enter Try.func118, Try.ntmps118
        go_wp2_with (first
      | (simp only [cv])
      | ((with_reducible apply wpList_fop); (case hw => rfl); (case hop => rfl); (case hx => rfl); (case hy => rfl); (case hA => (first | assumption | exact FE.ofInt _ _ | exact FE.lit (by decide +kernel))); (case hB => (first | assumption | exact FE.ofInt _ _ | exact FE.lit (by decide +kernel))); intro r n hr)
      | ((with_reducible apply wpList_fcmp); (case hw => rfl); (case hop => rfl); (case hx => rfl); (case hy => rfl); (case hA => (first | assumption | exact FE.ofInt _ _ | exact FE.lit (by decide +kernel))); (case hB => (first | assumption | exact FE.ofInt _ _ | exact FE.lit (by decide +kernel))); (case hb => (first | assumption | rfl)))
      | ((with_reducible apply wpList_widen); (case hw => rfl); (case hs => exact Try.underlying65); (case hd => exact Try.underlying147); (case hx => rfl); (case hA => (first | assumption | exact FE.ofInt _ _ | exact FE.lit (by decide +kernel))); intro r n hr)
      | ((with_reducible apply wpList_fneg); (case hw => rfl); (case hx => rfl); (case hA => (first | assumption | exact FE.ofInt _ _ | exact FE.lit (by decide +kernel))); intro r hr))
        go_ret
        exact ⟨rfl, (by (try show Gr _ _); repeat (with_reducible first | exact Gr.refl _ | refine Gr.drewN ?_ _ | refine Gr.grew ?_ _ _ | refine Gr.alloc ?_ _ | refine Gr.drew ?_))⟩
end Go.Proofs.Ytaidkokgafojeaa
