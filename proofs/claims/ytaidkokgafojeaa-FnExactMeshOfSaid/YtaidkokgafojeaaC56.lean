/- Contracts: the bits of a float32 and their bytes. MAXREC -/
import Derived.Test.YtaidkokgafojeaaProg
import Derived.Test.YtaidkokgafojeaaC1
import Derived.Test.YtaidkokgafojeaaC2
import Derived.Test.YtaidkokgafojeaaC50
import Derived.Test.YtaidkokgafojeaaBs
import Derived.Test.YtaidkokgafojeaaBld
import Derived.Laws.Externs
import Derived.Laws.BitsAllLaws
namespace Go.Fx
open Go Go.Soft Go.RowKit
/-- The bits of a float32, one pattern for all NaNs. -/
def gBits (X : Nat) : Nat := if isN .f32 X then 2143289344 else X
theorem gBits_lt {x X : Nat} (h : FE .f32 x X) : gBits X < 4294967296 := by
  unfold gBits
  cases hn : isN .f32 X
  · have e := FE.numF h hn
    have := h.lt
    rw [e] at this
    exact this
  · rw [if_pos rfl]; decide
/-- The bytes of a number, the least first. -/
def gBo (n : Nat) : Nat → List Int
  | 0 => []
  | k + 1 => gBo n k ++ [((n / 256 ^ k % 256 : Nat) : Int)]
theorem gBo_length (n : Nat) : ∀ k, (gBo n k).length = k
  | 0 => rfl
  | k + 1 => by rw [gBo, List.length_append, gBo_length n k]; rfl
theorem shr8 (n k : Nat) : n / 256 ^ k / 256 = n / 256 ^ (k + 1) := by rw [Nat.div_div_eq_div_mul, Nat.pow_succ]
end Go.Fx
namespace Go.Proofs.Ytaidkokgafojeaa
open Go.RowKit Go.Fx Go.Soft
theorem call_bits (x : Nat) (w : World) : (callFunc 152 #[.float .f32 x]).run Try.prog w = .ok (.value (.int .u32 x)) w := by
  rw [run_callFunc_extern Try.func152 (e := Extern.MathFloatBits.float32bits) (by kernel_rfl) (by kernel_rfl) (by kernel_rfl) (by kernel_rfl)]
  rfl
theorem call_from (n : Nat) (w : World) : (callFunc 155 #[.int .u32 n]).run Try.prog w = .ok (.value (.float .f32 n)) w := by
  rw [run_callFunc_extern Try.func155 (e := Extern.MathFloatBits.float32frombits) (by kernel_rfl) (by kernel_rfl) (by kernel_rfl) (by kernel_rfl)]
  rfl
set_option maxRecDepth 20000 in
set_option maxHeartbeats 1000000 in
theorem S_l01Bits (x X : Nat) (w : World) (hx : FE .f32 x X) :
    Calls Try.prog 120 #[.float .f32 x] w fun e w' => e = .returned (.int .i64 (gBits X)) ∧ ∃ n, w' = w.drewN n := by
  have hlt := gBits_lt hx
  unfold gBits at hlt ⊢
  cases hN : isN .f32 X
  · have c1 : fcmp .neq .f32 X X = false := fcmp_neq_self hN
    obtain rfl := FE.numF hx hN
    have hlt : x < 4294967296 := by rw [hN] at hlt; exact hlt
    have cb := call_bits x
    go_enter Try.func120, Try.ntmps120
    go_wp2_with (first
      | (simp only [cb])
      | ((with_reducible apply wpList_fop); (case hw => rfl); (case hop => rfl); (case hx => rfl); (case hy => rfl); (case hA => (first | assumption | exact FE.ofInt _ _ | exact FE.lit (by decide +kernel))); (case hB => (first | assumption | exact FE.ofInt _ _ | exact FE.lit (by decide +kernel))); intro r n hr)
      | ((with_reducible apply wpList_fcmp); (case hw => rfl); (case hop => rfl); (case hx => rfl); (case hy => rfl); (case hA => (first | assumption | exact FE.ofInt _ _ | exact FE.lit (by decide +kernel))); (case hB => (first | assumption | exact FE.ofInt _ _ | exact FE.lit (by decide +kernel))); (case hb => (first | assumption | rfl)))
      | ((with_reducible apply wpList_widen); (case hw => rfl); (case hs => exact Try.underlying65); (case hd => exact Try.underlying147); (case hx => rfl); (case hA => (first | assumption | exact FE.ofInt _ _ | exact FE.lit (by decide +kernel))); intro r n hr)
      | ((with_reducible apply wpList_fneg); (case hw => rfl); (case hx => rfl); (case hA => (first | assumption | exact FE.ofInt _ _ | exact FE.lit (by decide +kernel))); intro r hr))
    go_ret
    exact ⟨rfl, (by first | exact ⟨0, rfl⟩ | exact ⟨_, rfl⟩)⟩
  · have c1 : fcmp .neq .f32 X X = true := fcmp_neq_nan hN
    go_enter Try.func120, Try.ntmps120
    go_wp2_with (first
      | ((with_reducible apply wpList_fop); (case hw => rfl); (case hop => rfl); (case hx => rfl); (case hy => rfl); (case hA => (first | assumption | exact FE.ofInt _ _ | exact FE.lit (by decide +kernel))); (case hB => (first | assumption | exact FE.ofInt _ _ | exact FE.lit (by decide +kernel))); intro r n hr)
      | ((with_reducible apply wpList_fcmp); (case hw => rfl); (case hop => rfl); (case hx => rfl); (case hy => rfl); (case hA => (first | assumption | exact FE.ofInt _ _ | exact FE.lit (by decide +kernel))); (case hB => (first | assumption | exact FE.ofInt _ _ | exact FE.lit (by decide +kernel))); (case hb => (first | assumption | rfl)))
      | ((with_reducible apply wpList_widen); (case hw => rfl); (case hs => exact Try.underlying65); (case hd => exact Try.underlying147); (case hx => rfl); (case hA => (first | assumption | exact FE.ofInt _ _ | exact FE.lit (by decide +kernel))); intro r n hr)
      | ((with_reducible apply wpList_fneg); (case hw => rfl); (case hx => rfl); (case hA => (first | assumption | exact FE.ofInt _ _ | exact FE.lit (by decide +kernel))); intro r hr))
    go_ret
    exact ⟨rfl, (by first | exact ⟨0, rfl⟩ | exact ⟨_, rfl⟩)⟩
set_option maxRecDepth 20000 in
set_option maxHeartbeats 1000000 in
theorem I_BitsOf (x X : Nat) (w : World) (hx : FE .f32 x X) :
    Calls Try.prog 123 #[.float .f32 x] w fun e w' => e = .returned (.int .i64 (gBits X)) ∧ ∃ os m, w' = w.grew os m := by
  have hlt := gBits_lt hx
  unfold gBits at hlt ⊢
  cases hN : isN .f32 X
  · have c1 : fcmp .neq .f32 X X = false := fcmp_neq_self hN
    obtain rfl := FE.numF hx hN
    have hlt : x < 4294967296 := by rw [hN] at hlt; exact hlt
    have cb := call_bits x
    go_enter Try.func123, Try.ntmps123
    go_wp2_with (first
      | (simp only [cb])
      | go_in
      | ((with_reducible apply wpList_fop); (case hw => rfl); (case hop => rfl); (case hx => rfl); (case hy => rfl); (case hA => (first | assumption | exact FE.ofInt _ _ | exact FE.lit (by decide +kernel))); (case hB => (first | assumption | exact FE.ofInt _ _ | exact FE.lit (by decide +kernel))); intro r n hr)
      | ((with_reducible apply wpList_fcmp); (case hw => rfl); (case hop => rfl); (case hx => rfl); (case hy => rfl); (case hA => (first | assumption | exact FE.ofInt _ _ | exact FE.lit (by decide +kernel))); (case hB => (first | assumption | exact FE.ofInt _ _ | exact FE.lit (by decide +kernel))); (case hb => (first | assumption | rfl)))
      | ((with_reducible apply wpList_widen); (case hw => rfl); (case hs => exact Try.underlying65); (case hd => exact Try.underlying147); (case hx => rfl); (case hA => (first | assumption | exact FE.ofInt _ _ | exact FE.lit (by decide +kernel))); intro r n hr)
      | ((with_reducible apply wpList_fneg); (case hw => rfl); (case hx => rfl); (case hA => (first | assumption | exact FE.ofInt _ _ | exact FE.lit (by decide +kernel))); intro r hr))
    go_ret
    exact ⟨rfl, (by (try show Gr _ _); repeat (with_reducible first | exact Gr.refl _ | refine Gr.drewN ?_ _ | refine Gr.grew ?_ _ _ | refine Gr.alloc ?_ _ | refine Gr.drew ?_))⟩
  · have c1 : fcmp .neq .f32 X X = true := fcmp_neq_nan hN
    go_enter Try.func123, Try.ntmps123
    go_wp2_with (first
      | go_in
      | ((with_reducible apply wpList_fop); (case hw => rfl); (case hop => rfl); (case hx => rfl); (case hy => rfl); (case hA => (first | assumption | exact FE.ofInt _ _ | exact FE.lit (by decide +kernel))); (case hB => (first | assumption | exact FE.ofInt _ _ | exact FE.lit (by decide +kernel))); intro r n hr)
      | ((with_reducible apply wpList_fcmp); (case hw => rfl); (case hop => rfl); (case hx => rfl); (case hy => rfl); (case hA => (first | assumption | exact FE.ofInt _ _ | exact FE.lit (by decide +kernel))); (case hB => (first | assumption | exact FE.ofInt _ _ | exact FE.lit (by decide +kernel))); (case hb => (first | assumption | rfl)))
      | ((with_reducible apply wpList_widen); (case hw => rfl); (case hs => exact Try.underlying65); (case hd => exact Try.underlying147); (case hx => rfl); (case hA => (first | assumption | exact FE.ofInt _ _ | exact FE.lit (by decide +kernel))); intro r n hr)
      | ((with_reducible apply wpList_fneg); (case hw => rfl); (case hx => rfl); (case hA => (first | assumption | exact FE.ofInt _ _ | exact FE.lit (by decide +kernel))); intro r hr))
    go_ret
    exact ⟨rfl, (by (try show Gr _ _); repeat (with_reducible first | exact Gr.refl _ | refine Gr.drewN ?_ _ | refine Gr.grew ?_ _ _ | refine Gr.alloc ?_ _ | refine Gr.drew ?_))⟩
set_option maxRecDepth 20000 in
set_option maxHeartbeats 4000000 in
theorem I_bytesOf (n many : Nat) (w : World) (hn : n < 4294967296) (hm : many ≤ 8) :
    Calls Try.prog 122 #[.int .i64 n, .int .i64 many] w fun e w' => e = .returned (.string (strOfNums (gBo n many))) ∧ Gr w w' := by
  obtain ⟨i0, hi, hz0, hz1, hz2⟩ := info_parts info_uint8
  go_enter Try.func122, Try.ntmps122
  go_wp2
  go_loopw [0, 5, 8] (fun m s i wr => ∃ k : Nat, k ≤ many ∧ m = .int .i64 ((n / 256 ^ k : Nat) : Int) ∧ i = .int .i64 k ∧ BOwn wr w.heap.size 5 s (gBo n k) ∧ Gr w wr) (fun _ _ i _ => many - (intOf i).toNat)
  case atStart => exact ⟨0, Nat.zero_le _, by simp, rfl, BOwn.empty (Blk.atNew (by simp)) (by first | omega | (simp <;> omega)), (by (try show Gr _ _); repeat (with_reducible first | exact Gr.refl _ | refine Gr.drewN ?_ _ | refine Gr.grew ?_ _ _ | refine Gr.alloc ?_ _ | refine Gr.drew ?_))⟩
  case round =>
    obtain ⟨k, hk, rfl, rfl, ho, hg⟩ := hrel
    have hl := gBo_length n k
    have hq : n / 256 ^ k ≤ n := Nat.div_le_self _ _
    have e8 := shr8 n k
    obtain ⟨q, hq'⟩ : ∃ q, q = n / 256 ^ k := ⟨_, rfl⟩
    have HQ := Lib.hid hq'
    rw [← hq'] at hq e8 ⊢
    have E8 := Lib.hid e8
    clear hq' e8
    have Ho := Lib.hid ho
    have Hg := Lib.hid hg
    clear ho hg
    by_cases hlt : k < many
    · go_wp2_with (first
      | (apply wpList_append_b (hgd := rfl) (ho := rfl) (i := i0) (ht := Try.underlying144) (hi := hi) (hz := hz0) (hsize := hz1) (hby := hz2); (case hown => exact Ho.out.gr (by (try show Gr _ _); repeat (with_reducible first | exact Gr.refl _ | refine Gr.drewN ?_ _ | refine Gr.grew ?_ _ _ | refine Gr.alloc ?_ _ | refine Gr.drew ?_))); (case hs => rfl); (case hx => rfl); (case hcell => exact (Blk.atNew (by simp)).cellv 0 rfl); (case hn => omega); (case hB => exact Nat.le_trans (Gr.size Hg.out) (Gr.size ((by (try show Gr _ _); repeat (with_reducible first | exact Gr.refl _ | refine Gr.drewN ?_ _ | refine Gr.grew ?_ _ _ | refine Gr.alloc ?_ _ | refine Gr.drew ?_)) : Gr wr _))); intro v1 w1 ho1 hg1; have HG1 := Lib.hid (Gr.grownBy (Hg.out.trans (by (try show Gr _ _); repeat (with_reducible first | exact Gr.refl _ | refine Gr.drewN ?_ _ | refine Gr.grew ?_ _ _ | refine Gr.alloc ?_ _ | refine Gr.drew ?_))) hg1 (fun k hk => (BOwn.block Ho.out hk).1)); have HO1 := Lib.hid ho1; clear hg1 ho1))
      have EB := Lib.hid (show gBo n (k + 1) = gBo n k ++ [(q : Int) % 256] by rw [gBo, ← HQ.out]; rfl)
      go_roundw
      case rel => exact ⟨k + 1, by omega, by rw [← E8.out]; rfl, by go_num, by rw [EB.out]; exact HO1.out, HG1.out⟩
      case measure => simp [intOf]; omega
    · obtain rfl : k = many := by omega
      have hcv := Ho.out.conv (P := Try.prog) 144 9 Try.underlying144 Try.underlying5 Try.underlying9
      go_wp2_with (first
      | (simp only [hcv]))
      go_ret
      exact ⟨rfl, Hg.out.trans (by (try show Gr _ _); repeat (with_reducible first | exact Gr.refl _ | refine Gr.drewN ?_ _ | refine Gr.grew ?_ _ _ | refine Gr.alloc ?_ _ | refine Gr.drew ?_))⟩
end Go.Proofs.Ytaidkokgafojeaa
