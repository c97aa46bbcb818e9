/- Contracts: the cells at a border, of the program. MAXREC -/
import Derived.Test.YtaidkokgafojeaaProg
import Derived.Test.YtaidkokgafojeaaC33
import Derived.Deep.DeepCutAuto
namespace Go.Proofs.Ytaidkokgafojeaa
open Go.RowKit Go.Fx Go.Soft
theorem I_Map_at_int (W H : Nat) (u v : Int) (b : Nat) (a : Option Addr) (ca : Nat) (xs : List Nat) (w : World) (m1 : MP w b W H a xs.length ca xs) (hW : W ≤ 24) (hH : H ≤ 24) (h1 : gHas W H u v = true) (hl : xs.length = W * H) :
    Calls Try.prog 101 #[.pointer (some ⟨b, 0, none⟩), .int .i64 u, .int .i64 v] w fun e w' => ∃ r, e = .returned (.float .f32 r) ∧ FE .f32 r (xs.getD (u + W * v).toNat 0) ∧ ∃ n, w' = w.drewN n := by
  obtain ⟨i1, i2⟩ : gIn u 0 ((W : Int) - 1) = true ∧ gIn v 0 ((H : Int) - 1) = true := by simpa [gHas] using h1
  obtain ⟨u, rfl⟩ := Int.eq_ofNat_of_zero_le (show 0 ≤ u by simp [gIn] at i1; omega)
  obtain ⟨v, rfl⟩ := Int.eq_ofNat_of_zero_le (show 0 ≤ v by simp [gIn] at i2; omega)
  have hu : u < W := by simp [gIn] at i1; omega
  have hv : v < H := by simp [gIn] at i2; omega
  have e0 : ((u : Int) + (W : Int) * (v : Int)).toNat = u + W * v := by
    rw [show (u : Int) + (W : Int) * (v : Int) = ((u + W * v : Nat) : Int) by simp]; exact Int.toNat_natCast _
  rw [e0]
  exact I_Map_at W H u v b a ca xs w m1 hW hH hu hv hl
theorem run_pair0 (a b c d e f g i : Value) (w : World) : Sem.run Try.prog (Instr.index 170 (.agg #[a, b, c, d, e, f, g, i]) (.int .i64 0)) w = .ok (.agg #[a, b]) w := by kernel_rfl
theorem run_pair1 (a b c d e f g i : Value) (w : World) : Sem.run Try.prog (Instr.index 170 (.agg #[a, b, c, d, e, f, g, i]) (.int .i64 1)) w = .ok (.agg #[c, d]) w := by kernel_rfl
theorem run_pair2 (a b c d e f g i : Value) (w : World) : Sem.run Try.prog (Instr.index 170 (.agg #[a, b, c, d, e, f, g, i]) (.int .i64 2)) w = .ok (.agg #[e, f]) w := by kernel_rfl
theorem run_pair3 (a b c d e f g i : Value) (w : World) : Sem.run Try.prog (Instr.index 170 (.agg #[a, b, c, d, e, f, g, i]) (.int .i64 3)) w = .ok (.agg #[g, i]) w := by kernel_rfl
end Go.Proofs.Ytaidkokgafojeaa
