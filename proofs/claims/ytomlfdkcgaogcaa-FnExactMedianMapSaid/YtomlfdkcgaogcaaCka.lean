/- Contracts: two numbers of a row, compared. MAXREC -/
import Derived.Test.YtomlfdkcgaogcaaProg
import Derived.Test.YtomlfdkcgaogcaaC108
import Derived.Deep.DeepCutAuto
namespace Go.Proofs.Ytomlfdkcgaogcaa
open Go.RowKit Go.Fx Go.Soft Go.Sort
theorem key_up {d : Array (Nat × Nat)} {a b p q : Nat} (h : SortedIn (tlt fkey) a b d) (hp : a ≤ p) (hpq : p ≤ q) (hq : q < b) : fkey d[p]!.1 ≤ fkey d[q]!.1 := by
  by_cases e : p = q
  · rw [e]; exact Int.le_refl _
  · exact tlt_key (h p q hp (by omega) hq)
/-- Two numbers of a row, compared. -/
theorem I_cmpAt {w0 : World} {g n0 : Nat} {d : Array (Nat × Nat)} {w : World} (S : SRow w0 g n0 d w) {i j : Nat} (hi : i < n0) (hj : j < n0) (u : World) :
    Calls Try.prog 117 #[.float .f32 d[i]!.1, .float .f32 d[j]!.1] u fun e w' => e = .returned (.int .i64 (cfF d[i]!.1 d[j]!.1)) ∧ ∃ n, w' = u.drewN n :=
  I_median_2 _ _ u (S.good i hi).1 (S.good i hi).2 (S.good j hj).1 (S.good j hj).2
end Go.Proofs.Ytomlfdkcgaogcaa
