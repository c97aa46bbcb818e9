/- Contracts: volumes, their cells, their winners. MAXREC -/
import Derived.Test.YtaidkokgafojeaaProg
import Derived.Test.YtaidkokgafojeaaC15
namespace Go.Fx
open Go Go.Soft Go.RowKit
/-- A volume in a box. -/
structure MV (w : World) (b : Nat) (wd hg dp : Int) (a : Option Addr) (n cap : Nat) (xs : List Nat) : Prop where
  c0 : w.cell? ⟨b, 0, none⟩ = some (.int .i64 wd)
  c1 : w.cell? ⟨b, 1, none⟩ = some (.int .i64 hg)
  c2 : w.cell? ⟨b, 2, none⟩ = some (.int .i64 dp)
  c3 : w.cell? ⟨b, 3, none⟩ = some (.slice a n cap)
  fs : FSl w a n xs
theorem MV.gr {w w' : World} {b : Nat} {wd hg dp : Int} {a : Option Addr} {n cap : Nat} {xs : List Nat} (h : MV w b wd hg dp a n cap xs) (g : Gr w w') : MV w' b wd hg dp a n cap xs :=
  ⟨g.cell h.c0, g.cell h.c1, g.cell h.c2, g.cell h.c3, h.fs.keep g.kp⟩
end Go.Fx
namespace Go.Proofs.Ytaidkokgafojeaa
open Go.RowKit Go.Fx Go.Soft
def gVol (w h d : Int) (n : Nat) : Bool := gSize w h && (gIn d 1 8 && ((n : Int) == w * h * d))
theorem vol_small {w h d : Int} (h1 : gSize w h = true) (h2 : gIn d 1 8 = true) : 1 ≤ w * h * d ∧ w * h * d ≤ 2048 := by
  obtain ⟨s1, s2, s3, s4, s5, s6⟩ := gSize_true h1
  have t := gIn_true h2
  have a := Int.mul_pos (show 0 < w * h by omega) (show 0 < d by omega)
  have b : w * h * d ≤ 256 * 8 := Int.mul_le_mul s5 t.2 (by omega) (by omega)
  omega
theorem gVol_true {w h d : Int} {n : Nat} (H : gVol w h d n = true) : gSize w h = true ∧ 1 ≤ d ∧ d ≤ 8 ∧ (n : Int) = w * h * d ∧ n ≤ 2048 := by
  simp only [gVol, Bool.and_eq_true, beq_iff_eq] at H
  obtain ⟨h1, h2, h3⟩ := H
  have := vol_small h1 h2
  have t := gIn_true h2
  exact ⟨h1, t.1, t.2, h3, by omega⟩
theorem vol_cell {W H D x y : Nat} (hx : x < W) (hy : y < H) : (x + W * y) * D + D ≤ W * H * D := by
  have h := cell_lt hx hy
  have : (x + W * y + 1) * D ≤ W * H * D := Nat.mul_le_mul_right D h
  rw [Nat.add_mul, Nat.one_mul] at this
  exact this
theorem vol_fs {w : World} {bx ox n i D : Nat} {xs : List Nat} (h : FSl w (some ⟨bx, ox, none⟩) n xs) (hi : i * D + D ≤ xs.length) : FSl w (some ⟨bx, ox + i * D, none⟩) (lst D fun j => xs.getD (i * D + j) 0).length (lst D fun j => xs.getD (i * D + j) 0) := by
  refine ⟨rfl, fun j hj => ?_⟩
  have hj' : j < D := by simpa using hj
  obtain ⟨r, h1, h2⟩ := h.get (i * D + j) (by omega)
  refine ⟨bx, ox + i * D, r, rfl, ?_, ?_⟩
  · rw [show ox + i * D + j = ox + (i * D + j) by omega]; exact h1
  · rw [lst_get]; exact h2
end Go.Proofs.Ytaidkokgafojeaa
