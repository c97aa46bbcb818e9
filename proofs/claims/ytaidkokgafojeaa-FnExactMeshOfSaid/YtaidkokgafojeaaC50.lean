/- Contracts: the bytes of a picture. MAXREC -/
import Derived.Test.YtaidkokgafojeaaProg
import Derived.Test.YtaidkokgafojeaaC8
import Derived.Test.YtaidkokgafojeaaC14
import Derived.Test.YtaidkokgafojeaaC3
import Derived.Test.YtaidkokgafojeaaBs
import Derived.Test.YtaidkokgafojeaaBy
import Derived.Laws.Externs
import Derived.Deep.DeepCutAuto
namespace Go.Fx
open Go Go.Soft Go.RowKit
theorem FE.numF {k : FloatKind} {r e : Nat} (h : FE k r e) (hn : isN k e = false) : r = e := by
  have h1 := h.cz
  cases hr : isN k r
  · rw [cz_num hr] at h1; exact h1
  · rw [← h1, isN_cz, hr] at hn; cases hn
theorem toIntVal8 {y : Nat} {n : Nat} (h : (Ieee.double.read y).toInt .zero = some (n : Int)) (h2 : n ≤ 255) : floatToIntVal .f64 y .u8 = some (n : Int) := by
  unfold floatToIntVal
  have hd : FloatKind.f64.decode y = Ieee.double.read y := rfl
  rw [hd, h]
  have a : IntKind.u8.min = 0 := by decide
  have b : IntKind.u8.max = 255 := by decide
  simp only [a, b]
  rw [if_pos (by omega)]
def gBytes (xs : List Nat) : List Int := xs.map gByteOf
theorem gBytes_succ {xs : List Nat} {k : Nat} (h : k < xs.length) : gBytes (xs.take k) ++ [gByteOf (xs.getD k 0)] = gBytes (xs.take (k + 1)) := by
  unfold gBytes
  rw [List.take_succ_eq_append_getElem h, List.map_append, List.getD_eq_getElem?_getD, List.getElem?_eq_getElem h]
  rfl
theorem gBytes_length (xs : List Nat) : (gBytes xs).length = xs.length := by simp [gBytes]
theorem byteOf_0 {X : Nat} (h : fcmp .gtr .f32 X 0 = false) : gByteOf X = 0 := by unfold gByteOf; rw [h]; rfl
theorem byteOf_1 {X : Nat} (h : fcmp .gtr .f32 X 0 = true) (h2 : fcmp .gtr .f32 X 1065353216 = true) : gByteOf X = 255 := by unfold gByteOf; rw [h, h2]; rfl
theorem byteOf_2 {X : Nat} {n : Nat} (h : fcmp .gtr .f32 X 0 = true) (h2 : fcmp .gtr .f32 X 1065353216 = false) (h3 : (Ieee.double.read (flo (byteF X))).toInt .zero = some (n : Int)) : gByteOf X = (n : Int) := by
  unfold gByteOf f2i; rw [h, h2, h3]; rfl
end Go.Fx
namespace Go.Proofs.Ytaidkokgafojeaa
open Go.RowKit Go.Fx Go.Soft
theorem gPic_576 {W H : Int} {n : Nat} (h : gPic W H n = true) : n ≤ 576 := by
  unfold gPic at h
  rw [Bool.and_eq_true] at h
  obtain ⟨hS, h2⟩ := h
  obtain ⟨s1, s2, s3, s4, s5, s6⟩ := gSize_true hS
  simp at h2
  omega
theorem info_uint8 : (Try.prog.info? 5).map (fun i => (i.zero, i.size, i.bytes)) = some (some (.int .u8 0), 1, 1) := by kernel_rfl
end Go.Proofs.Ytaidkokgafojeaa
