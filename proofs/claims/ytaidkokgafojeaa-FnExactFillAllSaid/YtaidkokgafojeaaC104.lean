/- Contracts: a round of FillAll, the program. MAXREC -/
import Derived.Test.YtaidkokgafojeaaProg
import Derived.Test.YtaidkokgafojeaaC103
import Derived.Deep.RegionHeld3
namespace Go.Fx
open Go Go.Soft Go.RowKit
theorem FOwn.drew {w : World} {B : Nat} {e : TypeId} {v : Value} {xs : List Nat} (h : FOwn w B e v xs) : FOwn w.drew B e v xs := h.gr (Gr.refl _).drew
theorem FOwn.drewN' {w : World} {B : Nat} {e : TypeId} {v : Value} {xs : List Nat} (h : FOwn w B e v xs) (n : Nat) : FOwn (w.drewN n) B e v xs := h.gr ((Gr.refl _).drewN n)
theorem FOwn.alloc {w : World} {B : Nat} {e : TypeId} {v : Value} {xs : List Nat} (h : FOwn w B e v xs) (o : Obj) : FOwn (w.alloc o) B e v xs := h.gr ((Gr.refl _).alloc o)
end Go.Fx
namespace Go.Proofs.Ytaidkokgafojeaa
open Go.RowKit Go.Fx Go.Soft
theorem FSl.block {w : World} {b off n : Nat} {xs : List Nat} (h : FSl w (some ⟨b, off, none⟩) n xs) (hn : 0 < xs.length) : b < w.heap.size := by
  obtain ⟨r, hc, -⟩ := h.get 0 hn
  exact World.block_lt_of_cell? w _ hc
set_option maxRecDepth 20000 in
set_option maxHeartbeats 4000000 in
theorem I_filled (W H bx ox ca : Nat) (xs : List Nat) (w : World) (fx : FSl w (some ⟨bx, ox, none⟩) xs.length xs) (hW : W ≤ 24) (hH : H ≤ 24) (hW0 : 1 ≤ W) (hH0 : 1 ≤ H) (hl : xs.length = W * H) :
    Calls Try.prog 91 #[.agg #[.int .i64 W, .int .i64 H, .slice (some ⟨bx, ox, none⟩) xs.length ca]] w fun e w' =>
      (∃ v, e = .returned (.tuple #[.agg #[.int .i64 W, .int .i64 H, v], .int .i64 (gCnt (gGets xs W H) xs.length : Nat)]) ∧ FOwn w' w.heap.size 65 v (lst xs.length (gFillA xs W H))) ∧ Gr w w' := by
  have hpos : 0 < xs.length := by rw [hl]; exact Nat.mul_pos (by omega) (by omega)
  have hbx := FSl.block fx hpos
  have Fx := Lib.hid fx
  have Hl := Lib.hid hl
  have h24 : W * H ≤ 576 := Nat.mul_le_mul hW hH
  have EG := Lib.hid (show grid W (fun x y => gFillA xs W H (x + W * y)) (W * H) = lst xs.length (gFillA xs W H) by rw [hl]; exact lst_congr fun i _ => by simp only [Nat.mod_add_div])
  have EC := Lib.hid (show gCntC W (fun x y => gGets xs W H (x + W * y)) (W * H) = gCnt (gGets xs W H) xs.length by rw [hl]; unfold gCntC; simp only [Nat.mod_add_div])
  obtain ⟨N, hN⟩ : ∃ N, N = gCnt (gGets xs W H) xs.length := ⟨_, rfl⟩
  rw [← hN] at EC ⊢
  clear fx hl hN
  go_enter Try.func91, Try.ntmps91
  go_upto_region 2 with fail
  generalize hwq : World.alloc _ _ = wq
  have B0 : Blk wq w.heap.size [.int .i64 W, .int .i64 H, .slice (some ⟨bx, ox, none⟩) xs.length ca] 24 := by
    rw [← hwq]; exact (by repeat (with_reducible first | assumption | exact Blk.atNew (by simp) | refine Blk.alloc ?_ _ | refine Blk.grew ?_ _ _ | refine Blk.drewN ?_ _ | refine Blk.drew ?_))
  have B1 : Blk wq (w.heap.size + 1) [.int .i64 0, .int .i64 0, .slice none 0 0] 24 := by
    rw [← hwq]; exact (by repeat (with_reducible first | assumption | exact Blk.atNew (by simp) | refine Blk.alloc ?_ _ | refine Blk.grew ?_ _ _ | refine Blk.drewN ?_ _ | refine Blk.drew ?_))
  have B2 : Blk wq (w.heap.size + 2) [.int .i64 ((0 : Nat) : Int)] 3 := by
    rw [← hwq]; show Blk _ _ [.int .i64 0] _; exact (by repeat (with_reducible first | assumption | exact Blk.atNew (by simp) | refine Blk.alloc ?_ _ | refine Blk.grew ?_ _ _ | refine Blk.drewN ?_ _ | refine Blk.drew ?_))
  have G0 : Gr w wq := by rw [← hwq]; exact (by (try show Gr _ _); repeat (with_reducible first | exact Gr.refl _ | refine Gr.drewN ?_ _ | refine Gr.grew ?_ _ _ | refine Gr.alloc ?_ _ | refine Gr.drew ?_))
  clear hwq
  have p0 := B0.cellv 0
  have p1 := B0.cellv 1
  have p2 := B0.cellv 2
  have HMS : (wq.cell? ⟨w.heap.size + 2, 0, none⟩).isSome = true := by rw [B2.cellv 0 rfl]; rfl
  have HT := Lib.hid (tellsC_filled W H w.heap.size (w.heap.size + 2) ca (some ⟨bx, ox, none⟩) xs wq ⟨p0, p1, p2, Fx.out.keep G0.kp⟩ B2 (by omega) (fun p hp => by cases hp; show bx ≠ _; omega) hW hH Hl.out)
  have B1 := Lib.hid B1
  have B2 := Lib.hid B2
  have G0 := Lib.hid G0
  have HMS := Lib.hid HMS
  have h3 := B2.out.lt
  have HS := Lib.hid h3
  clear B0 h3
  go_wp2_with fail
  refine (I_mapOf_c W H (w.heap.size + 2) _ _ _ _ wq HT.out B2.out hW hH hW0 hH0).mono ?_
  rintro e w1 ⟨⟨v0, rfl, ho⟩, g⟩
  rw [EG.out] at ho
  rw [EC.out] at g
  have hg1 : Gr w w1 := Gr.trans (G0.out.setCell (by show w.heap.size ≤ w.heap.size + 2; omega) _) g
  have hs1 : w.heap.size + 2 < w1.heap.size := by have := Gr.size g; rw [cw_size] at this; have := HS.out; omega
  have C1 : Blk w1 (w.heap.size + 1) [.int .i64 0, .int .i64 0, .slice none 0 0] 24 := (B1.out.setOther _ (by show w.heap.size + 2 ≠ _; omega)).gr g
  have C2 : Blk w1 (w.heap.size + 2) [.int .i64 (N : Int)] 3 := (B2.out.set (i := 0) (.int .i64 (N : Int))).gr g
  have q0 := C1.cellv 0
  have q1 := C1.cellv 1
  have q2 := C1.cellv 2
  have y0 := C1.frozen 0
  have y1 := C1.frozen 1
  have y2 := C1.frozen 2
  have m0 := C2.cellv 0
  have ho2 := ho.base (B' := w.heap.size + 3) (by have := HS.out; omega)
  obtain ⟨a1, c1, rfl, -, -⟩ := ho2.sl' xs.length (by simp)
  have Ho := Lib.hid ho2
  have Hg := Lib.hid hg1
  clear ho ho2 hg1 g B1 B2 C1 C2 p0 p1 p2 HT G0
  go_upto_region 3 with fail
  go_region_held3 (fun w' => w'.cell? ⟨w1.heap.size, 0, none⟩ = some (.int .i64 W) ∧ w'.cell? ⟨w1.heap.size, 1, none⟩ = some (.int .i64 H) ∧ w'.cell? ⟨w1.heap.size, 2, none⟩ = some (.slice a1 xs.length c1) ∧ w'.cell? ⟨w.heap.size + 2, 0, none⟩ = some (.int .i64 (N : Int)))
      (first | (simp (maxDischargeDepth := 12) [go_sem]; done) | (simp (maxDischargeDepth := 12) [go_sem, *]; done)) (first
      | fail)
  go_wp2
  refine bodyPost_ret (v := .tuple #[.agg #[.int .i64 W, .int .i64 H, .slice a1 xs.length c1], .int .i64 (N : Int)]) (by simp [results, Try.results91, go_sem, *]) rfl ⟨⟨_, rfl, ?_⟩, ?_⟩
  · have h := Ho.out
    refine FOwn.base (B := w.heap.size + 3) ?_ (by omega)
    repeat (with_reducible first | exact h | refine FOwn.setOther ?_ _ (by simp <;> omega) | refine FOwn.drew ?_ | refine FOwn.drewN' ?_ _ | refine FOwn.alloc ?_ _)
  · have h := Hg.out
    repeat (with_reducible first | exact h | refine Gr.setCell ?_ (by simp <;> omega) _ | refine Gr.drewN ?_ _ | refine Gr.drew ?_ | refine Gr.alloc ?_ _)
end Go.Proofs.Ytaidkokgafojeaa
