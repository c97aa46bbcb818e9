/- Contracts: what lies beside a cell. MAXREC -/
import Derived.Test.YtaidkokgafojeaaProg
import Derived.Test.YtaidkokgafojeaaC28
import Derived.Test.YtaidkokgafojeaaGi
import Derived.Test.YtaidkokgafojeaaC17
import Derived.Deep.DeepCutAuto
namespace Go.Proofs.Ytaidkokgafojeaa
open Go.RowKit Go.Fx Go.Soft
/-- One number more, if so. -/
def addIf (c : Prop) [Decidable c] (l : List Int) (v : Int) : List Int := if c then l ++ [v] else l
/-- The cells above, below, before and behind cell i, as far as there are any. -/
def gNearL (W H x y : Nat) (i : Int) : List Int := addIf (x + 1 < W) (addIf (0 < x) (addIf (y + 1 < H) (addIf (0 < y) [] (i - W)) (i + W)) (i - 1)) (i + 1)
theorem mod_row {W x y k : Nat} (h1 : k = x + W * y) (h2 : x < W) : (k : Int) % (W : Int) = (x : Int) := by
  have e2 : k % W = x := by rw [h1, mod_of h2]
  rw [← Int.natCast_emod, e2]
theorem info_int64 : (Try.prog.info? 2).map (fun i => (i.zero, i.size, i.bytes)) = some (some (.int .i64 0), 1, 8) := by kernel_rfl
set_option maxRecDepth 20000 in
set_option maxHeartbeats 4000000 in
theorem S_l05Near (W H x y i b ca : Nat) (a : Option Addr) (xs : List Nat) (w : World) (m1 : MP w b W H a xs.length ca xs) (hW : W ≤ 24) (hH : H ≤ 24) (hx : x < W) (hy : y < H) (hi0 : i = x + W * y) :
    Calls Try.prog 136 #[.pointer (some ⟨b, 0, none⟩), .int .i64 i] w fun e w' => (∃ v, e = .returned v ∧ IOwn w' w.heap.size 2 v (gNearL W H x y i)) ∧ Gr w w' := by
  obtain ⟨i0, hi, hz0, hz1, hz2⟩ := info_parts info_int64
  have hc := cell_lt hx hy
  have h24 : W * H ≤ 576 := Nat.mul_le_mul hW hH
  have hil : i ≤ 576 := by omega
  have eq : (i : Int) / (W : Int) = (y : Int) := div_row (by omega) (by omega)
  have er : (i : Int) % (W : Int) = (x : Int) := mod_row hi0 hx
  have c0 := m1.c0
  have c1 := m1.c1
  have C0 := Lib.hid c0
  have C1 := Lib.hid c1
  clear m1 hc h24 hi0
  have w1' : IntKind.i64.wrap ((W : Int) - 1) = (W : Int) - 1 := IntWalk.i64_in _ (by omega)
  have w2' : IntKind.i64.wrap ((H : Int) - 1) = (H : Int) - 1 := IntWalk.i64_in _ (by omega)
  have HN : IOwn (w.alloc (.cells #[] 2)) w.heap.size 2 (.slice (some ⟨w.heap.size, 0, none⟩) 0 0) [] := IOwn.empty (Blk.new w [] 2) (Nat.le_refl _)
  by_cases t1 : 0 < y <;> by_cases t2 : y + 1 < H <;> by_cases t3 : 0 < x <;> by_cases t4 : x + 1 < W
  all_goals
    have eG := Lib.hid (show gNearL W H x y i = _ by unfold gNearL addIf; simp only [t1, t2, t3, t4, if_true, if_false]; rfl)
    go_enter Try.func136, Try.ntmps136
    go_upto_region 4 with fail
    have G0 : Gr w (w.alloc (.cells #[] 2)) := Gr.alloc (Gr.refl _) _
    have e0 := G0.cell c0
    have e1 := G0.cell c1
    have hB : w.heap.size ≤ (w.alloc (.cells #[] 2)).heap.size := Gr.size G0
    generalize (Value.slice (some ⟨w.heap.size, 0, none⟩) 0 0) = v0 at *
    generalize w.alloc (.cells #[] 2) = w0 at *
    go_wp2_with (apply wpList_append_i (hgd := rfl) (ho := rfl) (i := i0) (ht := Try.underlying71) (hi := hi) (hz := hz0) (hsize := hz1) (hby := hz2); (case hown => exact IOwn.gr (by assumption) (by repeat (with_reducible first | assumption | exact Gr.refl _ | refine Gr.alloc ?_ _ | refine Gr.drewN ?_ _))); (case hs => rfl); (case hx => rfl); (case hcell => exact (Blk.atNew rfl).cellv 0 rfl); (case hn => simp); (case hB => exact Gr.size (by repeat (with_reducible first | assumption | exact Gr.refl _ | refine Gr.alloc ?_ _ | refine Gr.drewN ?_ _))); intro v1 w1 ho1 hg1; have G1 : Gr w w1 := Gr.grownBy (by repeat (with_reducible first | assumption | exact Gr.refl _ | refine Gr.alloc ?_ _ | refine Gr.drewN ?_ _)) hg1 (fun k hk => (IOwn.block (IOwn.gr (by assumption) (by repeat (with_reducible first | assumption | exact Gr.refl _ | refine Gr.alloc ?_ _ | refine Gr.drewN ?_ _))) hk).1); clear hg1; have d0 := G1.cell C0.out; have d1 := G1.cell C1.out)
    go_ret
    refine ⟨⟨_, rfl, ?_⟩, (by repeat (with_reducible first | assumption | exact Gr.refl _ | refine Gr.alloc ?_ _ | refine Gr.drewN ?_ _))⟩
    rw [eG.out]
    assumption
end Go.Proofs.Ytaidkokgafojeaa
