/- Contracts: vectors that hold their marks. MAXREC -/
import Derived.Test.YtaidkokgafojeaaProg
import Derived.Test.YtaidkokgafojeaaC43
import Derived.Test.YtaidkokgafojeaaLm
import Derived.Test.YtaidkokgafojeaaC73
import Derived.Test.YtaidkokgafojeaaLw
namespace Go.Fx
open Go Go.Soft Go.RowKit
/-- A row beside another of another type, that is written. -/
theorem Own.wroteT {w w' : World} {lo hi lo' hi' e e' size size' n n' : Nat} {v v' : Value} {xs xs' : List Value} (h : Own w lo hi e size v n xs) (h' : Own w lo' hi' e' size' v' n' xs') (g : Wrote w w' v') (ht : e ≠ e') : Own w' lo hi e size v n xs :=
  ⟨h.own.kept g.by_ (rows_ne h.own h'.own ht), h.hi⟩
theorem IIn.wroteT {w w' : World} {lo hi lo' hi' e' size' n' : Nat} {e : TypeId} {v v' : Value} {xs : List Int} {xs' : List Value} (h : IIn w lo hi e v xs) (h' : Own w lo' hi' e' size' v' n' xs') (g : Wrote w w' v') (ht : e ≠ e') : IIn w' lo hi e v xs := Own.wroteT h h' g ht
theorem VIn.wroteT {w w' : World} {lo hi n lo' hi' e' size' n' : Nat} {e : TypeId} {v v' : Value} {xs : List Nat} {xs' : List Value} (h : VIn w lo hi e v n xs) (h' : Own w lo' hi' e' size' v' n' xs') (g : Wrote w w' v') (ht : e ≠ e') : VIn w' lo hi e v n xs := by
  obtain ⟨rs, h1, h2⟩ := h
  exact ⟨rs, h1, Own.wroteT h2 h' g ht⟩
theorem VIn.swap {w w' : World} {os : Array Obj} {m m' lo hi n : Nat} {e : TypeId} {v : Value} {xs : List Nat} (h : VIn (w.grew os m) lo hi e v n xs) (hB : w.heap.size ≤ lo) (hs : w.heap.size = w'.heap.size) : VIn (w'.grew os m') lo hi e v n xs := by
  obtain ⟨rs, h1, h2⟩ := h
  exact ⟨rs, h1, Own.swap h2 hB hs⟩
/-- Two such rows that have come behind world c. -/
structure RowInVI (c w : World) (e e' : TypeId) (v u : Value) (n : Nat) (L : List Nat) (I : List Int) : Prop where
  at_ : ∃ lo hi, c.heap.size ≤ lo ∧ hi ≤ w.heap.size ∧ VIn w lo hi e v n L ∧ IIn w lo hi e' u I
theorem RowInVI.of {c w w' : World} {lo hi n : Nat} {e e' : TypeId} {v u : Value} {L : List Nat} {I : List Int} (h : VIn w lo hi e v n L) (h' : IIn w lo hi e' u I) (g : Gr w w') (h1 : c.heap.size ≤ lo) (h2 : hi ≤ w.heap.size) : RowInVI c w' e e' v u n L I :=
  ⟨lo, hi, h1, Nat.le_trans h2 g.size, h.gr g, h'.gr g⟩
theorem RowInVI.swap {c w w' : World} {os : Array Obj} {m m' lo hi n : Nat} {e e' : TypeId} {v u : Value} {L : List Nat} {I : List Int} (h : VIn (w.grew os m) lo hi e v n L) (h' : IIn (w.grew os m) lo hi e' u I) (hB : w.heap.size ≤ lo) (hs : w.heap.size = w'.heap.size) (h1 : c.heap.size ≤ lo) (h2 : hi ≤ (w'.grew os m').heap.size) : RowInVI c (w'.grew os m') e e' v u n L I :=
  ⟨lo, hi, h1, h2, h.swap hB hs, h'.swap hB hs⟩
end Go.Fx
namespace Go.Proofs.Ytaidkokgafojeaa
open Go.RowKit Go.Fx Go.Soft
theorem gPts_len (ok : Bool) (F B : Nat) {xs : List Nat} (h : xs.length ≤ 1048576) : (if ok = true then (gPtsI F B xs xs.length).length else 0) ≤ 1048576 ∧ (if ok = true then gPtsI F B xs xs.length else []).length ≤ 1048576 := by
  have := gPtsI_length F B xs xs.length
  cases ok
  · simp
  · simp only [if_true]; omega
theorem marks_get {k0 : Int} {m j : Nat} (h : j < m) : (marks k0 m)[j]? = some (.float .f32 (floatOfInt .f32 (k0 + (j : Int)))) := by simp [marks, h]
set_option maxRecDepth 20000 in
set_option maxHeartbeats 2000000 in
theorem L_heldVectorS (v : Value) (lo hi n : Nat) (k0 : Int) (w : World) (h : Own w lo hi 137 3 v n (marks k0 (n * 3))) (hk : 0 ≤ k0) (hn : n ≤ 1048576) (hk2 : k0 ≤ 1099511627776) :
    Calls Try.prog 51 #[v, .int .i64 k0] w fun e w' => e = .returned (.int .i64 (k0 + ((n * 3 : Nat) : Int))) ∧ Gr w w' := by
  have ho := h.own
  rcases h.own.2 with ⟨rfl, rfl⟩ | ⟨g, cap, cur, rfl, hb, hg, hnc, hcm, hcs, ht⟩
  · clear h ho
    go_enter Try.func51, Try.ntmps51
    go_wp2
    refine wp_loop_rounds 1 ?_
    rw [rounds_succ]
    go_wp2
    go_ret
    exact ⟨by simp, (by (try show Gr _ _); repeat (with_reducible first | exact Gr.refl _ | refine Gr.drewN ?_ _ | refine Gr.grew ?_ _ _ | refine Gr.alloc ?_ _ | refine Gr.drew ?_))⟩
  · have Ho := Lib.hid ho
    clear h hb hg hnc hcm hcs ht ho
    go_enter Try.func51, Try.ntmps51
    go_wp2
    go_loopw [1, 5] (fun q i wr => ∃ (k : Nat), k ≤ n ∧ i = .int .i64 k ∧ q = .int .i64 (k0 + 3 * (k : Int)) ∧ Gr w wr) (fun _ i _ => n - (intOf i).toNat)
    case atStart => exact ⟨0, Nat.zero_le _, rfl, by simp, (by (try show Gr _ _); repeat (with_reducible first | exact Gr.refl _ | refine Gr.drewN ?_ _ | refine Gr.grew ?_ _ _ | refine Gr.alloc ?_ _ | refine Gr.drew ?_))⟩
    case round =>
      obtain ⟨k, hkn, rfl, rfl, hg⟩ := hrel
      by_cases hlt : k < n
      · have hc : wr.cell? ⟨g, k * 3, none⟩ = some (.float .f32 (floatOfInt .f32 (k0 + 3 * (k : Int)))) := by
          apply hg.cell
          rw [Ho.out.cellAt (k * 3) (by omega), show k0 + 3 * (k : Int) = k0 + ((k * 3 : Nat) : Int) by omega]; exact marks_get (by omega)
        have hc2 : wr.cell? ⟨g, k * 3 + 1, none⟩ = some (.float .f32 (floatOfInt .f32 (k0 + 3 * (k : Int) + 1))) := by
          apply hg.cell
          rw [Ho.out.cellAt (k * 3 + 1) (by omega), show k0 + 3 * (k : Int) + 1 = k0 + ((k * 3 + 1 : Nat) : Int) by omega]; exact marks_get (by omega)
        have hc3 : wr.cell? ⟨g, k * 3 + 2, none⟩ = some (.float .f32 (floatOfInt .f32 (k0 + 3 * (k : Int) + 1 + 1))) := by
          apply hg.cell
          rw [Ho.out.cellAt (k * 3 + 2) (by omega), show k0 + 3 * (k : Int) + 1 + 1 = k0 + ((k * 3 + 2 : Nat) : Int) by omega]; exact marks_get (by omega)
        have f1 := FE.ofInt .f32 (k0 + 3 * (k : Int))
        have f2 := FE.ofInt .f32 (k0 + 3 * (k : Int) + 1)
        have f3 := FE.ofInt .f32 (k0 + 3 * (k : Int) + 1 + 1)
        have c1 := fcmp_neq_self (isN_ofInt .f32 (k0 + 3 * (k : Int)))
        have c2 := fcmp_neq_self (isN_ofInt .f32 (k0 + 3 * (k : Int) + 1))
        have c3 := fcmp_neq_self (isN_ofInt .f32 (k0 + 3 * (k : Int) + 1 + 1))
        have Hg := Lib.hid hg
        clear hg
        go_wp2_with ((with_reducible apply wpList_fcmp); (case hw => rfl); (case hop => rfl); (case hx => rfl); (case hy => rfl); (case hA => assumption); (case hB => assumption); (case hb => (first | assumption | rfl)))
        go_roundw
        case rel => exact ⟨k + 1, by omega, by go_num, by go_num, Hg.out.trans (by (try show Gr _ _); repeat (with_reducible first | exact Gr.refl _ | refine Gr.drewN ?_ _ | refine Gr.grew ?_ _ _ | refine Gr.alloc ?_ _ | refine Gr.drew ?_))⟩
        case measure => simp [intOf]; omega
      · obtain rfl : k = n := by omega
        go_wp2
        go_ret
        exact ⟨by rw [show k0 + 3 * (k : Int) = k0 + ((k * 3 : Nat) : Int) by omega]; rfl, hg⟩
end Go.Proofs.Ytaidkokgafojeaa
