/- Contracts: the points of a map (the reference's loop). MAXREC -/
import Derived.Test.YtaidkokgafojeaaProg
import Derived.Test.YtaidkokgafojeaaC11
import Derived.Test.YtaidkokgafojeaaC14
import Derived.Test.YtaidkokgafojeaaC31
import Derived.Test.YtaidkokgafojeaaC58
import Derived.Test.YtaidkokgafojeaaVp
import Derived.Deep.DeepCutAuto
import Derived.Deep.RegionHeld3
namespace Go.Proofs.Ytaidkokgafojeaa
open Go.RowKit Go.Fx Go.Soft
theorem info_vector : (Try.prog.info? 137).map (fun i => (i.zero, i.size, i.bytes)) = some (some (.agg #[.float .f32 0, .float .f32 0, .float .f32 0]), 3, 12) := by kernel_rfl
theorem gFin_small {n : Nat} (h : n ≤ 24) : gFin (floatOfInt .f32 (n : Int)) = true := by
  have key : ∀ i : Fin 25, gFin (floatOfInt .f32 ((i.1 : Nat) : Int)) = true := by decide +kernel
  exact key ⟨n, by omega⟩
/-- The points of the first k cells, and the cells. -/
def gPtsV (F B MX MY W : Nat) (xs : List Nat) : Nat → List Nat
  | 0 => []
  | k + 1 => match gFar F B (xs.getD k 0) with
    | some Z => gPtsV F B MX MY W xs k ++ [gPt F MX (floatOfInt .f32 ((k % W : Nat) : Int)) Z, gPt F MY (floatOfInt .f32 ((k / W : Nat) : Int)) Z, Z]
    | none => gPtsV F B MX MY W xs k
def gPtsI (F B : Nat) (xs : List Nat) : Nat → List Int
  | 0 => []
  | k + 1 => if (gFar F B (xs.getD k 0)).isSome then gPtsI F B xs k ++ [(k : Int)] else gPtsI F B xs k
theorem gPtsV_some {F B MX MY W k Z : Nat} {xs : List Nat} (h : gFar F B (xs.getD k 0) = some Z) : gPtsV F B MX MY W xs (k + 1) = gPtsV F B MX MY W xs k ++ [gPt F MX (floatOfInt .f32 ((k % W : Nat) : Int)) Z, gPt F MY (floatOfInt .f32 ((k / W : Nat) : Int)) Z, Z] := by simp only [gPtsV, h]
theorem gPtsV_none {F B MX MY W k : Nat} {xs : List Nat} (h : gFar F B (xs.getD k 0) = none) : gPtsV F B MX MY W xs (k + 1) = gPtsV F B MX MY W xs k := by simp only [gPtsV, h]
theorem gPtsI_some {F B k Z : Nat} {xs : List Nat} (h : gFar F B (xs.getD k 0) = some Z) : gPtsI F B xs (k + 1) = gPtsI F B xs k ++ [(k : Int)] := by rw [gPtsI, h]; rfl
theorem gPtsI_none {F B k : Nat} {xs : List Nat} (h : gFar F B (xs.getD k 0) = none) : gPtsI F B xs (k + 1) = gPtsI F B xs k := by rw [gPtsI, h]; rfl
theorem gPtsI_length (F B : Nat) (xs : List Nat) (k : Nat) : (gPtsI F B xs k).length ≤ k := by
  induction k with
  | zero => simp [gPtsI]
  | succ k ih =>
    unfold gPtsI
    split
    · rw [List.length_append]; simp; omega
    · omega
macro "pgr" : tactic => `(tactic| ((try show Gr _ _); repeat (with_reducible first | exact Gr.refl _ | refine Gr.drewN ?_ _ | refine Gr.grew ?_ _ _ | refine Gr.alloc ?_ _ | refine Gr.drew ?_ | refine Gr.setCell ?_ (by simp <;> omega) _)))
set_option maxRecDepth 20000 in
set_option maxHeartbeats 6000000 in
theorem S_l06Points (f b mx my F B MX MY bc bm W H n cap : Nat) (a : Option Addr) (xs : List Nat) (w : World) (hf : FE .f32 f F) (hb : FE .f32 b B) (hmx : FE .f32 mx MX) (hmy : FE .f32 my MY)
    (c0 : w.cell? ⟨bc, 0, none⟩ = some (.float .f32 f)) (c1 : w.cell? ⟨bc, 1, none⟩ = some (.float .f32 b)) (c2 : w.cell? ⟨bc, 2, none⟩ = some (.float .f32 mx)) (c3 : w.cell? ⟨bc, 3, none⟩ = some (.float .f32 my))
    (d0 : w.cell? ⟨bm, 0, none⟩ = some (.int .i64 W)) (d2 : w.cell? ⟨bm, 2, none⟩ = some (.slice a n cap)) (hs : FSl w a n xs) (hW0 : 1 ≤ W) (hW : W ≤ 24) (hH : H ≤ 24) (hn : n = W * H) :
    Calls Try.prog 108 #[.pointer (some ⟨bc, 0, none⟩), .pointer (some ⟨bm, 0, none⟩)] w fun e w' =>
      (∃ v u, e = .returned (.tuple #[v, u]) ∧ VOwn w' w.heap.size 137 v (gPtsI F B xs n).length (gPtsV F B MX MY W xs n) ∧ IOwn w' w.heap.size 2 u (gPtsI F B xs n)) ∧ Gr w w' := by
  obtain ⟨i0, hi, hz0, hz1, hz2⟩ := info_parts info_vector
  obtain ⟨j0, ji, jz0, jz1, jz2⟩ := info_parts info_int64
  have Hs := Lib.hid hs
  have hn24 : n ≤ 576 := by rw [hn]; exact Nat.mul_le_mul hW hH
  have Hn := Lib.hid hn
  clear hs hn
  have q0 := c0
  have q1 := c1
  have q2 := c2
  have q3 := c3
  have r0 := d0
  have r2 := d2
  clear c0 c1 c2 c3 d0 d2
  go_enter Try.func108, Try.ntmps108
  go_wp2
  go_loopw [6, 7, 8] (fun v u i wr => ∃ k : Nat, k ≤ n ∧ i = .int .i64 k ∧ (VOwn wr w.heap.size 137 v (gPtsI F B xs k).length (gPtsV F B MX MY W xs k) ∧ IOwn wr w.heap.size 2 u (gPtsI F B xs k)) ∧ Gr w wr) (fun v u i _ => n - (intOf i).toNat)
  case atStart => exact ⟨0, Nat.zero_le _, rfl, ⟨VOwn.empty (by repeat (with_reducible first | assumption | exact Blk.atNew (by simp) | refine Blk.alloc ?_ _ | refine Blk.grew ?_ _ _ | refine Blk.drewN ?_ _ | refine Blk.drew ?_)) (by simp), IOwn.empty (by repeat (with_reducible first | assumption | exact Blk.atNew (by simp) | refine Blk.alloc ?_ _ | refine Blk.grew ?_ _ _ | refine Blk.drewN ?_ _ | refine Blk.drew ?_)) (by simp)⟩, (by (try show Gr _ _); repeat (with_reducible first | exact Gr.refl _ | refine Gr.drewN ?_ _ | refine Gr.grew ?_ _ _ | refine Gr.alloc ?_ _ | refine Gr.drew ?_))⟩
  case round =>
    obtain ⟨k, hk, rfl, ⟨hv, hu⟩, hg⟩ := hrel
    obtain ⟨av, cv, rfl⟩ := hv.form
    obtain ⟨au, cu, rfl⟩ := hu.form
    have c0 := hg.cell q0
    have c1 := hg.cell q1
    have c2 := hg.cell q2
    have c3 := hg.cell q3
    have d0 := hg.cell r0
    have d2 := hg.cell r2
    have Hv := Lib.hid hv
    have Hu := Lib.hid hu
    have Hg := Lib.hid hg
    clear hv hu hg
    by_cases hlt : k < n
    · have hkx : k < xs.length := by have := Hs.out.len; omega
      obtain ⟨bl, off, x, rfl, x0, hx⟩ := (Hs.out.keep Hg.out.kp).at_ k hkx
      have hD : xs[k] = xs.getD k 0 := by simp [hkx]
      rw [hD] at hx
      obtain ⟨px, hpx⟩ : ∃ px, px = k % W := ⟨_, rfl⟩
      obtain ⟨py, hpy⟩ : ∃ py, py = k / W := ⟨_, rfl⟩
      have hfx : gFin (floatOfInt .f32 (px : Int)) = true := gFin_small (by rw [hpx]; exact Nat.le_of_lt (Nat.lt_of_lt_of_le (Nat.mod_lt _ (by omega)) hW))
      have hfy : gFin (floatOfInt .f32 (py : Int)) = true := gFin_small (by rw [hpy]; exact Nat.le_of_lt (Nat.lt_of_lt_of_le (Nat.div_lt_of_lt_mul (by rw [← Hn.out]; exact hlt)) hH))
      have e1 : (k : Int) % (W : Int) = (px : Int) := by rw [hpx]; rfl
      have e2 : (k : Int) / (W : Int) = (py : Int) := by rw [hpy]; rfl
      have e3 : (k : Int).tmod (W : Int) = (px : Int) := by rw [← e1]; exact Int.tmod_eq_emod_of_nonneg (by omega)
      have e4 : (k : Int).tdiv (W : Int) = (py : Int) := by rw [← e2]; exact Int.tdiv_eq_ediv_of_nonneg (by omega)
      have W0 : ¬ (W : Int) = 0 := by omega
      have W1 : ¬ W = 0 := by omega
      have hp4 : py ≤ k := by rw [hpy]; exact Nat.div_le_self _ _
      have x4 : IntKind.i64.wrap (py : Int) = (py : Int) := IntWalk.i64_in _ (by omega)
      have fX := FE.ofInt .f32 (px : Int)
      have fY := FE.ofInt .f32 (py : Int)
      have Px := Lib.hid hpx
      have Py := Lib.hid hpy
      clear hpx hpy
      have K0 : (0 : Int) ≤ (k : Int) := by omega
      have K1 : (k : Int) < (n : Int) := by omega
      cases hZ : gFar F B (xs.getD k 0) with
      | none =>
        have hno : gPtOk F B (floatOfInt .f32 (px : Int)) (floatOfInt .f32 (py : Int)) (xs.getD k 0) = false := by rw [gPtOk, hZ]; rfl
        have L := Lib.hid (fun w1 (g : Gr wr w1) => S_l06Point_no f b mx my _ _ x F B MX MY _ _ (xs.getD k 0) bc 0 w1 hf hb fX fY hx (g.cell c0) (g.cell c1) hno)
        have HZ := Lib.hid hZ
        clear hno hfx hfy fX fY hx hD hZ hkx
        go_wp2
        go_region_held3 (fun w' => w'.cell? ⟨bm, 0, none⟩ = some (.int .i64 W) ∧ w'.cell? ⟨bm, 2, none⟩ = some (.slice (some ⟨bl, off, none⟩) n cap) ∧ w'.cell? ⟨bl, off + k, none⟩ = some (.float .f32 x))
      (first | (simp (maxDischargeDepth := 12) [go_sem]; done) | (simp (maxDischargeDepth := 12) [go_sem, *]; done)) (first
      | (go_at_call 146; refine (L.out _ (by (try show Gr _ _); repeat (with_reducible first | exact Gr.refl _ | refine Gr.drewN ?_ _ | refine Gr.grew ?_ _ _ | refine Gr.alloc ?_ _ | refine Gr.drew ?_))).mono ?_; rintro e w1 ⟨rfl, os3, m3, rfl⟩))
        all_goals
          go_wp2
          go_roundw
          case rel => exact ⟨k + 1, by omega, by go_num, ⟨by rw [gPtsV_none HZ.out, gPtsI_none HZ.out]; exact Hv.out.gr (by (try show Gr _ _); repeat (with_reducible first | exact Gr.refl _ | refine Gr.drewN ?_ _ | refine Gr.grew ?_ _ _ | refine Gr.alloc ?_ _ | refine Gr.drew ?_)), by rw [gPtsI_none HZ.out]; exact Hu.out.gr (by (try show Gr _ _); repeat (with_reducible first | exact Gr.refl _ | refine Gr.drewN ?_ _ | refine Gr.grew ?_ _ _ | refine Gr.alloc ?_ _ | refine Gr.drew ?_))⟩, Hg.out.trans (by (try show Gr _ _); repeat (with_reducible first | exact Gr.refl _ | refine Gr.drewN ?_ _ | refine Gr.grew ?_ _ _ | refine Gr.alloc ?_ _ | refine Gr.drew ?_))⟩
          case measure => simp [intOf]; omega
      | some Z =>
        have L := Lib.hid (fun w1 (g : Gr wr w1) => S_l06Point_ok f b mx my _ _ x F B MX MY _ _ (xs.getD k 0) Z bc 0 w1 hf hb hmx hmy fX fY hx (g.cell c0) (g.cell c1) (g.cell c2) (g.cell c3) hZ hfx hfy)
        have HZ := Lib.hid hZ
        obtain ⟨X, hX⟩ : ∃ X, X = gPt F MX (floatOfInt .f32 (px : Int)) Z := ⟨_, rfl⟩
        obtain ⟨Y, hY⟩ : ∃ Y, Y = gPt F MY (floatOfInt .f32 (py : Int)) Z := ⟨_, rfl⟩
        rw [← hX, ← hY] at L
        have EV := Lib.hid (show gPtsV F B MX MY W xs (k + 1) = gPtsV F B MX MY W xs k ++ [X, Y, Z] by rw [gPtsV_some hZ, hX, hY, Px.out, Py.out])
        have EI := Lib.hid (gPtsI_some hZ)
        have LI := gPtsI_length F B xs k
        clear hfx hfy fX fY hx hD hZ hkx hX hY
        go_wp2
        go_region_held3 (fun w' => w'.cell? ⟨bm, 0, none⟩ = some (.int .i64 W) ∧ w'.cell? ⟨bm, 2, none⟩ = some (.slice (some ⟨bl, off, none⟩) n cap) ∧ w'.cell? ⟨bl, off + k, none⟩ = some (.float .f32 x))
      (first | (simp (maxDischargeDepth := 12) [go_sem]; done) | (simp (maxDischargeDepth := 12) [go_sem, *]; done)) (first
      | (go_at_call 146; refine (L.out _ (by (try show Gr _ _); repeat (with_reducible first | exact Gr.refl _ | refine Gr.drewN ?_ _ | refine Gr.grew ?_ _ _ | refine Gr.alloc ?_ _ | refine Gr.drew ?_))).mono ?_; rintro e w1 ⟨⟨p, q, r, rfl, p1, p2, p3⟩, os3, m3, rfl⟩))
        all_goals
          go_wp2_with (first
            | (apply wpList_append_v (hgd := rfl) (ho := rfl) (i := i0) (ht := Try.underlying70) (hi := hi) (hz := hz0) (hsize := hz1) (hby := hz2) (v := .slice av (gPtsI F B xs k).length cv); (case hs => rfl); (case hx => rfl); (case h0 => exact (Blk.atNew (by simp <;> omega)).cellv 0 rfl); (case h1 => exact (Blk.atNew (by simp <;> omega)).cellv 1 rfl); (case h2 => exact (Blk.atNew (by simp <;> omega)).cellv 2 rfl); (case hown => exact Hv.out.gr (by pgr)); (case e0 => exact p1); (case e1 => exact p2); (case e2 => exact p3); (case hn => omega); (case hB => exact Gr.size (Hg.out.trans (by pgr))); intro v1 w1 ho1 hg1; have G1 := Gr.grownBy (Hg.out.trans (by pgr)) hg1 (fun q hq => (VOwn.block Hv.out hq).1); have HU1 := IOwn.besideV (Hu.out.gr (by pgr)) (Hv.out.gr (by pgr)) hg1 (by decide); clear hg1; obtain ⟨a1, k1, rfl⟩ := ho1.form; have HG1 := Lib.hid G1; have HV1 := Lib.hid ho1; have HU2 := Lib.hid HU1; clear G1 ho1 HU1)
            | (apply wpList_append_i (hgd := rfl) (ho := rfl) (i := j0) (ht := Try.underlying71) (hi := ji) (hz := jz0) (hsize := jz1) (hby := jz2); (case hown => exact HU2.out.gr ((Gr.refl _).alloc _)); (case hs => rfl); (case hx => rfl); (case hcell => exact (Blk.atNew (by simp <;> omega)).cellv 0 rfl); (case hn => omega); (case hB => exact Gr.size (HG1.out.alloc _)); intro v2 w2 ho2 hg2; have G2 := Gr.grownBy (HG1.out.alloc _) hg2 (fun q hq => (IOwn.block HU2.out hq).1); have HV2 := VOwn.besideI (HV1.out.gr ((Gr.refl _).alloc _)) (HU2.out.gr ((Gr.refl _).alloc _)) hg2 (by decide); clear hg2; obtain ⟨a2, k2, rfl⟩ := ho2.form; have HG2 := Lib.hid G2; have HV3 := Lib.hid HV2; have HU3 := Lib.hid ho2; clear G2 ho2 HV2))
          go_roundw
          case rel => exact ⟨k + 1, by omega, by go_num, ⟨by rw [EV.out, EI.out]; simpa using HV3.out, by rw [EI.out]; simpa using HU3.out⟩, HG2.out⟩
          case measure => simp [intOf]; omega
    · obtain rfl : k = n := by omega
      go_wp2
      refine bodyPost_ret (v := .tuple #[.slice av (gPtsI F B xs k).length cv, .slice au (gPtsI F B xs k).length cu]) (by simp [results, Try.results108, go_sem, *]) rfl ⟨⟨_, _, rfl, ?_⟩, ?_⟩
      · exact ⟨Hv.out, Hu.out⟩
      · exact Hg.out
end Go.Proofs.Ytaidkokgafojeaa
