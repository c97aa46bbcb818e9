/- Contracts: the median of a window, the program. MAXREC -/
import Derived.Test.YtomlfdkcgaogcaaProg
import Derived.Test.YtomlfdkcgaogcaaC113
import Derived.Test.YtomlfdkcgaogcaaMd
import Derived.Test.YtomlfdkcgaogcaaC96
import Derived.Test.YtomlfdkcgaogcaaC97
import Derived.Test.YtomlfdkcgaogcaaNh
import Derived.Deep.DeepCutAuto
namespace Go.Fx
open Go Go.Soft Go.RowKit Go.Sort
theorem FE.num {r x : Nat} (h : FE .f32 r x) (hn : isN .f32 x = false) : r = x := by
  have h1 := h.cz
  have h2 : isN .f32 r = false := by rw [← isN_cz, h1]; exact hn
  rw [← h1, cz_num h2]
theorem SRow.heap {w0 w : World} {g n0 : Nat} {d : Array (Nat × Nat)} (h : SRow w0 g n0 d w) {k : Nat} (hk : k ≠ g) : w.heap[k]? = w0.heap[k]? := by
  obtain ⟨d0, hs, hh, n, rfl⟩ := h.is
  show (putRow encF w0 g 0 d).heap[k]? = _
  unfold putRow mapBlock
  simp only [Array.getElem?_modify, if_neg (Ne.symm hk)]
theorem SRow.blk {w0 w : World} {g n0 b : Nat} {d : Array (Nat × Nat)} {cs : List Value} {t : TypeId} (h : SRow w0 g n0 d w) (hb : Blk w0 b cs t) (hne : b ≠ g) : Blk w b cs t := hb.of (h.heap hne)
theorem SRow.gr {w0 w w' : World} {g n0 : Nat} {d : Array (Nat × Nat)} (h : SRow w0 g n0 d w') (hg : Gr w w0) (hl : w.heap.size ≤ g) : Gr w w' := by
  have hb := hg.below
  refine Gr.of_below ⟨?_, ?_, ?_, ?_, fun k hk => (h.heap (by omega)).trans (hb.block k hk)⟩
  all_goals
    obtain ⟨d0, hs, hh, n, rfl⟩ := h.is
  · exact hb.os
  · exact hb.tape
  · exact hb.output
  · show w.heap.size ≤ (putRow encF w0 g 0 d).heap.size
    unfold putRow mapBlock
    simp only [Array.size_modify]
    exact hb.size
end Go.Fx
namespace Go.Proofs.Ytomlfdkcgaogcaa
open Go.RowKit Go.Fx Go.Soft Go.Sort
theorem gMv_num (xs : List Nat) (W : Nat) (l : List (Nat × Nat)) : ∀ i, i < (gMv xs W l).length → isN .f32 ((gMv xs W l).getD i 0) = false := by
  intro i hi
  have hm : (gMv xs W l).getD i 0 ∈ gMv xs W l := by
    rw [List.getD_eq_getElem?_getD, List.getElem?_eq_getElem hi]
    exact List.getElem_mem hi
  generalize (gMv xs W l).getD i 0 = v at *
  unfold gMv at hm
  obtain ⟨c, hc, rfl⟩ := List.mem_map.1 hm
  have h := (List.mem_filter.1 hc).2
  have h2 : gHole (xs.getD (c.1 + W * c.2) 0) = false := by simpa using h
  have h3 : fcmp .geq .f32 (xs.getD (c.1 + W * c.2) 0) 0 = true := by
    unfold gHole at h2
    simpa using h2
  exact (good_geq.1 h3).isN
theorem srow_of {w : World} {B : Nat} {e : TypeId} {g n cap : Nat} {L : List Nat} (h : FOwn w B e (.slice (some ⟨g, 0, none⟩) n cap) L) (hN : ∀ i, i < L.length → isN .f32 (L.getD i 0) = false) : SRow w g n (gTagA L) w := by
  have hn := h.len
  subst hn
  have key : ∀ i, i < L.length → w.cell? ⟨g, i, none⟩ = some (.float .f32 (L.getD i 0)) ∧ FE .f32 (L.getD i 0) (L.getD i 0) := fun i hi => by
    obtain ⟨r, hc, hr⟩ := h.get i hi
    have e1 : L[i] = L.getD i 0 := by rw [List.getD_eq_getElem?_getD, List.getElem?_eq_getElem hi]; rfl
    rw [e1] at hr
    have e2 := hr.num (hN i hi)
    rw [e2] at hc hr
    exact ⟨hc, hr⟩
  have hh : Holds encF w g 0 (gTagA L) := fun j hj => by
    rw [gTagA_size] at hj
    rw [gTagA_at L hj, Nat.zero_add]
    exact ⟨(key j hj).1, h.free j⟩
  exact ⟨gTagA_size L, fun i hi => by rw [gTagA_at L hi]; exact ⟨(key i hi).2, hN i hi⟩, gTagA L, gTagA_size L, hh, 0, (putRow_self encF w g 0 (gTagA L) hh).symm⟩
set_option maxRecDepth 20000 in
set_option maxHeartbeats 8000000 in
theorem I_median (W H x y r b ca : Nat) (a : Option Addr) (xs : List Nat) (w : World) (MO : ∀ w0 g n0 cap, n0 < 60 → MergeOk w0 g n0 cap) (m1 : MP w b W H a xs.length ca xs) (hx : x < W) (hy : y < H) (hr : r ≤ 3) (hW : W ≤ 24) (hH : H ≤ 24) (hl : xs.length = W * H) :
    Calls Try.prog 71 #[.pointer (some ⟨b, 0, none⟩), .int .i64 x, .int .i64 y, .int .i64 r] w fun e w' => (∃ v, e = .returned (.float .f32 v) ∧ FE .f32 v (gMedI (gMv xs W (gWn W H r x y)))) ∧ Gr w w' := by
  have HM := Lib.hid MO
  have hM := Lib.hid m1
  have Hl := Lib.hid hl
  have f1 : FE .f32 3212836864 3212836864 := FE.lit (by decide +kernel)
  obtain ⟨V, hV⟩ : ∃ V, V = gMedI (gMv xs W (gWn W H r x y)) := ⟨_, rfl⟩
  rw [← hV]
  have HV := Lib.hid hV
  clear m1 MO hl hV
  go_enter Try.func71, Try.ntmps71
  go_upto_region 1 with fail
  generalize hwb : World.alloc _ _ = wb
  have gb : Gr w wb := by rw [← hwb]; exact (by (try show Gr _ _); repeat (with_reducible first | exact Gr.refl _ | refine Gr.drewN ?_ _ | refine Gr.grew ?_ _ _ | refine Gr.alloc ?_ _ | refine Gr.drew ?_))
  have BX : Blk wb w.heap.size [.pointer (some ⟨b, 0, none⟩)] 67 := by rw [← hwb]; exact (by repeat (with_reducible first | assumption | exact Blk.atNew (by simp) | refine Blk.alloc ?_ _ | refine Blk.grew ?_ _ _ | refine Blk.drewN ?_ _ | refine Blk.drew ?_))
  clear hwb
  have GB := Lib.hid gb
  have ltx := BX.lt
  have m2 := hM.out.gr gb
  have HDo := does_median W H b w.heap.size (wb.heap.size + 1) ca a xs wb m2 (BX.cellv 0 rfl) (by omega) hW hH Hl.out
  have HW := Lib.hid (fun (u : World) (h : Gath wb (wb.heap.size + 1) (gMv xs W) [] u) => I_window W H b x y r _ _ _ u HDo (fun l w' h' => h'.1.cell m2.c0) (fun l w' h' => h'.1.cell m2.c1) h hx hy (by omega) hW hH)
  have x0 := BX.cellv 0
  clear HDo m2 BX gb
  go_wp2_with fail
  refine (HW.out _ ⟨(by (try show Gr _ _); repeat (with_reducible first | exact Gr.refl _ | refine Gr.drewN ?_ _ | refine Gr.grew ?_ _ _ | refine Gr.alloc ?_ _ | refine Gr.drew ?_)), _, (by repeat (with_reducible first | assumption | exact Blk.atNew (by simp) | refine Blk.alloc ?_ _ | refine Blk.grew ?_ _ _ | refine Blk.drewN ?_ _ | refine Blk.drew ?_)), FOwn.empty (by repeat (with_reducible first | assumption | exact Blk.atNew (by simp) | refine Blk.alloc ?_ _ | refine Blk.grew ?_ _ _ | refine Blk.drewN ?_ _ | refine Blk.drew ?_)) (Nat.le_refl _)⟩).mono ?_
  rintro e w3 ⟨⟨v3, rfl⟩, hg3, rv, hb3, ho3⟩
  obtain ⟨L, hL⟩ : ∃ L, L = gMv xs W (gWn W H r x y) := ⟨_, rfl⟩
  have ho4 : FOwn w3 wb.heap.size 25 rv L := by rw [hL]; exact ho3
  have hNN : ∀ i, i < L.length → isN .f32 (L.getD i 0) = false := by rw [hL]; exact gMv_num xs W _
  have hlen : L.length < 60 := by
    rw [hL]
    refine Nat.lt_of_le_of_lt (show _ ≤ 49 from ?_) (by omega)
    unfold gMv gWn wl
    rw [List.length_map]
    refine Nat.le_trans (List.length_filter_le _ _) ?_
    rw [List.length_map, List.length_range]
    have := Nat.mul_le_mul (show min (x + r) (W - 1) + 1 - (x - r) ≤ 7 by omega) (show min (y + r) (H - 1) + 1 - (y - r) ≤ 7 by omega)
    omega
  have hVL : V = gMedI L := by rw [hL]; exact HV.out
  have HVL := Lib.hid hVL
  have HNN := Lib.hid hNN
  have p0 := hb3.cellv 0
  have B3 := Lib.hid hb3
  have G3 := Lib.hid (GB.out.trans hg3)
  have GS := Lib.hid (show w.heap.size ≤ wb.heap.size by omega)
  obtain ⟨n, hn⟩ : ∃ n, n = L.length := ⟨_, rfl⟩
  have HN := Lib.hid hn
  rw [← hn] at hlen
  by_cases h0 : n = 0
  · subst h0
    obtain ⟨v0, c0, rfl, -, -⟩ := ho4.sl' 0 hn.symm
    have EV := Lib.hid (show V = 3212836864 by rw [hVL]; unfold gMedI; rw [← hn]; rfl)
    clear hL ho3 ho4 hNN hVL hb3 hg3 HW x0 hn
    go_wp2
    go_ret
    exact ⟨⟨_, rfl, by rw [EV.out]; exact f1⟩, G3.out.trans (by (try show Gr _ _); repeat (with_reducible first | exact Gr.refl _ | refine Gr.drewN ?_ _ | refine Gr.grew ?_ _ _ | refine Gr.alloc ?_ _ | refine Gr.drew ?_))⟩
  · obtain ⟨g, cg, rfl, hgb⟩ := ho4.ptr (by omega)
    have e1 : L.length = n := hn.symm
    rw [e1] at ho4 p0 hb3
    have S3 := srow_of ho4 hNN
    have hc := HM.out w3 g n cg hlen
    have HC := Lib.hid (I_SortStable w3 g n cg (gTagA L) w3 hlen hc S3 (fun p q hpq hq => by rw [gTagA_at L (by omega), gTagA_at L (by omega)]; exact hpq))
    have hgne : wb.heap.size + 1 ≠ g := by
      intro e
      exact ho4.okb (.inr (hb3.okb (e := 25) (by decide))) (by simp [Value.ownBlock, e])
    have B3' := Lib.hid hb3
    have HGN := Lib.hid hgne
    have HGB := Lib.hid hgb
    have hn0 : ¬ (n : Int) = 0 := by omega
    clear hL ho3 ho4 hNN hVL hb3 hg3 HW x0 hn S3 hc e1 hgne B3 hgb
    go_wp2_with fail
    refine HC.out.mono ?_
    rintro e w5 ⟨rfl, d, sd, pd, qd⟩
    obtain ⟨h, hh⟩ : ∃ h, h = n / 2 := ⟨_, rfl⟩
    have hhn : h < n := by omega
    have cd := sd.cell hhn
    have hN := HN.out
    have gd := (sd.good h hhn).1
    have q0 := (sd.blk B3'.out HGN.out).cellv 0
    have EV := Lib.hid (show V = d[h]!.1 by
      rw [HVL.out]
      unfold gMedI
      rw [← hN, if_neg h0, ← hh]
      have := sorted_med HNN.out (by rw [← hN]; exact pd) (by rw [← hN]; exact qd) (h := h) (by rw [← hN]; exact hhn)
      rw [this, ← hN])
    have G5 := Lib.hid (sd.gr G3.out (by have := HGB.out; have := GS.out; omega))
    have eh1 : (n : Int) / 2 = (h : Int) := by omega
    have eh2 : (n : Int).tdiv 2 = (h : Int) := by rw [Int.tdiv_eq_ediv_of_nonneg (by omega)]; exact eh1
    have wh : IntKind.i64.wrap (h : Int) = (h : Int) := IntWalk.i64_in _ (by omega)
    have kh : (h : Int) < (n : Int) := by omega
    generalize d[h]!.1 = z at *
    clear hh sd pd qd p0 hN
    go_wp2
    go_ret
    exact ⟨⟨_, rfl, by rw [EV.out]; exact gd⟩, G5.out.trans (by (try show Gr _ _); repeat (with_reducible first | exact Gr.refl _ | refine Gr.drewN ?_ _ | refine Gr.grew ?_ _ _ | refine Gr.alloc ?_ _ | refine Gr.drew ?_))⟩
end Go.Proofs.Ytomlfdkcgaogcaa
