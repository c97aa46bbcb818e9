/- Contracts: the median's closure: it appends to a captured row. MAXREC -/
import Derived.Test.YtomlfdkcgaogcaaProg
import Derived.Test.YtomlfdkcgaogcaaC95
import Derived.Test.YtomlfdkcgaogcaaC14
import Derived.Test.YtomlfdkcgaogcaaWk2
namespace Go.Proofs.Ytomlfdkcgaogcaa
open Go.RowKit Go.Fx Go.Soft
/-- The values of cells that are no holes. -/
def gMv (xs : List Nat) (W : Nat) (l : List (Nat × Nat)) : List Nat := (l.filter fun c => !gHole (xs.getD (c.1 + W * c.2) 0)).map fun c => xs.getD (c.1 + W * c.2) 0
theorem gMv_no {xs : List Nat} {W u v : Nat} (l : List (Nat × Nat)) (h : gHole (xs.getD (u + W * v) 0) = true) : gMv xs W (l ++ [(u, v)]) = gMv xs W l := by
  unfold gMv
  rw [List.filter_append, List.map_append, List.filter_cons_of_neg (by show ¬ (!gHole (xs.getD (u + W * v) 0)) = true; rw [h]; decide)]
  simp
theorem gMv_yes {xs : List Nat} {W u v : Nat} (l : List (Nat × Nat)) (h : gHole (xs.getD (u + W * v) 0) = false) : gMv xs W (l ++ [(u, v)]) = gMv xs W l ++ [xs.getD (u + W * v) 0] := by
  unfold gMv
  rw [List.filter_append, List.map_append, List.filter_cons_of_pos (by show (!gHole (xs.getD (u + W * v) 0)) = true; rw [h]; decide)]
  rfl
/-- A row is gathered in a captured cell. -/
def Gath (wb : World) (bl : Nat) (vals : List (Nat × Nat) → List Nat) (l : List (Nat × Nat)) (w : World) : Prop :=
  Gr wb w ∧ ∃ v, Blk w bl [v] 22 ∧ FOwn w wb.heap.size 25 v (vals l)
set_option maxRecDepth 20000 in
set_option maxHeartbeats 4000000 in
theorem I_median_1 (W H b bm bl ca : Nat) (a : Option Addr) (xs : List Nat) (wb : World) (m1 : MP wb b W H a xs.length ca xs) (c0 : wb.cell? ⟨bm, 0, none⟩ = some (.pointer (some ⟨b, 0, none⟩))) (hbl : wb.heap.size ≤ bl) (hW : W ≤ 24) (hH : H ≤ 24) (hn : xs.length = W * H) :
    ∀ l (u v : Nat) w, Gath wb bl (gMv xs W) l w → l.length ≤ 4096 → u < W → v < H → Calls Try.prog 114 #[.int .i64 u, .int .i64 v, .pointer (some ⟨bm, 0, none⟩), .pointer (some ⟨bl, 0, none⟩)] w fun e w' => (∃ x, e = .returned x) ∧ Gath wb bl (gMv xs W) (l ++ [(u, v)]) w' := by
  intro l u v w ⟨hg, rv, hb, ho⟩ hl hu hv
  obtain ⟨i0, hi, hz0, hz1, hz2⟩ := info_parts info_float32
  have d0 := hg.cell c0
  have hlen : (gMv xs W l).length ≤ 4096 := Nat.le_trans (by unfold gMv; rw [List.length_map]; exact List.length_filter_le _ _) hl
  have HA := Lib.hid (fun (w1 : World) (g : Gr w w1) => I_Map_at W H u v b a ca xs w1 (m1.gr (hg.trans g)) hW hH hu hv hn)
  have p0 := hb.cellv 0
  have Hb := Lib.hid hb
  have Ho := Lib.hid ho
  have Hg := Lib.hid hg
  cases t1 : gHole (xs.getD (u + W * v) 0)
  · have EV := Lib.hid (gMv_yes l t1)
    obtain ⟨z, hz⟩ : ∃ z, z = xs.getD (u + W * v) 0 := ⟨_, rfl⟩
    rw [← hz] at HA EV t1
    generalize gMv xs W l = L at *
    have hfz : ∃ x, FS .f32 z x := by
      obtain ⟨e, w', r, _, hr, _⟩ := calls_some (HA.out w (Gr.refl w))
      exact ⟨_, r, rfl, hr⟩
    have HFZ := Lib.hid hfz
    have HLen := Lib.hid hlen
    clear hb ho hg hz m1 hfz hlen
    go_enter Try.func114, Try.ntmps114
    go_wp2_with (first
      | (go_at_call 49; refine (HA.out _ (by (try show Gr _ _); repeat (with_reducible first | exact Gr.refl _ | refine Gr.drewN ?_ _ | refine Gr.grew ?_ _ _ | refine Gr.alloc ?_ _ | refine Gr.drew ?_))).mono ?_; rintro e w' ⟨r, rfl, hr, n, rfl⟩)
      | (go_at_call 115; with_reducible refine (I_noHole _ _ _ (by assumption)).mono ?_; rintro e w' ⟨rfl, n, rfl⟩; rw [t1]))
    generalize hwq : w.drewN _ = wq
    have gq : Gr w wq := by rw [← hwq]; exact (by (try show Gr _ _); repeat (with_reducible first | exact Gr.refl _ | refine Gr.drewN ?_ _ | refine Gr.grew ?_ _ _ | refine Gr.alloc ?_ _ | refine Gr.drew ?_))
    clear hwq d0 p0
    have HAq := Lib.hid (fun (w1 : World) (g : Gr wq w1) => HA.out w1 (gq.trans g))
    replace Hb := Lib.hid (Hb.out.gr gq)
    replace Ho := Lib.hid (Ho.out.gr gq)
    replace Hg := Lib.hid (Hg.out.trans gq)
    have p0 := Hb.out.cellv 0
    have d0 := Hg.out.cell c0
    clear gq hr
    apply region_facts 6 [5] (fun _ v w' => ∃ b r, v = .slice (some ⟨b, 0, none⟩) 1 1 ∧ Blk w' b [.float .f32 r] 25 ∧ FE .f32 r z)
    case hm => kernel_rfl
    case hB => kernel_rfl
    case hR => rfl
    case hP => (intro k hk v w1 w2 hg hv; obtain ⟨b, r, hv, hB, hr⟩ := hv; exact ⟨b, r, hv, hB.gr hg, hr⟩)
    simp only [List.take_succ_cons, List.take_zero, List.drop_succ_cons, List.drop_zero]
    repeat (first
      | ((with_reducible apply wpF_call (f := 49) (S := FS .f32 z)); (case hw => rfl); (case hc => exact Try.call49); (case hv => ((conv => lhs; simp [Act.eval]); try rfl)); (case hS => (intro os m _; refine (HAq.out _ ⟨os, m, rfl⟩).mono ?_; rintro e w' ⟨r, rfl, hr, n, hn⟩; exact ⟨_, rfl, gr_of_drew hn, fun h => absurd h (by decide), r, rfl, hr⟩)); (case hne => exact HFZ.out); (rintro v ⟨r, rfl, hr⟩; simp only [Act.put, List.setIfInBounds_toArray, List.set_cons_succ, List.set_cons_zero]))
      | ((with_reducible apply wpF_new (c := #[.float .f32 r]) (e := 25) (fun b => .slice (some ⟨b, 0, none⟩) 1 1)); (case hw => rfl); (case hx => (intro w; simp [execOp, go_sem])); (case hF => (intro w b hb hc _; exact ⟨b, _, rfl, ⟨hc⟩, hr⟩)); (intro bn hb; simp only [Act.put, List.setIfInBounds_toArray, List.set_cons_succ, List.set_cons_zero]))
      | (apply wpF_skip rfl (by decide); simp only [Act.put, List.setIfInBounds_toArray, List.set_cons_succ, List.set_cons_zero])
      | (apply wpF_nilCheck rfl (by decide) rfl; simp only [Act.put, List.setIfInBounds_toArray, List.set_cons_succ, List.set_cons_zero])
      | ((with_reducible apply wpF_fop); (case hw => rfl); (case hT => decide); (case hop => rfl); (case hx => rfl); (case hy => rfl); (case hA => (first | assumption | exact FE.ofInt _ _ | exact FE.lit (by decide +kernel))); (case hB => (first | assumption | exact FE.ofInt _ _ | exact FE.lit (by decide +kernel))); (intro r hr; simp only [Act.put, List.setIfInBounds_toArray, List.set_cons_succ, List.set_cons_zero]))
      | ((with_reducible apply wpF_fneg); (case hw => rfl); (case hT => decide); (case hx => rfl); (case hA => (first | assumption | exact FE.ofInt _ _ | exact FE.lit (by decide +kernel))); (intro r hr; simp only [Act.put, List.setIfInBounds_toArray, List.set_cons_succ, List.set_cons_zero]))
      | ((with_reducible apply wpF_fcmp); (case hw => rfl); (case hT => decide); (case hop => rfl); (case hx => rfl); (case hy => rfl); (case hA => (first | assumption | exact FE.ofInt _ _ | exact FE.lit (by decide +kernel))); (case hB => (first | assumption | exact FE.ofInt _ _ | exact FE.lit (by decide +kernel))); (case hb => (first | assumption | rfl)); simp only [Act.put, List.setIfInBounds_toArray, List.set_cons_succ, List.set_cons_zero])
      | (apply wpF_q rfl (by decide) rfl; intro K hK; go_big_quiet_op; go_big_quiet_on))
    with_reducible apply wpF_nil
    intro os m hf
    obtain ⟨b', r', hb', hB', hr'⟩ := hf.1
    obtain rfl : b' = _ := by simpa using hb'.symm
    have G : Gr wq (wq.grew os m) := ⟨os, m, rfl⟩
    have ho' := Ho.out.gr G
    have c' := hB'.cellv 0
    clear hf hb'
    refine wpList_append_f rfl rfl i0 Try.underlying22 hi hz0 hz1 hz2 rfl ho' rfl c' hr' (by have := HLen.out; simp <;> omega) (by have := Hg.out.size; simp <;> omega) ?_
    intro v1 w1 ho1 hg1
    obtain ⟨a1, c1, rfl, -, -⟩ := ho1.sl' (L.length + 1) (by simp)
    obtain ⟨hb1, P, ho2⟩ := pushed_step (i := 0) (u := .slice a1 (L.length + 1) c1) Hb.out Ho.out G hg1 ho1 (by decide)
    have q2 := hb1.cellv 0
    have z2 := hb1.frozen 0
    have Hb2 := Lib.hid hb1
    have Ho2 := Lib.hid ho2
    have HP := Lib.hid P
    clear G hg1 hb1 ho' ho1 ho2 P hB' c' p0 d0
    go_wp2
    refine bodyPost_end (v := .tuple #[]) (by simp [results, Try.results114, go_sem]) rfl ⟨⟨_, rfl⟩, HP.out.gr Hg.out hbl (Nat.le_refl _), _, Hb2.out.set _, by rw [EV.out]; exact Ho2.out⟩
  · have EV := Lib.hid (gMv_no l t1)
    clear hb ho hg m1
    go_enter Try.func114, Try.ntmps114
    go_wp2_with (first
      | (go_at_call 49; refine (HA.out _ (by (try show Gr _ _); repeat (with_reducible first | exact Gr.refl _ | refine Gr.drewN ?_ _ | refine Gr.grew ?_ _ _ | refine Gr.alloc ?_ _ | refine Gr.drew ?_))).mono ?_; rintro e w' ⟨r, rfl, hr, n, rfl⟩)
      | (go_at_call 115; with_reducible refine (I_noHole _ _ _ (by assumption)).mono ?_; rintro e w' ⟨rfl, n, rfl⟩; rw [t1]))
    refine bodyPost_end (v := .tuple #[]) (by simp [results, Try.results114, go_sem]) rfl ⟨⟨_, rfl⟩, Hg.out.trans (by (try show Gr _ _); repeat (with_reducible first | exact Gr.refl _ | refine Gr.drewN ?_ _ | refine Gr.grew ?_ _ _ | refine Gr.alloc ?_ _ | refine Gr.drew ?_)), _, Hb.out.gr (by (try show Gr _ _); repeat (with_reducible first | exact Gr.refl _ | refine Gr.drewN ?_ _ | refine Gr.grew ?_ _ _ | refine Gr.alloc ?_ _ | refine Gr.drew ?_)), by rw [EV.out]; exact Ho.out.gr (by (try show Gr _ _); repeat (with_reducible first | exact Gr.refl _ | refine Gr.drewN ?_ _ | refine Gr.grew ?_ _ _ | refine Gr.alloc ?_ _ | refine Gr.drew ?_))⟩
theorem does_median (W H b bm bl ca : Nat) (a : Option Addr) (xs : List Nat) (wb : World) (m1 : MP wb b W H a xs.length ca xs) (c0 : wb.cell? ⟨bm, 0, none⟩ = some (.pointer (some ⟨b, 0, none⟩))) (hbl : wb.heap.size ≤ bl) (hW : W ≤ 24) (hH : H ≤ 24) (hn : xs.length = W * H) :
    Does 114 #[.pointer (some ⟨bm, 0, none⟩), .pointer (some ⟨bl, 0, none⟩)] W H (Gath wb bl (gMv xs W)) :=
  ⟨Try.call114, fun l u v w hJ hl hu hv => I_median_1 W H b bm bl ca a xs wb m1 c0 hbl hW hH hn l u v w hJ hl hu hv⟩
end Go.Proofs.Ytomlfdkcgaogcaa
