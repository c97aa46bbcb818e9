/- Contracts: guided means, the program. MAXREC -/
import Derived.Test.YtaidkokgafojeaaProg
import Derived.Test.YtaidkokgafojeaaC97
import Derived.Test.YtaidkokgafojeaaC96
import Derived.Test.YtaidkokgafojeaaC22
import Derived.Deep.DeepCutAuto
namespace Go.Proofs.Ytaidkokgafojeaa
open Go.RowKit Go.Fx Go.Soft
set_option maxRecDepth 20000 in
set_option maxHeartbeats 4000000 in
theorem I_mean (a : Option Addr) (c : Nat) (L : List Nat) (w : World) (hs : FSl w a L.length L) (hn : L.length ≤ 4096) :
    Calls Try.prog 106 #[.slice a L.length c] w fun e w' => (∃ r, e = .returned (.tuple #[.float .f32 r, .bool (decide ((gMean2 L).2 ≠ 0))]) ∧ FE .f32 r (if (gMean2 L).2 = 0 then 0 else fop .quo .f32 (gMean2 L).1 (floatOfInt .f32 ((gMean2 L).2 : Int)))) ∧ ∃ n, w' = w.drewN n := by
  have h0 := FE0
  have Fs := Lib.hid hs
  obtain ⟨B, hB⟩ : ∃ B, B = decide ((gMean2 L).2 ≠ 0) := ⟨_, rfl⟩
  obtain ⟨V, hV⟩ : ∃ V, V = if (gMean2 L).2 = 0 then 0 else fop .quo .f32 (gMean2 L).1 (floatOfInt .f32 ((gMean2 L).2 : Int)) := ⟨_, rfl⟩
  rw [← hB, ← hV]
  have HB := Lib.hid hB
  have HV := Lib.hid hV
  clear hs hB hV
  go_enter Try.func106, Try.ntmps106
  go_wp2
  go_loopw [4, 5, 10] (fun s t i wr => ∃ k : Nat, k ≤ L.length ∧ i = .int .i64 k ∧ (∃ r, s = .float .f32 r ∧ FE .f32 r (gMean2 (L.take k)).1) ∧ t = .int .i64 ((gMean2 (L.take k)).2 : Int) ∧ ∃ n, wr = w.drewN n) (fun _ _ i _ => L.length - (intOf i).toNat)
  case atStart => exact ⟨0, Nat.zero_le _, rfl, ⟨0, rfl, h0⟩, rfl, (by first | exact ⟨0, rfl⟩ | exact ⟨_, rfl⟩)⟩
  case round =>
    obtain ⟨k, hk, rfl, ⟨r, rfl, hr⟩, rfl, n, rfl⟩ := hrel
    have hle := Nat.le_trans (gMean2_le (L.take k)) (by rw [List.length_take]; exact Nat.min_le_left _ _)
    by_cases hlt : k < L.length
    · obtain ⟨bx, ox, rfl⟩ := Fs.out.ptr (by omega)
      obtain ⟨rx, hcx, hrx⟩ := Fs.out.get k hlt
      have hst := gMean2_take hlt
      obtain ⟨G, hG⟩ : ∃ G, G = gMean2 (L.take (k + 1)) := ⟨_, rfl⟩
      rw [← hG] at hst
      generalize gMean2 (L.take k) = S at *
      generalize L.getD k 0 = z at *
      have HG := Lib.hid hG.symm
      clear hG
      cases t1 : gHole z
      · rw [t1] at hst
        have HS := Lib.hid (hst : G = (fop .add .f32 S.1 z, S.2 + 1))
        clear hst
        obtain ⟨s, t⟩ := S
        simp only at hle hr HS
        go_wp2_with (first
      | (go_at_call 139; with_reducible refine (I_noHole _ _ _ (by assumption)).mono ?_; rintro e w' ⟨rfl, n, rfl⟩; rw [t1])
      | ((with_reducible apply wpList_fop); (case hw => rfl); (case hop => rfl); (case hx => rfl); (case hy => rfl); (case hA => (first | assumption | exact FE.ofInt _ _ | exact FE.lit (by decide +kernel))); (case hB => (first | assumption | exact FE.ofInt _ _ | exact FE.lit (by decide +kernel))); intro r n hr)
      | ((with_reducible apply wpList_fcmp); (case hw => rfl); (case hop => rfl); (case hx => rfl); (case hy => rfl); (case hA => (first | assumption | exact FE.ofInt _ _ | exact FE.lit (by decide +kernel))); (case hB => (first | assumption | exact FE.ofInt _ _ | exact FE.lit (by decide +kernel))); (case hb => (first | assumption | rfl)))
      | ((with_reducible apply wpList_widen); (case hw => rfl); (case hs => exact Try.underlying65); (case hd => exact Try.underlying147); (case hx => rfl); (case hA => (first | assumption | exact FE.ofInt _ _ | exact FE.lit (by decide +kernel))); intro r n hr)
      | ((with_reducible apply wpList_fneg); (case hw => rfl); (case hx => rfl); (case hA => (first | assumption | exact FE.ofInt _ _ | exact FE.lit (by decide +kernel))); intro r hr))
        go_roundw
        case rel => exact ⟨k + 1, by omega, by go_num, ⟨_, rfl, by rw [HG.out, HS.out]; assumption⟩, by rw [HG.out, HS.out]; go_num, (by first | exact ⟨0, rfl⟩ | exact ⟨_, rfl⟩)⟩
        case measure => simp [intOf]; omega
      · rw [t1] at hst
        have HS := Lib.hid (show G = S from hst)
        clear hst
        go_wp2_with (first
      | (go_at_call 139; with_reducible refine (I_noHole _ _ _ (by assumption)).mono ?_; rintro e w' ⟨rfl, n, rfl⟩; rw [t1])
      | ((with_reducible apply wpList_fop); (case hw => rfl); (case hop => rfl); (case hx => rfl); (case hy => rfl); (case hA => (first | assumption | exact FE.ofInt _ _ | exact FE.lit (by decide +kernel))); (case hB => (first | assumption | exact FE.ofInt _ _ | exact FE.lit (by decide +kernel))); intro r n hr)
      | ((with_reducible apply wpList_fcmp); (case hw => rfl); (case hop => rfl); (case hx => rfl); (case hy => rfl); (case hA => (first | assumption | exact FE.ofInt _ _ | exact FE.lit (by decide +kernel))); (case hB => (first | assumption | exact FE.ofInt _ _ | exact FE.lit (by decide +kernel))); (case hb => (first | assumption | rfl)))
      | ((with_reducible apply wpList_widen); (case hw => rfl); (case hs => exact Try.underlying65); (case hd => exact Try.underlying147); (case hx => rfl); (case hA => (first | assumption | exact FE.ofInt _ _ | exact FE.lit (by decide +kernel))); intro r n hr)
      | ((with_reducible apply wpList_fneg); (case hw => rfl); (case hx => rfl); (case hA => (first | assumption | exact FE.ofInt _ _ | exact FE.lit (by decide +kernel))); intro r hr))
        go_roundw
        case rel => exact ⟨k + 1, by omega, by go_num, ⟨_, rfl, by rw [HG.out, HS.out]; assumption⟩, by rw [HG.out, HS.out], (by first | exact ⟨0, rfl⟩ | exact ⟨_, rfl⟩)⟩
        case measure => simp [intOf]; omega
    · obtain rfl : k = L.length := by omega
      rw [List.take_length] at hr hle ⊢
      obtain ⟨s, t, hst⟩ : ∃ s t, gMean2 L = (s, t) := ⟨_, _, rfl⟩
      rw [hst] at hr hle ⊢
      have HS := Lib.hid hst
      clear hst
      simp only at hle hr ⊢
      by_cases ht : t = 0
      · subst ht
        go_wp2
        refine bodyPost_ret (v := .tuple #[.float .f32 0, .bool false]) (by simp [results, Try.results106, go_sem]) rfl ?_
        exact ⟨⟨_, by rw [HB.out, HS.out]; rfl, by rw [HV.out, HS.out]; exact h0⟩, (by first | exact ⟨0, rfl⟩ | exact ⟨_, rfl⟩)⟩
      · have htz : ¬ (t : Int) = 0 := by omega
        go_wp2_with (first
      | ((with_reducible apply wpList_fop); (case hw => rfl); (case hop => rfl); (case hx => rfl); (case hy => rfl); (case hA => (first | assumption | exact FE.ofInt _ _ | exact FE.lit (by decide +kernel))); (case hB => (first | assumption | exact FE.ofInt _ _ | exact FE.lit (by decide +kernel))); intro r n hr)
      | ((with_reducible apply wpList_fcmp); (case hw => rfl); (case hop => rfl); (case hx => rfl); (case hy => rfl); (case hA => (first | assumption | exact FE.ofInt _ _ | exact FE.lit (by decide +kernel))); (case hB => (first | assumption | exact FE.ofInt _ _ | exact FE.lit (by decide +kernel))); (case hb => (first | assumption | rfl)))
      | ((with_reducible apply wpList_widen); (case hw => rfl); (case hs => exact Try.underlying65); (case hd => exact Try.underlying147); (case hx => rfl); (case hA => (first | assumption | exact FE.ofInt _ _ | exact FE.lit (by decide +kernel))); intro r n hr)
      | ((with_reducible apply wpList_fneg); (case hw => rfl); (case hx => rfl); (case hA => (first | assumption | exact FE.ofInt _ _ | exact FE.lit (by decide +kernel))); intro r hr))
        refine bodyPost_ret (v := .tuple #[.float .f32 _, .bool true]) (by simp [results, Try.results106, go_sem]; rfl) rfl ?_
        exact ⟨⟨_, by rw [HB.out, HS.out]; simp [ht]; rfl, by rw [HV.out, HS.out]; simp only [if_neg ht]; assumption⟩, (by first | exact ⟨0, rfl⟩ | exact ⟨_, rfl⟩)⟩
/-- The values of the cells whose greys are near that of cell i. -/
def gNl (ms gs : List Nat) (W N i : Nat) (l : List (Nat × Nat)) : List Nat := (l.filter fun c => gNear (gs.getD (c.1 + W * c.2) 0) (gs.getD i 0) N).map fun c => ms.getD (c.1 + W * c.2) 0
theorem gNl_no {ms gs : List Nat} {W N i u v : Nat} (l : List (Nat × Nat)) (h : gNear (gs.getD (u + W * v) 0) (gs.getD i 0) N = false) : gNl ms gs W N i (l ++ [(u, v)]) = gNl ms gs W N i l := by
  unfold gNl
  rw [List.filter_append, List.map_append, List.filter_cons_of_neg (by show ¬ gNear (gs.getD (u + W * v) 0) (gs.getD i 0) N = true; rw [h]; decide)]
  simp
theorem gNl_yes {ms gs : List Nat} {W N i u v : Nat} (l : List (Nat × Nat)) (h : gNear (gs.getD (u + W * v) 0) (gs.getD i 0) N = true) : gNl ms gs W N i (l ++ [(u, v)]) = gNl ms gs W N i l ++ [ms.getD (u + W * v) 0] := by
  unfold gNl
  rw [List.filter_append, List.map_append, List.filter_cons_of_pos (by show gNear (gs.getD (u + W * v) 0) (gs.getD i 0) N = true; exact h)]
  rfl
set_option maxRecDepth 20000 in
set_option maxHeartbeats 4000000 in
theorem I_Guided_11 (W H b bg xb yb nb bl ca cg near N x y : Nat) (a ag : Option Addr) (ms gs : List Nat) (wb : World) (m1 : MP wb b W H a ms.length ca ms) (g1 : MP wb bg W H ag gs.length cg gs) (cx : wb.cell? ⟨xb, 0, none⟩ = some (.int .i64 x)) (cy : wb.cell? ⟨yb, 0, none⟩ = some (.int .i64 y)) (cn : wb.cell? ⟨nb, 0, none⟩ = some (.float .f32 near)) (hN : FE .f32 near N)
    (hbl : wb.heap.size ≤ bl) (hW0 : 1 ≤ W) (hH0 : 1 ≤ H) (hW : W ≤ 24) (hH : H ≤ 24) (hn : ms.length = W * H) (hgl : gs.length = W * H) (hx : x < W) (hy : y < H) :
    ∀ l (u v : Nat) w, Gath wb bl (gNl ms gs W N (x + W * y)) l w → l.length ≤ 4096 → u < W → v < H → Calls Try.prog 103 #[.int .i64 u, .int .i64 v, .pointer (some ⟨bg, 0, none⟩), .pointer (some ⟨xb, 0, none⟩), .pointer (some ⟨yb, 0, none⟩), .pointer (some ⟨nb, 0, none⟩), .pointer (some ⟨bl, 0, none⟩), .pointer (some ⟨b, 0, none⟩)] w fun e w' => (∃ x, e = .returned x) ∧ Gath wb bl (gNl ms gs W N (x + W * y)) (l ++ [(u, v)]) w' := by
  intro l u v w ⟨hg, rv, hb, ho⟩ hl hu hv
  obtain ⟨i0, hi, hz0, hz1, hz2⟩ := info_parts info_float32
  have d1 := hg.cell cx
  have d2 := hg.cell cy
  have d3 := hg.cell cn
  have hlen : (gNl ms gs W N (x + W * y) l).length ≤ 4096 := Nat.le_trans (by unfold gNl; rw [List.length_map]; exact List.length_filter_le _ _) hl
  have HA := Lib.hid (fun (w1 : World) (g : Gr w w1) => I_Map_at W H u v b a ca ms w1 (m1.gr (hg.trans g)) hW hH hu hv hn)
  have HG1 := fun (w1 : World) (g : Gr w w1) => I_Picture_about W H bg (u : Int) (v : Int) ag cg gs w1 (g1.gr (hg.trans g)) hW0 hH0 hW hH hgl
  have HG2 := fun (w1 : World) (g : Gr w w1) => I_Picture_about W H bg (x : Int) (y : Int) ag cg gs w1 (g1.gr (hg.trans g)) hW0 hH0 hW hH hgl
  rw [clampN_in hu, clampN_in hv] at HG1
  rw [clampN_in hx, clampN_in hy] at HG2
  have HG1 := Lib.hid HG1
  have HG2 := Lib.hid HG2
  have p0 := hb.cellv 0
  have Hb := Lib.hid hb
  have Ho := Lib.hid ho
  have Hg := Lib.hid hg
  cases t1 : gNear (gs.getD (u + W * v) 0) (gs.getD (x + W * y) 0) N
  · have EV := Lib.hid (gNl_no (ms := ms) l t1)
    clear hb ho hg m1 g1 cx cy cn
    go_enter Try.func103, Try.ntmps103
    go_wp2
    apply region_drew 7
    case hm => kernel_rfl
    case hB => kernel_rfl
    simp only [List.take_succ_cons, List.take_zero, List.drop_succ_cons, List.drop_zero]
    repeat (first
      | ((with_reducible apply wpSoft_callf (f := 105)); (case hw => rfl); (case hc => exact Try.call105); (case hv => ((conv => lhs; simp [Act.eval]); try rfl)); (case hS => (rintro _ ⟨m, rfl⟩; with_reducible refine (HG1.out _ (by (try show Gr _ _); repeat (with_reducible first | exact Gr.refl _ | refine Gr.drewN ?_ _ | refine Gr.grew ?_ _ _ | refine Gr.alloc ?_ _ | refine Gr.drew ?_))).mono ?_; rintro e w' ⟨r, rfl, hr, n, rfl⟩; exact ⟨_, rfl, hr, ⟨_, World.drewN_drewN _ _ _⟩⟩)); (intro r1 hr1; simp only [Act.put, List.setIfInBounds_toArray, List.set_cons_succ, List.set_cons_zero]))
      | ((with_reducible apply wpSoft_callf (f := 105)); (case hw => rfl); (case hc => exact Try.call105); (case hv => ((conv => lhs; simp [Act.eval]); try rfl)); (case hS => (rintro _ ⟨m, rfl⟩; with_reducible refine (HG2.out _ (by (try show Gr _ _); repeat (with_reducible first | exact Gr.refl _ | refine Gr.drewN ?_ _ | refine Gr.grew ?_ _ _ | refine Gr.alloc ?_ _ | refine Gr.drew ?_))).mono ?_; rintro e w' ⟨r, rfl, hr, n, rfl⟩; exact ⟨_, rfl, hr, ⟨_, World.drewN_drewN _ _ _⟩⟩)); (intro r2 hr2; simp only [Act.put, List.setIfInBounds_toArray, List.set_cons_succ, List.set_cons_zero]))
      | (apply wpSoft_skip rfl; simp only [Act.put, List.setIfInBounds_toArray, List.set_cons_succ, List.set_cons_zero])
      | (apply wpSoft_nilCheck rfl rfl; simp only [Act.put, List.setIfInBounds_toArray, List.set_cons_succ, List.set_cons_zero])
      | ((with_reducible apply wpSoft_fop); (case hw => rfl); (case hD => exact closed_drew); (case hop => rfl); (case hx => rfl); (case hy => rfl); (case hA => (first | assumption | exact FE.ofInt _ _ | exact FE.lit (by decide +kernel))); (case hB => (first | assumption | exact FE.ofInt _ _ | exact FE.lit (by decide +kernel))); (intro r hr; simp only [Act.put, List.setIfInBounds_toArray, List.set_cons_succ, List.set_cons_zero]))

      | ((with_reducible apply wpSoft_widen); (case hw => rfl); (case hD => exact closed_drew); (case hs => exact Try.underlying65); (case hd => exact Try.underlying147); (case hx => rfl); (case hA => (first | assumption | exact FE.ofInt _ _ | exact FE.lit (by decide +kernel))); (intro r hr; simp only [Act.put, List.setIfInBounds_toArray, List.set_cons_succ, List.set_cons_zero]))
      | ((with_reducible apply wpSoft_fneg); (case hw => rfl); (case hx => rfl); (case hA => (first | assumption | exact FE.ofInt _ _ | exact FE.lit (by decide +kernel))); (intro r hr; simp only [Act.put, List.setIfInBounds_toArray, List.set_cons_succ, List.set_cons_zero]))
      | ((with_reducible apply wpSoft_fcmp); (case hw => rfl); (case hop => rfl); (case hx => rfl); (case hy => rfl); (case hA => (first | assumption | exact FE.ofInt _ _ | exact FE.lit (by decide +kernel))); (case hB => (first | assumption | exact FE.ofInt _ _ | exact FE.lit (by decide +kernel))); (case hb => (first | assumption | rfl)); simp only [Act.put, List.setIfInBounds_toArray, List.set_cons_succ, List.set_cons_zero])
      | (apply wpSoft_q rfl rfl; intro K hK; go_big_quiet_op; go_big_quiet_on))
    with_reducible apply wpSoft_nil
    intro m
    go_wp2_with (first | (go_at_call 104; refine (I_nearTo _ _ _ _ _ _ _ hr1 hr2 hN).mono ?_; rintro e w' ⟨rfl, n, rfl⟩; rw [t1]))
    exact bodyPost_end (v := .tuple #[]) (by simp [results, Try.results103, go_sem]) rfl ⟨⟨_, rfl⟩, Hg.out.trans (by (try show Gr _ _); repeat (with_reducible first | exact Gr.refl _ | refine Gr.drewN ?_ _ | refine Gr.grew ?_ _ _ | refine Gr.alloc ?_ _ | refine Gr.drew ?_)), _, Hb.out.gr (by (try show Gr _ _); repeat (with_reducible first | exact Gr.refl _ | refine Gr.drewN ?_ _ | refine Gr.grew ?_ _ _ | refine Gr.alloc ?_ _ | refine Gr.drew ?_)), by rw [EV.out]; exact Ho.out.gr (by (try show Gr _ _); repeat (with_reducible first | exact Gr.refl _ | refine Gr.drewN ?_ _ | refine Gr.grew ?_ _ _ | refine Gr.alloc ?_ _ | refine Gr.drew ?_))⟩
  · have EV := Lib.hid (gNl_yes (ms := ms) l t1)
    obtain ⟨z, hz⟩ : ∃ z, z = ms.getD (u + W * v) 0 := ⟨_, rfl⟩
    rw [← hz] at HA EV
    generalize gNl ms gs W N (x + W * y) l = L at *
    have hfz : ∃ x, FS .f32 z x := by
      obtain ⟨e, w', r, _, hr, _⟩ := calls_some (HA.out w (Gr.refl w))
      exact ⟨_, r, rfl, hr⟩
    have HFZ := Lib.hid hfz
    have HLen := Lib.hid hlen
    clear hb ho hg hz m1 g1 cx cy cn hfz hlen
    go_enter Try.func103, Try.ntmps103
    go_wp2
    apply region_drew 7
    case hm => kernel_rfl
    case hB => kernel_rfl
    simp only [List.take_succ_cons, List.take_zero, List.drop_succ_cons, List.drop_zero]
    repeat (first
      | ((with_reducible apply wpSoft_callf (f := 105)); (case hw => rfl); (case hc => exact Try.call105); (case hv => ((conv => lhs; simp [Act.eval]); try rfl)); (case hS => (rintro _ ⟨m, rfl⟩; with_reducible refine (HG1.out _ (by (try show Gr _ _); repeat (with_reducible first | exact Gr.refl _ | refine Gr.drewN ?_ _ | refine Gr.grew ?_ _ _ | refine Gr.alloc ?_ _ | refine Gr.drew ?_))).mono ?_; rintro e w' ⟨r, rfl, hr, n, rfl⟩; exact ⟨_, rfl, hr, ⟨_, World.drewN_drewN _ _ _⟩⟩)); (intro r1 hr1; simp only [Act.put, List.setIfInBounds_toArray, List.set_cons_succ, List.set_cons_zero]))
      | ((with_reducible apply wpSoft_callf (f := 105)); (case hw => rfl); (case hc => exact Try.call105); (case hv => ((conv => lhs; simp [Act.eval]); try rfl)); (case hS => (rintro _ ⟨m, rfl⟩; with_reducible refine (HG2.out _ (by (try show Gr _ _); repeat (with_reducible first | exact Gr.refl _ | refine Gr.drewN ?_ _ | refine Gr.grew ?_ _ _ | refine Gr.alloc ?_ _ | refine Gr.drew ?_))).mono ?_; rintro e w' ⟨r, rfl, hr, n, rfl⟩; exact ⟨_, rfl, hr, ⟨_, World.drewN_drewN _ _ _⟩⟩)); (intro r2 hr2; simp only [Act.put, List.setIfInBounds_toArray, List.set_cons_succ, List.set_cons_zero]))
      | (apply wpSoft_skip rfl; simp only [Act.put, List.setIfInBounds_toArray, List.set_cons_succ, List.set_cons_zero])
      | (apply wpSoft_nilCheck rfl rfl; simp only [Act.put, List.setIfInBounds_toArray, List.set_cons_succ, List.set_cons_zero])
      | ((with_reducible apply wpSoft_fop); (case hw => rfl); (case hD => exact closed_drew); (case hop => rfl); (case hx => rfl); (case hy => rfl); (case hA => (first | assumption | exact FE.ofInt _ _ | exact FE.lit (by decide +kernel))); (case hB => (first | assumption | exact FE.ofInt _ _ | exact FE.lit (by decide +kernel))); (intro r hr; simp only [Act.put, List.setIfInBounds_toArray, List.set_cons_succ, List.set_cons_zero]))

      | ((with_reducible apply wpSoft_widen); (case hw => rfl); (case hD => exact closed_drew); (case hs => exact Try.underlying65); (case hd => exact Try.underlying147); (case hx => rfl); (case hA => (first | assumption | exact FE.ofInt _ _ | exact FE.lit (by decide +kernel))); (intro r hr; simp only [Act.put, List.setIfInBounds_toArray, List.set_cons_succ, List.set_cons_zero]))
      | ((with_reducible apply wpSoft_fneg); (case hw => rfl); (case hx => rfl); (case hA => (first | assumption | exact FE.ofInt _ _ | exact FE.lit (by decide +kernel))); (intro r hr; simp only [Act.put, List.setIfInBounds_toArray, List.set_cons_succ, List.set_cons_zero]))
      | ((with_reducible apply wpSoft_fcmp); (case hw => rfl); (case hop => rfl); (case hx => rfl); (case hy => rfl); (case hA => (first | assumption | exact FE.ofInt _ _ | exact FE.lit (by decide +kernel))); (case hB => (first | assumption | exact FE.ofInt _ _ | exact FE.lit (by decide +kernel))); (case hb => (first | assumption | rfl)); simp only [Act.put, List.setIfInBounds_toArray, List.set_cons_succ, List.set_cons_zero])
      | (apply wpSoft_q rfl rfl; intro K hK; go_big_quiet_op; go_big_quiet_on))
    with_reducible apply wpSoft_nil
    intro m
    go_wp2_with (first | (go_at_call 104; refine (I_nearTo _ _ _ _ _ _ _ hr1 hr2 hN).mono ?_; rintro e w' ⟨rfl, n, rfl⟩; rw [t1]))
    generalize hwq : w.drewN _ = wq
    have gq : Gr w wq := by rw [← hwq]; exact (by (try show Gr _ _); repeat (with_reducible first | exact Gr.refl _ | refine Gr.drewN ?_ _ | refine Gr.grew ?_ _ _ | refine Gr.alloc ?_ _ | refine Gr.drew ?_))
    clear hwq d1 d2 d3 p0
    have HAq := Lib.hid (fun (w1 : World) (g : Gr wq w1) => HA.out w1 (gq.trans g))
    replace Hb := Lib.hid (Hb.out.gr gq)
    replace Ho := Lib.hid (Ho.out.gr gq)
    replace Hg := Lib.hid (Hg.out.trans gq)
    have p0 := Hb.out.cellv 0
    clear gq hr1 hr2
    apply region_facts 5 [4] (fun _ v w' => ∃ b r, v = .slice (some ⟨b, 0, none⟩) 1 1 ∧ Blk w' b [.float .f32 r] 65 ∧ FE .f32 r z)
    case hm => kernel_rfl
    case hB => kernel_rfl
    case hR => rfl
    case hP => (intro k hk v w1 w2 hg hv; obtain ⟨b, r, hv, hB, hr⟩ := hv; exact ⟨b, r, hv, hB.gr hg, hr⟩)
    simp only [List.take_succ_cons, List.take_zero, List.drop_succ_cons, List.drop_zero]
    repeat (first
      | ((with_reducible apply wpF_call (f := 101) (S := FS .f32 z)); (case hw => rfl); (case hc => exact Try.call101); (case hv => ((conv => lhs; simp [Act.eval]); try rfl)); (case hS => (intro os m _; refine (HAq.out _ ⟨os, m, rfl⟩).mono ?_; rintro e w' ⟨r, rfl, hr, n, hn⟩; exact ⟨_, rfl, gr_of_drew hn, fun h => absurd h (by decide), r, rfl, hr⟩)); (case hne => exact HFZ.out); (rintro v ⟨r, rfl, hr⟩; simp only [Act.put, List.setIfInBounds_toArray, List.set_cons_succ, List.set_cons_zero]))
      | ((with_reducible apply wpF_new (c := #[.float .f32 r]) (e := 65) (fun b => .slice (some ⟨b, 0, none⟩) 1 1)); (case hw => rfl); (case hx => (intro w; simp [execOp, go_sem])); (case hF => (intro w b hb hc _; exact ⟨b, _, rfl, ⟨hc⟩, hr⟩)); (intro bn hb; simp only [Act.put, List.setIfInBounds_toArray, List.set_cons_succ, List.set_cons_zero]))
      | (apply wpF_skip rfl (by decide); simp only [Act.put, List.setIfInBounds_toArray, List.set_cons_succ, List.set_cons_zero])
      | (apply wpF_nilCheck rfl (by decide) rfl; simp only [Act.put, List.setIfInBounds_toArray, List.set_cons_succ, List.set_cons_zero])
      | ((with_reducible apply wpF_fop); (case hw => rfl); (case hT => decide); (case hop => rfl); (case hx => rfl); (case hy => rfl); (case hA => (first | assumption | exact FE.ofInt _ _ | exact FE.lit (by decide +kernel))); (case hB => (first | assumption | exact FE.ofInt _ _ | exact FE.lit (by decide +kernel))); (intro r hr; simp only [Act.put, List.setIfInBounds_toArray, List.set_cons_succ, List.set_cons_zero]))
      | ((with_reducible apply wpF_fneg); (case hw => rfl); (case hT => decide); (case hx => rfl); (case hA => (first | assumption | exact FE.ofInt _ _ | exact FE.lit (by decide +kernel))); (intro r hr; simp only [Act.put, List.setIfInBounds_toArray, List.set_cons_succ, List.set_cons_zero]))
      | ((with_reducible apply wpF_fcmp); (case hw => rfl); (case hT => decide); (case hop => rfl); (case hx => rfl); (case hy => rfl); (case hA => (first | assumption | exact FE.ofInt _ _ | exact FE.lit (by decide +kernel))); (case hB => (first | assumption | exact FE.ofInt _ _ | exact FE.lit (by decide +kernel))); (case hb => (first | assumption | rfl)); simp only [Act.put, List.setIfInBounds_toArray, List.set_cons_succ, List.set_cons_zero])
      | (apply wpF_q rfl (by decide) rfl; intro K hK; go_big_quiet_op; go_big_quiet_on))
    with_reducible apply wpF_nil
    intro os m hf
    obtain ⟨b', r', hb', hB', hr'⟩ := hf.1
    obtain rfl : b' = _ := by simpa using hb'.symm
    have G : Gr wq (wq.grew os m) := ⟨os, m, rfl⟩
    have ho' := Ho.out.gr G
    have c' := hB'.cellv 0
    clear hf hb'
    refine wpList_append_f rfl rfl i0 Try.underlying22 hi hz0 hz1 hz2 rfl ho' rfl c' hr' (by have := HLen.out; simp <;> omega) (by have := Hg.out.size; simp <;> omega) ?_
    intro v1 w1 ho1 hg1
    obtain ⟨a1, c1, rfl, -, -⟩ := ho1.sl' (L.length + 1) (by simp)
    obtain ⟨hb1, P, ho2⟩ := pushed_step (i := 0) (u := .slice a1 (L.length + 1) c1) Hb.out Ho.out G hg1 ho1 (by decide)
    have q2 := hb1.cellv 0
    have z2 := hb1.frozen 0
    have Hb2 := Lib.hid hb1
    have Ho2 := Lib.hid ho2
    have HP := Lib.hid P
    clear G hg1 hb1 ho' ho1 ho2 P hB' c' p0
    go_wp2
    refine bodyPost_end (v := .tuple #[]) (by simp [results, Try.results103, go_sem]) rfl ⟨⟨_, rfl⟩, HP.out.gr Hg.out hbl (Nat.le_refl _), _, Hb2.out.set _, by rw [EV.out]; exact Ho2.out⟩
theorem does_Guided (W H b bg xb yb nb bl ca cg near N x y : Nat) (a ag : Option Addr) (ms gs : List Nat) (wb : World) (m1 : MP wb b W H a ms.length ca ms) (g1 : MP wb bg W H ag gs.length cg gs) (cx : wb.cell? ⟨xb, 0, none⟩ = some (.int .i64 x)) (cy : wb.cell? ⟨yb, 0, none⟩ = some (.int .i64 y)) (cn : wb.cell? ⟨nb, 0, none⟩ = some (.float .f32 near)) (hN : FE .f32 near N)
    (hbl : wb.heap.size ≤ bl) (hW0 : 1 ≤ W) (hH0 : 1 ≤ H) (hW : W ≤ 24) (hH : H ≤ 24) (hn : ms.length = W * H) (hgl : gs.length = W * H) (hx : x < W) (hy : y < H) :
    Does 103 #[.pointer (some ⟨bg, 0, none⟩), .pointer (some ⟨xb, 0, none⟩), .pointer (some ⟨yb, 0, none⟩), .pointer (some ⟨nb, 0, none⟩), .pointer (some ⟨bl, 0, none⟩), .pointer (some ⟨b, 0, none⟩)] W H (Gath wb bl (gNl ms gs W N (x + W * y))) :=
  ⟨Try.call103, fun l u v w hJ hl hu hv => I_Guided_11 W H b bg xb yb nb bl ca cg near N x y a ag ms gs wb m1 g1 cx cy cn hN hbl hW0 hH0 hW hH hn hgl hx hy l u v w hJ hl hu hv⟩
theorem gGs_mean (ms gs : List Nat) (W H N r : Nat) {x y : Nat} (hx : x < W) : gMean2 (gNl ms gs W N (x + W * y) (gWn W H r x y)) = gGs ms gs W H N r (x + W * y) := by
  unfold gNl gGs
  rw [gMean2_eq, show (x + W * y) % W = x by rw [Nat.add_mul_mod_self_left, Nat.mod_eq_of_lt hx], show (x + W * y) / W = y by rw [Nat.add_mul_div_left _ _ (by omega), Nat.div_eq_of_lt hx, Nat.zero_add]]
  rfl
set_option maxRecDepth 20000 in
set_option maxHeartbeats 4000000 in
theorem I_Guided_1 (W H b bg rb nb ca cg near N r x y : Nat) (a ag : Option Addr) (ms gs : List Nat) (w : World) (m1 : MP w b W H a ms.length ca ms) (g1 : MP w bg W H ag gs.length cg gs) (cr : w.cell? ⟨rb, 0, none⟩ = some (.int .i64 r)) (cn : w.cell? ⟨nb, 0, none⟩ = some (.float .f32 near)) (hN : FE .f32 near N)
    (hr : r ≤ 3) (hW : W ≤ 24) (hH : H ≤ 24) (hn : ms.length = W * H) (hgl : gs.length = W * H) (hx : x < W) (hy : y < H) :
    Calls Try.prog 99 #[.int .i64 x, .int .i64 y, .pointer (some ⟨b, 0, none⟩), .pointer (some ⟨rb, 0, none⟩), .pointer (some ⟨bg, 0, none⟩), .pointer (some ⟨nb, 0, none⟩)] w fun e w' => (∃ r', e = .returned (.float .f32 r') ∧ FE .f32 r' (gGuAt ms gs W H N r (x + W * y))) ∧ Gr w w' := by
  have hA := fun (w1 : World) (g : Gr w w1) => I_Map_at W H x y b a ca ms w1 (m1.gr g) hW hH hx hy hn
  obtain ⟨z, hz⟩ : ∃ z, z = ms.getD (x + W * y) 0 := ⟨_, rfl⟩
  rw [← hz] at hA
  have HA := Lib.hid hA
  clear hA
  cases t1 : gHole z
  · have HD := Lib.hid (fun (wb : World) (xb yb bl : Nat) (g : Gr w wb) cx cy (hbl : wb.heap.size ≤ bl) => does_Guided W H b bg xb yb nb bl ca cg near N x y a ag ms gs wb (m1.gr g) (g1.gr g) cx cy (g.cell cn) hN hbl (by omega) (by omega) hW hH hn hgl hx hy)
    have c0 := m1.c0
    have c1 := m1.c1
    have Hm := Lib.hid m1
    have hM := gGs_mean ms gs W H N r (y := y) hx
    have EG := Lib.hid (show gGuAt ms gs W H N r (x + W * y) = if (gGs ms gs W H N r (x + W * y)).2 = 0 then z else fop .quo .f32 (gGs ms gs W H N r (x + W * y)).1 (floatOfInt .f32 ((gGs ms gs W H N r (x + W * y)).2 : Int)) by unfold gGuAt; rw [← hz, t1]; rfl)
    have HMn := Lib.hid hM
    clear hz g1 hM m1
    go_enter Try.func99, Try.ntmps99
    go_upto_region 3 with (first | (go_at_call 101; refine (HA.out _ (by (try show Gr _ _); repeat (with_reducible first | exact Gr.refl _ | refine Gr.drewN ?_ _ | refine Gr.grew ?_ _ _ | refine Gr.alloc ?_ _ | refine Gr.drew ?_))).mono ?_; rintro e w' ⟨r1, rfl, hr1, n, rfl⟩) | (go_at_call 100; with_reducible refine (I_isHole _ _ _ (by assumption)).mono ?_; rintro e w' ⟨rfl, n, rfl⟩; rw [t1]))
    generalize hwb : World.drewN _ _ = wb
    have gb : Gr w wb := by rw [← hwb]; exact (by (try show Gr _ _); repeat (with_reducible first | exact Gr.refl _ | refine Gr.drewN ?_ _ | refine Gr.grew ?_ _ _ | refine Gr.alloc ?_ _ | refine Gr.drew ?_))
    have BX := Lib.hid (show Blk wb w.heap.size [.int .i64 x] 2 by rw [← hwb]; exact (by repeat (with_reducible first | assumption | exact Blk.atNew (by simp) | refine Blk.alloc ?_ _ | refine Blk.grew ?_ _ _ | refine Blk.drewN ?_ _ | refine Blk.drew ?_)))
    have BY := Lib.hid (show Blk wb (w.heap.size + 1) [.int .i64 y] 2 by rw [← hwb]; exact (by repeat (with_reducible first | assumption | exact Blk.atNew (by simp) | refine Blk.alloc ?_ _ | refine Blk.grew ?_ _ _ | refine Blk.drewN ?_ _ | refine Blk.drew ?_)))
    clear hwb
    have GB := Lib.hid gb
    have x0 := BX.out.cellv 0
    have y0 := BY.out.cellv 0
    have r0 := gb.cell cr
    have ltx := BX.out.lt
    have lty := BY.out.lt
    have ltr := World.block_lt_of_cell? wb _ r0
    have HDo := HD.out wb w.heap.size (w.heap.size + 1) (wb.heap.size + 1) gb x0 y0 (by omega)
    have HW := Lib.hid (fun (u : World) (h : Gath wb (wb.heap.size + 1) (gNl ms gs W N (x + W * y)) [] u) => I_window W H b x y r _ _ _ u HDo (fun l w' h' => h'.1.cell (gb.cell c0)) (fun l w' h' => h'.1.cell (gb.cell c1)) h hx hy (by omega) hW hH)
    clear gb c0 c1 HDo HD cr cn
    go_wp2_with fail
    refine (HW.out _ ⟨(by (try show Gr _ _); repeat (with_reducible first | exact Gr.refl _ | refine Gr.drewN ?_ _ | refine Gr.grew ?_ _ _ | refine Gr.alloc ?_ _ | refine Gr.drew ?_)), _, (by repeat (with_reducible first | assumption | exact Blk.atNew (by simp) | refine Blk.alloc ?_ _ | refine Blk.grew ?_ _ _ | refine Blk.drewN ?_ _ | refine Blk.drew ?_)), FOwn.empty (by repeat (with_reducible first | assumption | exact Blk.atNew (by simp) | refine Blk.alloc ?_ _ | refine Blk.grew ?_ _ _ | refine Blk.drewN ?_ _ | refine Blk.drew ?_)) (Nat.le_refl _)⟩).mono ?_
    rintro e w3 ⟨⟨v3, rfl⟩, hg3, rv, hb3, ho3⟩
    obtain ⟨L, hL⟩ : ∃ L, L = gNl ms gs W N (x + W * y) (gWn W H r x y) := ⟨_, rfl⟩
    have ho4 : FOwn w3 wb.heap.size 65 rv L := by rw [hL]; exact ho3
    have hlen : L.length ≤ 4096 := by
      rw [hL]
      refine Nat.le_trans (by unfold gNl; rw [List.length_map]; exact List.length_filter_le _ _) ?_
      unfold gWn wl
      rw [List.length_map, List.length_range]
      have := Nat.mul_le_mul (show min (x + r) (W - 1) + 1 - (x - r) ≤ 24 by omega) (show min (y + r) (H - 1) + 1 - (y - r) ≤ 24 by omega)
      omega
    have hMe : gMean2 L = gGs ms gs W H N r (x + W * y) := by rw [hL]; exact HMn.out
    obtain ⟨T, hT⟩ : ∃ T, T = gGs ms gs W H N r (x + W * y) := ⟨_, rfl⟩
    have hEG := EG.out
    rw [← hT] at hMe hEG
    obtain ⟨a3, c3, rfl, F3, -⟩ := ho4.sl' L.length rfl
    have HMean := fun (u : World) (F : FSl u a3 L.length L) => I_mean a3 c3 L u F hlen
    rw [hMe] at HMean
    have HMean := Lib.hid HMean
    have F3 := Lib.hid F3
    have G3 := Lib.hid (GB.out.trans hg3)
    have p0 := hb3.cellv 0
    have x1 := hg3.cell x0
    have y1 := hg3.cell y0
    clear hL ho3 ho4 hT hMe hlen hb3 x0 y0 r0 ltx lty ltr BX BY HW HMn EG hg3
    go_wp2_with fail
    refine (HMean.out _ F3.out).mono ?_
    rintro e w4 ⟨⟨rm, rfl, hrm⟩, n4, rfl⟩
    by_cases h2 : T.2 = 0
    · rw [if_pos h2] at hEG
      rw [show decide (T.2 ≠ 0) = false by simp [h2]]
      have EG := Lib.hid hEG
      clear hEG hrm
      go_wp2_with fail
      refine (HA.out _ (G3.out.trans (by (try show Gr _ _); repeat (with_reducible first | exact Gr.refl _ | refine Gr.drewN ?_ _ | refine Gr.grew ?_ _ _ | refine Gr.alloc ?_ _ | refine Gr.drew ?_)))).mono ?_
      rintro e w' ⟨r5, rfl, hr5, n, rfl⟩
      go_wp2
      go_ret
      exact ⟨⟨_, rfl, by rw [EG.out]; exact hr5⟩, G3.out.trans (by (try show Gr _ _); repeat (with_reducible first | exact Gr.refl _ | refine Gr.drewN ?_ _ | refine Gr.grew ?_ _ _ | refine Gr.alloc ?_ _ | refine Gr.drew ?_))⟩
    · rw [if_neg h2] at hEG hrm
      rw [show decide (T.2 ≠ 0) = true by simp [h2]]
      have EG := Lib.hid hEG
      clear hEG
      go_wp2
      go_ret
      exact ⟨⟨_, rfl, by rw [EG.out]; exact hrm⟩, G3.out.trans (by (try show Gr _ _); repeat (with_reducible first | exact Gr.refl _ | refine Gr.drewN ?_ _ | refine Gr.grew ?_ _ _ | refine Gr.alloc ?_ _ | refine Gr.drew ?_))⟩
  · have EG := Lib.hid (show gGuAt ms gs W H N r (x + W * y) = 3212836864 by unfold gGuAt; rw [← hz, t1]; rfl)
    clear hz g1 m1
    go_enter Try.func99, Try.ntmps99
    go_wp2_with (first
      | (go_at_call 101; refine (HA.out _ (by (try show Gr _ _); repeat (with_reducible first | exact Gr.refl _ | refine Gr.drewN ?_ _ | refine Gr.grew ?_ _ _ | refine Gr.alloc ?_ _ | refine Gr.drew ?_))).mono ?_; rintro e w' ⟨r1, rfl, hr1, n, rfl⟩)
      | (go_at_call 100; with_reducible refine (I_isHole _ _ _ (by assumption)).mono ?_; rintro e w' ⟨rfl, n, rfl⟩; rw [t1]))
    go_ret
    exact ⟨⟨_, rfl, by rw [EG.out]; exact FE.lit (by decide +kernel)⟩, (by (try show Gr _ _); repeat (with_reducible first | exact Gr.refl _ | refine Gr.drewN ?_ _ | refine Gr.grew ?_ _ _ | refine Gr.alloc ?_ _ | refine Gr.drew ?_))⟩
end Go.Proofs.Ytaidkokgafojeaa
