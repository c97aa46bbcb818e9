/- Contracts: pictures of half the size. MAXREC -/
import Derived.Test.YtomlfdkcgaogcaaProg
import Derived.Test.YtomlfdkcgaogcaaC89
import Derived.Test.YtomlfdkcgaogcaaQr
import Derived.Test.YtomlfdkcgaogcaaC13
import Derived.Deep.DeepCutAuto
import Derived.Deep.RegionHeld3
namespace Go.Proofs.Ytomlfdkcgaogcaa
open Go.RowKit Go.Fx Go.Soft
def gAb (ps : List Nat) (W H : Nat) (x y : Int) : Nat := ps.getD (clampN x W + W * clampN y H) 0
def gSum4 (ps : List Nat) (W H x y : Nat) : Nat := fop .add .f32 (fop .add .f32 (fop .add .f32 (gAb ps W H (2 * (x : Int)) (2 * (y : Int))) (gAb ps W H (2 * (x : Int) + 1) (2 * (y : Int)))) (gAb ps W H (2 * (x : Int)) (2 * (y : Int) + 1))) (gAb ps W H (2 * (x : Int) + 1) (2 * (y : Int) + 1))
def gHalfAt (ps : List Nat) (W H x y : Nat) : Nat := fop .quo .f32 (gSum4 ps W H x y) 1082130432
theorem half_div (W : Nat) (h : W ≤ 24) : ((W : Int) + 1).tdiv 2 = (((W + 1) / 2 : Nat) : Int) ∧ IntKind.i64.wrap (((W + 1) / 2 : Nat) : Int) = (((W + 1) / 2 : Nat) : Int) := by
  constructor
  · rw [Int.tdiv_eq_ediv_of_nonneg (by omega)]; omega
  · exact IntWalk.i64_in _ (by omega)
set_option maxRecDepth 20000 in
set_option maxHeartbeats 400000 in
theorem I_halfUp (W : Nat) (w : World) (h : W ≤ 24) : Calls Try.prog 65 #[.int .i64 W] w fun e w' => e = .returned (.int .i64 (((W + 1) / 2 : Nat) : Int)) ∧ w' = w := by
  obtain ⟨e1, e2⟩ := half_div W h
  obtain ⟨U, hU⟩ : ∃ U, U = (W + 1) / 2 := ⟨_, rfl⟩
  rw [← hU] at e1 e2 ⊢
  clear hU
  go_enter Try.func65, Try.ntmps65
  go_wp2
  go_ret
  exact ⟨by first | rfl | rw [e1] | simp [*], rfl⟩
set_option maxRecDepth 20000 in
set_option maxHeartbeats 4000000 in
theorem S_l02Halve (W H b1 ca : Nat) (a : Option Addr) (ps : List Nat) (w : World) (m1 : MP w b1 W H a ps.length ca ps) (hW0 : 1 ≤ W) (hH0 : 1 ≤ H) (hW : W ≤ 24) (hH : H ≤ 24) (hl : ps.length = W * H) :
    Calls Try.prog 101 #[.pointer (some ⟨b1, 0, none⟩)] w fun e w' => (∃ v, e = .returned (.agg #[.int .i64 (((W + 1) / 2 : Nat) : Int), .int .i64 (((H + 1) / 2 : Nat) : Int), v]) ∧ FOwn w' w.heap.size 25 v (grid ((W + 1) / 2) (gHalfAt ps W H) ((W + 1) / 2 * ((H + 1) / 2)))) ∧ Gr w w' := by
  obtain ⟨i0, hi, hz0, hz1, hz2⟩ := info_parts info_float32
  obtain ⟨e1, e2⟩ := half_div W hW
  obtain ⟨e3, e4⟩ := half_div H hH
  obtain ⟨U, hU⟩ : ∃ U, U = (W + 1) / 2 := ⟨_, rfl⟩
  obtain ⟨V, hV⟩ : ∃ V, V = (H + 1) / 2 := ⟨_, rfl⟩
  rw [← hU] at e1 e2 ⊢
  rw [← hV] at e3 e4 ⊢
  have hU24 : U ≤ 12 := by omega
  have hV24 : V ≤ 12 := by omega
  have h24 : U * V ≤ 144 := Nat.mul_le_mul hU24 hV24
  have c0 := m1.c0
  have c1 := m1.c1
  have hq : FE .f32 1048576000 1048576000 := FE.lit (by decide +kernel)
  have HA := Lib.hid (fun (u : World) (g : Gr w u) (x y : Int) => (S_l02At W H b1 x y a ca ps u (m1.gr g) hW0 hH0 hW hH hl : Calls Try.prog 127 #[.pointer (some ⟨b1, 0, none⟩), .int .i64 x, .int .i64 y] u fun e w' => ∃ r, e = .returned (.float .f32 r) ∧ FE .f32 r (gAb ps W H x y) ∧ ∃ n, w' = u.drewN n))
  clear m1 hl hU hV
  go_enter Try.func101, Try.ntmps101
  go_wp2
  apply region_facts 14 [12, 13] (fun k v w' => (k = 12 → ∃ v', v = .agg #[.int .i64 U, .int .i64 V, v'] ∧ FOwn w' (w.heap.size + 1) 25 v' []) ∧ (k = 13 → ∃ b, v = .pointer (some ⟨b, 0, none⟩) ∧ w.heap.size + 1 ≤ b ∧ Blk w' b [.int .i64 0, .int .i64 0, .slice none 0 0] 53))
  case hm => kernel_rfl
  case hB => kernel_rfl
  case hR => rfl
  case hP => (intro k hk v w1 w2 hg hv; exact ⟨fun h => (by obtain ⟨v', e, ho⟩ := hv.1 h; exact ⟨v', e, ho.gr hg⟩), fun h => (by obtain ⟨b, e, hl, hb⟩ := hv.2 h; exact ⟨b, e, hl, hb.gr hg⟩)⟩)
  simp only [List.take_succ_cons, List.take_zero, List.drop_succ_cons, List.drop_zero]
  repeat (first
    | ((with_reducible apply wpF_call (f := 128) (S := fun v => ∃ a', v = .agg #[.int .i64 U, .int .i64 V, a'])); (case hw => rfl); (case hc => exact Try.call128); (case hv => ((conv => lhs; simp [Act.eval]); try rfl)); (case hS => (intro os m _; refine (S_l02New U V _).mono ?_; rintro e w' ⟨⟨v', rfl, ho⟩, g⟩; exact ⟨_, rfl, g, fun _ => ⟨fun _ => ⟨v', rfl, ho.base (by simp)⟩, fun h => absurd h (by decide)⟩, v', rfl⟩)); (case hne => exact ⟨_, .slice none 0 0, rfl⟩); (rintro v ⟨vq, rfl⟩; simp only [Act.put, List.setIfInBounds_toArray, List.set_cons_succ, List.set_cons_zero]))
    | ((with_reducible apply wpF_new (c := #[.int .i64 0, .int .i64 0, .slice none 0 0]) (e := 53) (fun b => .pointer (some ⟨b, 0, none⟩))); (case hw => rfl); (case hx => (intro w; simp [execOp, go_sem]; done)); (case hF => (intro w' b hb hc _; exact ⟨fun h => absurd h (by decide), fun _ => ⟨b, rfl, by simpa using hb, ⟨hc⟩⟩⟩)); (intro b hb; simp only [Act.put, List.setIfInBounds_toArray, List.set_cons_succ, List.set_cons_zero]))
    | (apply wpF_skip rfl (by decide); simp only [Act.put, List.setIfInBounds_toArray, List.set_cons_succ, List.set_cons_zero])
    | (apply wpF_nilCheck rfl (by decide) rfl; simp only [Act.put, List.setIfInBounds_toArray, List.set_cons_succ, List.set_cons_zero])
    | ((with_reducible apply wpF_fop); (case hw => rfl); (case hT => decide); (case hop => rfl); (case hx => rfl); (case hy => rfl); (case hA => (first | assumption | exact FE.ofInt _ _ | exact FE.lit (by decide +kernel))); (case hB => (first | assumption | exact FE.ofInt _ _ | exact FE.lit (by decide +kernel))); (intro r hr; simp only [Act.put, List.setIfInBounds_toArray, List.set_cons_succ, List.set_cons_zero]))
    | ((with_reducible apply wpF_fneg); (case hw => rfl); (case hT => decide); (case hx => rfl); (case hA => (first | assumption | exact FE.ofInt _ _ | exact FE.lit (by decide +kernel))); (intro r hr; simp only [Act.put, List.setIfInBounds_toArray, List.set_cons_succ, List.set_cons_zero]))
    | ((with_reducible apply wpF_fcmp); (case hw => rfl); (case hT => decide); (case hop => rfl); (case hx => rfl); (case hy => rfl); (case hA => (first | assumption | exact FE.ofInt _ _ | exact FE.lit (by decide +kernel))); (case hB => (first | assumption | exact FE.ofInt _ _ | exact FE.lit (by decide +kernel))); (case hb => (first | assumption | rfl)); simp only [Act.put, List.setIfInBounds_toArray, List.set_cons_succ, List.set_cons_zero])
    | (apply wpF_q rfl (by decide) rfl; intro K hK; go_big_quiet_op; go_big_quiet_on))
  with_reducible apply wpF_nil
  intro os m hf
  obtain ⟨v', ev, ho⟩ := hf.1.1 rfl
  obtain ⟨b', eb, hl, hb1⟩ := hf.2.1.2 rfl
  simp at ev eb
  subst ev eb
  obtain ⟨u, hu⟩ : ∃ u, u = World.grew (w.alloc (.cells #[.int .i64 0, .int .i64 0, .slice none 0 0] 53)) os m := ⟨_, rfl⟩
  rw [← hu] at ho hb1 ⊢
  have k : Gr w u := by rw [hu]; exact (by (try show Gr _ _); repeat (with_reducible first | exact Gr.refl _ | refine Gr.drewN ?_ _ | refine Gr.grew ?_ _ _ | refine Gr.alloc ?_ _ | refine Gr.drew ?_))
  have B0 : Blk u w.heap.size [.int .i64 0, .int .i64 0, .slice none 0 0] 53 := by rw [hu]; exact (by repeat (with_reducible first | assumption | exact Blk.atNew (by simp) | refine Blk.alloc ?_ _ | refine Blk.grew ?_ _ _ | refine Blk.drewN ?_ _ | refine Blk.drew ?_))
  clear hf hu hb
  obtain ⟨a0, c0', rfl, -, -⟩ := ho.sl' 0 rfl
  have q0 := hb1.cellv 0
  have q1 := hb1.cellv 1
  have q2 := hb1.cellv 2
  have z0 := hb1.frozen 0
  have z1 := hb1.frozen 1
  have z2 := hb1.frozen 2
  have Hb := Lib.hid hb1
  have HB0 := Lib.hid B0
  have Ho := Lib.hid ho
  have K := Lib.hid k
  have HL := Lib.hid hl
  clear hb1 B0 ho k c0 c1 hl
  go_upto_region 2 with fail
  obtain ⟨u2, hu2⟩ : ∃ u2, u2 = ((u.setCell ⟨b, 0, none⟩ (.int .i64 U)).setCell ⟨b, 1, none⟩ (.int .i64 V)).setCell ⟨b, 2, none⟩ (.slice a0 0 c0') := ⟨_, rfl⟩
  rw [← hu2]
  have hl := HL.out
  have hb2 : Blk u2 b [.int .i64 U, .int .i64 V, .slice a0 0 c0'] 53 := by rw [hu2]; exact ((Hb.out.set (i := 0) _).set (i := 1) _).set (i := 2) _
  have k2 : Gr w u2 := by rw [hu2]; exact ((K.out.setCell (by show w.heap.size ≤ b; omega) _).setCell (by show w.heap.size ≤ b; omega) _).setCell (by show w.heap.size ≤ b; omega) _
  have hb0 : Blk u2 w.heap.size [.int .i64 0, .int .i64 0, .slice none 0 0] 53 := by rw [hu2]; exact ((HB0.out.setOther _ (by show b ≠ _; omega)).setOther _ (by show b ≠ _; omega)).setOther _ (by show b ≠ _; omega)
  have ho2 : FOwn u2 (w.heap.size + 1) 25 (.slice a0 0 c0') [] := by
    rw [hu2]
    have h1 := Ho.out.setBlk (i := 0) (u := .int .i64 U) Hb.out (by decide)
    have h2 := h1.setBlk (i := 1) (u := .int .i64 V) (Hb.out.set (i := 0) _) (by decide)
    exact h2.setBlk (i := 2) ((Hb.out.set (i := 0) _).set (i := 1) _) (by decide)
  clear hu2 Hb K HB0 Ho q0 q1 q2 z0 z1 z2
  have Hb2 := Lib.hid hb2
  have Hb0 := Lib.hid hb0
  have Ho2 := Lib.hid ho2
  have K2 := Lib.hid k2
  have Hl : Hid (w.heap.size + 1 ≤ b + 1) := by show _ ≤ _; omega
  clear hb2 hb0 ho2 k2 hl
  go_wp2
  go_loopw [4] (fun i wr => ∃ y : Nat, y ≤ V ∧ i = .int .i64 y ∧ ∃ v, Blk wr b [.int .i64 U, .int .i64 V, v] 53 ∧ Blk wr w.heap.size [.int .i64 0, .int .i64 0, .slice none 0 0] 53 ∧ FOwn wr (w.heap.size + 1) 25 v (grid U (gHalfAt ps W H) (0 + U * y)) ∧ Gr w wr) (fun i _ => V - (intOf i).toNat)
  case atStart => exact ⟨0, Nat.zero_le _, rfl, _, Hb2.out, Hb0.out, Ho2.out, K2.out⟩
  case round =>
    clear Hb2 Hb0 K2 Ho2
    obtain ⟨y, hy, rfl, v, hb, hb0, ho, hg⟩ := hrel
    have p1 := hb.cellv 1
    by_cases hyt : y < V
    · have Hb := Lib.hid hb
      have Hb0 := Lib.hid hb0
      have Ho := Lib.hid ho
      have Hg := Lib.hid hg
      clear hb hb0 ho hg
      go_wp2
      clear p1
      go_loopw [5] (fun i wx => ∃ x : Nat, x ≤ U ∧ i = .int .i64 x ∧ ∃ v, Blk wx b [.int .i64 U, .int .i64 V, v] 53 ∧ Blk wx w.heap.size [.int .i64 0, .int .i64 0, .slice none 0 0] 53 ∧ FOwn wx (w.heap.size + 1) 25 v (grid U (gHalfAt ps W H) (x + U * y)) ∧ Gr w wx) (fun i _ => U - (intOf i).toNat)
      case atStart => exact ⟨0, Nat.zero_le _, rfl, v, Hb.out.gr (by (try show Gr _ _); repeat (with_reducible first | exact Gr.refl _ | refine Gr.drewN ?_ _ | refine Gr.grew ?_ _ _ | refine Gr.alloc ?_ _ | refine Gr.drew ?_)), Hb0.out.gr (by (try show Gr _ _); repeat (with_reducible first | exact Gr.refl _ | refine Gr.drewN ?_ _ | refine Gr.grew ?_ _ _ | refine Gr.alloc ?_ _ | refine Gr.drew ?_)), Ho.out.gr (by (try show Gr _ _); repeat (with_reducible first | exact Gr.refl _ | refine Gr.drewN ?_ _ | refine Gr.grew ?_ _ _ | refine Gr.alloc ?_ _ | refine Gr.drew ?_)), Hg.out.trans (by (try show Gr _ _); repeat (with_reducible first | exact Gr.refl _ | refine Gr.drewN ?_ _ | refine Gr.grew ?_ _ _ | refine Gr.alloc ?_ _ | refine Gr.drew ?_))⟩
      case round =>
        clear Hb Hb0 Ho Hg
        obtain ⟨x, hx, rfl, v, hb, hb0, ho, hg⟩ := hrel
        have p0 := hb.cellv 0
        by_cases hxt : x < U
        · have hl := cell_lt hxt hyt
          have p2 := hb.cellv 2
          have eG := Lib.hid (show gHalfAt ps W H x y = fop .mul .f32 1048576000 (gSum4 ps W H x y) from (quarter _).symm)
          have Hb := Lib.hid hb
          have Hb0 := Lib.hid hb0
          have Ho := Lib.hid ho
          have Hg := Lib.hid hg
          clear hb hb0 ho hg
          go_wp2_with (first
            | (go_at_call 127; (with_reducible refine (HA.out _ (Hg.out.trans (by (try show Gr _ _); repeat (with_reducible first | exact Gr.refl _ | refine Gr.drewN ?_ _ | refine Gr.grew ?_ _ _ | refine Gr.alloc ?_ _ | refine Gr.drew ?_))) _ _).mono ?_); rintro e w' ⟨r, rfl, hr, n, rfl⟩)
                | ((with_reducible apply wpList_fop); (case hw => rfl); (case hop => rfl); (case hx => rfl); (case hy => rfl); (case hA => (first | assumption | exact FE.ofInt _ _ | exact FE.lit (by decide +kernel))); (case hB => (first | assumption | exact FE.ofInt _ _ | exact FE.lit (by decide +kernel))); intro r n hr)
                | ((with_reducible apply wpList_fcmp); (case hw => rfl); (case hop => rfl); (case hx => rfl); (case hy => rfl); (case hA => (first | assumption | exact FE.ofInt _ _ | exact FE.lit (by decide +kernel))); (case hB => (first | assumption | exact FE.ofInt _ _ | exact FE.lit (by decide +kernel))); (case hb => (first | assumption | rfl)))
                | ((with_reducible apply wpList_widen); (case hw => rfl); (case hs => exact Try.underlying25); (case hd => exact Try.underlying61); (case hx => rfl); (case hA => (first | assumption | exact FE.ofInt _ _ | exact FE.lit (by decide +kernel))); intro r n hr)
                | ((with_reducible apply wpList_fneg); (case hw => rfl); (case hx => rfl); (case hA => (first | assumption | exact FE.ofInt _ _ | exact FE.lit (by decide +kernel))); intro r hr)
            | (refine wpList_append_f rfl rfl i0 Try.underlying22 hi hz0 hz1 hz2 rfl (Ho.out.gr (by (try show Gr _ _); repeat (with_reducible first | exact Gr.refl _ | refine Gr.drewN ?_ _ | refine Gr.grew ?_ _ _ | refine Gr.alloc ?_ _ | refine Gr.drew ?_))) rfl ((Blk.atNew rfl).cellv 0 rfl) (by assumption) (by simp <;> omega) (by have := Hb.out.lt; have := Hl.out; simp <;> omega) ?_
               intro v1 w1 ho1 hg1
               obtain ⟨a1, c1, rfl, -, -⟩ := ho1.sl' (x + U * y + 1) (by simp)
               obtain ⟨hb1, P, ho2⟩ := pushed_step (i := 2) (u := .slice a1 (x + U * y + 1) c1) Hb.out Ho.out (by (try show Gr _ _); repeat (with_reducible first | exact Gr.refl _ | refine Gr.drewN ?_ _ | refine Gr.grew ?_ _ _ | refine Gr.alloc ?_ _ | refine Gr.drew ?_)) hg1 ho1 (by decide)
               have q2 := hb1.cellv 2
               have z2 := hb1.frozen 2
               have Hb2 := Lib.hid hb1
               have Ho2 := Lib.hid ho2
               have HP := Lib.hid P
               clear hg1 hb1 ho1 ho2 P))
          go_roundw
          case rel => have hlb := HL.out; exact ⟨x + 1, by omega, by go_num, _, Hb2.out.set _, HP.out.blk Hb0.out (by omega) (by omega), by rw [← grid_succ hxt, eG.out]; exact Ho2.out, HP.out.gr Hg.out (by omega) (by omega)⟩
          case measure => simp [intOf]; omega
        · obtain rfl : x = U := by omega
          have Hb := Lib.hid hb
          have Hb0 := Lib.hid hb0
          have Ho := Lib.hid ho
          have Hg := Lib.hid hg
          clear hb hb0 ho hg
          go_wp2
          go_roundw
          case rel => exact ⟨y + 1, by omega, by go_num, v, Hb.out, Hb0.out, by rw [← grid_row]; exact Ho.out, Hg.out⟩
          case measure => simp [intOf]; omega
    · obtain rfl : y = V := by omega
      clear p1
      have p0 := hb.cellv 0
      have p1 := hb.cellv 1
      have p2 := hb.cellv 2
      have q0 := hb0.cellv 0
      have q1 := hb0.cellv 1
      have q2 := hb0.cellv 2
      have z0 := hb0.frozen 0
      have z1 := hb0.frozen 1
      have z2 := hb0.frozen 2
      obtain ⟨a1, c1, rfl, -, -⟩ := ho.sl' (U * y) (by simp)
      have Ho := Lib.hid ho
      have Hg := Lib.hid hg
      clear hb hb0 ho hg
      go_wp2
      refine bodyPost_ret (v := .agg #[.int .i64 U, .int .i64 y, .slice a1 (U * y) c1]) (by simp [results, Try.results101, go_sem, *]) rfl ⟨⟨_, rfl, ?_⟩, ?_⟩
      · have h := Ho.out
        rw [Nat.zero_add] at h
        exact FOwn.base (B := w.heap.size + 1) (by repeat (with_reducible first | assumption | refine FOwn.setOther ?_ _ (by simp <;> omega))) (by omega)
      · have h := Hg.out
        exact (by repeat (with_reducible first | assumption | refine Gr.setCell ?_ (by simp <;> omega) _))
set_option maxRecDepth 20000 in
set_option maxHeartbeats 1000000 in
theorem I_halved_1 (W H x y b1 ca : Nat) (a : Option Addr) (ps : List Nat) (w : World) (m1 : MP w b1 W H a ps.length ca ps) (hW0 : 1 ≤ W) (hH0 : 1 ≤ H) (hW : W ≤ 24) (hH : H ≤ 24) (hl : ps.length = W * H) (hx : x < 24) (hy : y < 24) :
    Calls Try.prog 108 #[.int .i64 x, .int .i64 y, .pointer (some ⟨b1, 0, none⟩)] w fun e w' => (∃ r, e = .returned (.float .f32 r) ∧ FE .f32 r (gHalfAt ps W H x y)) ∧ Gr w w' := by
  have HA := Lib.hid (fun (u : World) (g : Gr w u) (x y : Int) => (I_Picture_about W H b1 x y a ca ps u (m1.gr g) hW0 hH0 hW hH hl : Calls Try.prog 106 #[.pointer (some ⟨b1, 0, none⟩), .int .i64 x, .int .i64 y] u fun e w' => ∃ r, e = .returned (.float .f32 r) ∧ FE .f32 r (gAb ps W H x y) ∧ ∃ n, w' = u.drewN n))
  have hq : FE .f32 1082130432 1082130432 := FE.lit (by decide +kernel)
  clear m1 hl
  go_enter Try.func108, Try.ntmps108
  go_wp2_with (first
      | (go_at_call 106; (with_reducible refine (HA.out _ (by (try show Gr _ _); repeat (with_reducible first | exact Gr.refl _ | refine Gr.drewN ?_ _ | refine Gr.grew ?_ _ _ | refine Gr.alloc ?_ _ | refine Gr.drew ?_)) _ _).mono ?_); rintro e w' ⟨r, rfl, hr, n, rfl⟩)
      | ((with_reducible apply wpList_fop); (case hw => rfl); (case hop => rfl); (case hx => rfl); (case hy => rfl); (case hA => (first | assumption | exact FE.ofInt _ _ | exact FE.lit (by decide +kernel))); (case hB => (first | assumption | exact FE.ofInt _ _ | exact FE.lit (by decide +kernel))); intro r n hr)
      | ((with_reducible apply wpList_fcmp); (case hw => rfl); (case hop => rfl); (case hx => rfl); (case hy => rfl); (case hA => (first | assumption | exact FE.ofInt _ _ | exact FE.lit (by decide +kernel))); (case hB => (first | assumption | exact FE.ofInt _ _ | exact FE.lit (by decide +kernel))); (case hb => (first | assumption | rfl)))
      | ((with_reducible apply wpList_widen); (case hw => rfl); (case hs => exact Try.underlying25); (case hd => exact Try.underlying61); (case hx => rfl); (case hA => (first | assumption | exact FE.ofInt _ _ | exact FE.lit (by decide +kernel))); intro r n hr)
      | ((with_reducible apply wpList_fneg); (case hw => rfl); (case hx => rfl); (case hA => (first | assumption | exact FE.ofInt _ _ | exact FE.lit (by decide +kernel))); intro r hr))
  go_ret
  exact ⟨⟨_, rfl, by unfold gHalfAt gSum4; assumption⟩, (by (try show Gr _ _); repeat (with_reducible first | exact Gr.refl _ | refine Gr.drewN ?_ _ | refine Gr.grew ?_ _ _ | refine Gr.alloc ?_ _ | refine Gr.drew ?_))⟩
theorem tells_halved (W H b1 ca : Nat) (a : Option Addr) (ps : List Nat) (w : World) (m1 : MP w b1 W H a ps.length ca ps) (hW0 : 1 ≤ W) (hH0 : 1 ≤ H) (hW : W ≤ 24) (hH : H ≤ 24) (hl : ps.length = W * H) :
    Tells w 108 #[.pointer (some ⟨b1, 0, none⟩)] ((W + 1) / 2) ((H + 1) / 2) (gHalfAt ps W H) :=
  ⟨Try.call108, fun x y hx hy w1 g => I_halved_1 W H x y b1 ca a ps w1 (m1.gr g) hW0 hH0 hW hH hl (by omega) (by omega)⟩
set_option maxRecDepth 20000 in
set_option maxHeartbeats 1000000 in
theorem I_halved (W H ca : Nat) (a : Option Addr) (ps : List Nat) (w : World) (fx : FSl w a ps.length ps) (hW0 : 1 ≤ W) (hH0 : 1 ≤ H) (hW : W ≤ 24) (hH : H ≤ 24) (hl : ps.length = W * H) :
    Calls Try.prog 64 #[.agg #[.int .i64 W, .int .i64 H, .slice a ps.length ca]] w fun e w' => (∃ v, e = .returned (.agg #[.int .i64 (((W + 1) / 2 : Nat) : Int), .int .i64 (((H + 1) / 2 : Nat) : Int), v]) ∧ FOwn w' w.heap.size 25 v (grid ((W + 1) / 2) (gHalfAt ps W H) ((W + 1) / 2 * ((H + 1) / 2)))) ∧ Gr w w' := by
  have HM := fun (u : World) (m : MP u w.heap.size W H a ps.length ca ps) => I_made ((W + 1) / 2) ((H + 1) / 2) (gHalfAt ps W H) 108 #[.pointer (some ⟨w.heap.size, 0, none⟩)] u (tells_halved W H w.heap.size ca a ps u m hW0 hH0 hW hH hl) (by omega) (by omega) (by omega) (by omega)
  have HU1 := fun (u : World) => I_halfUp W u hW
  have HU2 := fun (u : World) => I_halfUp H u hH
  obtain ⟨U, hU⟩ : ∃ U, U = (W + 1) / 2 := ⟨_, rfl⟩
  obtain ⟨V, hV⟩ : ∃ V, V = (H + 1) / 2 := ⟨_, rfl⟩
  rw [← hU, ← hV] at HM ⊢
  rw [← hU] at HU1
  rw [← hV] at HU2
  have HM := Lib.hid HM
  have HU1 := Lib.hid HU1
  have HU2 := Lib.hid HU2
  have Fx := Lib.hid fx
  clear hU hV fx hl
  go_enter Try.func64, Try.ntmps64
  go_wp2
  go_region_held3 (fun w' => w'.cell? ⟨w.heap.size, 0, none⟩ = some (.int .i64 W) ∧ w'.cell? ⟨w.heap.size, 1, none⟩ = some (.int .i64 H))
      (first | (simp (maxDischargeDepth := 12) [go_sem]; done) | (simp (maxDischargeDepth := 12) [go_sem, *]; done)) (first
      | (go_at_call 65; (with_reducible refine (HU1.out _).mono ?_); rintro e w' ⟨rfl, hw⟩; obtain rfl := hw.symm)
      | (go_at_call 65; (with_reducible refine (HU2.out _).mono ?_); rintro e w' ⟨rfl, hw⟩; obtain rfl := hw.symm)
      | (go_at_call 107; refine (HM.out _ ⟨(by first | (simp (maxDischargeDepth := 12) [go_sem]; done) | (simp (maxDischargeDepth := 12) [go_sem, *]; done)), (by first | (simp (maxDischargeDepth := 12) [go_sem]; done) | (simp (maxDischargeDepth := 12) [go_sem, *]; done)), (by first | (simp (maxDischargeDepth := 12) [go_sem]; done) | (simp (maxDischargeDepth := 12) [go_sem, *]; done)), Fx.out.keep (by (repeat (with_reducible first | exact Kp.refl _ | exact kp_same | exact kp_app1 | exact kp_app2 | exact kp_app3 | refine Kp.grew ?_ _ _ | refine Kp.drewN ?_ _ | refine Kp.drew ?_ | refine Kp.alloc ?_ _)))⟩).mono ?_; rintro e u1 ⟨⟨v, rfl, ho⟩, g⟩; obtain ⟨a1, c1, rfl, -, -⟩ := ho.sl' (U * V) (by simp); have B2 := Lib.hid (Blk.gr (show Blk _ (w.heap.size + 1) [.int .i64 0, .int .i64 0, .slice none 0 0] 53 from (by repeat (with_reducible first | assumption | exact Blk.atNew (by simp) | refine Blk.alloc ?_ _ | refine Blk.grew ?_ _ _ | refine Blk.drewN ?_ _ | refine Blk.drew ?_))) g); have G1 := Lib.hid (Gr.trans (show Gr w _ from (by (try show Gr _ _); repeat (with_reducible first | exact Gr.refl _ | refine Gr.drewN ?_ _ | refine Gr.grew ?_ _ _ | refine Gr.alloc ?_ _ | refine Gr.drew ?_))) g); have Ho := Lib.hid ho; have q0 := B2.out.cellv 0; have q1 := B2.out.cellv 1; have q2 := B2.out.cellv 2; have z0 := B2.out.frozen 0; have z1 := B2.out.frozen 1; have z2 := B2.out.frozen 2; have BZ := (Blk.gr (show Blk _ w.heap.size [.int .i64 W, .int .i64 H, .slice a ps.length ca] 53 from (by repeat (with_reducible first | assumption | exact Blk.atNew (by simp) | refine Blk.alloc ?_ _ | refine Blk.grew ?_ _ _ | refine Blk.drewN ?_ _ | refine Blk.drew ?_))) g); have y0 := BZ.cellv 0; have y1 := BZ.cellv 1; clear g ho BZ))
  all_goals
    go_wp2
    refine bodyPost_ret (v := .agg #[.int .i64 U, .int .i64 V, .slice a1 (U * V) c1]) (by simp [results, Try.results64, go_sem, *]) rfl ⟨⟨_, rfl, ?_⟩, ?_⟩
    · have h := Ho.out.base (B' := w.heap.size + 1 + 1) (by simp)
      exact FOwn.base (B := w.heap.size + 1 + 1) (by repeat (with_reducible first | assumption | refine FOwn.setOther ?_ _ (by simp <;> omega))) (by omega)
    · have h := G1.out
      exact (by repeat (with_reducible first | assumption | refine Gr.setCell ?_ (by simp <;> omega) _))
end Go.Proofs.Ytomlfdkcgaogcaa
