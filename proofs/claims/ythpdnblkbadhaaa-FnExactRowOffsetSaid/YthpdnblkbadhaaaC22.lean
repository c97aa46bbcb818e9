/- Contracts: rows of a picture. MAXREC -/
import Derived.Test.YthpdnblkbadhaaaProg
import Derived.Test.YthpdnblkbadhaaaC19
import Derived.Test.YthpdnblkbadhaaaC13
import Derived.Test.YthpdnblkbadhaaaC9
namespace Go.Proofs.Ythpdnblkbadhaaa
open Go.RowKit Go.Fx Go.Soft
set_option maxRecDepth 20000 in
set_option maxHeartbeats 1000000 in
theorem I_Picture_about (W H b : Nat) (x y : Int) (a : Option Addr) (cap : Nat) (xs : List Nat) (w : World) (hm : MP w b W H a xs.length cap xs) (hW0 : 1 ≤ W) (hH0 : 1 ≤ H) (hW : W ≤ 24) (hH : H ≤ 24) (hn : xs.length = W * H) :
    Calls Try.prog 70 #[.pointer (some ⟨b, 0, none⟩), .int .i64 x, .int .i64 y] w fun e w' => ∃ r, e = .returned (.float .f32 r) ∧ FE .f32 r (xs.getD (clampN x W + W * clampN y H) 0) ∧ ∃ n, w' = w.drewN n := by
  have hu := clampN_lt (n := x) hW0
  have hv := clampN_lt (n := y) hH0
  have C1 := Lib.hid (fun w => I_clamp x W w hW0 (by omega))
  have C2 := Lib.hid (fun w => I_clamp y H w hH0 (by omega))
  generalize clampN x W = u at *
  generalize clampN y H = v at *
  obtain ⟨e1, e2⟩ := wrap_cell (W := W) (x := u) (y := v) (by omega) hW (by omega)
  have hl : u + W * v < xs.length := by rw [hn]; exact cell_lt hu hv
  have h24 : W * H ≤ 576 := Nat.mul_le_mul hW hH
  have c0 := hm.c0
  have c1 := hm.c1
  have c2 := hm.c2
  obtain ⟨b', off, rfl⟩ := hm.fs.ptr (by omega)
  obtain ⟨r, hc, hr⟩ := hm.fs.get (u + W * v) hl
  clear hm
  go_enter Try.func70, Try.ntmps70
  go_wp2
  apply region_drew 24
  case hm => kernel_rfl
  case hB => kernel_rfl
  simp only [List.take_succ_cons, List.take_zero, List.drop_succ_cons, List.drop_zero]
  repeat (first
    | ((with_reducible apply wpSoft_calleq (f := 85)); (case hw => rfl); (case hc => exact Try.call85); (case hv => ((conv => lhs; simp [Act.eval]); try rfl)); (case hS => (rintro _ ⟨m, rfl⟩; with_reducible refine (C1.out _).mono ?_; rintro e w' ⟨rfl, rfl⟩; exact ⟨rfl, _, rfl⟩)); (simp only [Act.put, List.setIfInBounds_toArray, List.set_cons_succ, List.set_cons_zero]))
    | ((with_reducible apply wpSoft_calleq (f := 85)); (case hw => rfl); (case hc => exact Try.call85); (case hv => ((conv => lhs; simp [Act.eval]); try rfl)); (case hS => (rintro _ ⟨m, rfl⟩; with_reducible refine (C2.out _).mono ?_; rintro e w' ⟨rfl, rfl⟩; exact ⟨rfl, _, rfl⟩)); (simp only [Act.put, List.setIfInBounds_toArray, List.set_cons_succ, List.set_cons_zero]))
    | (apply wpSoft_skip rfl; simp only [Act.put, List.setIfInBounds_toArray, List.set_cons_succ, List.set_cons_zero])
    | (apply wpSoft_nilCheck rfl rfl; simp only [Act.put, List.setIfInBounds_toArray, List.set_cons_succ, List.set_cons_zero])
    | ((with_reducible apply wpSoft_fop); (case hw => rfl); (case hD => exact closed_drew); (case hop => rfl); (case hx => rfl); (case hy => rfl); (case hA => (first | assumption | exact FE.ofInt _ _ | exact FE.lit (by decide +kernel))); (case hB => (first | assumption | exact FE.ofInt _ _ | exact FE.lit (by decide +kernel))); (intro r hr; simp only [Act.put, List.setIfInBounds_toArray, List.set_cons_succ, List.set_cons_zero]))

    | ((with_reducible apply wpSoft_widen); (case hw => rfl); (case hD => exact closed_drew); (case hs => exact Try.underlying37); (case hd => exact Try.underlying63); (case hx => rfl); (case hA => (first | assumption | exact FE.ofInt _ _ | exact FE.lit (by decide +kernel))); (intro r hr; simp only [Act.put, List.setIfInBounds_toArray, List.set_cons_succ, List.set_cons_zero]))
    | ((with_reducible apply wpSoft_fneg); (case hw => rfl); (case hx => rfl); (case hA => (first | assumption | exact FE.ofInt _ _ | exact FE.lit (by decide +kernel))); (intro r hr; simp only [Act.put, List.setIfInBounds_toArray, List.set_cons_succ, List.set_cons_zero]))
    | ((with_reducible apply wpSoft_fcmp); (case hw => rfl); (case hop => rfl); (case hx => rfl); (case hy => rfl); (case hA => (first | assumption | exact FE.ofInt _ _ | exact FE.lit (by decide +kernel))); (case hB => (first | assumption | exact FE.ofInt _ _ | exact FE.lit (by decide +kernel))); (case hb => (first | assumption | rfl)); simp only [Act.put, List.setIfInBounds_toArray, List.set_cons_succ, List.set_cons_zero])
    | (apply wpSoft_q rfl rfl; intro K hK; go_big_quiet_op; go_big_quiet_on))
  with_reducible apply wpSoft_nil
  intro m
  go_wp2
  go_ret
  exact ⟨_, rfl, hr, (by first | exact ⟨0, rfl⟩ | exact ⟨_, rfl⟩)⟩
theorem gTile_true {h f c : Int} (H : gTile h f c = true) : 0 ≤ f ∧ f < h ∧ 1 ≤ c ∧ c ≤ h - f := by
  simp only [gTile, Bool.and_eq_true] at H
  have a := gIn_true H.1
  have b := gIn_true H.2
  omega
set_option maxRecDepth 20000 in
set_option maxHeartbeats 1000000 in
theorem I_RowsOf_1 (W H x y b1 b2 ca f : Nat) (a : Option Addr) (xs : List Nat) (w : World) (m1 : MP w b1 W H a xs.length ca xs) (c0 : w.cell? ⟨b2, 0, none⟩ = some (.int .i64 f))
    (hW : W ≤ 24) (hH : H ≤ 24) (hx : x < W) (hy : y + f < H) (hn : xs.length = W * H) :
    Calls Try.prog 69 #[.int .i64 x, .int .i64 y, .pointer (some ⟨b1, 0, none⟩), .pointer (some ⟨b2, 0, none⟩)] w fun e w' => (∃ r, e = .returned (.float .f32 r) ∧ FE .f32 r (xs.getD (x + W * (y + f)) 0)) ∧ Gr w w' := by
  have HA := I_Picture_about W H b1 (x : Int) ((y : Int) + (f : Int)) a ca xs w m1 (by omega) (by omega) hW hH hn
  rw [clampN_in hx, show clampN ((y : Int) + (f : Int)) H = y + f by rw [show (y : Int) + (f : Int) = ((y + f : Nat) : Int) by simp]; exact clampN_in hy] at HA
  have HA := Lib.hid HA
  have Hn := Lib.hid hn
  clear m1 hn
  go_enter Try.func69, Try.ntmps69
  go_wp2_with (first
      | (go_at_call 70; refine HA.out.mono ?_; rintro e w' ⟨r, rfl, hr, n, rfl⟩))
  go_ret
  exact ⟨⟨_, rfl, hr⟩, (by (try show Gr _ _); repeat (with_reducible first | exact Gr.refl _ | refine Gr.drewN ?_ _ | refine Gr.grew ?_ _ _ | refine Gr.alloc ?_ _ | refine Gr.drew ?_))⟩
set_option maxRecDepth 20000 in
set_option maxHeartbeats 1000000 in
theorem S_l07Rows (W H f c b1 b2 ca : Nat) (a : Option Addr) (xs : List Nat) (w : World) (m1 : MP w b1 W H a xs.length ca xs) (c0 : w.cell? ⟨b2, 0, none⟩ = some (.int .i64 f)) (c1 : w.cell? ⟨b2, 1, none⟩ = some (.int .i64 c))
    (hW0 : 1 ≤ W) (hc : 1 ≤ c) (hW : W ≤ 24) (hH : H ≤ 24) (hfc : f + c ≤ H) (hn : xs.length = W * H) (hca : xs.length ≤ ca) :
    Calls Try.prog 66 #[.pointer (some ⟨b1, 0, none⟩), .pointer (some ⟨b2, 0, none⟩)] w fun e w' => (∃ v, e = .returned (.agg #[.int .i64 W, .int .i64 c, v]) ∧ FOwn w' w.heap.size 37 v (lst (W * c) fun i => xs.getD (W * f + i) 0)) ∧ Gr w w' := by
  obtain ⟨i0, hi, hz0, hz1, hz2⟩ := info_parts info_float32
  have p0 := m1.c0
  have p2 := m1.c2
  have M1 := Lib.hid m1
  clear m1
  go_enter Try.func66, Try.ntmps66
  go_wp2
  apply region_facts 10 [8, 9] (fun k v w' => (k = 8 → ∃ v', v = .agg #[.int .i64 W, .int .i64 c, v'] ∧ FOwn w' (w.heap.size + 1) 37 v' []) ∧ (k = 9 → ∃ b, v = .pointer (some ⟨b, 0, none⟩) ∧ w.heap.size + 1 ≤ b ∧ Blk w' b [.int .i64 0, .int .i64 0, .slice none 0 0] 28))
  case hm => kernel_rfl
  case hB => kernel_rfl
  case hR => rfl
  case hP => (intro k hk v w1 w2 hg hv; exact ⟨fun h => (by obtain ⟨v', e, ho⟩ := hv.1 h; exact ⟨v', e, ho.gr hg⟩), fun h => (by obtain ⟨b, e, hl, hb⟩ := hv.2 h; exact ⟨b, e, hl, hb.gr hg⟩)⟩)
  simp only [List.take_succ_cons, List.take_zero, List.drop_succ_cons, List.drop_zero]
  repeat (first
    | ((with_reducible apply wpF_call (f := 125) (S := fun v => ∃ a', v = .agg #[.int .i64 W, .int .i64 c, a'])); (case hw => rfl); (case hc => exact Try.call125); (case hv => ((conv => lhs; simp [Act.eval]); try rfl)); (case hS => (intro os m _; refine (S_l02New W c _).mono ?_; rintro e w' ⟨⟨v', rfl, ho⟩, g⟩; exact ⟨_, rfl, g, fun _ => ⟨fun _ => ⟨v', rfl, ho.base (by simp)⟩, fun h => absurd h (by decide)⟩, v', rfl⟩)); (case hne => exact ⟨_, .slice none 0 0, rfl⟩); (rintro v ⟨vq, rfl⟩; simp only [Act.put, List.setIfInBounds_toArray, List.set_cons_succ, List.set_cons_zero]))
    | ((with_reducible apply wpF_new (c := #[.int .i64 0, .int .i64 0, .slice none 0 0]) (e := 28) (fun b => .pointer (some ⟨b, 0, none⟩))); (case hw => rfl); (case hx => (intro w; simp [execOp, go_sem]; done)); (case hF => (intro w' b hb hc _; exact ⟨fun h => absurd h (by decide), fun _ => ⟨b, rfl, by simpa using hb, ⟨hc⟩⟩⟩)); (intro b hb; simp only [Act.put, List.setIfInBounds_toArray, List.set_cons_succ, List.set_cons_zero]))
    | (apply wpF_skip rfl (by decide); simp only [Act.put, List.setIfInBounds_toArray, List.set_cons_succ, List.set_cons_zero])
    | (apply wpF_nilCheck rfl (by decide) rfl; simp only [Act.put, List.setIfInBounds_toArray, List.set_cons_succ, List.set_cons_zero])
    | ((with_reducible apply wpF_fop); (case hw => rfl); (case hT => decide); (case hop => rfl); (case hx => rfl); (case hy => rfl); (case hA => (first | assumption | exact FE.ofInt _ _ | exact FE.lit (by decide +kernel))); (case hB => (first | assumption | exact FE.ofInt _ _ | exact FE.lit (by decide +kernel))); (intro r hr; simp only [Act.put, List.setIfInBounds_toArray, List.set_cons_succ, List.set_cons_zero]))
    | ((with_reducible apply wpF_fneg); (case hw => rfl); (case hT => decide); (case hx => rfl); (case hA => (first | assumption | exact FE.ofInt _ _ | exact FE.lit (by decide +kernel))); (intro r hr; simp only [Act.put, List.setIfInBounds_toArray, List.set_cons_succ, List.set_cons_zero]))
    | ((with_reducible apply wpF_fcmp); (case hw => rfl); (case hT => decide); (case hop => rfl); (case hx => rfl); (case hy => rfl); (case hA => (first | assumption | exact FE.ofInt _ _ | exact FE.lit (by decide +kernel))); (case hB => (first | assumption | exact FE.ofInt _ _ | exact FE.lit (by decide +kernel))); (case hb => (first | assumption | rfl)); simp only [Act.put, List.setIfInBounds_toArray, List.set_cons_succ, List.set_cons_zero])
    | (apply wpF_q rfl (by decide) rfl; intro K hK; go_big_quiet_op; go_big_quiet_on))
  with_reducible apply wpF_nil
  intro os m hf
  obtain ⟨v', ev, ho⟩ := hf.1.1 rfl
  obtain ⟨b', eb, hl, hb1⟩ := hf.2.1.2 rfl
  simp at ev eb
  subst ev eb
  obtain ⟨u, hu⟩ : ∃ u, u = World.grew (w.alloc (.cells #[.int .i64 0, .int .i64 0, .slice none 0 0] 28)) os m := ⟨_, rfl⟩
  rw [← hu] at ho hb1 ⊢
  have k : Gr w u := by rw [hu]; exact (by (try show Gr _ _); repeat (with_reducible first | exact Gr.refl _ | refine Gr.drewN ?_ _ | refine Gr.grew ?_ _ _ | refine Gr.alloc ?_ _ | refine Gr.drew ?_))
  have B0 : Blk u w.heap.size [.int .i64 0, .int .i64 0, .slice none 0 0] 28 := by rw [hu]; exact (by repeat (with_reducible first | assumption | exact Blk.atNew (by simp) | refine Blk.alloc ?_ _ | refine Blk.grew ?_ _ _ | refine Blk.drewN ?_ _ | refine Blk.drew ?_))
  clear hf hu hb
  obtain ⟨a0, cc, rfl, -, -⟩ := ho.sl' 0 rfl
  have q0 := hb1.cellv 0
  have q1 := hb1.cellv 1
  have q2 := hb1.cellv 2
  have z0 := hb1.frozen 0
  have z1 := hb1.frozen 1
  have z2 := hb1.frozen 2
  have Hb := Lib.hid hb1
  have HB0 := Lib.hid B0
  have Ho := Lib.hid ho
  have K := Lib.hid k
  clear hb1 B0 ho k
  go_wp2
  obtain ⟨u2, hu2⟩ : ∃ u2, u2 = ((u.setCell ⟨b, 0, none⟩ (.int .i64 W)).setCell ⟨b, 1, none⟩ (.int .i64 c)).setCell ⟨b, 2, none⟩ (.slice a0 0 cc) := ⟨_, rfl⟩
  rw [← hu2]
  have hb2 : Blk u2 b [.int .i64 W, .int .i64 c, .slice a0 0 cc] 28 := by rw [hu2]; exact ((Hb.out.set (i := 0) _).set (i := 1) _).set (i := 2) _
  have k2 : Gr w u2 := by rw [hu2]; exact ((K.out.setCell (by show w.heap.size ≤ b; omega) _).setCell (by show w.heap.size ≤ b; omega) _).setCell (by show w.heap.size ≤ b; omega) _
  have hb0 : Blk u2 w.heap.size [.int .i64 0, .int .i64 0, .slice none 0 0] 28 := by rw [hu2]; exact ((HB0.out.setOther _ (by show b ≠ _; omega)).setOther _ (by show b ≠ _; omega)).setOther _ (by show b ≠ _; omega)
  have ho2 : FOwn u2 (w.heap.size + 1) 37 (.slice a0 0 cc) [] := by
    rw [hu2]
    have h1 := Ho.out.setBlk (i := 0) (u := .int .i64 W) Hb.out (by decide)
    have h2 := h1.setBlk (i := 1) (u := .int .i64 c) (Hb.out.set (i := 0) _) (by decide)
    exact h2.setBlk (i := 2) ((Hb.out.set (i := 0) _).set (i := 1) _) (by decide)
  clear hu2 Hb K HB0 Ho q0 q1 q2 z0 z1 z2
  have d0 := k2.cell p0
  have d2 := k2.cell p2
  have e0 := k2.cell c0
  have e1 := k2.cell c1
  have p2 := hb2.cellv 2
  have hWf : W * f ≤ W * H := Nat.mul_le_mul_left _ (by omega)
  have hWfc : W * (f + c) ≤ W * H := Nat.mul_le_mul_left _ hfc
  have hWd : W * (f + c) = W * f + W * c := Nat.mul_add ..
  have hWc : 0 < W * c := Nat.mul_pos hW0 hc
  have h24 : W * H ≤ 576 := Nat.mul_le_mul hW hH
  obtain ⟨L, hL⟩ : ∃ L, L = W * f := ⟨_, rfl⟩
  obtain ⟨R, hR⟩ : ∃ R, R = W * (f + c) := ⟨_, rfl⟩
  have g1 : IntKind.i64.wrap ((W : Int) * (f : Int)) = (L : Int) := by rw [hL, Int.natCast_mul, ← Int.natCast_mul]; exact IntWalk.i64_in _ (by omega)
  have g3 : IntKind.i64.wrap ((W : Int) * ((f : Int) + (c : Int))) = (R : Int) := by rw [hR, ← Int.natCast_add, ← Int.natCast_mul]; exact IntWalk.i64_in _ (by omega)
  have hLR : L < R := by omega
  have hRx : R ≤ xs.length := by omega
  have hR6 : R ≤ 576 := by omega
  have FX : Hid (FSl u2 a xs.length xs) := M1.out.fs.keep k2.kp
  obtain ⟨bx, ox, rfl⟩ := FX.out.ptr (by omega)
  have HB := Lib.hid hb2
  have HB0 := Lib.hid hb0
  have Ho := Lib.hid ho2
  have K := Lib.hid k2
  have HRL : Hid (R = L + W * c) := by show R = L + W * c; omega
  have HL := Lib.hid hL
  clear hb2 hb0 ho2 k2 hn hWd p0 c0 c1 hL hR hWf hWfc hWc h24
  apply region_drew 30
  case hm => kernel_rfl
  case hB => kernel_rfl
  simp only [List.take_succ_cons, List.take_zero, List.drop_succ_cons, List.drop_zero]
  repeat (first
    | (apply wpSoft_skip rfl; simp only [Act.put, List.setIfInBounds_toArray, List.set_cons_succ, List.set_cons_zero])
    | (apply wpSoft_nilCheck rfl rfl; simp only [Act.put, List.setIfInBounds_toArray, List.set_cons_succ, List.set_cons_zero])
    | ((with_reducible apply wpSoft_fop); (case hw => rfl); (case hD => exact closed_drew); (case hop => rfl); (case hx => rfl); (case hy => rfl); (case hA => (first | assumption | exact FE.ofInt _ _ | exact FE.lit (by decide +kernel))); (case hB => (first | assumption | exact FE.ofInt _ _ | exact FE.lit (by decide +kernel))); (intro r hr; simp only [Act.put, List.setIfInBounds_toArray, List.set_cons_succ, List.set_cons_zero]))

    | ((with_reducible apply wpSoft_widen); (case hw => rfl); (case hD => exact closed_drew); (case hs => exact Try.underlying37); (case hd => exact Try.underlying63); (case hx => rfl); (case hA => (first | assumption | exact FE.ofInt _ _ | exact FE.lit (by decide +kernel))); (intro r hr; simp only [Act.put, List.setIfInBounds_toArray, List.set_cons_succ, List.set_cons_zero]))
    | ((with_reducible apply wpSoft_fneg); (case hw => rfl); (case hx => rfl); (case hA => (first | assumption | exact FE.ofInt _ _ | exact FE.lit (by decide +kernel))); (intro r hr; simp only [Act.put, List.setIfInBounds_toArray, List.set_cons_succ, List.set_cons_zero]))
    | ((with_reducible apply wpSoft_fcmp); (case hw => rfl); (case hop => rfl); (case hx => rfl); (case hy => rfl); (case hA => (first | assumption | exact FE.ofInt _ _ | exact FE.lit (by decide +kernel))); (case hB => (first | assumption | exact FE.ofInt _ _ | exact FE.lit (by decide +kernel))); (case hb => (first | assumption | rfl)); simp only [Act.put, List.setIfInBounds_toArray, List.set_cons_succ, List.set_cons_zero])
    | (apply wpSoft_q rfl rfl; intro K hK; go_big_quiet_op; go_big_quiet_on))
  with_reducible apply wpSoft_nil
  intro m
  have p0 := HB.out.cellv 0
  have p1 := HB.out.cellv 1
  have q0 := HB0.out.cellv 0
  have q1 := HB0.out.cellv 1
  have q2 := HB0.out.cellv 2
  have z0 := HB0.out.frozen 0
  have z1 := HB0.out.frozen 1
  have z2 := HB0.out.frozen 2
  have z3 := HB.out.frozen 2
  have ly : (lst (R - L) (fun i => xs.getD (L + i) 0)).length = R - L := by simp
  have HY : Hid (FSl (u2.drewN m) (some ⟨bx, ox + L, none⟩) (R - L) (lst (R - L) (fun i => xs.getD (L + i) 0))) := by
    refine ⟨ly.symm, fun i hi => ?_⟩
    obtain ⟨r, hc, hr⟩ := FX.out.get (L + i) (by rw [ly] at hi; omega)
    refine ⟨bx, ox + L, r, rfl, ?_, ?_⟩
    · rw [show ox + L + i = ox + (L + i) by omega]; exact hc
    · rw [lst_get]; exact hr
  have hne : ¬ b = w.heap.size := by omega
  have hne' : ¬ w.heap.size = b := by omega
  refine wpList_append_fs (ys := lst (R - L) (fun i => xs.getD (L + i) 0)) rfl rfl i0 Try.underlying22 hi hz0 hz1 hz2 rfl (Ho.out.gr (gr_drewN _ m)) (by rw [ly]; rfl) (by rw [ly]; exact HY.out) (by rw [ly]; omega) (by simp; omega) (by have := HB.out.lt; show _ ≤ u2.heap.size; omega) ?_
  intro v1 w1 ho1 hg1
  rw [List.nil_append] at ho1
  obtain ⟨a1, c1', rfl, -, -⟩ := ho1.sl' (R - L) ly
  obtain ⟨hb1, P, ho3⟩ := pushed_step (i := 2) (u := .slice a1 (R - L) c1') HB.out Ho.out (gr_drewN _ m) hg1 ho1 (by decide)
  have x0 := hb1.cellv 0
  have x1 := hb1.cellv 1
  have x2 := hb1.cellv 2
  have xz := hb1.frozen 2
  have hB0 : Blk w1 w.heap.size [.int .i64 0, .int .i64 0, .slice none 0 0] 28 :=
    (HB0.out.gr (gr_drewN _ m)).grown hg1 ((Ho.out.gr (gr_drewN _ m)).okb (.inr ((HB0.out.gr (gr_drewN _ m)).okb (by decide))))
  have y0 := hB0.cellv 0
  have y1 := hB0.cellv 1
  have y2 := hB0.cellv 2
  have yz0 := hB0.frozen 0
  have yz1 := hB0.frozen 1
  have yz2 := hB0.frozen 2
  have HP := Lib.hid P
  have Ho3 := Lib.hid ho3
  clear hb1 P ho3 hB0 ho1 hg1 q0 q1 q2 z0 z1 z2 z3 p0 p1 d0 d2 e0 e1
  go_wp2
  refine bodyPost_ret (v := .agg #[.int .i64 W, .int .i64 c, .slice a1 (R - L) c1']) (by simp [results, Try.results66, go_sem, *]) rfl ⟨⟨_, rfl, ?_⟩, ?_⟩
  · have h := Ho3.out
    rw [show W * c = R - L by have := HRL.out; omega, ← HL.out]
    exact FOwn.base (B := w.heap.size + 1) (by repeat (with_reducible first | assumption | refine FOwn.setOther ?_ _ (by simp <;> omega))) (by omega)
  · have h := HP.out.gr K.out (by omega) (by omega)
    exact (by repeat (with_reducible first | assumption | refine Gr.setCell ?_ (by simp <;> omega) _))
def gRows (xs : List Nat) (W f : Int) (i : Nat) : Nat := xs.getD ((W * f).toNat + i) 0
set_option maxRecDepth 20000 in
set_option maxHeartbeats 800000 in
theorem S_RowsOf (W H f c : Int) (a : Option Addr) (ca : Nat) (xs : List Nat) (w : World) (fx : FSl w a xs.length xs) (hca : xs.length ≤ ca) (hn : xs.length ≤ 1048576) :
    Calls Try.prog 16 #[.agg #[.int .i64 W, .int .i64 H, .slice a xs.length ca], .agg #[.int .i64 f, .int .i64 c]] w
      (PostP w (gW (gPic W H xs.length && gTile H f c) W) (gW (gPic W H xs.length && gTile H f c) c) (gPic W H xs.length && gTile H f c) (gVals (gPic W H xs.length && gTile H f c) (W * c).toNat (gRows xs W f))) := by
  have hn' : xs.length ≤ maxLen := by unfold maxLen; omega
  have Fx := Lib.hid fx
  clear fx
  cases hP : gPic W H xs.length
  · go_enter Try.func16, Try.ntmps16
    go_wp2_with (first
      | (go_at_call 64; with_reducible refine (S_l02Is W H a _ ca _ _ _ hn' (by first | (simp (maxDischargeDepth := 12) [go_sem]; done) | (simp (maxDischargeDepth := 12) [go_sem, *]; done)) (by first | (simp (maxDischargeDepth := 12) [go_sem]; done) | (simp (maxDischargeDepth := 12) [go_sem, *]; done)) (by first | (simp (maxDischargeDepth := 12) [go_sem]; done) | (simp (maxDischargeDepth := 12) [go_sem, *]; done))).mono ?_; rintro e w' ⟨rfl, n, rfl⟩; rw [hP]))
    exact bodyPost_ret (v := .tuple #[.agg #[.int .i64 0, .int .i64 0, .slice none 0 0], .bool false]) (by simp [results, Try.results16, go_sem]) rfl ⟨⟨_, rfl, FOwn.nil _ _ _⟩, (by (try show Gr _ _); repeat (with_reducible first | exact Gr.refl _ | refine Gr.drewN ?_ _ | refine Gr.grew ?_ _ _ | refine Gr.alloc ?_ _ | refine Gr.drew ?_))⟩
  obtain ⟨h1, h2⟩ := gPic_high hP
  cases hT : gTile H f c
  · go_enter Try.func16, Try.ntmps16
    go_wp2_with (first
      | (go_at_call 64; with_reducible refine (S_l02Is W H a _ ca _ _ _ hn' (by first | (simp (maxDischargeDepth := 12) [go_sem]; done) | (simp (maxDischargeDepth := 12) [go_sem, *]; done)) (by first | (simp (maxDischargeDepth := 12) [go_sem]; done) | (simp (maxDischargeDepth := 12) [go_sem, *]; done)) (by first | (simp (maxDischargeDepth := 12) [go_sem]; done) | (simp (maxDischargeDepth := 12) [go_sem, *]; done))).mono ?_; rintro e w' ⟨rfl, n, rfl⟩; rw [hP])
      | (go_at_call 65; with_reducible refine (S_l07Tile H f c _ _ _ h1 h2 (by first | (simp (maxDischargeDepth := 12) [go_sem]; done) | (simp (maxDischargeDepth := 12) [go_sem, *]; done)) (by first | (simp (maxDischargeDepth := 12) [go_sem]; done) | (simp (maxDischargeDepth := 12) [go_sem, *]; done))).mono ?_; rintro e w' ⟨rfl, n, rfl⟩; rw [hT]))
    exact bodyPost_ret (v := .tuple #[.agg #[.int .i64 0, .int .i64 0, .slice none 0 0], .bool false]) (by simp [results, Try.results16, go_sem]) rfl ⟨⟨_, rfl, FOwn.nil _ _ _⟩, (by (try show Gr _ _); repeat (with_reducible first | exact Gr.refl _ | refine Gr.drewN ?_ _ | refine Gr.grew ?_ _ _ | refine Gr.alloc ?_ _ | refine Gr.drew ?_))⟩
  · have hp1 := (gPic_true hP).2
    obtain ⟨s1, s2, s3, s4, s5, s6⟩ := gSize_true (gPic_true hP).1
    obtain ⟨t1, t2, t3, t4⟩ := gTile_true hT
    obtain ⟨W, rfl⟩ := Int.eq_ofNat_of_zero_le (show 0 ≤ W by omega)
    obtain ⟨H, rfl⟩ := Int.eq_ofNat_of_zero_le (show 0 ≤ H by omega)
    obtain ⟨f, rfl⟩ := Int.eq_ofNat_of_zero_le (show 0 ≤ f by omega)
    obtain ⟨c, rfl⟩ := Int.eq_ofNat_of_zero_le (show 0 ≤ c by omega)
    have e1 := Lib.hid (show xs.length = W * H by exact_mod_cast hp1)
    have eN : ((W : Int) * (c : Int)).toNat = W * c := by rw [← Int.natCast_mul]; exact Int.toNat_natCast _
    have EG : Hid (gVals true (W * c) (gRows xs W f) = lst (W * c) fun i => xs.getD (W * f + i) 0) := by
      show lst _ _ = lst _ _
      exact lst_congr fun i _ => by unfold gRows; rw [← Int.natCast_mul, Int.toNat_natCast]
    rw [eN, Bool.true_and]
    clear s5 s6 hp1 eN
    go_enter Try.func16, Try.ntmps16
    go_wp2_with fail
    refine (S_l02Is W H a _ ca _ _ _ hn' (by first | (simp (maxDischargeDepth := 12) [go_sem]; done) | (simp (maxDischargeDepth := 12) [go_sem, *]; done)) (by first | (simp (maxDischargeDepth := 12) [go_sem]; done) | (simp (maxDischargeDepth := 12) [go_sem, *]; done)) (by first | (simp (maxDischargeDepth := 12) [go_sem]; done) | (simp (maxDischargeDepth := 12) [go_sem, *]; done))).mono ?_
    rintro e u0 ⟨rfl, n9, hg⟩
    have g := gr_of_drew hg
    clear hg
    rw [hP]
    have k : Gr w u0 := Gr.trans (by (try show Gr _ _); repeat (with_reducible first | exact Gr.refl _ | refine Gr.drewN ?_ _ | refine Gr.grew ?_ _ _ | refine Gr.alloc ?_ _ | refine Gr.drew ?_)) g
    have B0 := Lib.hid (Blk.gr (show Blk _ w.heap.size [.int .i64 W, .int .i64 H, .slice a xs.length ca] 28 from (by repeat (with_reducible first | assumption | exact Blk.atNew (by simp) | refine Blk.alloc ?_ _ | refine Blk.grew ?_ _ _ | refine Blk.drewN ?_ _ | refine Blk.drew ?_))) g)
    have B1 := Lib.hid (Blk.gr (show Blk _ (w.heap.size + 1) [.int .i64 f, .int .i64 c] 32 from (by repeat (with_reducible first | assumption | exact Blk.atNew (by simp) | refine Blk.alloc ?_ _ | refine Blk.grew ?_ _ _ | refine Blk.drewN ?_ _ | refine Blk.drew ?_))) g)
    have B6 := Lib.hid (Blk.gr (show Blk _ (w.heap.size + 2) [.int .i64 0, .int .i64 0, .slice none 0 0] 28 from (by repeat (with_reducible first | assumption | exact Blk.atNew (by simp) | refine Blk.alloc ?_ _ | refine Blk.grew ?_ _ _ | refine Blk.drewN ?_ _ | refine Blk.drew ?_))) g)
    have G := Lib.hid k
    clear g k
    have p1 := B0.out.cellv 1
    go_wp2_with fail
    refine (S_l07Tile H f c _ 0 _ h1 h2 (B1.out.cellv 0) (B1.out.cellv 1)).mono ?_
    rintro e u1 ⟨rfl, n9, hg⟩
    have g := gr_of_drew hg
    clear hg p1
    rw [hT]
    replace B0 := Lib.hid (B0.out.gr g)
    replace B1 := Lib.hid (B1.out.gr g)
    replace B6 := Lib.hid (B6.out.gr g)
    replace G := Lib.hid (G.out.trans g)
    clear g
    go_wp2_with fail
    refine (S_l07Rows W H f c _ _ ca a xs u1 ⟨B0.out.cellv 0, B0.out.cellv 1, B0.out.cellv 2, Fx.out.keep G.out.kp⟩ (B1.out.cellv 0) (B1.out.cellv 1) (by omega) (by omega) (by omega) (by omega) (by omega) e1.out hca).mono ?_
    rintro e un ⟨⟨v0, rfl, ho⟩, g⟩
    rw [← EG.out] at ho
    obtain ⟨a1, c1, rfl, -, -⟩ := ho.sl
    have Hb := Lib.hid B6.out.lt
    replace B6 := Lib.hid (B6.out.gr g)
    have Ho := Lib.hid ho
    have G1 := Lib.hid (G.out.trans g)
    have G0 := Lib.hid G.out.size
    clear ho g EG
    generalize gVals true (W * c) (gRows xs W f) = LL at *
    have q0 := B6.out.cellv 0
    have q1 := B6.out.cellv 1
    have q2 := B6.out.cellv 2
    have z0 := B6.out.frozen 0
    have z1 := B6.out.frozen 1
    have z2 := B6.out.frozen 2
    go_wp2
    refine bodyPost_ret (v := .tuple #[.agg #[.int .i64 W, .int .i64 c, .slice a1 LL.length c1], .bool true]) (by simp [results, Try.results16, go_sem, gW, *]) rfl ⟨⟨_, rfl, ?_⟩, ?_⟩
    · have h := Ho.out
      have hb := Hb.out
      have h0 := G0.out
      exact FOwn.base (B := u1.heap.size) (by repeat (with_reducible first | assumption | refine FOwn.setOther ?_ _ (by simp <;> omega))) h0
    · have h := G1.out
      exact (by repeat (with_reducible first | assumption | refine Gr.setCell ?_ (by simp <;> omega) _))
theorem tells_RowsOf (W H f c b1 b2 ca : Nat) (a : Option Addr) (xs : List Nat) (w : World) (m1 : MP w b1 W H a xs.length ca xs) (c0 : w.cell? ⟨b2, 0, none⟩ = some (.int .i64 f)) (hW : W ≤ 24) (hH : H ≤ 24) (hfc : f + c ≤ H) (hn : xs.length = W * H) :
    Tells w 69 #[.pointer (some ⟨b1, 0, none⟩), .pointer (some ⟨b2, 0, none⟩)] W c (fun x y => xs.getD (x + W * (y + f)) 0) :=
  ⟨Try.call69, fun x y hx hy w1 g => I_RowsOf_1 W H x y b1 b2 ca f a xs w1 (m1.gr g) (g.cell c0) hW hH hx (by omega) hn⟩
set_option maxRecDepth 20000 in
set_option maxHeartbeats 800000 in
theorem I_RowsOf (W H f c : Int) (a : Option Addr) (ca : Nat) (xs : List Nat) (w : World) (fx : FSl w a xs.length xs) (hn : xs.length ≤ 1048576) :
    Calls Try.prog 19 #[.agg #[.int .i64 W, .int .i64 H, .slice a xs.length ca], .agg #[.int .i64 f, .int .i64 c]] w
      (PostP w (gW (gPic W H xs.length && gTile H f c) W) (gW (gPic W H xs.length && gTile H f c) c) (gPic W H xs.length && gTile H f c) (gVals (gPic W H xs.length && gTile H f c) ((W * c).toNat) (gRows xs W f))) := by
  have Fx := Lib.hid fx
  clear fx
  have hn' : xs.length ≤ maxLen := by unfold maxLen; omega
  cases hT : gPic W H xs.length && gTile H f c
  · go_enter Try.func19, Try.ntmps19
    go_wp2_with (first
      | (go_at_call 67; with_reducible refine (I_IsTile _ _ _ _ _ _ _ _ hn').mono ?_; rintro e w' ⟨rfl, os, m, rfl⟩; rw [hT]))
    exact bodyPost_ret (v := .tuple #[.agg #[.int .i64 0, .int .i64 0, .slice none 0 0], .bool false]) (by simp [results, Try.results19, go_sem]) rfl ⟨⟨_, rfl, FOwn.nil _ _ _⟩, (by (try show Gr _ _); repeat (with_reducible first | exact Gr.refl _ | refine Gr.drewN ?_ _ | refine Gr.grew ?_ _ _ | refine Gr.alloc ?_ _ | refine Gr.drew ?_))⟩
  · obtain ⟨hP, hS⟩ : gPic W H xs.length = true ∧ gTile H f c = true := by simpa using hT
    have hp1 := (gPic_true hP).2
    obtain ⟨s1, s2, s3, s4, s5, s6⟩ := gSize_true (gPic_true hP).1
    obtain ⟨t1, t2, t3, t4⟩ := gTile_true hS
    obtain ⟨W, rfl⟩ := Int.eq_ofNat_of_zero_le (show 0 ≤ W by omega)
    obtain ⟨H, rfl⟩ := Int.eq_ofNat_of_zero_le (show 0 ≤ H by omega)
    obtain ⟨f, rfl⟩ := Int.eq_ofNat_of_zero_le (show 0 ≤ f by omega)
    obtain ⟨c, rfl⟩ := Int.eq_ofNat_of_zero_le (show 0 ≤ c by omega)
    have e1 := Lib.hid (show xs.length = W * H by exact_mod_cast hp1)
    have eN : ((W : Int) * (c : Int)).toNat = W * c := by rw [← Int.natCast_mul]; exact Int.toNat_natCast _
    have HT := Lib.hid hT
    rw [eN]
    clear eN hp1 s5 s6 hP hS hT
    have EG : Hid (grid W (fun x y => xs.getD (x + W * (y + f)) 0) (W * c) = lst (W * c) (gRows xs W f)) := by
      exact lst_congr fun i _ => by show xs.getD (i % W + W * (i / W + f)) 0 = _; unfold gRows; rw [← Int.natCast_mul, Int.toNat_natCast, Nat.mul_add, ← Nat.add_assoc, Nat.mod_add_div, Nat.add_comm]
    go_enter Try.func19, Try.ntmps19
    go_wp2_with fail
    refine (I_IsTile W H f c a _ ca _ hn').mono ?_
    rintro e u0 ⟨rfl, g⟩
    have k : Gr w u0 := Gr.trans (by (try show Gr _ _); repeat (with_reducible first | exact Gr.refl _ | refine Gr.drewN ?_ _ | refine Gr.grew ?_ _ _ | refine Gr.alloc ?_ _ | refine Gr.drew ?_)) g
    rw [HT.out]
    have B0 := Lib.hid (Blk.gr (show Blk _ (w.heap.size) [.int .i64 W, .int .i64 H, .slice a xs.length ca] 28 from (by repeat (with_reducible first | assumption | exact Blk.atNew (by simp) | refine Blk.alloc ?_ _ | refine Blk.grew ?_ _ _ | refine Blk.drewN ?_ _ | refine Blk.drew ?_))) g)
    have B1 := Lib.hid (Blk.gr (show Blk _ (w.heap.size + 1) [.int .i64 f, .int .i64 c] 32 from (by repeat (with_reducible first | assumption | exact Blk.atNew (by simp) | refine Blk.alloc ?_ _ | refine Blk.grew ?_ _ _ | refine Blk.drewN ?_ _ | refine Blk.drew ?_))) g)
    have B2 := Lib.hid (Blk.gr (show Blk _ (w.heap.size + 1 + 1) [.int .i64 0, .int .i64 0, .slice none 0 0] 28 from (by repeat (with_reducible first | assumption | exact Blk.atNew (by simp) | refine Blk.alloc ?_ _ | refine Blk.grew ?_ _ _ | refine Blk.drewN ?_ _ | refine Blk.drew ?_))) g)
    have G := Lib.hid k
    clear g k
    have p0_0 := B0.out.cellv 0
    have p0_1 := B0.out.cellv 1
    have p0_2 := B0.out.cellv 2
    have p1_0 := B1.out.cellv 0
    have p1_1 := B1.out.cellv 1
    go_wp2_with fail
    refine (I_made W c (fun x y => xs.getD (x + W * (y + f)) 0) 69 _ u0 (tells_RowsOf W H f c _ _ ca a xs u0 ⟨B0.out.cellv 0, B0.out.cellv 1, B0.out.cellv 2, Fx.out.keep G.out.kp⟩ (B1.out.cellv 0) (by omega) (by omega) (by omega) e1.out) (by omega) (by omega) (by omega) (by omega)).mono ?_
    rintro e un ⟨⟨v0, rfl, ho⟩, g⟩
    rw [EG.out] at ho
    obtain ⟨a1, c1, rfl, -, -⟩ := ho.sl' (W * c) (by simp)
    have Hb := Lib.hid B2.out.lt
    replace B2 := Lib.hid (B2.out.gr g)
    have Ho := Lib.hid ho
    have G1 := Lib.hid (G.out.trans g)
    have G0 := Lib.hid G.out.size
    clear ho g p0_0 p0_1 p0_2 p1_0 p1_1
    have q0 := B2.out.cellv 0
    have q1 := B2.out.cellv 1
    have q2 := B2.out.cellv 2
    have z0 := B2.out.frozen 0
    have z1 := B2.out.frozen 1
    have z2 := B2.out.frozen 2
    go_wp2
    refine bodyPost_ret (v := .tuple #[.agg #[.int .i64 W, .int .i64 c, .slice a1 (W * c) c1], .bool true]) (by simp [results, Try.results19, go_sem, gW, *]) rfl ⟨⟨_, rfl, ?_⟩, ?_⟩
    · have h := Ho.out
      have hb := Hb.out
      have h0 := G0.out
      show FOwn _ _ _ _ (lst (W * c) _)
      exact FOwn.base (B := u0.heap.size) (by repeat (with_reducible first | assumption | refine FOwn.setOther ?_ _ (by simp <;> omega))) h0
    · have h := G1.out
      exact (by repeat (with_reducible first | assumption | refine Gr.setCell ?_ (by simp <;> omega) _))
end Go.Proofs.Ythpdnblkbadhaaa
