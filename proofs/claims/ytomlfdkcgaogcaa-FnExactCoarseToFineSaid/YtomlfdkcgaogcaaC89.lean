/- Contracts: volumes of squares. MAXREC -/
import Derived.Test.YtomlfdkcgaogcaaProg
import Derived.Test.YtomlfdkcgaogcaaC84
import Derived.Test.YtomlfdkcgaogcaaC30
import Derived.Test.YtomlfdkcgaogcaaC22
namespace Go.Proofs.Ytomlfdkcgaogcaa
open Go.RowKit Go.Fx Go.Soft
def gSqE (ls rs : List Nat) (W H x y d : Nat) : Nat := fop .sub .f32 (ls.getD (clampN (x : Int) W + W * clampN (y : Int) H) 0) (rs.getD (clampN ((x : Int) - (d : Int)) W + W * clampN (y : Int) H) 0)
def gSq (ls rs : List Nat) (W H x y d : Nat) : Nat := fop .mul .f32 (gSqE ls rs W H x y d) (gSqE ls rs W H x y d)
set_option maxRecDepth 20000 in
set_option maxHeartbeats 4000000 in
theorem S_l03Compare (W H D b1 b2 ca cb : Nat) (a b : Option Addr) (ls rs : List Nat) (w : World) (m1 : MP w b1 W H a ls.length ca ls) (m2 : MP w b2 W H b rs.length cb rs) (hW0 : 1 ≤ W) (hH0 : 1 ≤ H) (hW : W ≤ 24) (hH : H ≤ 24) (hD : D ≤ 8) (hl : ls.length = W * H) (hm : rs.length = W * H) :
    Calls Try.prog 100 #[.pointer (some ⟨b1, 0, none⟩), .pointer (some ⟨b2, 0, none⟩), .int .i64 D, .bool true] w fun e w' => (∃ v, e = .returned (.agg #[.int .i64 W, .int .i64 H, .int .i64 D, v]) ∧ FOwn w' w.heap.size 25 v (lst (W * H * D) (gV3 W D (gSq ls rs W H)))) ∧ Gr w w' := by
  obtain ⟨i0, hi, hz0, hz1, hz2⟩ := info_parts info_float32
  have h24 : W * H ≤ 576 := Nat.mul_le_mul hW hH
  have h25 : W * H * D ≤ 4608 := Nat.mul_le_mul h24 hD
  have c0 := m1.c0
  have c1 := m1.c1
  have M1 := Lib.hid m1
  have HA1 := Lib.hid (fun (u : World) (g : Gr w u) (x y : Int) => S_l02At W H b1 x y a ca ls u (m1.gr g) hW0 hH0 hW hH hl)
  have HA2 := Lib.hid (fun (u : World) (g : Gr w u) (x y : Int) => S_l02At W H b2 x y b cb rs u (m2.gr g) hW0 hH0 hW hH hm)
  clear m1 m2 hl hm
  go_enter Try.func100, Try.ntmps100
  go_wp2
  apply region_facts 11 [10] (fun _ v w' => ∃ b, v = .pointer (some ⟨b, 0, none⟩) ∧ w.heap.size + 1 ≤ b ∧ Blk w' b [.int .i64 0, .int .i64 0, .int .i64 0, .slice none 0 0] 44)
  case hm => kernel_rfl
  case hB => kernel_rfl
  case hR => rfl
  case hP => (intro k hk v w1 w2 hg hv; obtain ⟨b, e, hl, hb⟩ := hv; exact ⟨b, e, hl, hb.gr hg⟩)
  simp only [List.take_succ_cons, List.take_zero, List.drop_succ_cons, List.drop_zero]
  repeat (first
    | (apply wpF_build; (case hw => rfl); (case hT => decide); (case hx => (intro w; simp [execOp, go_sem]; rfl)); simp only [Act.put, List.setIfInBounds_toArray, List.set_cons_succ, List.set_cons_zero])
    | ((with_reducible apply wpF_new (c := #[.int .i64 0, .int .i64 0, .int .i64 0, .slice none 0 0]) (e := 44) (fun b => .pointer (some ⟨b, 0, none⟩))); (case hw => rfl); (case hx => (intro w; simp [execOp, go_sem]; done)); (case hF => (intro w' b hb hc _; exact ⟨b, rfl, by simpa using hb, ⟨hc⟩⟩)); (intro bn hb; simp only [Act.put, List.setIfInBounds_toArray, List.set_cons_succ, List.set_cons_zero]))
    | (apply wpF_skip rfl (by decide); simp only [Act.put, List.setIfInBounds_toArray, List.set_cons_succ, List.set_cons_zero])
    | (apply wpF_nilCheck rfl (by decide) rfl; simp only [Act.put, List.setIfInBounds_toArray, List.set_cons_succ, List.set_cons_zero])
    | ((with_reducible apply wpF_fop); (case hw => rfl); (case hT => decide); (case hop => rfl); (case hx => rfl); (case hy => rfl); (case hA => (first | assumption | exact FE.ofInt _ _ | exact FE.lit (by decide +kernel))); (case hB => (first | assumption | exact FE.ofInt _ _ | exact FE.lit (by decide +kernel))); (intro r hr; simp only [Act.put, List.setIfInBounds_toArray, List.set_cons_succ, List.set_cons_zero]))
    | ((with_reducible apply wpF_fneg); (case hw => rfl); (case hT => decide); (case hx => rfl); (case hA => (first | assumption | exact FE.ofInt _ _ | exact FE.lit (by decide +kernel))); (intro r hr; simp only [Act.put, List.setIfInBounds_toArray, List.set_cons_succ, List.set_cons_zero]))
    | ((with_reducible apply wpF_fcmp); (case hw => rfl); (case hT => decide); (case hop => rfl); (case hx => rfl); (case hy => rfl); (case hA => (first | assumption | exact FE.ofInt _ _ | exact FE.lit (by decide +kernel))); (case hB => (first | assumption | exact FE.ofInt _ _ | exact FE.lit (by decide +kernel))); (case hb => (first | assumption | rfl)); simp only [Act.put, List.setIfInBounds_toArray, List.set_cons_succ, List.set_cons_zero])
    | (apply wpF_q rfl (by decide) rfl; intro K hK; go_big_quiet_op; go_big_quiet_on))
  with_reducible apply wpF_nil
  intro os m hf
  obtain ⟨b', eb, hl, hb1⟩ := hf.1
  simp at eb
  subst eb
  obtain ⟨u, hu⟩ : ∃ u, u = World.grew (w.alloc (.cells #[.int .i64 0, .int .i64 0, .int .i64 0, .slice none 0 0] 44)) os m := ⟨_, rfl⟩
  rw [← hu] at hb1 ⊢
  have k : Gr w u := by rw [hu]; exact (by (try show Gr _ _); repeat (with_reducible first | exact Gr.refl _ | refine Gr.drewN ?_ _ | refine Gr.grew ?_ _ _ | refine Gr.alloc ?_ _ | refine Gr.drew ?_))
  have B0 : Blk u w.heap.size [.int .i64 0, .int .i64 0, .int .i64 0, .slice none 0 0] 44 := by rw [hu]; exact (by repeat (with_reducible first | assumption | exact Blk.atNew (by simp) | refine Blk.alloc ?_ _ | refine Blk.grew ?_ _ _ | refine Blk.drewN ?_ _ | refine Blk.drew ?_))
  clear hf hu hb
  have q0 := hb1.cellv 0
  have q1 := hb1.cellv 1
  have q2 := hb1.cellv 2
  have q3 := hb1.cellv 3
  have z0 := hb1.frozen 0
  have z1 := hb1.frozen 1
  have z2 := hb1.frozen 2
  have z3 := hb1.frozen 3
  have BB := Lib.hid hb1
  have B1 := Lib.hid B0
  have GW := Lib.hid k
  have HL := Lib.hid hl
  clear hb1 B0 k hl c0 c1
  go_wp2
  obtain ⟨u2, hu2⟩ : ∃ u2, u2 = (((u.setCell ⟨bn, 0, none⟩ (.int .i64 W)).setCell ⟨bn, 1, none⟩ (.int .i64 H)).setCell ⟨bn, 2, none⟩ (.int .i64 D)).setCell ⟨bn, 3, none⟩ (.slice none 0 0) := ⟨_, rfl⟩
  rw [← hu2]
  have hl := HL.out
  have hb2 : Blk u2 bn [.int .i64 W, .int .i64 H, .int .i64 D, .slice none 0 0] 44 := by rw [hu2]; exact (((BB.out.set (i := 0) _).set (i := 1) _).set (i := 2) _).set (i := 3) _
  have k2 : Gr w u2 := by rw [hu2]; exact (((GW.out.setCell (by show w.heap.size ≤ bn; omega) _).setCell (by show w.heap.size ≤ bn; omega) _).setCell (by show w.heap.size ≤ bn; omega) _).setCell (by show w.heap.size ≤ bn; omega) _
  have hb0 : Blk u2 w.heap.size [.int .i64 0, .int .i64 0, .int .i64 0, .slice none 0 0] 44 := by rw [hu2]; exact (((B1.out.setOther _ (by show bn ≠ _; omega)).setOther _ (by show bn ≠ _; omega)).setOther _ (by show bn ≠ _; omega)).setOther _ (by show bn ≠ _; omega)
  have Hl : Hid (w.heap.size + 1 ≤ bn + 1) := by show _ ≤ _; omega
  have Hb2 := Lib.hid hb2
  have Hb0 := Lib.hid hb0
  have K2 := Lib.hid k2
  clear hu2 BB B1 GW q0 q1 q2 q3 z0 z1 z2 z3 hb2 k2 hb0
  go_loopw [10] (fun i wr => ∃ y : Nat, y ≤ H ∧ i = .int .i64 y ∧ ∃ v, Blk wr bn [.int .i64 W, .int .i64 H, .int .i64 D, v] 44 ∧ Blk wr w.heap.size [.int .i64 0, .int .i64 0, .int .i64 0, .slice none 0 0] 44 ∧ FOwn wr (w.heap.size + 1) 25 v (lst ((0 + W * y) * D) (gV3 W D (gSq ls rs W H))) ∧ Gr w wr) (fun i _ => H - (intOf i).toNat)
  case atStart => exact ⟨0, Nat.zero_le _, rfl, _, Hb2.out, Hb0.out, by rw [show (0 + W * 0) * D = 0 by simp]; exact FOwn.nil _ _ _, K2.out⟩
  case round =>
    clear Hb2 Hb0 K2
    obtain ⟨y, hy, rfl, v, hb, hb0, ho, hg⟩ := hrel
    have c1 := hg.cell M1.out.c1
    by_cases hyt : y < H
    · have Hb := Lib.hid hb
      have Hb0 := Lib.hid hb0
      have Ho := Lib.hid ho
      have Hg := Lib.hid hg
      clear hb hb0 ho hg
      go_wp2
      clear c1
      go_loopw [11] (fun i wx => ∃ x : Nat, x ≤ W ∧ i = .int .i64 x ∧ ∃ v, Blk wx bn [.int .i64 W, .int .i64 H, .int .i64 D, v] 44 ∧ Blk wx w.heap.size [.int .i64 0, .int .i64 0, .int .i64 0, .slice none 0 0] 44 ∧ FOwn wx (w.heap.size + 1) 25 v (lst ((x + W * y) * D) (gV3 W D (gSq ls rs W H))) ∧ Gr w wx) (fun i _ => W - (intOf i).toNat)
      case atStart => exact ⟨0, Nat.zero_le _, rfl, v, Hb.out.gr (by (try show Gr _ _); repeat (with_reducible first | exact Gr.refl _ | refine Gr.drewN ?_ _ | refine Gr.grew ?_ _ _ | refine Gr.alloc ?_ _ | refine Gr.drew ?_)), Hb0.out.gr (by (try show Gr _ _); repeat (with_reducible first | exact Gr.refl _ | refine Gr.drewN ?_ _ | refine Gr.grew ?_ _ _ | refine Gr.alloc ?_ _ | refine Gr.drew ?_)), Ho.out.gr (by (try show Gr _ _); repeat (with_reducible first | exact Gr.refl _ | refine Gr.drewN ?_ _ | refine Gr.grew ?_ _ _ | refine Gr.alloc ?_ _ | refine Gr.drew ?_)), Hg.out.trans (by (try show Gr _ _); repeat (with_reducible first | exact Gr.refl _ | refine Gr.drewN ?_ _ | refine Gr.grew ?_ _ _ | refine Gr.alloc ?_ _ | refine Gr.drew ?_))⟩
      case round =>
        clear Hb Hb0 Ho Hg
        obtain ⟨x, hx, rfl, v, hb, hb0, ho, hg⟩ := hrel
        have c0 := hg.cell M1.out.c0
        by_cases hxt : x < W
        · have hl := cell_lt hxt hyt
          have Hb := Lib.hid hb
          have Hb0 := Lib.hid hb0
          have Ho := Lib.hid ho
          have Hg := Lib.hid hg
          have hl3 : (x + W * y) * D + D ≤ 4608 := by
            have := Nat.mul_le_mul_right D (show x + W * y + 1 ≤ W * H from hl)
            rw [Nat.add_mul, Nat.one_mul] at this
            omega
          generalize hP : (x + W * y) * D = P0 at *
          have HP0 := Lib.hid hP
          clear hb hb0 ho hg hP
          go_wp2
          clear c0
          go_loopw [12] (fun i wz => ∃ d : Nat, d ≤ D ∧ i = .int .i64 d ∧ ∃ v, Blk wz bn [.int .i64 W, .int .i64 H, .int .i64 D, v] 44 ∧ Blk wz w.heap.size [.int .i64 0, .int .i64 0, .int .i64 0, .slice none 0 0] 44 ∧ FOwn wz (w.heap.size + 1) 25 v (lst (P0 + d) (gV3 W D (gSq ls rs W H))) ∧ Gr w wz) (fun i _ => D - (intOf i).toNat)
          case atStart => exact ⟨0, Nat.zero_le _, rfl, v, Hb.out.gr (by (try show Gr _ _); repeat (with_reducible first | exact Gr.refl _ | refine Gr.drewN ?_ _ | refine Gr.grew ?_ _ _ | refine Gr.alloc ?_ _ | refine Gr.drew ?_)), Hb0.out.gr (by (try show Gr _ _); repeat (with_reducible first | exact Gr.refl _ | refine Gr.drewN ?_ _ | refine Gr.grew ?_ _ _ | refine Gr.alloc ?_ _ | refine Gr.drew ?_)), Ho.out.gr (by (try show Gr _ _); repeat (with_reducible first | exact Gr.refl _ | refine Gr.drewN ?_ _ | refine Gr.grew ?_ _ _ | refine Gr.alloc ?_ _ | refine Gr.drew ?_)), Hg.out.trans (by (try show Gr _ _); repeat (with_reducible first | exact Gr.refl _ | refine Gr.drewN ?_ _ | refine Gr.grew ?_ _ _ | refine Gr.alloc ?_ _ | refine Gr.drew ?_))⟩
          case round =>
            clear Hb Hb0 Ho Hg
            obtain ⟨d, hd, rfl, v, hb, hb0, ho, hg⟩ := hrel
            by_cases hdt : d < D
            · have p3 := hb.cellv 3
              have eG := Lib.hid (show gV3 W D (gSq ls rs W H) (P0 + d) = fop .mul .f32 (fop .sub .f32 (ls.getD (clampN (x : Int) W + W * clampN (y : Int) H) 0) (rs.getD (clampN ((x : Int) - (d : Int)) W + W * clampN (y : Int) H) 0)) (fop .sub .f32 (ls.getD (clampN (x : Int) W + W * clampN (y : Int) H) 0) (rs.getD (clampN ((x : Int) - (d : Int)) W + W * clampN (y : Int) H) 0)) by rw [← HP0.out]; exact gV3_at hxt hdt)
              have Hb := Lib.hid hb
              have Hb0 := Lib.hid hb0
              have Ho := Lib.hid ho
              have Hg := Lib.hid hg
              clear hb hb0 ho hg
              go_wp2_with fail
              go_wp2_with (first
                | (go_at_call 127; (with_reducible refine (HA1.out _ (Hg.out.trans (by (try show Gr _ _); repeat (with_reducible first | exact Gr.refl _ | refine Gr.drewN ?_ _ | refine Gr.grew ?_ _ _ | refine Gr.alloc ?_ _ | refine Gr.drew ?_))) _ _).mono ?_); rintro e w' ⟨r, rfl, hr, n, rfl⟩)
                | (go_at_call 127; (with_reducible refine (HA2.out _ (Hg.out.trans (by (try show Gr _ _); repeat (with_reducible first | exact Gr.refl _ | refine Gr.drewN ?_ _ | refine Gr.grew ?_ _ _ | refine Gr.alloc ?_ _ | refine Gr.drew ?_))) _ _).mono ?_); rintro e w' ⟨r, rfl, hr, n, rfl⟩)
                    | ((with_reducible apply wpList_fop); (case hw => rfl); (case hop => rfl); (case hx => rfl); (case hy => rfl); (case hA => (first | assumption | exact FE.ofInt _ _ | exact FE.lit (by decide +kernel))); (case hB => (first | assumption | exact FE.ofInt _ _ | exact FE.lit (by decide +kernel))); intro r n hr)
                    | ((with_reducible apply wpList_fcmp); (case hw => rfl); (case hop => rfl); (case hx => rfl); (case hy => rfl); (case hA => (first | assumption | exact FE.ofInt _ _ | exact FE.lit (by decide +kernel))); (case hB => (first | assumption | exact FE.ofInt _ _ | exact FE.lit (by decide +kernel))); (case hb => (first | assumption | rfl)))
                    | ((with_reducible apply wpList_widen); (case hw => rfl); (case hs => exact Try.underlying25); (case hd => exact Try.underlying61); (case hx => rfl); (case hA => (first | assumption | exact FE.ofInt _ _ | exact FE.lit (by decide +kernel))); intro r n hr)
                    | ((with_reducible apply wpList_fneg); (case hw => rfl); (case hx => rfl); (case hA => (first | assumption | exact FE.ofInt _ _ | exact FE.lit (by decide +kernel))); intro r hr)
                | (refine wpList_append_f rfl rfl i0 Try.underlying22 hi hz0 hz1 hz2 rfl (Ho.out.gr (by (try show Gr _ _); repeat (with_reducible first | exact Gr.refl _ | refine Gr.drewN ?_ _ | refine Gr.grew ?_ _ _ | refine Gr.alloc ?_ _ | refine Gr.drew ?_))) rfl ((Blk.atNew rfl).cellv 0 rfl) (by assumption) (by simp <;> omega) (by have := Hb.out.lt; have := Hl.out; simp <;> omega) ?_
                   intro v1 w1 ho1 hg1
                   obtain ⟨a1, c1, rfl, -, -⟩ := ho1.sl' (P0 + d + 1) (by simp)
                   obtain ⟨hb1, P, ho2⟩ := pushed_step (i := 3) (u := .slice a1 (P0 + d + 1) c1) Hb.out Ho.out (by (try show Gr _ _); repeat (with_reducible first | exact Gr.refl _ | refine Gr.drewN ?_ _ | refine Gr.grew ?_ _ _ | refine Gr.alloc ?_ _ | refine Gr.drew ?_)) hg1 ho1 (by decide)
                   have q2 := hb1.cellv 3
                   have z2 := hb1.frozen 3
                   have Hb2 := Lib.hid hb1
                   have Ho2 := Lib.hid ho2
                   have HP := Lib.hid P
                   clear hg1 hb1 ho1 ho2 P))
              go_roundw
              case rel => exact ⟨d + 1, by omega, by go_num, _, Hb2.out.set _, HP.out.blk Hb0.out (by omega) (by omega), by rw [show P0 + (d + 1) = P0 + d + 1 from rfl, ← lst_succ, eG.out]; exact Ho2.out, HP.out.gr Hg.out (by omega) (by omega)⟩
              case measure => simp [intOf]; omega
            · obtain rfl : d = D := by omega
              have Hb := Lib.hid hb
              have Hb0 := Lib.hid hb0
              have Ho := Lib.hid ho
              have Hg := Lib.hid hg
              clear hb hb0 ho hg
              go_wp2
              go_roundw
              case rel => exact ⟨x + 1, by omega, by go_num, v, Hb.out, Hb0.out, by rw [show (x + 1 + W * y) * d = P0 + d by rw [← HP0.out, Nat.add_right_comm, Nat.add_mul, Nat.one_mul]]; exact Ho.out, Hg.out⟩
              case measure => simp [intOf]; omega
        · obtain rfl : x = W := by omega
          have Hb := Lib.hid hb
          have Hb0 := Lib.hid hb0
          have Ho := Lib.hid ho
          have Hg := Lib.hid hg
          clear hb hb0 ho hg
          go_wp2
          go_roundw
          case rel => exact ⟨y + 1, by omega, by go_num, v, Hb.out, Hb0.out, by rw [show (0 + x * (y + 1)) * D = (x + x * y) * D by rw [Nat.zero_add, Nat.mul_add, Nat.mul_one, Nat.add_comm]]; exact Ho.out, Hg.out⟩
          case measure => simp [intOf]; omega
    · obtain rfl : y = H := by omega
      obtain ⟨a1, c1', rfl, -, -⟩ := ho.sl' (W * y * D) (by simp)
      have p0 := hb.cellv 0
      have p1 := hb.cellv 1
      have p2 := hb.cellv 2
      have p3 := hb.cellv 3
      have q0 := hb0.cellv 0
      have q1 := hb0.cellv 1
      have q2 := hb0.cellv 2
      have q3 := hb0.cellv 3
      have z0 := hb0.frozen 0
      have z1 := hb0.frozen 1
      have z2 := hb0.frozen 2
      have z3 := hb0.frozen 3
      have Ho := Lib.hid ho
      have Hg := Lib.hid hg
      clear hb hb0 ho hg
      go_wp2
      refine bodyPost_ret (v := .agg #[.int .i64 W, .int .i64 y, .int .i64 D, .slice a1 (W * y * D) c1']) (by simp [results, Try.results100, go_sem, *]) rfl ⟨⟨_, rfl, ?_⟩, ?_⟩
      · have h := Ho.out
        rw [Nat.zero_add] at h
        exact FOwn.base (B := w.heap.size + 1) (by repeat (with_reducible first | assumption | refine FOwn.setOther ?_ _ (by simp <;> omega))) (by omega)
      · have h := Hg.out
        exact (by repeat (with_reducible first | assumption | refine Gr.setCell ?_ (by simp <;> omega) _))
set_option maxRecDepth 20000 in
set_option maxHeartbeats 1000000 in
theorem I_SquareVolume_1 (W H x y d b1 b2 ca cb : Nat) (a b : Option Addr) (ls rs : List Nat) (w : World) (m1 : MP w b1 W H a ls.length ca ls) (m2 : MP w b2 W H b rs.length cb rs) (hW0 : 1 ≤ W) (hH0 : 1 ≤ H) (hW : W ≤ 24) (hH : H ≤ 24) (hl : ls.length = W * H) (hm : rs.length = W * H) (hx : x < W) (hy : y < H) (hd : d < 8) :
    Calls Try.prog 105 #[.int .i64 x, .int .i64 y, .int .i64 d, .pointer (some ⟨b1, 0, none⟩), .pointer (some ⟨b2, 0, none⟩)] w fun e w' => (∃ r, e = .returned (.float .f32 r) ∧ FE .f32 r (gSq ls rs W H x y d)) ∧ Gr w w' := by
  have HA1 := Lib.hid (fun (u : World) (g : Gr w u) (x y : Int) => I_Picture_about W H b1 x y a ca ls u (m1.gr g) hW0 hH0 hW hH hl)
  have HA2 := Lib.hid (fun (u : World) (g : Gr w u) (x y : Int) => I_Picture_about W H b2 x y b cb rs u (m2.gr g) hW0 hH0 hW hH hm)
  clear m1 m2 hl hm
  go_enter Try.func105, Try.ntmps105
  go_wp2_with (first
      | (go_at_call 106; (with_reducible refine (HA1.out _ (by (try show Gr _ _); repeat (with_reducible first | exact Gr.refl _ | refine Gr.drewN ?_ _ | refine Gr.grew ?_ _ _ | refine Gr.alloc ?_ _ | refine Gr.drew ?_)) _ _).mono ?_); rintro e w' ⟨r, rfl, hr, n, rfl⟩)
      | (go_at_call 106; (with_reducible refine (HA2.out _ (by (try show Gr _ _); repeat (with_reducible first | exact Gr.refl _ | refine Gr.drewN ?_ _ | refine Gr.grew ?_ _ _ | refine Gr.alloc ?_ _ | refine Gr.drew ?_)) _ _).mono ?_); rintro e w' ⟨r, rfl, hr, n, rfl⟩)
      | ((with_reducible apply wpList_fop); (case hw => rfl); (case hop => rfl); (case hx => rfl); (case hy => rfl); (case hA => (first | assumption | exact FE.ofInt _ _ | exact FE.lit (by decide +kernel))); (case hB => (first | assumption | exact FE.ofInt _ _ | exact FE.lit (by decide +kernel))); intro r n hr)
      | ((with_reducible apply wpList_fcmp); (case hw => rfl); (case hop => rfl); (case hx => rfl); (case hy => rfl); (case hA => (first | assumption | exact FE.ofInt _ _ | exact FE.lit (by decide +kernel))); (case hB => (first | assumption | exact FE.ofInt _ _ | exact FE.lit (by decide +kernel))); (case hb => (first | assumption | rfl)))
      | ((with_reducible apply wpList_widen); (case hw => rfl); (case hs => exact Try.underlying25); (case hd => exact Try.underlying61); (case hx => rfl); (case hA => (first | assumption | exact FE.ofInt _ _ | exact FE.lit (by decide +kernel))); intro r n hr)
      | ((with_reducible apply wpList_fneg); (case hw => rfl); (case hx => rfl); (case hA => (first | assumption | exact FE.ofInt _ _ | exact FE.lit (by decide +kernel))); intro r hr))
  go_ret
  exact ⟨⟨_, rfl, by unfold gSq gSqE; assumption⟩, (by (try show Gr _ _); repeat (with_reducible first | exact Gr.refl _ | refine Gr.drewN ?_ _ | refine Gr.grew ?_ _ _ | refine Gr.alloc ?_ _ | refine Gr.drew ?_))⟩
set_option maxRecDepth 20000 in
set_option maxHeartbeats 1000000 in
theorem I_pairVolume_no (W H U V D : Int) (a b : Option Addr) (n m ca cb : Nat) (f : Value) (w : World) (hn : n ≤ maxLen) (hm : m ≤ maxLen) (hT : (gTwo W H U V n m && gIn D 1 8) = false) :
    Calls Try.prog 104 #[.agg #[.int .i64 W, .int .i64 H, .slice a n ca], .agg #[.int .i64 U, .int .i64 V, .slice b m cb], .int .i64 D, f] w fun e w' => e = .returned (.tuple #[.agg #[.int .i64 0, .int .i64 0, .int .i64 0, .slice none 0 0], .bool false]) ∧ Gr w w' := by
  rcases (show gTwo W H U V n m = false ∨ (gTwo W H U V n m = true ∧ gIn D 1 8 = false) by cases h : gTwo W H U V n m <;> simp [h] at hT ⊢; exact hT) with t1 | ⟨t1, t2⟩
  all_goals
    clear hT
    go_enter Try.func104, Try.ntmps104
    go_wp2_with (first
      | (go_at_call 129; (with_reducible refine (I_pairOk W H U V a b _ _ _ _ _ hn hm).mono ?_); rintro e w' ⟨rfl, os, m, rfl⟩; rw [t1])
      | (go_at_call 63; with_reducible refine (I_in _ _ _ _).mono ?_; rintro e w' ⟨rfl, hw⟩; (obtain rfl := hw.symm; rw [t2])))
    exact bodyPost_ret (v := .tuple #[.agg #[.int .i64 0, .int .i64 0, .int .i64 0, .slice none 0 0], .bool false]) (by simp [results, Try.results104, go_sem]) rfl ⟨rfl, (by (try show Gr _ _); repeat (with_reducible first | exact Gr.refl _ | refine Gr.drewN ?_ _ | refine Gr.grew ?_ _ _ | refine Gr.alloc ?_ _ | refine Gr.drew ?_))⟩
set_option maxRecDepth 20000 in
set_option maxHeartbeats 1000000 in
theorem I_pairVolume_ok (W H D : Nat) (a b : Option Addr) (ls rs : List Nat) (ca cb : Nat) (f : FuncId) (cs : Array Value) (V : Nat → Nat → Nat → Nat) (w : World) (hn : ls.length ≤ maxLen) (hm : rs.length ≤ maxLen) (hS : gSize W H = true) (h2 : gTwo W H W H ls.length rs.length = true) (hI : gIn (D : Int) 1 8 = true) (T : Tells3 w f cs W H D V) :
    Calls Try.prog 104 #[.agg #[.int .i64 W, .int .i64 H, .slice a ls.length ca], .agg #[.int .i64 W, .int .i64 H, .slice b rs.length cb], .int .i64 D, .func (.func f) #[] cs] w fun e w' => (∃ v c, e = .returned (.tuple #[.agg #[.int .i64 W, .int .i64 H, .int .i64 D, .slice v (W * H * D) c], .bool true]) ∧ FOwn w' w.heap.size 25 (.slice v (W * H * D) c) (lst (W * H * D) (gV3 W D V))) ∧ Gr w w' := by
  obtain ⟨s1, s2, s3, s4, s5, s6⟩ := gSize_true hS
  have hd : 1 ≤ D ∧ D ≤ 8 := by unfold gIn at hI; simp at hI; omega
  obtain ⟨d1, d2⟩ := hd
  have HT := Lib.hid T
  have H2 := Lib.hid h2
  have HI := Lib.hid hI
  clear hS T s5 s6 h2 hI
  go_enter Try.func104, Try.ntmps104
  go_wp2_with fail
  refine (I_pairOk W H W H a b _ _ _ _ _ hn hm).mono ?_
  rintro e u0 ⟨rfl, g⟩
  rw [H2.out]
  have B0 := Lib.hid (Blk.gr (show Blk _ w.heap.size [.int .i64 W, .int .i64 H, .slice a ls.length ca] 53 from (by repeat (with_reducible first | assumption | exact Blk.atNew (by simp) | refine Blk.alloc ?_ _ | refine Blk.grew ?_ _ _ | refine Blk.drewN ?_ _ | refine Blk.drew ?_))) g)
  have B1 := Lib.hid (Blk.gr (show Blk _ (w.heap.size + 1 + 1) [.int .i64 0, .int .i64 0, .int .i64 0, .slice none 0 0] 44 from (by repeat (with_reducible first | assumption | exact Blk.atNew (by simp) | refine Blk.alloc ?_ _ | refine Blk.grew ?_ _ _ | refine Blk.drewN ?_ _ | refine Blk.drew ?_))) g)
  have G := Lib.hid (Gr.trans (show Gr w _ from (by (try show Gr _ _); repeat (with_reducible first | exact Gr.refl _ | refine Gr.drewN ?_ _ | refine Gr.grew ?_ _ _ | refine Gr.alloc ?_ _ | refine Gr.drew ?_))) g)
  have p0 := B0.out.cellv 0
  have p1 := B0.out.cellv 1
  clear g
  go_wp2_with (first | (go_at_call 63; with_reducible refine (I_in _ _ _ _).mono ?_; rintro e w' ⟨rfl, hw⟩; (obtain rfl := hw.symm; rw [HI.out])))
  refine (I_volumeOf W H D V f cs _ (HT.out.gr G.out) (by omega) (by omega) (by omega) (by omega) (by omega) (by omega)).mono ?_
  rintro e u1 ⟨⟨v, rfl, ho⟩, g⟩
  obtain ⟨a1, c1, rfl, -, -⟩ := ho.sl' (W * H * D) (by simp)
  have Hb := Lib.hid B1.out.lt
  have B2 := Lib.hid (B1.out.gr g)
  have Ho := Lib.hid ho
  have G1 := Lib.hid (G.out.trans g)
  have q0 := B2.out.cellv 0
  have q1 := B2.out.cellv 1
  have q2 := B2.out.cellv 2
  have q3 := B2.out.cellv 3
  have z0 := B2.out.frozen 0
  have z1 := B2.out.frozen 1
  have z2 := B2.out.frozen 2
  have z3 := B2.out.frozen 3
  clear ho g p0 p1
  go_wp2
  refine bodyPost_ret (v := .tuple #[.agg #[.int .i64 W, .int .i64 H, .int .i64 D, .slice a1 (W * H * D) c1], .bool true]) (by simp [results, Try.results104, go_sem, *]) rfl ⟨⟨_, _, rfl, ?_⟩, ?_⟩
  · have h := Ho.out
    have hb := Hb.out
    have h0 := G.out.size
    exact FOwn.base (B := u0.heap.size) (by repeat (with_reducible first | assumption | refine FOwn.setOther ?_ _ (by simp <;> omega))) h0
  · have h := G1.out
    exact (by repeat (with_reducible first | assumption | refine Gr.setCell ?_ (by simp <;> omega) _))
set_option maxRecDepth 20000 in
set_option maxHeartbeats 1000000 in
theorem I_SquareVolume_no (W H U V D : Int) (a b : Option Addr) (n m ca cb : Nat) (w : World) (hn : n ≤ maxLen) (hm : m ≤ maxLen) (hT : (gTwo W H U V n m && gIn D 1 8) = false) :
    Calls Try.prog 62 #[.agg #[.int .i64 W, .int .i64 H, .slice a n ca], .agg #[.int .i64 U, .int .i64 V, .slice b m cb], .int .i64 D] w fun e w' => e = .returned (.tuple #[.agg #[.int .i64 0, .int .i64 0, .int .i64 0, .slice none 0 0], .bool false]) ∧ Gr w w' := by
  have HT := Lib.hid hT
  clear hT
  go_enter Try.func62, Try.ntmps62
  go_wp2_with fail
  refine (I_pairVolume_no W H U V D a b _ _ _ _ _ _ hn hm HT.out).mono ?_
  rintro e u1 ⟨rfl, g⟩
  have B2 := Lib.hid (Blk.gr (show Blk _ (w.heap.size + 1 + 1) [.int .i64 0, .int .i64 0, .int .i64 0, .slice none 0 0] 44 from (by repeat (with_reducible first | assumption | exact Blk.atNew (by simp) | refine Blk.alloc ?_ _ | refine Blk.grew ?_ _ _ | refine Blk.drewN ?_ _ | refine Blk.drew ?_))) g)
  have G1 := Lib.hid (Gr.trans (show Gr w _ from (by (try show Gr _ _); repeat (with_reducible first | exact Gr.refl _ | refine Gr.drewN ?_ _ | refine Gr.grew ?_ _ _ | refine Gr.alloc ?_ _ | refine Gr.drew ?_))) g)
  have q0 := B2.out.cellv 0
  have q1 := B2.out.cellv 1
  have q2 := B2.out.cellv 2
  have q3 := B2.out.cellv 3
  have z0 := B2.out.frozen 0
  have z1 := B2.out.frozen 1
  have z2 := B2.out.frozen 2
  have z3 := B2.out.frozen 3
  clear g
  go_wp2
  refine bodyPost_ret (v := .tuple #[.agg #[.int .i64 0, .int .i64 0, .int .i64 0, .slice none 0 0], .bool false]) (by simp [results, Try.results62, go_sem, *]) rfl ⟨rfl, ?_⟩
  have h := G1.out
  exact (by repeat (with_reducible first | assumption | refine Gr.setCell ?_ (by simp <;> omega) _))
theorem tells_SquareVolume (W H D b1 b2 ca cb : Nat) (a b : Option Addr) (ls rs : List Nat) (w : World) (m1 : MP w b1 W H a ls.length ca ls) (m2 : MP w b2 W H b rs.length cb rs) (hW0 : 1 ≤ W) (hH0 : 1 ≤ H) (hW : W ≤ 24) (hH : H ≤ 24) (hD : D ≤ 8) (hl : ls.length = W * H) (hm : rs.length = W * H) :
    Tells3 w 105 #[.pointer (some ⟨b1, 0, none⟩), .pointer (some ⟨b2, 0, none⟩)] W H D (gSq ls rs W H) :=
  ⟨Try.call105, fun x y d hx hy hd w1 g => I_SquareVolume_1 W H x y d b1 b2 ca cb a b ls rs w1 (m1.gr g) (m2.gr g) hW0 hH0 hW hH hl hm hx hy (by omega)⟩
set_option maxRecDepth 20000 in
set_option maxHeartbeats 1000000 in
theorem I_SquareVolume_ok (W H D ca cb : Nat) (a b : Option Addr) (ls rs : List Nat) (w : World) (fx : FSl w a ls.length ls) (fy : FSl w b rs.length rs) (hn : ls.length ≤ maxLen) (hm : rs.length ≤ maxLen) (hS : gSize W H = true) (h2 : gTwo W H W H ls.length rs.length = true) (hI : gIn (D : Int) 1 8 = true) (hl : ls.length = W * H) (hr : rs.length = W * H) :
    Calls Try.prog 62 #[.agg #[.int .i64 W, .int .i64 H, .slice a ls.length ca], .agg #[.int .i64 W, .int .i64 H, .slice b rs.length cb], .int .i64 D] w fun e w' => (∃ v c, e = .returned (.tuple #[.agg #[.int .i64 W, .int .i64 H, .int .i64 D, .slice v (W * H * D) c], .bool true]) ∧ FOwn w' w.heap.size 25 (.slice v (W * H * D) c) (lst (W * H * D) (gV3 W D (gSq ls rs W H)))) ∧ Gr w w' := by
  obtain ⟨s1, s2, s3, s4, s5, s6⟩ := gSize_true hS
  have hd : 1 ≤ D ∧ D ≤ 8 := by unfold gIn at hI; simp at hI; omega
  have Fx := Lib.hid fx
  have Fy := Lib.hid fy
  have HP := Lib.hid (fun (u : World) (b1 b2 : Nat) (m1 : MP u b1 W H a ls.length ca ls) (m2 : MP u b2 W H b rs.length cb rs) => I_pairVolume_ok W H D a b ls rs ca cb 105 _ _ u hn hm hS h2 hI (tells_SquareVolume W H D b1 b2 ca cb a b ls rs u m1 m2 (by omega) (by omega) (by omega) (by omega) hd.2 hl hr))
  clear fx fy hS h2 hI hl hr s5 s6
  go_enter Try.func62, Try.ntmps62
  go_wp2_with fail
  refine (HP.out _ _ _ ⟨(by first | (simp (maxDischargeDepth := 12) [go_sem]; done) | (simp (maxDischargeDepth := 12) [go_sem, *]; done)), (by first | (simp (maxDischargeDepth := 12) [go_sem]; done) | (simp (maxDischargeDepth := 12) [go_sem, *]; done)), (by first | (simp (maxDischargeDepth := 12) [go_sem]; done) | (simp (maxDischargeDepth := 12) [go_sem, *]; done)), Fx.out.keep (by (repeat (with_reducible first | exact Kp.refl _ | exact kp_same | exact kp_app1 | exact kp_app2 | exact kp_app3 | refine Kp.grew ?_ _ _ | refine Kp.drewN ?_ _ | refine Kp.drew ?_ | refine Kp.alloc ?_ _)))⟩ ⟨(by first | (simp (maxDischargeDepth := 12) [go_sem]; done) | (simp (maxDischargeDepth := 12) [go_sem, *]; done)), (by first | (simp (maxDischargeDepth := 12) [go_sem]; done) | (simp (maxDischargeDepth := 12) [go_sem, *]; done)), (by first | (simp (maxDischargeDepth := 12) [go_sem]; done) | (simp (maxDischargeDepth := 12) [go_sem, *]; done)), Fy.out.keep (by (repeat (with_reducible first | exact Kp.refl _ | exact kp_same | exact kp_app1 | exact kp_app2 | exact kp_app3 | refine Kp.grew ?_ _ _ | refine Kp.drewN ?_ _ | refine Kp.drew ?_ | refine Kp.alloc ?_ _)))⟩).mono ?_
  rintro e u1 ⟨⟨v, c, rfl, ho⟩, g⟩
  have B2 := Lib.hid (Blk.gr (show Blk _ (w.heap.size + 1 + 1) [.int .i64 0, .int .i64 0, .int .i64 0, .slice none 0 0] 44 from (by repeat (with_reducible first | assumption | exact Blk.atNew (by simp) | refine Blk.alloc ?_ _ | refine Blk.grew ?_ _ _ | refine Blk.drewN ?_ _ | refine Blk.drew ?_))) g)
  have G1 := Lib.hid (Gr.trans (show Gr w _ from (by (try show Gr _ _); repeat (with_reducible first | exact Gr.refl _ | refine Gr.drewN ?_ _ | refine Gr.grew ?_ _ _ | refine Gr.alloc ?_ _ | refine Gr.drew ?_))) g)
  have Ho := Lib.hid ho
  have q0 := B2.out.cellv 0
  have q1 := B2.out.cellv 1
  have q2 := B2.out.cellv 2
  have q3 := B2.out.cellv 3
  have z0 := B2.out.frozen 0
  have z1 := B2.out.frozen 1
  have z2 := B2.out.frozen 2
  have z3 := B2.out.frozen 3
  clear g ho
  go_wp2
  refine bodyPost_ret (v := .tuple #[.agg #[.int .i64 W, .int .i64 H, .int .i64 D, .slice v (W * H * D) c], .bool true]) (by simp [results, Try.results62, go_sem, *]) rfl ⟨⟨_, _, rfl, ?_⟩, ?_⟩
  · have h := Ho.out.base (B' := w.heap.size + 1 + 1 + 1) (by simp)
    exact FOwn.base (B := w.heap.size + 1 + 1 + 1) (by repeat (with_reducible first | assumption | refine FOwn.setOther ?_ _ (by simp <;> omega))) (by omega)
  · have h := G1.out
    exact (by repeat (with_reducible first | assumption | refine Gr.setCell ?_ (by simp <;> omega) _))
end Go.Proofs.Ytomlfdkcgaogcaa
