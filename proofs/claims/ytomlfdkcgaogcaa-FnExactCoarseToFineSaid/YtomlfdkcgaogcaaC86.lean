/- Contracts: the values that both maps tell. MAXREC -/
import Derived.Test.YtomlfdkcgaogcaaProg
import Derived.Test.YtomlfdkcgaogcaaC85
import Derived.Deep.DeepCutAuto
namespace Go.Proofs.Ytomlfdkcgaogcaa
open Go.RowKit Go.Fx Go.Soft
set_option maxRecDepth 20000 in
set_option maxHeartbeats 4000000 in
theorem S_l05Check (W H b1 b2 ca cb near N : Nat) (a b : Option Addr) (xs ys : List Nat) (p q : Nat → Int) (w : World) (m1 : MP w b1 W H a xs.length ca xs) (m2 : MP w b2 W H b ys.length cb ys) (hW0 : 1 ≤ W) (hH0 : 1 ≤ H) (hW : W ≤ 24) (hH : H ≤ 24) (hn : xs.length = W * H) (hm : ys.length = W * H) (hN : FE .f32 near N) (hX : ∀ k, k < W * H → xs.getD k 0 = floatOfInt .f32 (p k)) (hY : ∀ k, k < W * H → ys.getD k 0 = floatOfInt .f32 (q k)) (hp : ∀ k, -1 ≤ p k ∧ p k < 8) (hq : ∀ k, -1 ≤ q k ∧ q k < 8) :
    Calls Try.prog 54 #[.pointer (some ⟨b1, 0, none⟩), .pointer (some ⟨b2, 0, none⟩), .float .f32 near] w
      fun e w1 => (∃ v, e = .returned (.agg #[.int .i64 W, .int .i64 H, v]) ∧ FOwn w1 w.heap.size 25 v (lst (xs.length) (gChk p q W N))) ∧ Gr w w1 := by
  have hWH6 : W * H ≤ 576 := Nat.mul_le_mul hW hH
  have hpos : 0 < xs.length := by rw [hn]; exact Nat.mul_pos hW0 hH0
  have hx6 : xs.length ≤ 576 := by rw [hn]; exact hWH6
  have e1 := Lib.hid hn
  have e2 := Lib.hid hm
  have p0 := m1.c0
  have p1 := m1.c1
  have p2 := m1.c2
  obtain ⟨bx, ox, rfl⟩ := m1.fs.ptr hpos
  obtain ⟨by', oy, rfl⟩ := m2.fs.ptr (by omega)
  have M1 := Lib.hid m1
  have M2 := Lib.hid m2
  have HX := Lib.hid hX
  have HY := Lib.hid hY
  have Hp := Lib.hid hp
  have Hq := Lib.hid hq
  clear hn hm m1 m2 hX hY hp hq hWH6
  go_enter Try.func54, Try.ntmps54
  go_wp2
  apply region_facts 10 [8, 9] (fun k v w' => (k = 8 → ∃ v', v = .agg #[.int .i64 W, .int .i64 H, v'] ∧ FOwn w' (w.heap.size + 1) 25 v' (lst xs.length fun _ => 3212836864)) ∧ (k = 9 → ∃ b, v = .pointer (some ⟨b, 0, none⟩) ∧ w.heap.size + 1 ≤ b ∧ Blk w' b [.int .i64 0, .int .i64 0, .slice none 0 0] 30))
  case hm => kernel_rfl
  case hB => kernel_rfl
  case hR => rfl
  case hP => (intro k hk v w1 w2 hg hv; exact ⟨fun h => (by obtain ⟨v', e, ho⟩ := hv.1 h; exact ⟨v', e, ho.gr hg⟩), fun h => (by obtain ⟨b, e, hl, hb⟩ := hv.2 h; exact ⟨b, e, hl, hb.gr hg⟩)⟩)
  simp only [List.take_succ_cons, List.take_zero, List.drop_succ_cons, List.drop_zero]
  repeat (first
    | ((with_reducible apply wpF_call (f := 86) (S := fun v => ∃ a', v = .agg #[.int .i64 W, .int .i64 H, a'])); (case hw => rfl); (case hc => exact Try.call86); (case hv => ((conv => lhs; simp [Act.eval]); try rfl)); (case hS => (intro os m _; refine (S_l03Flat W H xs.length _ 3212836864 _ (FE.lit (by decide +kernel)) hW hH e1.out).mono ?_; rintro e w' ⟨⟨v', rfl, ho⟩, g⟩; exact ⟨_, rfl, g, fun _ => ⟨fun _ => ⟨v', rfl, ho.base (by simp)⟩, fun h => absurd h (by decide)⟩, v', rfl⟩)); (case hne => exact ⟨_, .slice none 0 0, rfl⟩); (rintro v ⟨vq, rfl⟩; simp only [Act.put, List.setIfInBounds_toArray, List.set_cons_succ, List.set_cons_zero]))
    | ((with_reducible apply wpF_new (c := #[.int .i64 0, .int .i64 0, .slice none 0 0]) (e := 30) (fun b => .pointer (some ⟨b, 0, none⟩))); (case hw => rfl); (case hx => (intro w; simp [execOp, go_sem]; done)); (case hF => (intro w' b hb hc _; exact ⟨fun h => absurd h (by decide), fun _ => ⟨b, rfl, by simpa using hb, ⟨hc⟩⟩⟩)); (intro b hb; simp only [Act.put, List.setIfInBounds_toArray, List.set_cons_succ, List.set_cons_zero]))
    | (apply wpF_skip rfl (by decide); simp only [Act.put, List.setIfInBounds_toArray, List.set_cons_succ, List.set_cons_zero])
    | (apply wpF_nilCheck rfl (by decide) rfl; simp only [Act.put, List.setIfInBounds_toArray, List.set_cons_succ, List.set_cons_zero])
    | ((with_reducible apply wpF_fop); (case hw => rfl); (case hT => decide); (case hop => rfl); (case hx => rfl); (case hy => rfl); (case hA => (first | assumption | exact FE.ofInt _ _ | exact FE.lit (by decide +kernel))); (case hB => (first | assumption | exact FE.ofInt _ _ | exact FE.lit (by decide +kernel))); (intro r hr; simp only [Act.put, List.setIfInBounds_toArray, List.set_cons_succ, List.set_cons_zero]))
    | ((with_reducible apply wpF_fneg); (case hw => rfl); (case hT => decide); (case hx => rfl); (case hA => (first | assumption | exact FE.ofInt _ _ | exact FE.lit (by decide +kernel))); (intro r hr; simp only [Act.put, List.setIfInBounds_toArray, List.set_cons_succ, List.set_cons_zero]))
    | ((with_reducible apply wpF_fcmp); (case hw => rfl); (case hT => decide); (case hop => rfl); (case hx => rfl); (case hy => rfl); (case hA => (first | assumption | exact FE.ofInt _ _ | exact FE.lit (by decide +kernel))); (case hB => (first | assumption | exact FE.ofInt _ _ | exact FE.lit (by decide +kernel))); (case hb => (first | assumption | rfl)); simp only [Act.put, List.setIfInBounds_toArray, List.set_cons_succ, List.set_cons_zero])
    | (apply wpF_q rfl (by decide) rfl; intro K hK; go_big_quiet_op; go_big_quiet_on))
  with_reducible apply wpF_nil
  intro os m hf
  obtain ⟨v', ev, ho⟩ := hf.1.1 rfl
  obtain ⟨b', eb, hl, hb1⟩ := hf.2.1.2 rfl
  simp at ev eb
  subst ev eb
  obtain ⟨u, hu⟩ : ∃ u, u = World.grew (w.alloc (.cells #[.int .i64 0, .int .i64 0, .slice none 0 0] 30)) os m := ⟨_, rfl⟩
  rw [← hu] at ho hb1 ⊢
  have k : Gr w u := by rw [hu]; exact (by (try show Gr _ _); repeat (with_reducible first | exact Gr.refl _ | refine Gr.drewN ?_ _ | refine Gr.grew ?_ _ _ | refine Gr.alloc ?_ _ | refine Gr.drew ?_))
  have B0 : Blk u w.heap.size [.int .i64 0, .int .i64 0, .slice none 0 0] 30 := by rw [hu]; exact (by repeat (with_reducible first | assumption | exact Blk.atNew (by simp) | refine Blk.alloc ?_ _ | refine Blk.grew ?_ _ _ | refine Blk.drewN ?_ _ | refine Blk.drew ?_))
  clear hf hu hb
  obtain ⟨g, cg, hv, -⟩ := ho.ptr (by rw [lst_length]; exact hpos)
  rw [lst_length] at hv
  subst hv
  have q0 := hb1.cellv 0
  have q1 := hb1.cellv 1
  have q2 := hb1.cellv 2
  have z0 := hb1.frozen 0
  have z1 := hb1.frozen 1
  have z2 := hb1.frozen 2
  have Hb := Lib.hid hb1
  have HB0 := Lib.hid B0
  have Ho := Lib.hid ho
  have K := Lib.hid k
  clear hb1 B0 ho k
  go_upto_region 2 with fail
  obtain ⟨u2, hu2⟩ : ∃ u2, u2 = ((u.setCell ⟨b, 0, none⟩ (.int .i64 W)).setCell ⟨b, 1, none⟩ (.int .i64 H)).setCell ⟨b, 2, none⟩ (.slice (some ⟨g, 0, none⟩) xs.length cg) := ⟨_, rfl⟩
  rw [← hu2]
  have hb2 : Blk u2 b [.int .i64 W, .int .i64 H, .slice (some ⟨g, 0, none⟩) xs.length cg] 30 := by rw [hu2]; exact ((Hb.out.set (i := 0) _).set (i := 1) _).set (i := 2) _
  have k2 : Gr w u2 := by rw [hu2]; exact ((K.out.setCell (by show w.heap.size ≤ b; omega) _).setCell (by show w.heap.size ≤ b; omega) _).setCell (by show w.heap.size ≤ b; omega) _
  have hb0 : Blk u2 w.heap.size [.int .i64 0, .int .i64 0, .slice none 0 0] 30 := by rw [hu2]; exact ((HB0.out.setOther _ (by show b ≠ _; omega)).setOther _ (by show b ≠ _; omega)).setOther _ (by show b ≠ _; omega)
  have ho2 : FOwn u2 (w.heap.size + 1) 25 (.slice (some ⟨g, 0, none⟩) xs.length cg) (lst xs.length fun _ => 3212836864) := by
    rw [hu2]
    have h1 := Ho.out.setBlk (i := 0) (u := .int .i64 W) Hb.out (by decide)
    have h2 := h1.setBlk (i := 1) (u := .int .i64 H) (Hb.out.set (i := 0) _) (by decide)
    exact h2.setBlk (i := 2) ((Hb.out.set (i := 0) _).set (i := 1) _) (by decide)
  clear hu2 Hb K HB0 Ho q0 q1 q2 z0 z1 z2
  have o2 := k2.cell M1.out.c2
  go_wp2
  clear o2 p0 p1 p2
  have Hb2 := Lib.hid hb2
  have Hb0 := Lib.hid hb0
  have Ho2 := Lib.hid ho2
  have K2 := Lib.hid k2
  clear hb2 hb0 ho2 k2
  go_loopw [8, 26] (fun s8 i wr => ∃ k : Nat, k ≤ xs.length ∧ i = .int .i64 k ∧ Blk wr (w.heap.size) [.int .i64 0, .int .i64 0, .slice none 0 0] 30 ∧ Blk wr (b) [.int .i64 W, .int .i64 H, .slice (some ⟨g, 0, none⟩) (xs.length) cg] 30 ∧ FOwn wr (w.heap.size + 1) 25 (.slice (some ⟨g, 0, none⟩) (xs.length) cg) (upto (xs.length) k (gChk p q W N) (fun _ => 3212836864)) ∧ Gr w wr) (fun _ i _ => xs.length - (intOf i).toNat)
  case atStart => exact ⟨0, Nat.zero_le _, rfl, Hb0.out, Hb2.out, by rw [upto_zero]; exact Ho2.out, K2.out⟩
  case round =>
    clear Hb2 Hb0 Ho2 K2
    obtain ⟨k, hk, rfl, b0, bO, ho, hg⟩ := hrel
    by_cases hlt : k < xs.length
    · obtain ⟨ro, hco, -⟩ := ho.get k (by simp; exact hlt)
      have hz := ho.free k
      have o2 := bO.cellv 2
      have hgb : g ≠ b := by
        intro e
        exact ho.okb (.inr (bO.okb (e := 25) (by decide))) (by simp [Value.ownBlock, e])
      have hg3 : w.heap.size + 1 ≤ g := (ho.block rfl).1
      have MM := Lib.hid (M1.out.gr hg)
      have PP := Lib.hid (M2.out.gr hg)
      have m0 := MM.out.c0
      have m2 := MM.out.c2
      have n2 := PP.out.c2
      obtain ⟨rx, hcx, hrx⟩ := MM.out.fs.get k hlt
      have hkN : k < W * H := by rw [← e1.out]; exact hlt
      rw [HX.out k hkN] at hrx
      have hw := gChk_ways p q W N k
      have h1 := small_place _ (Hp.out k)
      have h1' := small_place' _ (Hp.out k)
      have hp' := Hp.out k
      have Hgb := Lib.hid hgb
      have Hg3 := Lib.hid hg3
      have B0 := Lib.hid b0
      have BO := Lib.hid bO
      have Ho := Lib.hid ho
      have Hg := Lib.hid hg
      clear b0 bO ho hg hgb hg3
      have e3 : (k : Int).tmod (W : Int) = ((k % W : Nat) : Int) := by rw [Int.tmod_eq_emod_of_nonneg (by omega)]; exact (Int.natCast_emod k W).symm
      have e5 : ¬ (W : Int) = 0 := by omega
      obtain ⟨x, hx⟩ : ∃ x, x = k % W := ⟨_, rfl⟩
      have hxk : x ≤ k := by rw [hx]; exact Nat.mod_le _ _
      rw [← hx] at e3 hw
      obtain ⟨G, hG⟩ : ∃ G, G = gChk p q W N k := ⟨_, rfl⟩
      rw [← hG] at hw
      have EV := Lib.hid hG.symm
      obtain ⟨pk, hpk⟩ : ∃ pk, pk = p k := ⟨_, rfl⟩
      rw [← hpk] at hw h1 h1' hp' hrx
      obtain ⟨o, ho⟩ : ∃ o, o = floatOfInt .f32 pk := ⟨_, rfl⟩
      rw [← ho] at hw h1 h1' hrx
      obtain ⟨-, hT⟩ := h1
      have HPl := Lib.hid (fun (r : Nat) (u : World) (h : FE .f32 r o) => (by have := S_l03Place r o u h; rwa [h1'] at this : Calls Try.prog 87 #[.float .f32 r] u fun e w' => e = .returned (.int .i64 pk) ∧ ∃ n, w' = u.drewN n))
      clear hG hpk ho h1' hx
      rcases hw with ⟨h0, rfl⟩ | ⟨h0, h1, rfl⟩ | ⟨n, rfl, hn, hw⟩
      · rw [decide_eq_true h0] at hT
        go_wp2_with (first
      | (go_at_call 87; (with_reducible refine (HPl.out _ _ (by assumption)).mono ?_); rintro e w' ⟨rfl, n, rfl⟩)
      | (go_at_call 74; with_reducible refine (S_l05Hole _ _ _ (by assumption)).mono ?_; rintro e w' ⟨rfl, n, rfl⟩; rw [hT]))
        go_roundw
        case rel => exact ⟨k + 1, by omega, by go_num, B0.out.gr (by (try show Gr _ _); repeat (with_reducible first | exact Gr.refl _ | refine Gr.drewN ?_ _ | refine Gr.grew ?_ _ _ | refine Gr.alloc ?_ _ | refine Gr.drew ?_)), BO.out.gr (by (try show Gr _ _); repeat (with_reducible first | exact Gr.refl _ | refine Gr.drewN ?_ _ | refine Gr.grew ?_ _ _ | refine Gr.alloc ?_ _ | refine Gr.drew ?_)), (by rw [← upto_keep (n := xs.length) (k := k) (G := gChk p q W N) (O := fun _ => 3212836864) (EV.out).symm]; exact Ho.out.gr (by (try show Gr _ _); repeat (with_reducible first | exact Gr.refl _ | refine Gr.drewN ?_ _ | refine Gr.grew ?_ _ _ | refine Gr.alloc ?_ _ | refine Gr.drew ?_))), Hg.out.trans (by (try show Gr _ _); repeat (with_reducible first | exact Gr.refl _ | refine Gr.drewN ?_ _ | refine Gr.grew ?_ _ _ | refine Gr.alloc ?_ _ | refine Gr.drew ?_))⟩
        case measure => simp [intOf]; omega
      · have hT' : gHole o = false := by rw [hT]; simp; omega
        have hI := Lib.hid (show gIn pk 0 (x : Int) = false by unfold gIn; simp; omega)
        clear hT
        go_wp2_with (first
      | (go_at_call 87; (with_reducible refine (HPl.out _ _ (by assumption)).mono ?_); rintro e w' ⟨rfl, n, rfl⟩)
      | (go_at_call 74; with_reducible refine (S_l05Hole _ _ _ (by assumption)).mono ?_; rintro e w' ⟨rfl, n, rfl⟩; rw [hT'])
      | (go_at_call 60; with_reducible refine (S_l00In _ _ _ _).mono ?_; rintro e w' ⟨rfl, hw⟩; (obtain rfl := hw.symm; rw [hI.out])))
        go_roundw
        case rel => exact ⟨k + 1, by omega, by go_num, B0.out.gr (by (try show Gr _ _); repeat (with_reducible first | exact Gr.refl _ | refine Gr.drewN ?_ _ | refine Gr.grew ?_ _ _ | refine Gr.alloc ?_ _ | refine Gr.drew ?_)), BO.out.gr (by (try show Gr _ _); repeat (with_reducible first | exact Gr.refl _ | refine Gr.drewN ?_ _ | refine Gr.grew ?_ _ _ | refine Gr.alloc ?_ _ | refine Gr.drew ?_)), (by rw [← upto_keep (n := xs.length) (k := k) (G := gChk p q W N) (O := fun _ => 3212836864) (EV.out).symm]; exact Ho.out.gr (by (try show Gr _ _); repeat (with_reducible first | exact Gr.refl _ | refine Gr.drewN ?_ _ | refine Gr.grew ?_ _ _ | refine Gr.alloc ?_ _ | refine Gr.drew ?_))), Hg.out.trans (by (try show Gr _ _); repeat (with_reducible first | exact Gr.refl _ | refine Gr.drewN ?_ _ | refine Gr.grew ?_ _ _ | refine Gr.alloc ?_ _ | refine Gr.drew ?_))⟩
        case measure => simp [intOf]; omega
      · have hT' : gHole o = false := by rw [hT]; simp
        have hI := Lib.hid (show gIn (n : Int) 0 (x : Int) = true by unfold gIn; simp; omega)
        obtain ⟨j, hj⟩ : ∃ j, j = k - n := ⟨_, rfl⟩
        have hjk : (k : Int) - (n : Int) = (j : Int) := by omega
        have hjN : j < W * H := by omega
        have hjy : j < ys.length := by rw [e2.out]; exact hjN
        obtain ⟨ry, hcy, hry⟩ := PP.out.fs.get j hjy
        rw [HY.out j hjN] at hry
        rw [← hj] at hw
        have h2 := (small_place _ (Hq.out j)).2
        have wj : IntKind.i64.wrap (j : Int) = (j : Int) := IntWalk.i64_in _ (by omega)
        obtain ⟨qk, hqk⟩ : ∃ qk, qk = q j := ⟨_, rfl⟩
        rw [← hqk] at hw h2 hry
        obtain ⟨z, hz⟩ : ∃ z, z = floatOfInt .f32 qk := ⟨_, rfl⟩
        rw [← hz] at hw h2 hry
        clear hqk hz hT hj
        rcases hw with ⟨g0, rfl⟩ | ⟨g0, g1, rfl⟩ | ⟨g0, g1, rfl⟩
        · rw [decide_eq_true g0] at h2
          go_wp2_with (first
      | (go_at_call 87; (with_reducible refine (HPl.out _ _ (by assumption)).mono ?_); rintro e w' ⟨rfl, n, rfl⟩)
      | (go_at_call 74; with_reducible refine (S_l05Hole _ _ _ (by assumption)).mono ?_; rintro e w' ⟨rfl, n, rfl⟩; first | rw [hT'] | rw [h2])
      | (go_at_call 60; with_reducible refine (S_l00In _ _ _ _).mono ?_; rintro e w' ⟨rfl, hw⟩; (obtain rfl := hw.symm; rw [hI.out])))
          go_roundw
          case rel => exact ⟨k + 1, by omega, by go_num, B0.out.gr (by (try show Gr _ _); repeat (with_reducible first | exact Gr.refl _ | refine Gr.drewN ?_ _ | refine Gr.grew ?_ _ _ | refine Gr.alloc ?_ _ | refine Gr.drew ?_)), BO.out.gr (by (try show Gr _ _); repeat (with_reducible first | exact Gr.refl _ | refine Gr.drewN ?_ _ | refine Gr.grew ?_ _ _ | refine Gr.alloc ?_ _ | refine Gr.drew ?_)), (by rw [← upto_keep (n := xs.length) (k := k) (G := gChk p q W N) (O := fun _ => 3212836864) (EV.out).symm]; exact Ho.out.gr (by (try show Gr _ _); repeat (with_reducible first | exact Gr.refl _ | refine Gr.drewN ?_ _ | refine Gr.grew ?_ _ _ | refine Gr.alloc ?_ _ | refine Gr.drew ?_))), Hg.out.trans (by (try show Gr _ _); repeat (with_reducible first | exact Gr.refl _ | refine Gr.drewN ?_ _ | refine Gr.grew ?_ _ _ | refine Gr.alloc ?_ _ | refine Gr.drew ?_))⟩
          case measure => simp [intOf]; omega
        · replace h2 : gHole z = false := by rw [h2]; simp; omega
          unfold gNear at g1
          go_wp2_with (first
      | (go_at_call 87; (with_reducible refine (HPl.out _ _ (by assumption)).mono ?_); rintro e w' ⟨rfl, n, rfl⟩)
      | (go_at_call 74; with_reducible refine (S_l05Hole _ _ _ (by assumption)).mono ?_; rintro e w' ⟨rfl, n, rfl⟩; first | rw [hT'] | rw [h2])
      | (go_at_call 60; with_reducible refine (S_l00In _ _ _ _).mono ?_; rintro e w' ⟨rfl, hw⟩; (obtain rfl := hw.symm; rw [hI.out]))
      | (go_at_call 88; refine (S_l03Size _ _ _ (by assumption)).mono ?_; rintro e w' ⟨r, rfl, hr, n, rfl⟩)
      | ((with_reducible apply wpList_fop); (case hw => rfl); (case hop => rfl); (case hx => rfl); (case hy => rfl); (case hA => (first | assumption | exact FE.ofInt _ _ | exact FE.lit (by decide +kernel))); (case hB => (first | assumption | exact FE.ofInt _ _ | exact FE.lit (by decide +kernel))); intro r n hr)
      | ((with_reducible apply wpList_fcmp); (case hw => rfl); (case hop => rfl); (case hx => rfl); (case hy => rfl); (case hA => (first | assumption | exact FE.ofInt _ _ | exact FE.lit (by decide +kernel))); (case hB => (first | assumption | exact FE.ofInt _ _ | exact FE.lit (by decide +kernel))); (case hb => (first | assumption | rfl)))
      | ((with_reducible apply wpList_widen); (case hw => rfl); (case hs => exact Try.underlying25); (case hd => exact Try.underlying61); (case hx => rfl); (case hA => (first | assumption | exact FE.ofInt _ _ | exact FE.lit (by decide +kernel))); intro r n hr)
      | ((with_reducible apply wpList_fneg); (case hw => rfl); (case hx => rfl); (case hA => (first | assumption | exact FE.ofInt _ _ | exact FE.lit (by decide +kernel))); intro r hr))
          go_roundw
          case rel => exact ⟨k + 1, by omega, by go_num, B0.out.gr (by (try show Gr _ _); repeat (with_reducible first | exact Gr.refl _ | refine Gr.drewN ?_ _ | refine Gr.grew ?_ _ _ | refine Gr.alloc ?_ _ | refine Gr.drew ?_)), BO.out.gr (by (try show Gr _ _); repeat (with_reducible first | exact Gr.refl _ | refine Gr.drewN ?_ _ | refine Gr.grew ?_ _ _ | refine Gr.alloc ?_ _ | refine Gr.drew ?_)), (by rw [← upto_keep (n := xs.length) (k := k) (G := gChk p q W N) (O := fun _ => 3212836864) (EV.out).symm]; exact Ho.out.gr (by (try show Gr _ _); repeat (with_reducible first | exact Gr.refl _ | refine Gr.drewN ?_ _ | refine Gr.grew ?_ _ _ | refine Gr.alloc ?_ _ | refine Gr.drew ?_))), Hg.out.trans (by (try show Gr _ _); repeat (with_reducible first | exact Gr.refl _ | refine Gr.drewN ?_ _ | refine Gr.grew ?_ _ _ | refine Gr.alloc ?_ _ | refine Gr.drew ?_))⟩
          case measure => simp [intOf]; omega
        · replace h2 : gHole z = false := by rw [h2]; simp; omega
          unfold gNear at g1
          go_wp2_with (first
      | (go_at_call 87; (with_reducible refine (HPl.out _ _ (by assumption)).mono ?_); rintro e w' ⟨rfl, n, rfl⟩)
      | (go_at_call 74; with_reducible refine (S_l05Hole _ _ _ (by assumption)).mono ?_; rintro e w' ⟨rfl, n, rfl⟩; first | rw [hT'] | rw [h2])
      | (go_at_call 60; with_reducible refine (S_l00In _ _ _ _).mono ?_; rintro e w' ⟨rfl, hw⟩; (obtain rfl := hw.symm; rw [hI.out]))
      | (go_at_call 88; refine (S_l03Size _ _ _ (by assumption)).mono ?_; rintro e w' ⟨r, rfl, hr, n, rfl⟩)
      | ((with_reducible apply wpList_fop); (case hw => rfl); (case hop => rfl); (case hx => rfl); (case hy => rfl); (case hA => (first | assumption | exact FE.ofInt _ _ | exact FE.lit (by decide +kernel))); (case hB => (first | assumption | exact FE.ofInt _ _ | exact FE.lit (by decide +kernel))); intro r n hr)
      | ((with_reducible apply wpList_fcmp); (case hw => rfl); (case hop => rfl); (case hx => rfl); (case hy => rfl); (case hA => (first | assumption | exact FE.ofInt _ _ | exact FE.lit (by decide +kernel))); (case hB => (first | assumption | exact FE.ofInt _ _ | exact FE.lit (by decide +kernel))); (case hb => (first | assumption | rfl)))
      | ((with_reducible apply wpList_widen); (case hw => rfl); (case hs => exact Try.underlying25); (case hd => exact Try.underlying61); (case hx => rfl); (case hA => (first | assumption | exact FE.ofInt _ _ | exact FE.lit (by decide +kernel))); intro r n hr)
      | ((with_reducible apply wpList_fneg); (case hw => rfl); (case hx => rfl); (case hA => (first | assumption | exact FE.ofInt _ _ | exact FE.lit (by decide +kernel))); intro r hr))
          go_roundw
          case rel =>
            have hx := Hg3.out
            refine ⟨k + 1, by omega, by go_num, B0.out.setG (by (try show Gr _ _); repeat (with_reducible first | exact Gr.refl _ | refine Gr.drewN ?_ _ | refine Gr.grew ?_ _ _ | refine Gr.alloc ?_ _ | refine Gr.drew ?_)) (by simp; omega), BO.out.setG (by (try show Gr _ _); repeat (with_reducible first | exact Gr.refl _ | refine Gr.drewN ?_ _ | refine Gr.grew ?_ _ _ | refine Gr.alloc ?_ _ | refine Gr.drew ?_)) Hgb.out, ?_, Hg.out.setG (by (try show Gr _ _); repeat (with_reducible first | exact Gr.refl _ | refine Gr.drewN ?_ _ | refine Gr.grew ?_ _ _ | refine Gr.alloc ?_ _ | refine Gr.drew ?_)) (by simp; omega)⟩
            rw [← upto_set (G := gChk p q W N) (O := fun _ => 3212836864) hlt]
            refine FOwn.gr ?_ (by (try show Gr _ _); repeat (with_reducible first | exact Gr.refl _ | refine Gr.drewN ?_ _ | refine Gr.grew ?_ _ _ | refine Gr.alloc ?_ _ | refine Gr.drew ?_))
            rw [EV.out]
            exact Ho.out.store (k := k) (by first | assumption | exact FE.ofInt _ _ | exact FE.lit (by decide +kernel))
          case measure => simp [intOf]; omega
    · obtain rfl : k = xs.length := by omega
      have p0 := bO.cellv 0
      have p1 := bO.cellv 1
      have p2 := bO.cellv 2
      have q0 := b0.cellv 0
      have q1 := b0.cellv 1
      have q2 := b0.cellv 2
      have z0 := b0.frozen 0
      have z1 := b0.frozen 1
      have z2 := b0.frozen 2
      have Ho := Lib.hid ho
      have Hg := Lib.hid hg
      clear b0 bO ho hg
      go_wp2
      refine bodyPost_ret (v := .agg #[.int .i64 W, .int .i64 H, .slice (some ⟨g, 0, none⟩) (xs.length) cg]) (by simp [results, Try.results54, go_sem, *]) rfl ⟨⟨_, rfl, ?_⟩, ?_⟩
      · have h := Ho.out
        rw [upto_all] at h
        show FOwn _ _ _ _ (lst (xs.length) _)
        exact FOwn.base (B := w.heap.size + 1) (by repeat (with_reducible first | assumption | refine FOwn.setOther ?_ _ (by simp <;> omega))) (by omega)
      · have h := Hg.out
        exact (by repeat (with_reducible first | assumption | refine Gr.setCell ?_ (by simp <;> omega) _))
end Go.Proofs.Ytomlfdkcgaogcaa
