/- Contracts: winners near the places of a map, of the reference. MAXREC -/
import Derived.Test.YtomlfdkcgaogcaaProg
import Derived.Test.YtomlfdkcgaogcaaC38
import Derived.Test.YtomlfdkcgaogcaaC22
namespace Go.Proofs.Ytomlfdkcgaogcaa
open Go.RowKit Go.Fx Go.Soft
/-- One step of the search from lo on: four ways. -/
theorem gUp_step (f : Nat → Nat) (lo d : Nat) (h : lo ≤ d) :
    (gNaN (f d) = true ∧ gUp lo (gWin (fun j => f (lo + j)) (-1) (d + 1 - lo)) = gUp lo (gWin (fun j => f (lo + j)) (-1) (d - lo))) ∨
    (gNaN (f d) = false ∧ gUp lo (gWin (fun j => f (lo + j)) (-1) (d - lo)) = -1 ∧ gUp lo (gWin (fun j => f (lo + j)) (-1) (d + 1 - lo)) = (d : Int)) ∨
    (∃ b : Nat, b < d ∧ gNaN (f d) = false ∧ gUp lo (gWin (fun j => f (lo + j)) (-1) (d - lo)) = (b : Int) ∧ fcmp .lss .f32 (f d) (f b) = true ∧ gUp lo (gWin (fun j => f (lo + j)) (-1) (d + 1 - lo)) = (d : Int)) ∨
    (∃ b : Nat, b < d ∧ gNaN (f d) = false ∧ gUp lo (gWin (fun j => f (lo + j)) (-1) (d - lo)) = (b : Int) ∧ fcmp .lss .f32 (f d) (f b) = false ∧ gUp lo (gWin (fun j => f (lo + j)) (-1) (d + 1 - lo)) = gUp lo (gWin (fun j => f (lo + j)) (-1) (d - lo))) := by
  obtain ⟨k, rfl⟩ : ∃ k, d = lo + k := ⟨d - lo, by omega⟩
  rw [show lo + k + 1 - lo = k + 1 by omega, show lo + k - lo = k by omega]
  rcases gWin_step (fun j => f (lo + j)) (-1) k with ⟨h1, hE⟩ | ⟨h1, h2, hE⟩ | ⟨h1, h2, h3, hE⟩ | ⟨b, hb, h1, h2, h3, h4, hE⟩ | ⟨b, hb, h1, h2, h3, h4, hE⟩
  · omega
  · exact .inl ⟨h2, by rw [hE]⟩
  · exact .inr (.inl ⟨h2, by rw [h3]; rfl, by rw [hE]; unfold gUp; rw [if_neg (by omega)]; simp⟩)
  · exact .inr (.inr (.inl ⟨lo + b, by omega, h2, by rw [h3]; unfold gUp; rw [if_neg (by omega)]; simp, h4, by rw [hE]; unfold gUp; rw [if_neg (by omega)]; simp⟩))
  · exact .inr (.inr (.inr ⟨lo + b, by omega, h2, by rw [h3]; unfold gUp; rw [if_neg (by omega)]; simp, h4, by rw [hE]⟩))
theorem gWinN_ways2 (c : Nat → Nat) (D : Nat) (r p : Int) (hr : 0 ≤ r) (hD : 1 ≤ D) :
    (p < 0 ∧ gWinN c D r p = -1) ∨
    ∃ lo n : Nat, 0 ≤ p ∧ max 0 (p - r) = (lo : Int) ∧ (n = 0 ∨ lo + n ≤ D) ∧ (∀ d : Nat, lo ≤ d → d < lo + n → (d : Int) ≤ min ((D : Int) - 1) (p + r)) ∧ min ((D : Int) - 1) (p + r) < (lo : Int) + n ∧ gWinN c D r p = gUp lo (gWin (fun j => c (lo + j)) (-1) n) := by
  rcases gWinN_ways c D r p hr hD with h | ⟨h0, h1, h2⟩ | ⟨lo, m, h0, h1, h2, h3, h4⟩
  · exact .inl h
  · right
    obtain ⟨lo, hlo⟩ := Int.eq_ofNat_of_zero_le (show 0 ≤ max (p - r) 0 by omega)
    exact ⟨lo, 0, h0, by omega, .inl rfl, fun d _ _ => by omega, by omega, by rw [h2]; rfl⟩
  · right
    exact ⟨lo, m + 1, h0, by omega, .inr (by omega), fun d _ _ => by omega, by omega, h4⟩
theorem fcmp_eql_nan {x : Nat} (h : gNaN x = true) : fcmp .eql .f32 x x = false := by
  unfold gNaN at h
  cases hn : isN .f32 x
  · rw [fcmp_neq_self hn] at h; cases h
  · simp [fcmp, order_nan_left hn]
theorem fcmp_eql_num {x : Nat} (h : gNaN x = false) : fcmp .eql .f32 x x = true := by
  unfold gNaN at h
  cases hn : isN .f32 x
  · exact fcmp_eql_self hn
  · rw [fcmp_neq_nan hn] at h; cases h
def gNearAt (xs ms : List Nat) (D : Int) (r : Int) (i : Nat) : Nat := floatOfInt .f32 (gWinN (fun j => xs.getD (i * D.toNat + j) 0) D.toNat r (gPlace (ms.getD i 0)))
set_option maxRecDepth 20000 in
set_option maxHeartbeats 4000000 in
theorem S_l05Winners (W H D b1 b2 bx ox ca cb : Nat) (a : Option Addr) (xs ms : List Nat) (r : Int) (w : World) (mv : MV w b1 W H D (some ⟨bx, ox, none⟩) xs.length ca xs) (m1 : MP w b2 W H a ms.length cb ms) (hW0 : 1 ≤ W) (hH0 : 1 ≤ H) (hW : W ≤ 24) (hH : H ≤ 24) (hD0 : 1 ≤ D) (hD : D ≤ 8) (hn : xs.length = W * H * D) (hm : ms.length = W * H) (hr0 : 0 ≤ r) (hr8 : r ≤ 8) :
    Calls Try.prog 103 #[.pointer (some ⟨b1, 0, none⟩), .pointer (some ⟨b2, 0, none⟩), .int .i64 r] w
      fun e w1 => (∃ v, e = .returned (.agg #[.int .i64 W, .int .i64 H, v]) ∧ FOwn w1 w.heap.size 25 v (lst (W * H) (gNearAt xs ms D r))) ∧ Gr w w1 := by
  have hWH : 0 < W * H := Nat.mul_pos (by omega) (by omega)
  have hWH6 : W * H ≤ 576 := Nat.mul_le_mul hW hH
  have hx6 : xs.length ≤ 4608 := by rw [hn]; exact Nat.mul_le_mul hWH6 hD
  have e1 := Lib.hid hn
  have e2 := Lib.hid hm
  have p0 := mv.c0
  have p1 := mv.c1
  have Mv := Lib.hid mv
  have M1 := Lib.hid m1
  clear hn hm mv m1
  go_enter Try.func103, Try.ntmps103
  go_wp2
  apply region_facts 10 [8, 9] (fun k v w' => (k = 8 → ∃ v', v = .agg #[.int .i64 W, .int .i64 H, v'] ∧ FOwn w' (w.heap.size + 1) 25 v' (lst (W * H) fun _ => 3212836864)) ∧ (k = 9 → ∃ b, v = .pointer (some ⟨b, 0, none⟩) ∧ w.heap.size + 1 ≤ b ∧ Blk w' b [.int .i64 0, .int .i64 0, .slice none 0 0] 30))
  case hm => kernel_rfl
  case hB => kernel_rfl
  case hR => rfl
  case hP => (intro k hk v w1 w2 hg hv; exact ⟨fun h => (by obtain ⟨v', e, ho⟩ := hv.1 h; exact ⟨v', e, ho.gr hg⟩), fun h => (by obtain ⟨b, e, hl, hb⟩ := hv.2 h; exact ⟨b, e, hl, hb.gr hg⟩)⟩)
  simp only [List.take_succ_cons, List.take_zero, List.drop_succ_cons, List.drop_zero]
  repeat (first
    | ((with_reducible apply wpF_call (f := 86) (S := fun v => ∃ a', v = .agg #[.int .i64 W, .int .i64 H, a'])); (case hw => rfl); (case hc => exact Try.call86); (case hv => ((conv => lhs; simp [Act.eval]); try rfl)); (case hS => (intro os m _; refine (S_l03Flat W H (W * H) _ 3212836864 _ (FE.lit (by decide +kernel)) hW hH rfl).mono ?_; rintro e w' ⟨⟨v', rfl, ho⟩, g⟩; exact ⟨_, rfl, g, fun _ => ⟨fun _ => ⟨v', rfl, ho.base (by simp)⟩, fun h => absurd h (by decide)⟩, v', rfl⟩)); (case hne => exact ⟨_, .slice none 0 0, rfl⟩); (rintro v ⟨vq, rfl⟩; simp only [Act.put, List.setIfInBounds_toArray, List.set_cons_succ, List.set_cons_zero]))
    | ((with_reducible apply wpF_new (c := #[.int .i64 0, .int .i64 0, .slice none 0 0]) (e := 30) (fun b => .pointer (some ⟨b, 0, none⟩))); (case hw => rfl); (case hx => (intro w; simp [execOp, go_sem]; done)); (case hF => (intro w' b hb hc _; exact ⟨fun h => absurd h (by decide), fun _ => ⟨b, rfl, by simpa using hb, ⟨hc⟩⟩⟩)); (intro b hb; simp only [Act.put, List.setIfInBounds_toArray, List.set_cons_succ, List.set_cons_zero]))
    | (apply wpF_skip rfl (by decide); simp only [Act.put, List.setIfInBounds_toArray, List.set_cons_succ, List.set_cons_zero])
    | (apply wpF_nilCheck rfl (by decide) rfl; simp only [Act.put, List.setIfInBounds_toArray, List.set_cons_succ, List.set_cons_zero])
    | ((with_reducible apply wpF_fop); (case hw => rfl); (case hT => decide); (case hop => rfl); (case hx => rfl); (case hy => rfl); (case hA => (first | assumption | exact FE.ofInt _ _ | exact FE.lit (by decide +kernel))); (case hB => (first | assumption | exact FE.ofInt _ _ | exact FE.lit (by decide +kernel))); (intro r hr; simp only [Act.put, List.setIfInBounds_toArray, List.set_cons_succ, List.set_cons_zero]))
    | ((with_reducible apply wpF_fneg); (case hw => rfl); (case hT => decide); (case hx => rfl); (case hA => (first | assumption | exact FE.ofInt _ _ | exact FE.lit (by decide +kernel))); (intro r hr; simp only [Act.put, List.setIfInBounds_toArray, List.set_cons_succ, List.set_cons_zero]))
    | ((with_reducible apply wpF_fcmp); (case hw => rfl); (case hT => decide); (case hop => rfl); (case hx => rfl); (case hy => rfl); (case hA => (first | assumption | exact FE.ofInt _ _ | exact FE.lit (by decide +kernel))); (case hB => (first | assumption | exact FE.ofInt _ _ | exact FE.lit (by decide +kernel))); (case hb => (first | assumption | rfl)); simp only [Act.put, List.setIfInBounds_toArray, List.set_cons_succ, List.set_cons_zero])
    | (apply wpF_q rfl (by decide) rfl; intro K hK; go_big_quiet_op; go_big_quiet_on))
  with_reducible apply wpF_nil
  intro os m hf
  obtain ⟨v', ev, ho⟩ := hf.1.1 rfl
  obtain ⟨b', eb, hl, hb1⟩ := hf.2.1.2 rfl
  simp at ev eb
  subst ev eb
  obtain ⟨u, hu⟩ : ∃ u, u = World.grew (w.alloc (.cells #[.int .i64 0, .int .i64 0, .slice none 0 0] 30)) os m := ⟨_, rfl⟩
  rw [← hu] at ho hb1 ⊢
  have k : Gr w u := by rw [hu]; exact (by (try show Gr _ _); repeat (with_reducible first | exact Gr.refl _ | refine Gr.drewN ?_ _ | refine Gr.grew ?_ _ _ | refine Gr.alloc ?_ _ | refine Gr.drew ?_))
  have B0 : Blk u w.heap.size [.int .i64 0, .int .i64 0, .slice none 0 0] 30 := by rw [hu]; exact (by repeat (with_reducible first | assumption | exact Blk.atNew (by simp) | refine Blk.alloc ?_ _ | refine Blk.grew ?_ _ _ | refine Blk.drewN ?_ _ | refine Blk.drew ?_))
  clear hf hu hb
  obtain ⟨g, cg, hv, -⟩ := ho.ptr (by rw [lst_length]; exact hWH)
  rw [lst_length] at hv
  subst hv
  have q0 := hb1.cellv 0
  have q1 := hb1.cellv 1
  have q2 := hb1.cellv 2
  have z0 := hb1.frozen 0
  have z1 := hb1.frozen 1
  have z2 := hb1.frozen 2
  have Hb := Lib.hid hb1
  have HB0 := Lib.hid B0
  have Ho := Lib.hid ho
  have K := Lib.hid k
  clear hb1 B0 ho k
  go_wp2
  obtain ⟨u2, hu2⟩ : ∃ u2, u2 = ((u.setCell ⟨b, 0, none⟩ (.int .i64 W)).setCell ⟨b, 1, none⟩ (.int .i64 H)).setCell ⟨b, 2, none⟩ (.slice (some ⟨g, 0, none⟩) (W * H) cg) := ⟨_, rfl⟩
  rw [← hu2]
  have hb2 : Blk u2 b [.int .i64 W, .int .i64 H, .slice (some ⟨g, 0, none⟩) (W * H) cg] 30 := by rw [hu2]; exact ((Hb.out.set (i := 0) _).set (i := 1) _).set (i := 2) _
  have k2 : Gr w u2 := by rw [hu2]; exact ((K.out.setCell (by show w.heap.size ≤ b; omega) _).setCell (by show w.heap.size ≤ b; omega) _).setCell (by show w.heap.size ≤ b; omega) _
  have hb0 : Blk u2 w.heap.size [.int .i64 0, .int .i64 0, .slice none 0 0] 30 := by rw [hu2]; exact ((HB0.out.setOther _ (by show b ≠ _; omega)).setOther _ (by show b ≠ _; omega)).setOther _ (by show b ≠ _; omega)
  have ho2 : FOwn u2 (w.heap.size + 1) 25 (.slice (some ⟨g, 0, none⟩) (W * H) cg) (lst (W * H) fun _ => 3212836864) := by
    rw [hu2]
    have h1 := Ho.out.setBlk (i := 0) (u := .int .i64 W) Hb.out (by decide)
    have h2 := h1.setBlk (i := 1) (u := .int .i64 H) (Hb.out.set (i := 0) _) (by decide)
    exact h2.setBlk (i := 2) ((Hb.out.set (i := 0) _).set (i := 1) _) (by decide)
  clear hu2 Hb K HB0 Ho q0 q1 q2 z0 z1 z2
  have o2 := hb2.cellv 2
  go_wp2
  clear o2
  have Hb2 := Lib.hid hb2
  have Hb0 := Lib.hid hb0
  have Ho2 := Lib.hid ho2
  have K2 := Lib.hid k2
  clear hb2 hb0 ho2 k2
  go_loopw [8, 25] (fun s8 i wr => ∃ k : Nat, k ≤ W * H ∧ i = .int .i64 k ∧ Blk wr (w.heap.size) [.int .i64 0, .int .i64 0, .slice none 0 0] 30 ∧ Blk wr (b) [.int .i64 W, .int .i64 H, .slice (some ⟨g, 0, none⟩) (W * H) cg] 30 ∧ FOwn wr (w.heap.size + 1) 25 (.slice (some ⟨g, 0, none⟩) (W * H) cg) (upto (W * H) k (gNearAt xs ms D r) (fun _ => 3212836864)) ∧ Gr w wr) (fun _ i _ => W * H - (intOf i).toNat)
  case atStart => exact ⟨0, Nat.zero_le _, rfl, Hb0.out, Hb2.out, by rw [upto_zero]; exact Ho2.out, K2.out⟩
  case round =>
    clear Hb2 Hb0 Ho2 K2
    obtain ⟨k, hk, rfl, b0, bO, ho, hg⟩ := hrel
    by_cases hlt : k < W * H
    · obtain ⟨ro, hco, -⟩ := ho.get k (by simp; exact hlt)
      have hz := ho.free k
      have o2 := bO.cellv 2
      have hgb : g ≠ b := by
        intro e
        exact ho.okb (.inr (bO.okb (e := 25) (by decide))) (by simp [Value.ownBlock, e])
      have hg3 : w.heap.size + 1 ≤ g := (ho.block rfl).1
      have MM := Lib.hid (Mv.out.gr hg)
      have PP := Lib.hid (M1.out.gr hg)
      have hltm : k < ms.length := by rw [e2.out]; exact hlt
      obtain ⟨bm, om, rfl⟩ := PP.out.fs.ptr (by omega)
      obtain ⟨rx, hcx, hrx⟩ := PP.out.fs.get k hltm
      have m2 := PP.out.c2
      have d2 := MM.out.c2
      have d3 := MM.out.c3
      have Hgb := Lib.hid hgb
      have Hg3 := Lib.hid hg3
      have B0 := Lib.hid b0
      have BO := Lib.hid bO
      have Ho := Lib.hid ho
      have Hg := Lib.hid hg
      clear b0 bO ho hg hgb hg3
      have hR : k * D + D ≤ xs.length := by
        have : (k + 1) * D ≤ W * H * D := Nat.mul_le_mul_right D hlt
        rw [Nat.add_mul, Nat.one_mul] at this
        have := e1.out
        omega
      have e4 : IntKind.i64.wrap ((k : Int) * (D : Int)) = ((k * D : Nat) : Int) := by rw [← Int.natCast_mul]; exact IntWalk.i64_in _ (by omega)
      have hq := gWinN_ways2 (fun j => xs.getD (k * D + j) 0) D r (gPlace (ms.getD k 0)) hr0 hD0
      have hp1 : -9007199254740992 ≤ gPlace (ms.getD k 0) ∧ gPlace (ms.getD k 0) ≤ 25 := by have := gPlaceBig_ge (ms.getD k 0); unfold gPlace; omega
      have EV := Lib.hid (show gNearAt xs ms (D : Int) r k = floatOfInt .f32 (gWinN (fun j => xs.getD (k * D + j) 0) D r (gPlace (ms.getD k 0))) by unfold gNearAt; rw [Int.toNat_natCast])
      generalize k * D = L at *
      generalize gWinN (fun j => xs.getD (L + j) 0) D r (gPlace (ms.getD k 0)) = V at *
      have HPl := Lib.hid (fun (q : Nat) (u : World) (hq : FE .f32 q (ms.getD k 0)) => S_l03Place q _ u hq)
      generalize gPlace (ms.getD k 0) = p at *
      generalize ms.getD k 0 = v at *
      rcases hq with ⟨h0, rfl⟩ | ⟨lo, nn, h0, h1, h2, h3, h4, hV⟩
      · go_wp2_with (first
      | (go_at_call 87; with_reducible refine (HPl.out _ _ (by assumption)).mono ?_; rintro e w' ⟨rfl, n, rfl⟩))
        go_roundw
        case rel => exact ⟨k + 1, by omega, by go_num, B0.out.gr (by (try show Gr _ _); repeat (with_reducible first | exact Gr.refl _ | refine Gr.drewN ?_ _ | refine Gr.grew ?_ _ _ | refine Gr.alloc ?_ _ | refine Gr.drew ?_)), BO.out.gr (by (try show Gr _ _); repeat (with_reducible first | exact Gr.refl _ | refine Gr.drewN ?_ _ | refine Gr.grew ?_ _ _ | refine Gr.alloc ?_ _ | refine Gr.drew ?_)), (by rw [← upto_keep (n := W * H) (k := k) (G := gNearAt xs ms D r) (O := fun _ => 3212836864) (EV.out.trans (by decide +kernel)).symm]; exact Ho.out.gr (by (try show Gr _ _); repeat (with_reducible first | exact Gr.refl _ | refine Gr.drewN ?_ _ | refine Gr.grew ?_ _ _ | refine Gr.alloc ?_ _ | refine Gr.drew ?_))), Hg.out.trans (by (try show Gr _ _); repeat (with_reducible first | exact Gr.refl _ | refine Gr.drewN ?_ _ | refine Gr.grew ?_ _ _ | refine Gr.alloc ?_ _ | refine Gr.drew ?_))⟩
        case measure => simp [intOf]; omega
      · subst hV
        have w1 : IntKind.i64.wrap (p - r) = p - r := IntWalk.i64_in _ (by omega)
        have w2 : IntKind.i64.wrap (p + r) = p + r := IntWalk.i64_in _ (by omega)
        have w3 : IntKind.i64.wrap ((D : Int) - 1) = (D : Int) - 1 := IntWalk.i64_in _ (by omega)
        have HMx := Lib.hid (fun (u : World) => (by have h := S_l00Max 0 (p - r) u; rw [h1] at h; exact h : Calls Try.prog 112 #[.int .i64 0, .int .i64 (p - r)] u fun e w' => e = .returned (.int .i64 (lo : Int)) ∧ w' = u))
        have HMn := Lib.hid (fun (u : World) => S_l00Min ((D : Int) - 1) (p + r) u)
        have hloD : lo ≤ 25 := by omega
        generalize min ((D : Int) - 1) (p + r) = hi at *
        clear h1
        go_wp2_with (first | (go_at_call 87; with_reducible refine (HPl.out _ _ (by assumption)).mono ?_; rintro e w' ⟨rfl, n, rfl⟩) | (go_at_call 112; with_reducible refine (HMx.out _).mono ?_; rintro e w' ⟨rfl, rfl⟩))
        have FXk := Lib.hid MM.out.fs
        go_loopw [10, 11] (fun s t u => ∃ d : Nat, lo ≤ d ∧ d ≤ lo + nn ∧ t = .int .i64 d ∧ s = .int .i64 (gUp lo (gWin (fun j => xs.getD (L + (lo + j)) 0) (-1) (d - lo))) ∧ ∃ n, u = wr.drewN n) (fun _ t _ => lo + nn - (intOf t).toNat)
        case atStart => exact ⟨lo, Nat.le_refl _, by omega, rfl, by rw [Nat.sub_self]; rfl, (by with_reducible first | exact ⟨_, rfl⟩ | exact ⟨_, World.drewN_drewN _ _ _⟩ | exact drew_self _)⟩
        case round =>
          obtain ⟨d, hd1, hd2, rfl, rfl, n', rfl⟩ := hrel
          by_cases hdt : d < lo + nn
          · have hle := h3 d hd1 hdt
            have hdD : d < D := by omega
            obtain ⟨rd, hcd, hfd⟩ := FXk.out.get (L + d) (by omega)
            have hst := gUp_step (fun j => xs.getD (L + j) 0) lo d hd1
            generalize gUp lo (gWin (fun j => xs.getD (L + (lo + j)) 0) (-1) (d - lo)) = B at *
            have HB2 := Lib.hid (show ∃ B2, B2 = gUp lo (gWin (fun j => xs.getD (L + (lo + j)) 0) (-1) (d + 1 - lo)) from ⟨_, rfl⟩)
            obtain ⟨B2, hB2⟩ := HB2.out
            rw [← hB2] at hst
            have EB2 := Lib.hid hB2
            clear hB2 HB2
            rcases hst with ⟨t1, hE⟩ | ⟨t1, hB, hE⟩ | ⟨b', hb', t1, hB, t2, hE⟩ | ⟨b', hb', t1, hB, t2, hE⟩
            · have HE := Lib.hid (show B2 = B from hE)
              clear hE
              have t1' := fcmp_eql_nan t1
              generalize xs.getD (L + d) 0 = vd at *
              go_wp2_with (first
      | (go_at_call 84; with_reducible refine (HMn.out _).mono ?_; rintro e w' ⟨rfl, rfl⟩))
              apply region_drew 14
              case hm => kernel_rfl
              case hB => kernel_rfl
              simp only [List.take_succ_cons, List.take_zero, List.drop_succ_cons, List.drop_zero]
              repeat (first
                | (apply wpSoft_skip rfl; simp only [Act.put, List.setIfInBounds_toArray, List.set_cons_succ, List.set_cons_zero])
                | (apply wpSoft_nilCheck rfl rfl; simp only [Act.put, List.setIfInBounds_toArray, List.set_cons_succ, List.set_cons_zero])
                | ((with_reducible apply wpSoft_fop); (case hw => rfl); (case hD => exact closed_drew); (case hop => rfl); (case hx => rfl); (case hy => rfl); (case hA => (first | assumption | exact FE.ofInt _ _ | exact FE.lit (by decide +kernel))); (case hB => (first | assumption | exact FE.ofInt _ _ | exact FE.lit (by decide +kernel))); (intro r hr; simp only [Act.put, List.setIfInBounds_toArray, List.set_cons_succ, List.set_cons_zero]))

                | ((with_reducible apply wpSoft_widen); (case hw => rfl); (case hD => exact closed_drew); (case hs => exact Try.underlying25); (case hd => exact Try.underlying61); (case hx => rfl); (case hA => (first | assumption | exact FE.ofInt _ _ | exact FE.lit (by decide +kernel))); (intro r hr; simp only [Act.put, List.setIfInBounds_toArray, List.set_cons_succ, List.set_cons_zero]))
                | ((with_reducible apply wpSoft_fneg); (case hw => rfl); (case hx => rfl); (case hA => (first | assumption | exact FE.ofInt _ _ | exact FE.lit (by decide +kernel))); (intro r hr; simp only [Act.put, List.setIfInBounds_toArray, List.set_cons_succ, List.set_cons_zero]))
                | ((with_reducible apply wpSoft_fcmp); (case hw => rfl); (case hop => rfl); (case hx => rfl); (case hy => rfl); (case hA => (first | assumption | exact FE.ofInt _ _ | exact FE.lit (by decide +kernel))); (case hB => (first | assumption | exact FE.ofInt _ _ | exact FE.lit (by decide +kernel))); (case hb => (first | assumption | rfl)); simp only [Act.put, List.setIfInBounds_toArray, List.set_cons_succ, List.set_cons_zero])
                | (apply wpSoft_q rfl rfl; intro K hK; go_big_quiet_op; go_big_quiet_on))
              with_reducible apply wpSoft_nil
              intro m
              go_wp2
              apply region_drew 24
              case hm => kernel_rfl
              case hB => kernel_rfl
              simp only [List.take_succ_cons, List.take_zero, List.drop_succ_cons, List.drop_zero]
              repeat (first
                | (apply wpSoft_skip rfl; simp only [Act.put, List.setIfInBounds_toArray, List.set_cons_succ, List.set_cons_zero])
                | (apply wpSoft_nilCheck rfl rfl; simp only [Act.put, List.setIfInBounds_toArray, List.set_cons_succ, List.set_cons_zero])
                | ((with_reducible apply wpSoft_fop); (case hw => rfl); (case hD => exact closed_drew); (case hop => rfl); (case hx => rfl); (case hy => rfl); (case hA => (first | assumption | exact FE.ofInt _ _ | exact FE.lit (by decide +kernel))); (case hB => (first | assumption | exact FE.ofInt _ _ | exact FE.lit (by decide +kernel))); (intro r hr; simp only [Act.put, List.setIfInBounds_toArray, List.set_cons_succ, List.set_cons_zero]))

                | ((with_reducible apply wpSoft_widen); (case hw => rfl); (case hD => exact closed_drew); (case hs => exact Try.underlying25); (case hd => exact Try.underlying61); (case hx => rfl); (case hA => (first | assumption | exact FE.ofInt _ _ | exact FE.lit (by decide +kernel))); (intro r hr; simp only [Act.put, List.setIfInBounds_toArray, List.set_cons_succ, List.set_cons_zero]))
                | ((with_reducible apply wpSoft_fneg); (case hw => rfl); (case hx => rfl); (case hA => (first | assumption | exact FE.ofInt _ _ | exact FE.lit (by decide +kernel))); (intro r hr; simp only [Act.put, List.setIfInBounds_toArray, List.set_cons_succ, List.set_cons_zero]))
                | ((with_reducible apply wpSoft_fcmp); (case hw => rfl); (case hop => rfl); (case hx => rfl); (case hy => rfl); (case hA => (first | assumption | exact FE.ofInt _ _ | exact FE.lit (by decide +kernel))); (case hB => (first | assumption | exact FE.ofInt _ _ | exact FE.lit (by decide +kernel))); (case hb => (first | assumption | rfl)); simp only [Act.put, List.setIfInBounds_toArray, List.set_cons_succ, List.set_cons_zero])
                | (apply wpSoft_q rfl rfl; intro K hK; go_big_quiet_op; go_big_quiet_on))
              with_reducible apply wpSoft_nil
              intro m
              go_wp2
              go_roundw
              case rel => exact ⟨d + 1, by omega, by omega, by go_num, by rw [← EB2.out, HE.out], (by with_reducible first | exact ⟨_, rfl⟩ | exact ⟨_, World.drewN_drewN _ _ _⟩ | exact drew_self _)⟩
              case measure => simp [intOf]; omega
            · subst hB
              have HE := Lib.hid (show B2 = (d : Int) from hE)
              clear hE
              have t1' := fcmp_eql_num t1
              generalize xs.getD (L + d) 0 = vd at *
              go_wp2_with (first
      | (go_at_call 84; with_reducible refine (HMn.out _).mono ?_; rintro e w' ⟨rfl, rfl⟩))
              apply region_drew 14
              case hm => kernel_rfl
              case hB => kernel_rfl
              simp only [List.take_succ_cons, List.take_zero, List.drop_succ_cons, List.drop_zero]
              repeat (first
                | (apply wpSoft_skip rfl; simp only [Act.put, List.setIfInBounds_toArray, List.set_cons_succ, List.set_cons_zero])
                | (apply wpSoft_nilCheck rfl rfl; simp only [Act.put, List.setIfInBounds_toArray, List.set_cons_succ, List.set_cons_zero])
                | ((with_reducible apply wpSoft_fop); (case hw => rfl); (case hD => exact closed_drew); (case hop => rfl); (case hx => rfl); (case hy => rfl); (case hA => (first | assumption | exact FE.ofInt _ _ | exact FE.lit (by decide +kernel))); (case hB => (first | assumption | exact FE.ofInt _ _ | exact FE.lit (by decide +kernel))); (intro r hr; simp only [Act.put, List.setIfInBounds_toArray, List.set_cons_succ, List.set_cons_zero]))

                | ((with_reducible apply wpSoft_widen); (case hw => rfl); (case hD => exact closed_drew); (case hs => exact Try.underlying25); (case hd => exact Try.underlying61); (case hx => rfl); (case hA => (first | assumption | exact FE.ofInt _ _ | exact FE.lit (by decide +kernel))); (intro r hr; simp only [Act.put, List.setIfInBounds_toArray, List.set_cons_succ, List.set_cons_zero]))
                | ((with_reducible apply wpSoft_fneg); (case hw => rfl); (case hx => rfl); (case hA => (first | assumption | exact FE.ofInt _ _ | exact FE.lit (by decide +kernel))); (intro r hr; simp only [Act.put, List.setIfInBounds_toArray, List.set_cons_succ, List.set_cons_zero]))
                | ((with_reducible apply wpSoft_fcmp); (case hw => rfl); (case hop => rfl); (case hx => rfl); (case hy => rfl); (case hA => (first | assumption | exact FE.ofInt _ _ | exact FE.lit (by decide +kernel))); (case hB => (first | assumption | exact FE.ofInt _ _ | exact FE.lit (by decide +kernel))); (case hb => (first | assumption | rfl)); simp only [Act.put, List.setIfInBounds_toArray, List.set_cons_succ, List.set_cons_zero])
                | (apply wpSoft_q rfl rfl; intro K hK; go_big_quiet_op; go_big_quiet_on))
              with_reducible apply wpSoft_nil
              intro m
              go_wp2
              apply region_drew 24
              case hm => kernel_rfl
              case hB => kernel_rfl
              simp only [List.take_succ_cons, List.take_zero, List.drop_succ_cons, List.drop_zero]
              repeat (first
                | (apply wpSoft_skip rfl; simp only [Act.put, List.setIfInBounds_toArray, List.set_cons_succ, List.set_cons_zero])
                | (apply wpSoft_nilCheck rfl rfl; simp only [Act.put, List.setIfInBounds_toArray, List.set_cons_succ, List.set_cons_zero])
                | ((with_reducible apply wpSoft_fop); (case hw => rfl); (case hD => exact closed_drew); (case hop => rfl); (case hx => rfl); (case hy => rfl); (case hA => (first | assumption | exact FE.ofInt _ _ | exact FE.lit (by decide +kernel))); (case hB => (first | assumption | exact FE.ofInt _ _ | exact FE.lit (by decide +kernel))); (intro r hr; simp only [Act.put, List.setIfInBounds_toArray, List.set_cons_succ, List.set_cons_zero]))

                | ((with_reducible apply wpSoft_widen); (case hw => rfl); (case hD => exact closed_drew); (case hs => exact Try.underlying25); (case hd => exact Try.underlying61); (case hx => rfl); (case hA => (first | assumption | exact FE.ofInt _ _ | exact FE.lit (by decide +kernel))); (intro r hr; simp only [Act.put, List.setIfInBounds_toArray, List.set_cons_succ, List.set_cons_zero]))
                | ((with_reducible apply wpSoft_fneg); (case hw => rfl); (case hx => rfl); (case hA => (first | assumption | exact FE.ofInt _ _ | exact FE.lit (by decide +kernel))); (intro r hr; simp only [Act.put, List.setIfInBounds_toArray, List.set_cons_succ, List.set_cons_zero]))
                | ((with_reducible apply wpSoft_fcmp); (case hw => rfl); (case hop => rfl); (case hx => rfl); (case hy => rfl); (case hA => (first | assumption | exact FE.ofInt _ _ | exact FE.lit (by decide +kernel))); (case hB => (first | assumption | exact FE.ofInt _ _ | exact FE.lit (by decide +kernel))); (case hb => (first | assumption | rfl)); simp only [Act.put, List.setIfInBounds_toArray, List.set_cons_succ, List.set_cons_zero])
                | (apply wpSoft_q rfl rfl; intro K hK; go_big_quiet_op; go_big_quiet_on))
              with_reducible apply wpSoft_nil
              intro m
              go_wp2
              go_roundw
              case rel => exact ⟨d + 1, by omega, by omega, by go_num, by rw [← EB2.out, HE.out], (by with_reducible first | exact ⟨_, rfl⟩ | exact ⟨_, World.drewN_drewN _ _ _⟩ | exact drew_self _)⟩
              case measure => simp [intOf]; omega
            all_goals
              subst hB
              obtain ⟨rb, hcb, hfb⟩ := FXk.out.get (L + b') (by omega)
              have HE := Lib.hid hE
              clear hE
              change fcmp .lss .f32 (xs.getD (L + d) 0) (xs.getD (L + b') 0) = _ at t2
              have t1' := fcmp_eql_num t1
              generalize xs.getD (L + d) 0 = vd at *
              generalize xs.getD (L + b') 0 = vb at *
              go_wp2_with (first
      | (go_at_call 84; with_reducible refine (HMn.out _).mono ?_; rintro e w' ⟨rfl, rfl⟩))
              apply region_drew 14
              case hm => kernel_rfl
              case hB => kernel_rfl
              simp only [List.take_succ_cons, List.take_zero, List.drop_succ_cons, List.drop_zero]
              repeat (first
                | (apply wpSoft_skip rfl; simp only [Act.put, List.setIfInBounds_toArray, List.set_cons_succ, List.set_cons_zero])
                | (apply wpSoft_nilCheck rfl rfl; simp only [Act.put, List.setIfInBounds_toArray, List.set_cons_succ, List.set_cons_zero])
                | ((with_reducible apply wpSoft_fop); (case hw => rfl); (case hD => exact closed_drew); (case hop => rfl); (case hx => rfl); (case hy => rfl); (case hA => (first | assumption | exact FE.ofInt _ _ | exact FE.lit (by decide +kernel))); (case hB => (first | assumption | exact FE.ofInt _ _ | exact FE.lit (by decide +kernel))); (intro r hr; simp only [Act.put, List.setIfInBounds_toArray, List.set_cons_succ, List.set_cons_zero]))

                | ((with_reducible apply wpSoft_widen); (case hw => rfl); (case hD => exact closed_drew); (case hs => exact Try.underlying25); (case hd => exact Try.underlying61); (case hx => rfl); (case hA => (first | assumption | exact FE.ofInt _ _ | exact FE.lit (by decide +kernel))); (intro r hr; simp only [Act.put, List.setIfInBounds_toArray, List.set_cons_succ, List.set_cons_zero]))
                | ((with_reducible apply wpSoft_fneg); (case hw => rfl); (case hx => rfl); (case hA => (first | assumption | exact FE.ofInt _ _ | exact FE.lit (by decide +kernel))); (intro r hr; simp only [Act.put, List.setIfInBounds_toArray, List.set_cons_succ, List.set_cons_zero]))
                | ((with_reducible apply wpSoft_fcmp); (case hw => rfl); (case hop => rfl); (case hx => rfl); (case hy => rfl); (case hA => (first | assumption | exact FE.ofInt _ _ | exact FE.lit (by decide +kernel))); (case hB => (first | assumption | exact FE.ofInt _ _ | exact FE.lit (by decide +kernel))); (case hb => (first | assumption | rfl)); simp only [Act.put, List.setIfInBounds_toArray, List.set_cons_succ, List.set_cons_zero])
                | (apply wpSoft_q rfl rfl; intro K hK; go_big_quiet_op; go_big_quiet_on))
              with_reducible apply wpSoft_nil
              intro m
              go_wp2
              apply region_drew 24
              case hm => kernel_rfl
              case hB => kernel_rfl
              simp only [List.take_succ_cons, List.take_zero, List.drop_succ_cons, List.drop_zero]
              repeat (first
                | (apply wpSoft_skip rfl; simp only [Act.put, List.setIfInBounds_toArray, List.set_cons_succ, List.set_cons_zero])
                | (apply wpSoft_nilCheck rfl rfl; simp only [Act.put, List.setIfInBounds_toArray, List.set_cons_succ, List.set_cons_zero])
                | ((with_reducible apply wpSoft_fop); (case hw => rfl); (case hD => exact closed_drew); (case hop => rfl); (case hx => rfl); (case hy => rfl); (case hA => (first | assumption | exact FE.ofInt _ _ | exact FE.lit (by decide +kernel))); (case hB => (first | assumption | exact FE.ofInt _ _ | exact FE.lit (by decide +kernel))); (intro r hr; simp only [Act.put, List.setIfInBounds_toArray, List.set_cons_succ, List.set_cons_zero]))

                | ((with_reducible apply wpSoft_widen); (case hw => rfl); (case hD => exact closed_drew); (case hs => exact Try.underlying25); (case hd => exact Try.underlying61); (case hx => rfl); (case hA => (first | assumption | exact FE.ofInt _ _ | exact FE.lit (by decide +kernel))); (intro r hr; simp only [Act.put, List.setIfInBounds_toArray, List.set_cons_succ, List.set_cons_zero]))
                | ((with_reducible apply wpSoft_fneg); (case hw => rfl); (case hx => rfl); (case hA => (first | assumption | exact FE.ofInt _ _ | exact FE.lit (by decide +kernel))); (intro r hr; simp only [Act.put, List.setIfInBounds_toArray, List.set_cons_succ, List.set_cons_zero]))
                | ((with_reducible apply wpSoft_fcmp); (case hw => rfl); (case hop => rfl); (case hx => rfl); (case hy => rfl); (case hA => (first | assumption | exact FE.ofInt _ _ | exact FE.lit (by decide +kernel))); (case hB => (first | assumption | exact FE.ofInt _ _ | exact FE.lit (by decide +kernel))); (case hb => (first | assumption | rfl)); simp only [Act.put, List.setIfInBounds_toArray, List.set_cons_succ, List.set_cons_zero])
                | (apply wpSoft_q rfl rfl; intro K hK; go_big_quiet_op; go_big_quiet_on))
              with_reducible apply wpSoft_nil
              intro m
              go_wp2
              go_roundw
              case rel => exact ⟨d + 1, by omega, by omega, by go_num, by rw [← EB2.out, HE.out], (by with_reducible first | exact ⟨_, rfl⟩ | exact ⟨_, World.drewN_drewN _ _ _⟩ | exact drew_self _)⟩
              case measure => simp [intOf]; omega
          · obtain rfl : d = lo + nn := by omega
            rw [show lo + nn - lo = nn by omega]
            generalize gUp lo (gWin (fun j => xs.getD (L + (lo + j)) 0) (-1) nn) = V at *
            go_wp2_with (first
      | (go_at_call 84; with_reducible refine (HMn.out _).mono ?_; rintro e w' ⟨rfl, rfl⟩))
            go_roundw
            case rel =>
              have hx := Hg3.out
              refine ⟨k + 1, by omega, by go_num, B0.out.setG (by (try show Gr _ _); repeat (with_reducible first | exact Gr.refl _ | refine Gr.drewN ?_ _ | refine Gr.grew ?_ _ _ | refine Gr.alloc ?_ _ | refine Gr.drew ?_)) (by simp; omega), BO.out.setG (by (try show Gr _ _); repeat (with_reducible first | exact Gr.refl _ | refine Gr.drewN ?_ _ | refine Gr.grew ?_ _ _ | refine Gr.alloc ?_ _ | refine Gr.drew ?_)) Hgb.out, ?_, Hg.out.setG (by (try show Gr _ _); repeat (with_reducible first | exact Gr.refl _ | refine Gr.drewN ?_ _ | refine Gr.grew ?_ _ _ | refine Gr.alloc ?_ _ | refine Gr.drew ?_)) (by simp; omega)⟩
              rw [← upto_set (G := gNearAt xs ms D r) (O := fun _ => 3212836864) hlt]
              refine FOwn.gr ?_ (by (try show Gr _ _); repeat (with_reducible first | exact Gr.refl _ | refine Gr.drewN ?_ _ | refine Gr.grew ?_ _ _ | refine Gr.alloc ?_ _ | refine Gr.drew ?_))
              rw [EV.out]
              exact Ho.out.store (k := k) (by first | assumption | exact FE.ofInt _ _ | exact FE.lit (by decide +kernel))
            case measure => simp [intOf]; omega
    · obtain rfl : k = W * H := by omega
      have p0 := bO.cellv 0
      have p1 := bO.cellv 1
      have p2 := bO.cellv 2
      have q0 := b0.cellv 0
      have q1 := b0.cellv 1
      have q2 := b0.cellv 2
      have z0 := b0.frozen 0
      have z1 := b0.frozen 1
      have z2 := b0.frozen 2
      have Ho := Lib.hid ho
      have Hg := Lib.hid hg
      clear b0 bO ho hg
      go_wp2
      refine bodyPost_ret (v := .agg #[.int .i64 W, .int .i64 H, .slice (some ⟨g, 0, none⟩) (W * H) cg]) (by simp [results, Try.results103, go_sem, *]) rfl ⟨⟨_, rfl, ?_⟩, ?_⟩
      · have h := Ho.out
        rw [upto_all] at h
        show FOwn _ _ _ _ (lst (W * H) _)
        exact FOwn.base (B := w.heap.size + 1) (by repeat (with_reducible first | assumption | refine FOwn.setOther ?_ _ (by simp <;> omega))) (by omega)
      · have h := Hg.out
        exact (by repeat (with_reducible first | assumption | refine Gr.setCell ?_ (by simp <;> omega) _))
end Go.Proofs.Ytomlfdkcgaogcaa
