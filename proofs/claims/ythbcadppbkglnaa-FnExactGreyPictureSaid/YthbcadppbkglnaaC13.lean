/- Contracts: pictures out of bytes. MAXREC -/
import Derived.Test.YthbcadppbkglnaaProg
import Derived.Test.YthbcadppbkglnaaC12
namespace Go.Proofs.Ythbcadppbkglnaa
open Go.RowKit Go.Fx Go.Soft
set_option maxRecDepth 20000 in
set_option maxHeartbeats 1000000 in
theorem S_l02New (W H : Int) (w : World) :
    Calls Try.prog 68 #[.int .i64 W, .int .i64 H] w fun e w' => (∃ v, e = .returned (.agg #[.int .i64 W, .int .i64 H, v]) ∧ FOwn w' w.heap.size 30 v []) ∧ Gr w w' := by
  go_enter Try.func68, Try.ntmps68
  go_wp2
  exact bodyPost_ret (v := .agg #[.int .i64 W, .int .i64 H, .slice (some ⟨w.heap.size + 1, 0, none⟩) 0 0]) (by simp [results, Try.results68, go_sem]) rfl ⟨⟨_, rfl, FOwn.empty (by repeat (first | assumption | exact Blk.atNew (by simp) | refine Blk.alloc ?_ _ | refine Blk.grew ?_ _ _ | refine Blk.drewN ?_ _)) (by omega)⟩, (by repeat (first | exact Gr.refl _ | refine Gr.drewN ?_ _ | refine Gr.grew ?_ _ _ | refine Gr.alloc ?_ _ | refine Gr.drew ?_))⟩
set_option maxRecDepth 20000 in
set_option maxHeartbeats 1000000 in
theorem I_mapOf (W H : Nat) (V : Nat → Nat → Nat) (f : FuncId) (cs : Array Value) (w : World) (hf : Tells w f cs W H V) (hW : W ≤ 24) (hH : H ≤ 24) (hW0 : 1 ≤ W) (hH0 : 1 ≤ H) :
    Calls Try.prog 108 #[.int .i64 W, .int .i64 H, .func (.func f) #[] cs] w fun e w' => (∃ v, e = .returned (.agg #[.int .i64 W, .int .i64 H, v]) ∧ FOwn w' w.heap.size 30 v (grid W V (W * H))) ∧ Gr w w' := by
  have Hf := Lib.hid hf
  clear hf
  go_enter Try.func108, Try.ntmps108
  go_wp2_with (go_at_call 70; refine (I_made W H V f cs _ (Hf.out.gr (by repeat (first | exact Gr.refl _ | refine Gr.drewN ?_ _ | refine Gr.grew ?_ _ _ | refine Gr.alloc ?_ _ | refine Gr.drew ?_))) hW hH hW0 hH0).mono ?_; rintro e w1 ⟨⟨v, rfl, ho⟩, os, m, rfl⟩; obtain ⟨a1, c1, rfl, -, -⟩ := ho.sl' (W * H) (by simp); have Ho := Lib.hid ho; clear ho)
  exact bodyPost_ret (v := .agg #[.int .i64 W, .int .i64 H, .slice a1 (W * H) c1]) (by simp [results, Try.results108, go_sem, *]) rfl ⟨⟨_, rfl, (Ho.out.swap (by simp) (by simp)).base (by simp)⟩, (by repeat (first | exact Gr.refl _ | refine Gr.drewN ?_ _ | refine Gr.grew ?_ _ _ | refine Gr.alloc ?_ _ | refine Gr.drew ?_))⟩
/-- The grey of a byte. -/
def gGrey (s : ByteArray) (i : Nat) : Nat := if h : i < s.size then fop .quo .f32 (floatOfInt .f32 ((s[i]'h).toNat : Int)) 1132396544 else 0
theorem gGrey_eq {s : ByteArray} {i : Nat} (h : i < s.size) : gGrey s i = fop .quo .f32 (floatOfInt .f32 ((s[i]'h).toNat : Int)) 1132396544 := by simp only [gGrey, dif_pos h]
def gGreyOk (s : ByteArray) (W H : Int) : Bool := gSize W H && decide ((s.size : Int) = W * H)
def gGreys (s : ByteArray) (W H : Int) : List Nat := if gGreyOk s W H then lst s.size (gGrey s) else []
set_option maxRecDepth 20000 in
set_option maxHeartbeats 1000000 in
theorem I_GreyPicture_1 (s : ByteArray) (W x y b1 b2 : Nat) (w : World) (hl : x + W * y < s.size) (hs : s.size ≤ 1048576) (c1 : w.cell? ⟨b1, 0, none⟩ = some (.string s)) (c2 : w.cell? ⟨b2, 0, none⟩ = some (.int .i64 W)) (hW : W ≤ 24) (hy : y ≤ 24) :
    Calls Try.prog 71 #[.int .i64 x, .int .i64 y, .pointer (some ⟨b1, 0, none⟩), .pointer (some ⟨b2, 0, none⟩)] w fun e w' => (∃ r, e = .returned (.float .f32 r) ∧ FE .f32 r (gGrey s (x + W * y))) ∧ Gr w w' := by
  have e1 : IntKind.i64.wrap ((W : Int) * y) = (W : Int) * y := IntWalk.i64_in _ (by have : W * y ≤ 576 := Nat.mul_le_mul hW hy; omega)
  have e2 : IntKind.i64.wrap ((x : Int) + (W : Int) * y) = ((x + W * y : Nat) : Int) := by
    rw [show (x : Int) + (W : Int) * y = ((x + W * y : Nat) : Int) by simp]
    exact IntWalk.i64_in _ (by omega)
  have h255 : FE .f32 1132396544 1132396544 := FE.lit (by decide +kernel)
  go_enter Try.func71, Try.ntmps71
  go_wp2_with (first
      | ((with_reducible apply wpList_fop); (case hw => rfl); (case hop => rfl); (case hx => rfl); (case hy => rfl); (case hA => (first | assumption | exact FE.ofInt _ _ | exact FE.lit (by decide +kernel))); (case hB => (first | assumption | exact FE.ofInt _ _ | exact FE.lit (by decide +kernel))); intro r n hr)
      | ((with_reducible apply wpList_fcmp); (case hw => rfl); (case hop => rfl); (case hx => rfl); (case hy => rfl); (case hA => (first | assumption | exact FE.ofInt _ _ | exact FE.lit (by decide +kernel))); (case hB => (first | assumption | exact FE.ofInt _ _ | exact FE.lit (by decide +kernel))); (case hb => (first | assumption | rfl)))
      | ((with_reducible apply wpList_widen); (case hw => rfl); (case hs => exact Try.underlying30); (case hd => exact Try.underlying57); (case hx => rfl); (case hA => (first | assumption | exact FE.ofInt _ _ | exact FE.lit (by decide +kernel))); intro r n hr)
      | ((with_reducible apply wpList_fneg); (case hw => rfl); (case hx => rfl); (case hA => (first | assumption | exact FE.ofInt _ _ | exact FE.lit (by decide +kernel))); intro r hr))
  go_ret
  exact ⟨⟨_, rfl, by rw [gGrey_eq hl]; assumption⟩, (by repeat (first | exact Gr.refl _ | refine Gr.drewN ?_ _ | refine Gr.grew ?_ _ _ | refine Gr.alloc ?_ _ | refine Gr.drew ?_))⟩
set_option maxRecDepth 20000 in
set_option maxHeartbeats 4000000 in
theorem S_GreyPicture (s : ByteArray) (W H : Int) (w : World) (hs : s.size ≤ 1048576) :
    Calls Try.prog 15 #[.string s, .int .i64 W, .int .i64 H] w fun e w' =>
      (∃ v, e = .returned (.tuple #[.agg #[.int .i64 (if gGreyOk s W H then W else 0), .int .i64 (if gGreyOk s W H then H else 0), v], .bool (gGreyOk s W H)]) ∧ FOwn w' w.heap.size 30 v (gGreys s W H)) ∧ Gr w w' := by
  obtain ⟨i0, hi, hz0, hz1, hz2⟩ := info_parts info_float32
  cases hok : gGreyOk s W H
  · have HL : Hid (gGreys s W H = []) := by simp [gGreys, hok, Hid]
    cases hS : gSize W H
    · go_enter Try.func15, Try.ntmps15
      go_wp2_with (first
      | (go_at_call 67; refine (S_l02Size _ _ _).mono ?_; rintro e w' ⟨rfl, rfl⟩; rw [hS]))
      exact bodyPost_ret (v := .tuple #[.agg #[.int .i64 0, .int .i64 0, .slice none 0 0], .bool false]) (by simp [results, Try.results15, go_sem]) rfl ⟨⟨_, rfl, by rw [HL.out]; exact FOwn.nil _ _ _⟩, (by repeat (first | exact Gr.refl _ | refine Gr.drewN ?_ _ | refine Gr.grew ?_ _ _ | refine Gr.alloc ?_ _ | refine Gr.drew ?_))⟩
    · obtain ⟨s1, s2, s3, s4, s5, s6⟩ := gSize_true hS
      have hne : ¬ (s.size : Int) = W * H := by intro e; simp [gGreyOk, hS, e] at hok
      go_enter Try.func15, Try.ntmps15
      go_wp2_with (first
      | (go_at_call 67; refine (S_l02Size _ _ _).mono ?_; rintro e w' ⟨rfl, rfl⟩; rw [hS]))
      exact bodyPost_ret (v := .tuple #[.agg #[.int .i64 0, .int .i64 0, .slice none 0 0], .bool false]) (by simp [results, Try.results15, go_sem]) rfl ⟨⟨_, rfl, by rw [HL.out]; exact FOwn.nil _ _ _⟩, (by repeat (first | exact Gr.refl _ | refine Gr.drewN ?_ _ | refine Gr.grew ?_ _ _ | refine Gr.alloc ?_ _ | refine Gr.drew ?_))⟩
  · have HL : Hid (gGreys s W H = lst s.size (gGrey s)) := by simp [gGreys, hok, Hid]
    have hok' := hok
    simp only [gGreyOk, Bool.and_eq_true, decide_eq_true_eq] at hok'
    obtain ⟨hS, he⟩ := hok'
    obtain ⟨s1, s2, s3, s4, s5, s6⟩ := gSize_true hS
    have h255 : FE .f32 1132396544 1132396544 := FE.lit (by decide +kernel)
    go_enter Try.func15, Try.ntmps15
    go_wp2_with (first
      | (go_at_call 67; refine (S_l02Size _ _ _).mono ?_; rintro e w' ⟨rfl, rfl⟩; rw [hS])
      | (go_at_call 68; refine (S_l02New W H _).mono ?_; rintro e w1 ⟨⟨v0, rfl, ho0⟩, os0, m0, rfl⟩; obtain ⟨a0, c0, rfl, -, -⟩ := ho0.sl' 0 rfl; have Ho0 := Lib.hid ho0; clear ho0))
    go_loopw [9] (fun i wr => ∃ k : Nat, k ≤ s.size ∧ i = .int .i64 k ∧ ∃ v, Blk wr (w.heap.size + 1 + os0.size) [.int .i64 W, .int .i64 H, v] 24 ∧ Blk wr w.heap.size [.int .i64 0, .int .i64 0, .slice none 0 0] 24 ∧ FOwn wr (w.heap.size + 1) 30 v (lst k (gGrey s)) ∧ Gr w wr) (fun i _ => s.size - (intOf i).toNat)
    case atStart => exact ⟨0, Nat.zero_le _, rfl, _, (by repeat (first | assumption | exact Blk.atNew (by simp) | refine Blk.alloc ?_ _ | refine Blk.grew ?_ _ _ | refine Blk.drewN ?_ _)), (by repeat (first | assumption | exact Blk.atNew (by simp) | refine Blk.alloc ?_ _ | refine Blk.grew ?_ _ _ | refine Blk.drewN ?_ _)), (by have h := Ho0.out; simp at h; exact h.gr (by repeat (first | exact Gr.refl _ | refine Gr.drewN ?_ _ | refine Gr.grew ?_ _ _ | refine Gr.alloc ?_ _ | refine Gr.drew ?_))), (by repeat (first | exact Gr.refl _ | refine Gr.drewN ?_ _ | refine Gr.grew ?_ _ _ | refine Gr.alloc ?_ _ | refine Gr.drew ?_))⟩
    case round =>
      clear Ho0
      obtain ⟨k, hk, rfl, v, hb, hb0, ho, hg⟩ := hrel
      have Hb := Lib.hid hb
      have Hb0 := Lib.hid hb0
      have Ho := Lib.hid ho
      have Hg := Lib.hid hg
      have Hl : Hid (w.heap.size + 1 ≤ w.heap.size + 1 + os0.size + 1) := by simp [Hid]; omega
      by_cases hlt : k < s.size
      · have p2 := hb.cellv 2
        have HX := Lib.hid (gGrey_eq hlt)
        clear hb hb0 ho hg
        go_wp2
        apply region_facts 8 [7] (fun _ v w' => ∃ b r, v = .slice (some ⟨b, 0, none⟩) 1 1 ∧ Blk w' b [.float .f32 r] 30 ∧ FE .f32 r (fop .quo .f32 (floatOfInt .f32 ((s[k]'hlt).toNat : Int)) 1132396544))
        case hm => kernel_rfl
        case hB => kernel_rfl
        case hR => rfl
        case hP => (intro k hk v w1 w2 hg hv; obtain ⟨b, r, hv, hB, hr⟩ := hv; exact ⟨b, r, hv, hB.gr hg, hr⟩)
        simp only [List.take_succ_cons, List.take_zero, List.drop_succ_cons, List.drop_zero]
        repeat (first
          | ((with_reducible apply wpF_new (c := #[.float .f32 r]) (e := 30) (fun b => .slice (some ⟨b, 0, none⟩) 1 1)); (case hw => rfl); (case hx => (intro w; simp [execOp, go_sem])); (case hF => (intro w b hb hc _; exact ⟨b, _, rfl, ⟨hc⟩, hr⟩)); (intro b hb; simp only [Act.put, List.setIfInBounds_toArray, List.set_cons_succ, List.set_cons_zero]))
          | (apply wpF_skip rfl (by decide); simp only [Act.put, List.setIfInBounds_toArray, List.set_cons_succ, List.set_cons_zero])
          | (apply wpF_nilCheck rfl (by decide) rfl; simp only [Act.put, List.setIfInBounds_toArray, List.set_cons_succ, List.set_cons_zero])
          | ((with_reducible apply wpF_fop); (case hw => rfl); (case hT => decide); (case hop => rfl); (case hx => rfl); (case hy => rfl); (case hA => (first | assumption | exact FE.ofInt _ _ | exact FE.lit (by decide +kernel))); (case hB => (first | assumption | exact FE.ofInt _ _ | exact FE.lit (by decide +kernel))); (intro r hr; simp only [Act.put, List.setIfInBounds_toArray, List.set_cons_succ, List.set_cons_zero]))
          | ((with_reducible apply wpF_fneg); (case hw => rfl); (case hT => decide); (case hx => rfl); (case hA => (first | assumption | exact FE.ofInt _ _ | exact FE.lit (by decide +kernel))); (intro r hr; simp only [Act.put, List.setIfInBounds_toArray, List.set_cons_succ, List.set_cons_zero]))
          | ((with_reducible apply wpF_fcmp); (case hw => rfl); (case hT => decide); (case hop => rfl); (case hx => rfl); (case hy => rfl); (case hA => (first | assumption | exact FE.ofInt _ _ | exact FE.lit (by decide +kernel))); (case hB => (first | assumption | exact FE.ofInt _ _ | exact FE.lit (by decide +kernel))); (case hb => (first | assumption | rfl)); simp only [Act.put, List.setIfInBounds_toArray, List.set_cons_succ, List.set_cons_zero])
          | (apply wpF_q rfl (by decide) rfl; intro K hK; go_big_quiet_op; go_big_quiet_on))
        with_reducible apply wpF_nil
        intro os m hf
        obtain ⟨b', r', hb', hB', hr'⟩ := hf.1
        obtain rfl : b' = _ := by simpa using hb'.symm
        have G : Gr wr (wr.grew os m) := ⟨os, m, rfl⟩
        have ho' := Ho.out.gr G
        have c' := hB'.cellv 0
        clear hf hb'
        refine wpList_append_f rfl rfl i0 Try.underlying22 hi hz0 hz1 hz2 rfl ho' rfl c' hr' (by simp <;> omega) (by have := Hb.out.lt; have := Hl.out; simp <;> omega) ?_
        intro v1 w1 ho1 hg1
        obtain ⟨a1, c1, rfl, -, -⟩ := ho1.sl' (k + 1) (by simp)
        obtain ⟨hb1, P, ho2⟩ := pushed_step (i := 2) (u := .slice a1 (k + 1) c1) Hb.out Ho.out G hg1 ho1 (by decide)
        have q2 := hb1.cellv 2
        have z2 := hb1.frozen 2
        have Hb2 := Lib.hid hb1
        have Ho2 := Lib.hid ho2
        have HP := Lib.hid P
        clear G hg1 hb1 ho' ho1 ho2 P hB' c'
        go_wp2
        go_roundw
        case rel => exact ⟨k + 1, by omega, by go_num, _, Hb2.out.set _, HP.out.blk Hb0.out (by omega) (by omega), by rw [← lst_succ, HX.out]; exact Ho2.out, HP.out.gr Hg.out (by omega) (by omega)⟩
        case measure => simp [intOf]; omega
      · obtain rfl : k = s.size := by omega
        clear Hb Hb0 Ho Hg
        have p0 := hb.cellv 0
        have p1 := hb.cellv 1
        have p2 := hb.cellv 2
        have q0 := hb0.cellv 0
        have q1 := hb0.cellv 1
        have q2 := hb0.cellv 2
        have z0 := hb0.frozen 0
        have z1 := hb0.frozen 1
        have z2 := hb0.frozen 2
        obtain ⟨a1, c1, rfl, -, -⟩ := ho.sl' (s.size) (by simp)
        have Ho := Lib.hid ho
        have Hg := Lib.hid hg
        clear hb hb0 ho hg
        go_wp2
        refine bodyPost_ret (v := .tuple #[.agg #[.int .i64 W, .int .i64 H, .slice a1 s.size c1], .bool true]) (by simp [results, Try.results15, go_sem, *]) rfl ⟨⟨_, rfl, ?_⟩, ?_⟩
        · rw [HL.out]
          have h := Ho.out
          exact FOwn.base (B := w.heap.size + 1) (by repeat (first | assumption | refine FOwn.setOther ?_ _ (by simp <;> omega))) (by omega)
        · have h := Hg.out
          exact (by repeat (first | assumption | refine Gr.setCell ?_ (by simp <;> omega) _))
theorem tells_GreyPicture (s : ByteArray) (W H b1 b2 : Nat) (w : World) (he : s.size = W * H) (hs : s.size ≤ 1048576) (c1 : w.cell? ⟨b1, 0, none⟩ = some (.string s)) (c2 : w.cell? ⟨b2, 0, none⟩ = some (.int .i64 W)) (hW : W ≤ 24) (hH : H ≤ 24) :
    Tells w 71 #[.pointer (some ⟨b1, 0, none⟩), .pointer (some ⟨b2, 0, none⟩)] W H (fun x y => gGrey s (x + W * y)) :=
  ⟨Try.call71, fun x y hx hy w1 g => I_GreyPicture_1 s W x y b1 b2 w1 (by rw [he]; exact cell_lt hx hy) hs (g.cell c1) (g.cell c2) hW (by omega)⟩
set_option maxRecDepth 20000 in
set_option maxHeartbeats 4000000 in
theorem I_GreyPicture (s : ByteArray) (W H : Int) (w : World) (hs : s.size ≤ 1048576) :
    Calls Try.prog 16 #[.string s, .int .i64 W, .int .i64 H] w fun e w' =>
      (∃ v, e = .returned (.tuple #[.agg #[.int .i64 (if gGreyOk s W H then W else 0), .int .i64 (if gGreyOk s W H then H else 0), v], .bool (gGreyOk s W H)]) ∧ FOwn w' w.heap.size 30 v (gGreys s W H)) ∧ Gr w w' := by
  cases hok : gGreyOk s W H
  · have HL : Hid (gGreys s W H = []) := by simp [gGreys, hok, Hid]
    cases hS : gSize W H
    · go_enter Try.func16, Try.ntmps16
      go_wp2_with (first
      | (go_at_call 69; refine (I_sizeOk _ _ _).mono ?_; rintro e w' ⟨rfl, rfl⟩; rw [hS]))
      exact bodyPost_ret (v := .tuple #[.agg #[.int .i64 0, .int .i64 0, .slice none 0 0], .bool false]) (by simp [results, Try.results16, go_sem]) rfl ⟨⟨_, rfl, by rw [HL.out]; exact FOwn.nil _ _ _⟩, (by repeat (first | exact Gr.refl _ | refine Gr.drewN ?_ _ | refine Gr.grew ?_ _ _ | refine Gr.alloc ?_ _ | refine Gr.drew ?_))⟩
    · obtain ⟨s1, s2, s3, s4, s5, s6⟩ := gSize_true hS
      have hne : ¬ (s.size : Int) = W * H := by intro e; simp [gGreyOk, hS, e] at hok
      go_enter Try.func16, Try.ntmps16
      go_wp2_with (first
      | (go_at_call 69; refine (I_sizeOk _ _ _).mono ?_; rintro e w' ⟨rfl, rfl⟩; rw [hS]))
      exact bodyPost_ret (v := .tuple #[.agg #[.int .i64 0, .int .i64 0, .slice none 0 0], .bool false]) (by simp [results, Try.results16, go_sem]) rfl ⟨⟨_, rfl, by rw [HL.out]; exact FOwn.nil _ _ _⟩, (by repeat (first | exact Gr.refl _ | refine Gr.drewN ?_ _ | refine Gr.grew ?_ _ _ | refine Gr.alloc ?_ _ | refine Gr.drew ?_))⟩
  · have hok' := hok
    simp only [gGreyOk, Bool.and_eq_true, decide_eq_true_eq] at hok'
    obtain ⟨hS, he⟩ := hok'
    obtain ⟨s1, s2, s3, s4, s5, s6⟩ := gSize_true hS
    obtain ⟨W, rfl⟩ := Int.eq_ofNat_of_zero_le (show 0 ≤ W by omega)
    obtain ⟨H, rfl⟩ := Int.eq_ofNat_of_zero_le (show 0 ≤ H by omega)
    have he' : s.size = W * H := by exact_mod_cast he
    have HL : Hid (gGreys s W H = grid W (fun x y => gGrey s (x + W * y)) (W * H)) := by
      show gGreys s W H = _
      rw [gGreys, hok, if_pos rfl, he']
      apply lst_congr
      intro i _
      show gGrey s i = gGrey s (i % W + W * (i / W))
      rw [Nat.mod_add_div]
    go_enter Try.func16, Try.ntmps16
    go_wp2_with (first
      | (go_at_call 69; refine (I_sizeOk _ _ _).mono ?_; rintro e w' ⟨rfl, rfl⟩; rw [hS])
      | (go_at_call 70; refine (I_made W H (fun x y => gGrey s (x + W * y)) 71 #[.pointer (some ⟨w.heap.size, 0, none⟩), .pointer (some ⟨w.heap.size + 1, 0, none⟩)] _ (tells_GreyPicture s W H _ _ _ he' hs (by simp [go_sem]) (by simp [go_sem]) (by omega) (by omega)) (by omega) (by omega) (by omega) (by omega)).mono ?_; rintro e w1 ⟨⟨v0, rfl, ho0⟩, os0, m0, rfl⟩; obtain ⟨a0, c0, rfl, -, -⟩ := ho0.sl' (W * H) (by simp); have Ho0 := Lib.hid ho0; clear ho0))
    exact bodyPost_ret (v := .tuple #[.agg #[.int .i64 W, .int .i64 H, .slice a0 (W * H) c0], .bool true]) (by simp [results, Try.results16, go_sem]) rfl ⟨⟨_, rfl, by rw [HL.out]; exact (Ho0.out.swap (by simp) (by simp)).base (by simp <;> omega)⟩, (by repeat (first | exact Gr.refl _ | refine Gr.drewN ?_ _ | refine Gr.grew ?_ _ _ | refine Gr.alloc ?_ _ | refine Gr.drew ?_))⟩
end Go.Proofs.Ythbcadppbkglnaa
