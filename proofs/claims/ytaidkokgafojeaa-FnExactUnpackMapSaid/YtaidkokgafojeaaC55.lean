/- Contracts: UnpackMap of the program. MAXREC -/
import Derived.Test.YtaidkokgafojeaaProg
import Derived.Test.YtaidkokgafojeaaC52
import Derived.Test.YtaidkokgafojeaaC54
import Derived.Deep.DeepCutAuto
namespace Go.Proofs.Ytaidkokgafojeaa
open Go.RowKit Go.Fx Go.Soft
theorem all_packs {U : List Nat} (h : ∀ x ∈ U, gPacks x = true) : U.all gPacks = true := List.all_eq_true.2 h
set_option maxRecDepth 20000 in
set_option maxHeartbeats 8000000 in
theorem I_UnpackMap (s : ByteArray) (W H : Int) (w : World) (hs : s.size ≤ 1048576) :
    Calls Try.prog 14 #[.string s, .int .i64 W, .int .i64 H] w fun e w' =>
      (∃ v, e = .returned (.tuple #[.agg #[.int .i64 (if gUnAll s W H then W else 0), .int .i64 (if gUnAll s W H then H else 0), v], .bool (gUnAll s W H)]) ∧ FOwn w' w.heap.size 65 v (if gUnAll s W H then gUn s (s.size / 2) else [])) ∧ Gr w w' := by
  obtain ⟨i0, hi, hz0, hz1, hz2⟩ := info_parts info_float32
  cases hS : gSize W H
  · have hok : gUnAll s W H = false := by unfold gUnAll; rw [hS]; rfl
    rw [hok]
    go_enter Try.func14, Try.ntmps14
    go_wp2_with (first
      | (go_at_call 60; with_reducible refine (I_sizeOk _ _ _).mono ?_; rintro e w' ⟨rfl, rfl⟩; rw [hS]))
    exact bodyPost_ret (v := .tuple #[.agg #[.int .i64 0, .int .i64 0, .slice none 0 0], .bool false]) (by simp [results, Try.results14, go_sem]) rfl ⟨⟨_, rfl, FOwn.nil _ _ _⟩, (by (try show Gr _ _); repeat (with_reducible first | exact Gr.refl _ | refine Gr.drewN ?_ _ | refine Gr.grew ?_ _ _ | refine Gr.alloc ?_ _ | refine Gr.drew ?_))⟩
  obtain ⟨s1, s2, s3, s4, s5, s6⟩ := gSize_true hS
  obtain ⟨W, rfl⟩ := Int.eq_ofNat_of_zero_le (show 0 ≤ W by omega)
  obtain ⟨H, rfl⟩ := Int.eq_ofNat_of_zero_le (show 0 ≤ H by omega)
  have hW : W ≤ 24 := by omega
  have hH : H ≤ 24 := by omega
  have hA : gUnAll s W H = gUnOk s W H := by unfold gUnAll; rw [hS]; rfl
  rw [hA]
  clear hA s5 s6
  have h576 : W * H ≤ 24 * 24 := Nat.mul_le_mul hW hH
  have EW := Lib.hid (show ((W : Int) * (H : Int)) = ((W * H : Nat) : Int) from (Int.natCast_mul W H).symm)
  by_cases hev : s.size % 2 = 0
  · have h1 : (s.size : Int) % 2 = 0 := by omega
    obtain ⟨ok, hok⟩ : ∃ ok, ok = gUnOk s W H := ⟨_, rfl⟩
    rw [← hok]
    obtain ⟨A, hA⟩ : ∃ A : Int, A = if ok = true then (W : Int) else 0 := ⟨_, rfl⟩
    obtain ⟨B, hB⟩ : ∃ B : Int, B = if ok = true then (H : Int) else 0 := ⟨_, rfl⟩
    obtain ⟨RL, hL⟩ : ∃ RL, RL = if ok = true then gUn s (s.size / 2) else [] := ⟨_, rfl⟩
    rw [← hA, ← hB, ← hL]
    have HOK := Lib.hid hok
    have HA := Lib.hid hA
    have HB := Lib.hid hB
    have HRL := Lib.hid hL
    have HEV := Lib.hid hev
    clear hok hA hB hL
    go_enter Try.func14, Try.ntmps14
    go_wp2_with (first
      | (go_at_call 60; with_reducible refine (I_sizeOk _ _ _).mono ?_; rintro e w' ⟨rfl, rfl⟩; rw [hS]))
    clear h1 hev
    go_loopw [9] (fun i wr => ∃ k : Nat, 2 * k ≤ s.size ∧ i = .int .i64 ((2 * k : Nat) : Int) ∧ (gUn s k).length ≤ W * H ∧ ∃ v, Blk wr (w.heap.size + 1) [.int .i64 W, .int .i64 H, v] 24 ∧ Blk wr w.heap.size [.int .i64 0, .int .i64 0, .slice none 0 0] 24 ∧ FOwn wr (w.heap.size + 2) 65 v (gUn s k) ∧ Gr w wr) (fun i _ => s.size - (intOf i).toNat)
    case atStart => exact ⟨0, Nat.zero_le _, rfl, Nat.zero_le _, _, (by repeat (with_reducible first | assumption | exact Blk.atNew (by simp) | refine Blk.alloc ?_ _ | refine Blk.grew ?_ _ _ | refine Blk.drewN ?_ _ | refine Blk.drew ?_)), (by repeat (with_reducible first | assumption | exact Blk.atNew (by simp) | refine Blk.alloc ?_ _ | refine Blk.grew ?_ _ _ | refine Blk.drewN ?_ _ | refine Blk.drew ?_)), FOwn.nil _ _ _, (by (try show Gr _ _); repeat (with_reducible first | exact Gr.refl _ | refine Gr.drewN ?_ _ | refine Gr.grew ?_ _ _ | refine Gr.alloc ?_ _ | refine Gr.drew ?_))⟩
    case round =>
      obtain ⟨k, hk, rfl, hUL, v, hb, hb0, ho, hg⟩ := hrel
      have Hb := Lib.hid hb
      have Hb0 := Lib.hid hb0
      have Ho := Lib.hid ho
      have Hg := Lib.hid hg
      have p2 := hb.cellv 2
      clear hb hb0 ho hg
      obtain ⟨i, hi2⟩ : ∃ i, i = 2 * k := ⟨_, rfl⟩
      rw [← hi2]
      have HI := Lib.hid hi2
      by_cases hlt : i < s.size
      · have hev2 : i + 1 < s.size := by have := HEV.out; omega
        have hA1 : (0 : Int) ≤ (i : Int) + 1 := by omega
        have hA2 : (i : Int) + 1 < (s.size : Int) := by omega
        have hA3 : ((i : Int) + 1).toNat = i + 1 := by omega
        have hb2 : (s[i + 1]'hev2).toNat < 256 := UInt8.toNat_lt _
        obtain ⟨n, hn⟩ : ∃ n, n = (s[i]'hlt).toNat := ⟨_, rfl⟩
        have hn' : gB s (2 * k) = n := by rw [← hi2, gB_eq hlt]; exact hn.symm
        have hn256 : n < 256 := by rw [← hn']; exact gB_lt _ _
        have HN := Lib.hid hn
        have HN' := Lib.hid hn'
        have Hlen := Lib.hid (gUn_len s k)
        have Hl := Lib.hid (show w.heap.size + 2 ≤ w.heap.size + 1 + 1 by omega)
        obtain ⟨a1, c1, rfl, -, -⟩ := Ho.out.sl' (gUn s k).length rfl
        have w2 : IntKind.i64.wrap ((W : Int) * (H : Int)) = ((W * H : Nat) : Int) := by rw [EW.out]; exact IntWalk.i64_in _ (by omega)
        by_cases hov : W * H < (gUn s k).length + n
        · have HF := Lib.hid (show gUnOk s W H = false from gUn_over (k := k + 1) (by omega) (by rw [gUn_len, hn']; exact hov))
          obtain rfl : ok = false := by rw [HOK.out, HF.out]
          obtain rfl : A = 0 := HA.out
          obtain rfl : B = 0 := HB.out
          obtain rfl : RL = [] := HRL.out
          have hb0 := Hb0.out
          have q0 := hb0.cellv 0
          have q1 := hb0.cellv 1
          have q2 := hb0.cellv 2
          have z0 := hb0.frozen 0
          have z1 := hb0.frozen 1
          have z2 := hb0.frozen 2
          have hsn : (s[i]'hlt).toNat = n := hn.symm
          clear hb0 hn' hi2 hn hA1 hA2 hA3 hb2 hev2
          go_wp2
          apply region_drew 11
          case hm => kernel_rfl
          case hB => kernel_rfl
          simp only [List.take_succ_cons, List.take_zero, List.drop_succ_cons, List.drop_zero]
          repeat (first
            | (apply wpSoft_skip rfl; simp only [Act.put, List.setIfInBounds_toArray, List.set_cons_succ, List.set_cons_zero])
            | (apply wpSoft_nilCheck rfl rfl; simp only [Act.put, List.setIfInBounds_toArray, List.set_cons_succ, List.set_cons_zero])
            | ((with_reducible apply wpSoft_fop); (case hw => rfl); (case hD => exact closed_drew); (case hop => rfl); (case hx => rfl); (case hy => rfl); (case hA => (first | assumption | exact FE.ofInt _ _ | exact FE.lit (by decide +kernel))); (case hB => (first | assumption | exact FE.ofInt _ _ | exact FE.lit (by decide +kernel))); (intro r hr; simp only [Act.put, List.setIfInBounds_toArray, List.set_cons_succ, List.set_cons_zero]))

            | ((with_reducible apply wpSoft_widen); (case hw => rfl); (case hD => exact closed_drew); (case hs => exact Try.underlying65); (case hd => exact Try.underlying147); (case hx => rfl); (case hA => (first | assumption | exact FE.ofInt _ _ | exact FE.lit (by decide +kernel))); (intro r hr; simp only [Act.put, List.setIfInBounds_toArray, List.set_cons_succ, List.set_cons_zero]))
            | ((with_reducible apply wpSoft_fneg); (case hw => rfl); (case hx => rfl); (case hA => (first | assumption | exact FE.ofInt _ _ | exact FE.lit (by decide +kernel))); (intro r hr; simp only [Act.put, List.setIfInBounds_toArray, List.set_cons_succ, List.set_cons_zero]))
            | ((with_reducible apply wpSoft_fcmp); (case hw => rfl); (case hop => rfl); (case hx => rfl); (case hy => rfl); (case hA => (first | assumption | exact FE.ofInt _ _ | exact FE.lit (by decide +kernel))); (case hB => (first | assumption | exact FE.ofInt _ _ | exact FE.lit (by decide +kernel))); (case hb => (first | assumption | rfl)); simp only [Act.put, List.setIfInBounds_toArray, List.set_cons_succ, List.set_cons_zero])
            | (apply wpSoft_q rfl rfl; intro K hK; go_big_quiet_op; go_big_quiet_on))
          with_reducible apply wpSoft_nil
          intro m
          go_wp2
          refine bodyPost_ret (v := .tuple #[.agg #[.int .i64 0, .int .i64 0, .slice none 0 0], .bool false]) (by simp [results, Try.results14, go_sem, *]) rfl ⟨⟨_, rfl, FOwn.nil _ _ _⟩, ?_⟩
          have h := Hg.out
          refine Gr.drewN ?_ _
          exact (by repeat (with_reducible first | assumption | refine Gr.setCell ?_ (by simp <;> omega) _))
        · have hsn : (s[i]'hlt).toNat = n := hn.symm
          clear hn hn' hi2
          go_wp2
          apply region_drew 11
          case hm => kernel_rfl
          case hB => kernel_rfl
          simp only [List.take_succ_cons, List.take_zero, List.drop_succ_cons, List.drop_zero]
          repeat (first
            | (apply wpSoft_skip rfl; simp only [Act.put, List.setIfInBounds_toArray, List.set_cons_succ, List.set_cons_zero])
            | (apply wpSoft_nilCheck rfl rfl; simp only [Act.put, List.setIfInBounds_toArray, List.set_cons_succ, List.set_cons_zero])
            | ((with_reducible apply wpSoft_fop); (case hw => rfl); (case hD => exact closed_drew); (case hop => rfl); (case hx => rfl); (case hy => rfl); (case hA => (first | assumption | exact FE.ofInt _ _ | exact FE.lit (by decide +kernel))); (case hB => (first | assumption | exact FE.ofInt _ _ | exact FE.lit (by decide +kernel))); (intro r hr; simp only [Act.put, List.setIfInBounds_toArray, List.set_cons_succ, List.set_cons_zero]))

            | ((with_reducible apply wpSoft_widen); (case hw => rfl); (case hD => exact closed_drew); (case hs => exact Try.underlying65); (case hd => exact Try.underlying147); (case hx => rfl); (case hA => (first | assumption | exact FE.ofInt _ _ | exact FE.lit (by decide +kernel))); (intro r hr; simp only [Act.put, List.setIfInBounds_toArray, List.set_cons_succ, List.set_cons_zero]))
            | ((with_reducible apply wpSoft_fneg); (case hw => rfl); (case hx => rfl); (case hA => (first | assumption | exact FE.ofInt _ _ | exact FE.lit (by decide +kernel))); (intro r hr; simp only [Act.put, List.setIfInBounds_toArray, List.set_cons_succ, List.set_cons_zero]))
            | ((with_reducible apply wpSoft_fcmp); (case hw => rfl); (case hop => rfl); (case hx => rfl); (case hy => rfl); (case hA => (first | assumption | exact FE.ofInt _ _ | exact FE.lit (by decide +kernel))); (case hB => (first | assumption | exact FE.ofInt _ _ | exact FE.lit (by decide +kernel))); (case hb => (first | assumption | rfl)); simp only [Act.put, List.setIfInBounds_toArray, List.set_cons_succ, List.set_cons_zero])
            | (apply wpSoft_q rfl rfl; intro K hK; go_big_quiet_op; go_big_quiet_on))
          with_reducible apply wpSoft_nil
          intro m
          go_wp2
          clear w2 hsn p2
          go_loopw [48] (fun t wi => ∃ c : Nat, c ≤ n ∧ t = .int .u8 (c : Int) ∧ ∃ v, Blk wi (w.heap.size + 1) [.int .i64 W, .int .i64 H, v] 24 ∧ Blk wi w.heap.size [.int .i64 0, .int .i64 0, .slice none 0 0] 24 ∧ FOwn wi (w.heap.size + 2) 65 v (gUn s k ++ List.replicate c (gUv s k)) ∧ Gr w wi) (fun t _ => n - (intOf t).toNat)
          case atStart => exact ⟨0, Nat.zero_le _, rfl, _, Hb.out.drewN _, Hb0.out.drewN _, by simpa using Ho.out.gr ((Gr.refl wr).drewN m), Hg.out.drewN _⟩
          case round =>
            clear Hb Hb0 Ho Hg
            obtain ⟨c, hc, rfl, v, hb, hb0, ho, hg⟩ := hrel
            have Hb := Lib.hid hb
            have Hb0 := Lib.hid hb0
            have Ho := Lib.hid ho
            have Hg := Lib.hid hg
            have p2 := hb.cellv 2
            clear hb hb0 ho hg
            by_cases hcn : c < n
            · have HV := Lib.hid (show floatOfInt .f32 (((s[i + 1]'hev2).toNat : Int) - 1) = gUv s k by unfold gUv; rw [← HI.out, gB_eq hev2])
              have HR := Lib.hid (rep_succ c (gUv s k) (gUn s k))
              obtain ⟨L, hL⟩ : ∃ L, L = gUn s k ++ List.replicate c (gUv s k) := ⟨_, rfl⟩
              have HLn := Lib.hid (show L.length = (gUn s k).length + c by rw [hL]; simp)
              have hLb : L.length ≤ 300000 := by rw [HLn.out]; omega
              rw [← hL] at Ho HR
              clear hL
              go_wp2
              apply region_facts 10 [9] (fun _ v w' => ∃ b r, v = .slice (some ⟨b, 0, none⟩) 1 1 ∧ Blk w' b [.float .f32 r] 65 ∧ FE .f32 r (floatOfInt .f32 (((s[i + 1]'hev2).toNat : Int) - 1)))
              case hm => kernel_rfl
              case hB => kernel_rfl
              case hR => rfl
              case hP => (intro k hk v w1 w2 hg hv; obtain ⟨b, r, hv, hB, hr⟩ := hv; exact ⟨b, r, hv, hB.gr hg, hr⟩)
              simp only [List.take_succ_cons, List.take_zero, List.drop_succ_cons, List.drop_zero]
              repeat (first
                | ((with_reducible apply wpF_new (c := #[.float .f32 (floatOfInt .f32 (((s[i + 1]'hev2).toNat : Int) - 1))]) (e := 65) (fun b => .slice (some ⟨b, 0, none⟩) 1 1)); (case hw => rfl); (case hx => (intro w; simp [execOp, go_sem])); (case hF => (intro w b hb hc _; exact ⟨b, _, rfl, ⟨hc⟩, FE.ofInt _ _⟩)); (intro b hb; simp only [Act.put, List.setIfInBounds_toArray, List.set_cons_succ, List.set_cons_zero]))
                | (apply wpF_skip rfl (by decide); simp only [Act.put, List.setIfInBounds_toArray, List.set_cons_succ, List.set_cons_zero])
                | (apply wpF_nilCheck rfl (by decide) rfl; simp only [Act.put, List.setIfInBounds_toArray, List.set_cons_succ, List.set_cons_zero])
                | ((with_reducible apply wpF_fop); (case hw => rfl); (case hT => decide); (case hop => rfl); (case hx => rfl); (case hy => rfl); (case hA => (first | assumption | exact FE.ofInt _ _ | exact FE.lit (by decide +kernel))); (case hB => (first | assumption | exact FE.ofInt _ _ | exact FE.lit (by decide +kernel))); (intro r hr; simp only [Act.put, List.setIfInBounds_toArray, List.set_cons_succ, List.set_cons_zero]))
                | ((with_reducible apply wpF_fneg); (case hw => rfl); (case hT => decide); (case hx => rfl); (case hA => (first | assumption | exact FE.ofInt _ _ | exact FE.lit (by decide +kernel))); (intro r hr; simp only [Act.put, List.setIfInBounds_toArray, List.set_cons_succ, List.set_cons_zero]))
                | ((with_reducible apply wpF_fcmp); (case hw => rfl); (case hT => decide); (case hop => rfl); (case hx => rfl); (case hy => rfl); (case hA => (first | assumption | exact FE.ofInt _ _ | exact FE.lit (by decide +kernel))); (case hB => (first | assumption | exact FE.ofInt _ _ | exact FE.lit (by decide +kernel))); (case hb => (first | assumption | rfl)); simp only [Act.put, List.setIfInBounds_toArray, List.set_cons_succ, List.set_cons_zero])
                | (apply wpF_q rfl (by decide) rfl; intro K hK; go_big_quiet_op; go_big_quiet_on))
              with_reducible apply wpF_nil
              intro os m hf
              obtain ⟨b', r', hb', hB', hr'⟩ := hf.1
              obtain rfl : b' = _ := by simpa using hb'.symm
              have G : Gr wr (wr.grew os m) := ⟨os, m, rfl⟩
              have ho' := Ho.out.gr G
              have c' := hB'.cellv 0
              clear hf hb'
              refine wpList_append_f rfl rfl i0 Try.underlying22 hi hz0 hz1 hz2 rfl ho' rfl c' hr' (by first | omega | (simp <;> omega)) (by have := Hb.out.lt; have := Hl.out; simp <;> omega) ?_
              intro v1 w1 ho1 hg1
              obtain ⟨a1, c1, rfl, -, -⟩ := ho1.sl' (L.length + 1) (by simp)
              obtain ⟨hb1, P, ho2⟩ := pushed_step (i := 2) (u := .slice a1 (L.length + 1) c1) Hb.out Ho.out G hg1 ho1 (by decide)
              have q2 := hb1.cellv 2
              have z2 := hb1.frozen 2
              have Hb2 := Lib.hid hb1
              have Ho2 := Lib.hid ho2
              have HP := Lib.hid P
              clear G hg1 hb1 ho' ho1 ho2 P hB' c'
              go_wp2
              go_roundw
              case rel => exact ⟨c + 1, by omega, by go_num, _, Hb2.out.set _, HP.out.blk Hb0.out (by omega) (by omega), by rw [← HR, ← HV.out]; exact Ho2.out, HP.out.gr Hg.out (by omega) (by omega)⟩
              case measure => simp [intOf]; omega
            · obtain rfl : c = n := by omega
              have HK := Lib.hid (show gUn s k ++ List.replicate c (gUv s k) = gUn s (k + 1) by rw [gUn, HN'.out])
              go_wp2
              go_roundw
              case rel => exact ⟨k + 1, by have := HI.out; omega, by rw [show 2 * (k + 1) = i + 2 by have := HI.out; omega]; go_num, by rw [Hlen.out, HN'.out]; omega, _, Hb.out, Hb0.out, by rw [← HK.out]; exact Ho.out, Hg.out⟩
              case measure => simp [intOf]; omega
      · obtain rfl : i = s.size := by omega
        have hk2 : k = s.size / 2 := by have := HI.out; omega
        have HU := Lib.hid (show gUnOk s W H = (decide ((gUn s k).length = W * H) && decide (strOfNums (gPack (gUn s k) W H) = s)) by unfold gUnOk; rw [← hk2, decide_eq_true HEV.out]; rfl)
        have HK := Lib.hid hk2
        have HP := Lib.hid (all_packs (gUn_packs s k))
        clear hk2 HEV HI
        rw [← HK.out] at HRL
        generalize gUn s k = U at *
        obtain ⟨a1, c1, rfl, hf, -⟩ := Ho.out.sl' U.length rfl
        have LP := Lib.hid (fun w1 (g : Gr wr w1) => I_PackMap W H a1 c1 U w1 (hf.keep g.kp) (by omega))
        clear hf
        by_cases hle : U.length = W * H
        · have hT : gPic W H U.length = true := by unfold gPic; rw [hS, hle, EW.out]; simp
          rw [hT, HP.out] at LP
          simp only [Bool.and_self, if_true, Int.toNat_natCast] at LP
          obtain ⟨R, hR⟩ : ∃ R, R = strOfNums (gPack U W H) := ⟨_, rfl⟩
          rw [← hR] at LP HU
          rw [decide_eq_true hle, Bool.true_and] at HU
          have p0 := Hb.out.cellv 0
          have p1 := Hb.out.cellv 1
          clear hle hR hT
          go_wp2_with fail
          refine (LP.out _ (by (try show Gr _ _); repeat (with_reducible first | exact Gr.refl _ | refine Gr.drewN ?_ _ | refine Gr.grew ?_ _ _ | refine Gr.alloc ?_ _ | refine Gr.drew ?_))).mono ?_
          rintro e w1 ⟨rfl, g⟩
          replace g : Gr wr w1 := Gr.trans (by (try show Gr _ _); repeat (with_reducible first | exact Gr.refl _ | refine Gr.drewN ?_ _ | refine Gr.grew ?_ _ _ | refine Gr.alloc ?_ _ | refine Gr.drew ?_)) g
          have hb := Hb.out.gr g
          have hb0 := Hb0.out.gr g
          have ho := Ho.out.gr g
          have hg := Hg.out.trans g
          have p0 := hb.cellv 0
          have p1 := hb.cellv 1
          have p2 := hb.cellv 2
          have q0 := hb0.cellv 0
          have q1 := hb0.cellv 1
          have q2 := hb0.cellv 2
          have z0 := hb0.frozen 0
          have z1 := hb0.frozen 1
          have z2 := hb0.frozen 2
          have Ho2 := Lib.hid ho
          have Hg2 := Lib.hid hg
          clear hb hb0 ho hg g LP Hb Hb0 Ho Hg
          by_cases hRs : R = s
          · obtain rfl : ok = true := by rw [HOK.out, HU.out, decide_eq_true hRs]
            obtain rfl : A = (W : Int) := HA.out
            obtain rfl : B = (H : Int) := HB.out
            obtain rfl : RL = U := HRL.out
            have hcmp : (R.toList == s.toList) = true := by rw [str_beq, decide_eq_true hRs]
            clear hRs HU HOK HA HB HRL
            go_wp2
            refine bodyPost_ret (v := .tuple #[.agg #[.int .i64 W, .int .i64 H, .slice a1 RL.length c1], .bool true]) (by simp [results, Try.results14, go_sem, *]) rfl ⟨⟨_, rfl, ?_⟩, ?_⟩
            · have h := Ho2.out
              exact FOwn.base (B := w.heap.size + 2) (by repeat (with_reducible first | assumption | refine FOwn.setOther ?_ _ (by simp <;> omega))) (by omega)
            · have h := Hg2.out
              exact (by repeat (with_reducible first | assumption | refine Gr.setCell ?_ (by simp <;> omega) _))
          · obtain rfl : ok = false := by rw [HOK.out, HU.out, decide_eq_false hRs]
            obtain rfl : A = 0 := HA.out
            obtain rfl : B = 0 := HB.out
            obtain rfl : RL = [] := HRL.out
            have hcmp : (R.toList == s.toList) = false := by rw [str_beq, decide_eq_false hRs]
            clear hRs HU HOK HA HB HRL
            go_wp2
            refine bodyPost_ret (v := .tuple #[.agg #[.int .i64 0, .int .i64 0, .slice none 0 0], .bool false]) (by simp [results, Try.results14, go_sem, *]) rfl ⟨⟨_, rfl, FOwn.nil _ _ _⟩, ?_⟩
            have h := Hg2.out
            exact (by repeat (with_reducible first | assumption | refine Gr.setCell ?_ (by simp <;> omega) _))
        · obtain rfl : ok = false := by rw [HOK.out, HU.out, decide_eq_false hle]; rfl
          obtain rfl : A = 0 := HA.out
          obtain rfl : B = 0 := HB.out
          obtain rfl : RL = [] := HRL.out
          have hT : gPic W H U.length = false := by unfold gPic; rw [hS, EW.out]; simp only [Bool.true_and, beq_eq_false_iff_ne]; omega
          rw [hT] at LP
          simp only [Bool.false_and] at LP
          have p0 := Hb.out.cellv 0
          have p1 := Hb.out.cellv 1
          clear hle HU HOK HA HB HRL hT
          go_wp2_with fail
          refine (LP.out _ (by (try show Gr _ _); repeat (with_reducible first | exact Gr.refl _ | refine Gr.drewN ?_ _ | refine Gr.grew ?_ _ _ | refine Gr.alloc ?_ _ | refine Gr.drew ?_))).mono ?_
          rintro e w1 ⟨rfl, g⟩
          replace g : Gr wr w1 := Gr.trans (by (try show Gr _ _); repeat (with_reducible first | exact Gr.refl _ | refine Gr.drewN ?_ _ | refine Gr.grew ?_ _ _ | refine Gr.alloc ?_ _ | refine Gr.drew ?_)) g
          have hb0 := Hb0.out.gr g
          have hg := Hg.out.trans g
          have q0 := hb0.cellv 0
          have q1 := hb0.cellv 1
          have q2 := hb0.cellv 2
          have z0 := hb0.frozen 0
          have z1 := hb0.frozen 1
          have z2 := hb0.frozen 2
          have Hg2 := Lib.hid hg
          clear hb0 hg g LP Hb Hb0 Ho Hg p0 p1 p2
          go_wp2
          refine bodyPost_ret (v := .tuple #[.agg #[.int .i64 0, .int .i64 0, .slice none 0 0], .bool false]) (by simp [results, Try.results14, go_sem, *]) rfl ⟨⟨_, rfl, FOwn.nil _ _ _⟩, ?_⟩
          have h := Hg2.out
          exact (by repeat (with_reducible first | assumption | refine Gr.setCell ?_ (by simp <;> omega) _))
  · have hok : gUnOk s W H = false := by unfold gUnOk; rw [decide_eq_false hev]; rfl
    rw [hok]
    have h1 : ¬ (s.size : Int) % 2 = 0 := by omega
    go_enter Try.func14, Try.ntmps14
    go_wp2_with (first
      | (go_at_call 60; with_reducible refine (I_sizeOk _ _ _).mono ?_; rintro e w' ⟨rfl, rfl⟩; rw [hS]))
    exact bodyPost_ret (v := .tuple #[.agg #[.int .i64 0, .int .i64 0, .slice none 0 0], .bool false]) (by simp [results, Try.results14, go_sem]) rfl ⟨⟨_, rfl, FOwn.nil _ _ _⟩, (by (try show Gr _ _); repeat (with_reducible first | exact Gr.refl _ | refine Gr.drewN ?_ _ | refine Gr.grew ?_ _ _ | refine Gr.alloc ?_ _ | refine Gr.drew ?_))⟩
theorem gUnAll_len (s : ByteArray) (W H : Int) : (if gUnAll s W H then gUn s (s.size / 2) else []).length ≤ 1048576 := by
  cases h : gUnAll s W H
  · simp
  · unfold gUnAll gUnOk at h
    simp only [Bool.and_eq_true, decide_eq_true_eq] at h
    obtain ⟨s1, s2, s3, s4, -, -⟩ := gSize_true h.1
    have h576 : W.toNat * H.toNat ≤ 24 * 24 := Nat.mul_le_mul (by omega) (by omega)
    simp only [if_true]
    omega
end Go.Proofs.Ytaidkokgafojeaa
