/- Contracts: warps one behind the other, of the program. MAXREC -/
import Derived.Test.YtcejnifkbheelaaProg
import Derived.Test.YtcejnifkbheelaaC46
import Derived.Deep.DeepCutAuto
namespace Go.Proofs.Ytcejnifkbheelaa
open Go.RowKit Go.Fx Go.Soft
set_option maxRecDepth 20000 in
set_option maxHeartbeats 8000000 in
theorem I_TimesWarp (a b : Option Addr) (ca cb : Nat) (xs ys : List Nat) (w : World) (fx : FSl w a xs.length xs) (fy : FSl w b ys.length ys) (hn : xs.length ≤ 1048576) (hm : ys.length ≤ 1048576) :
    Calls Try.prog 22 #[.slice a xs.length ca, .slice b ys.length cb] w (PostF w (gTWok xs ys) (if gTWok xs ys then lst 9 (gTWat xs ys) else [])) := by
  obtain ⟨i0, hi, hz0, hz1, hz2⟩ := info_parts info_float32
  have hn' : xs.length ≤ maxLen := by unfold maxLen; omega
  have hm' : ys.length ≤ maxLen := by unfold maxLen; omega
  have Fx := Lib.hid fx
  have Fy := Lib.hid fy
  clear fx fy
  rcases (show gWarp xs = false ∨ (gWarp xs = true ∧ gWarp ys = false) ∨ (gWarp xs = true ∧ gWarp ys = true) by cases gWarp xs <;> cases gWarp ys <;> simp) with h1 | ⟨h1, h2⟩ | ⟨h1, h2⟩
  · have e : gTWok xs ys = false := by unfold gTWok; rw [h1]; rfl
    have h2 : True := trivial
    rw [e]
    go_enter Try.func22, Try.ntmps22
    go_wp2_with (first
      | (go_at_call 74; with_reducible refine (I_IsWarp _ _ _ xs _ (Fx.out.keep (by (repeat (with_reducible first | exact Kp.refl _ | exact kp_same | exact kp_app1 | exact kp_app2 | exact kp_app3 | refine Kp.grew ?_ _ _ | refine Kp.drewN ?_ _ | refine Kp.drew ?_ | refine Kp.alloc ?_ _)))) hn').mono ?_; rintro e w' ⟨rfl, os, m, rfl⟩; rw [h1]))
    exact bodyPost_ret (v := .tuple #[.slice none 0 0, .bool false]) (by simp [results, Try.results22, go_sem]) rfl ⟨⟨_, rfl, FOwn.nil _ _ _⟩, (by (try show Gr _ _); repeat (with_reducible first | exact Gr.refl _ | refine Gr.drewN ?_ _ | refine Gr.grew ?_ _ _ | refine Gr.alloc ?_ _ | refine Gr.drew ?_))⟩
  · have e : gTWok xs ys = false := by unfold gTWok; rw [h1, h2]; rfl
    rw [e]
    go_enter Try.func22, Try.ntmps22
    go_wp2_with (first
      | (go_at_call 74; with_reducible refine (I_IsWarp _ _ _ xs _ (Fx.out.keep (by (repeat (with_reducible first | exact Kp.refl _ | exact kp_same | exact kp_app1 | exact kp_app2 | exact kp_app3 | refine Kp.grew ?_ _ _ | refine Kp.drewN ?_ _ | refine Kp.drew ?_ | refine Kp.alloc ?_ _)))) hn').mono ?_; rintro e w' ⟨rfl, os, m, rfl⟩; rw [h1])
      | (go_at_call 74; with_reducible refine (I_IsWarp _ _ _ ys _ (Fy.out.keep (by (repeat (with_reducible first | exact Kp.refl _ | exact kp_same | exact kp_app1 | exact kp_app2 | exact kp_app3 | refine Kp.grew ?_ _ _ | refine Kp.drewN ?_ _ | refine Kp.drew ?_ | refine Kp.alloc ?_ _)))) hm').mono ?_; rintro e w' ⟨rfl, os2, m2, rfl⟩; rw [h2]))
    exact bodyPost_ret (v := .tuple #[.slice none 0 0, .bool false]) (by simp [results, Try.results22, go_sem]) rfl ⟨⟨_, rfl, FOwn.nil _ _ _⟩, (by (try show Gr _ _); repeat (with_reducible first | exact Gr.refl _ | refine Gr.drewN ?_ _ | refine Gr.grew ?_ _ _ | refine Gr.alloc ?_ _ | refine Gr.drew ?_))⟩
  · have e : gTWok xs ys = gFinAll (lst 9 (gTWat xs ys)) := by unfold gTWok; rw [h1, h2]; rfl
    have L1 := Lib.hid (gWarp_len h1)
    have L2 := Lib.hid (gWarp_len h2)
    rw [e]
    clear e
    obtain ⟨ok, hok⟩ : ∃ ok, ok = gFinAll (lst 9 (gTWat xs ys)) := ⟨_, rfl⟩
    rw [← hok]
    obtain ⟨R, hR⟩ : ∃ R, R = (if ok = true then lst 9 (gTWat xs ys) else []) := ⟨_, rfl⟩
    rw [← hR]
    have Hok := Lib.hid hok
    have HR := Lib.hid hR
    clear hok hR
    go_enter Try.func22, Try.ntmps22
    go_wp2_with (first
      | (go_at_call 74; with_reducible refine (I_IsWarp _ _ _ xs _ (Fx.out.keep (by (repeat (with_reducible first | exact Kp.refl _ | exact kp_same | exact kp_app1 | exact kp_app2 | exact kp_app3 | refine Kp.grew ?_ _ _ | refine Kp.drewN ?_ _ | refine Kp.drew ?_ | refine Kp.alloc ?_ _)))) hn').mono ?_; rintro e w' ⟨rfl, os, m, rfl⟩; rw [h1])
      | (go_at_call 74; with_reducible refine (I_IsWarp _ _ _ ys _ (Fy.out.keep (by (repeat (with_reducible first | exact Kp.refl _ | exact kp_same | exact kp_app1 | exact kp_app2 | exact kp_app3 | refine Kp.grew ?_ _ _ | refine Kp.drewN ?_ _ | refine Kp.drew ?_ | refine Kp.alloc ?_ _)))) hm').mono ?_; rintro e w' ⟨rfl, os2, m2, rfl⟩; rw [h2]))
    go_loopw [6, 19] (fun s i wr => ∃ k : Nat, k ≤ 3 ∧ i = .int .i64 k ∧ FOwn wr w.heap.size 77 s (lst (3 * k + 0) (gTWat xs ys)) ∧ Gr w wr) (fun _ i _ => 3 - (intOf i).toNat)
    case atStart => exact ⟨0, Nat.zero_le _, rfl, FOwn.empty (Blk.atNew (by simp)) (by first | omega | (simp <;> omega)), (by (try show Gr _ _); repeat (with_reducible first | exact Gr.refl _ | refine Gr.drewN ?_ _ | refine Gr.grew ?_ _ _ | refine Gr.alloc ?_ _ | refine Gr.drew ?_))⟩
    case round =>
      obtain ⟨i, hi3, rfl, ho, hg⟩ := hrel
      by_cases hlt : i < 3
      · have Ho := Lib.hid ho
        have Hg := Lib.hid hg
        clear ho hg
        rcases (show i = 0 ∨ i = 1 ∨ i = 2 by omega) with rfl | rfl | rfl
        · rw [show ((0 : Nat) : Int) = 0 from rfl]
          go_wp2
          go_loopw [6, 22] (fun s i' wr => ∃ j : Nat, j ≤ 3 ∧ i' = .int .i64 j ∧ FOwn wr w.heap.size 77 s (lst (3 * 0 + j) (gTWat xs ys)) ∧ Gr w wr) (fun _ i _ => 3 - (intOf i).toNat)
          case atStart => exact ⟨0, Nat.zero_le _, rfl, Ho.out, Hg.out⟩
          case round =>
            clear Ho Hg
            obtain ⟨j, hj3, rfl, ho, hg⟩ := hrel
            by_cases hjt : j < 3
            · obtain ⟨bx, ox, rfl⟩ := Fx.out.ptr (by have := L1.out; omega)
              obtain ⟨by', oy, rfl⟩ := Fy.out.ptr (by have := L2.out; omega)
              have l1 : 9 ≤ xs.length := by have := L1.out; omega
              have l2 : 9 ≤ ys.length := by have := L2.out; omega
              have FX9 := Lib.hid (fun (k : Nat) (h : k < 9) => (Fx.out.keep hg.kp).get k (by have := L1.out; omega))
              have FY9 := Lib.hid (fun (k : Nat) (h : k < 9) => (Fy.out.keep hg.kp).get k (by have := L2.out; omega))
              have Ho := Lib.hid ho
              have Hg := Lib.hid hg
              clear ho hg
              rcases (show j = 0 ∨ j = 1 ∨ j = 2 by omega) with rfl | rfl | rfl
              · have EG := Lib.hid (show lst (3 * 0 + 0) (gTWat xs ys) ++ [fop .add .f32 (fop .add .f32 (fop .mul .f32 (xs.getD 0 0) (ys.getD 0 0)) (fop .mul .f32 (xs.getD 1 0) (ys.getD 3 0))) (fop .mul .f32 (xs.getD 2 0) (ys.getD 6 0))] = lst (3 * 0 + (0 + 1)) (gTWat xs ys) from lst_succ (3 * 0 + 0) (gTWat xs ys))
                obtain ⟨p0, a0, f0⟩ := FX9.out 0 (by decide)
                obtain ⟨p1, a1, f1⟩ := FX9.out 1 (by decide)
                obtain ⟨p2, a2, f2⟩ := FX9.out 2 (by decide)
                obtain ⟨q0, b0, g0⟩ := FY9.out 0 (by decide)
                obtain ⟨q3, b3, g3⟩ := FY9.out 3 (by decide)
                obtain ⟨q6, b6, g6⟩ := FY9.out 6 (by decide)
                rw [Nat.add_zero] at a0
                rw [Nat.add_zero] at b0
                go_wp2
                apply region_drew 23
                case hm => kernel_rfl
                case hB => kernel_rfl
                simp only [List.take_succ_cons, List.take_zero, List.drop_succ_cons, List.drop_zero]
                repeat (first
                  | (apply wpSoft_skip rfl; simp only [Act.put, List.setIfInBounds_toArray, List.set_cons_succ, List.set_cons_zero])
                  | (apply wpSoft_nilCheck rfl rfl; simp only [Act.put, List.setIfInBounds_toArray, List.set_cons_succ, List.set_cons_zero])
                  | ((with_reducible apply wpSoft_fop); (case hw => rfl); (case hD => exact closed_drew); (case hop => rfl); (case hx => rfl); (case hy => rfl); (case hA => (first | assumption | exact FE.ofInt _ _ | exact FE.lit (by decide +kernel))); (case hB => (first | assumption | exact FE.ofInt _ _ | exact FE.lit (by decide +kernel))); (intro r hr; simp only [Act.put, List.setIfInBounds_toArray, List.set_cons_succ, List.set_cons_zero]))

                  | ((with_reducible apply wpSoft_widen); (case hw => rfl); (case hD => exact closed_drew); (case hs => exact Try.underlying77); (case hd => exact Try.underlying100); (case hx => rfl); (case hA => (first | assumption | exact FE.ofInt _ _ | exact FE.lit (by decide +kernel))); (intro r hr; simp only [Act.put, List.setIfInBounds_toArray, List.set_cons_succ, List.set_cons_zero]))
                  | ((with_reducible apply wpSoft_fneg); (case hw => rfl); (case hx => rfl); (case hA => (first | assumption | exact FE.ofInt _ _ | exact FE.lit (by decide +kernel))); (intro r hr; simp only [Act.put, List.setIfInBounds_toArray, List.set_cons_succ, List.set_cons_zero]))
                  | ((with_reducible apply wpSoft_fcmp); (case hw => rfl); (case hop => rfl); (case hx => rfl); (case hy => rfl); (case hA => (first | assumption | exact FE.ofInt _ _ | exact FE.lit (by decide +kernel))); (case hB => (first | assumption | exact FE.ofInt _ _ | exact FE.lit (by decide +kernel))); (case hb => (first | assumption | rfl)); simp only [Act.put, List.setIfInBounds_toArray, List.set_cons_succ, List.set_cons_zero])
                  | (apply wpSoft_q rfl rfl; intro K hK; go_big_quiet_op; go_big_quiet_on))
                with_reducible apply wpSoft_nil
                intro m
                go_wp2
                apply region_facts 16 [15] (fun _ v w' => ∃ b r, v = .slice (some ⟨b, 0, none⟩) 1 1 ∧ Blk w' b [.float .f32 r] 77 ∧ FE .f32 r (fop .add .f32 (fop .add .f32 (fop .mul .f32 (xs.getD 0 0) (ys.getD 0 0)) (fop .mul .f32 (xs.getD 1 0) (ys.getD 3 0))) (fop .mul .f32 (xs.getD 2 0) (ys.getD 6 0))))
                case hm => kernel_rfl
                case hB => kernel_rfl
                case hR => rfl
                case hP => (intro k hk v w1 w2 hg hv; obtain ⟨b, r, hv, hB, hr⟩ := hv; exact ⟨b, r, hv, hB.gr hg, hr⟩)
                simp only [List.take_succ_cons, List.take_zero, List.drop_succ_cons, List.drop_zero]
                repeat (first
                  | ((with_reducible apply wpF_new (c := #[.float .f32 r]) (e := 77) (fun b => .slice (some ⟨b, 0, none⟩) 1 1)); (case hw => rfl); (case hx => (intro w; simp [execOp, go_sem])); (case hF => (intro w b hb hc _; exact ⟨b, _, rfl, ⟨hc⟩, hr⟩)); (intro b hb; simp only [Act.put, List.setIfInBounds_toArray, List.set_cons_succ, List.set_cons_zero]))
                  | (apply wpF_skip rfl (by decide); simp only [Act.put, List.setIfInBounds_toArray, List.set_cons_succ, List.set_cons_zero])
                  | (apply wpF_nilCheck rfl (by decide) rfl; simp only [Act.put, List.setIfInBounds_toArray, List.set_cons_succ, List.set_cons_zero])
                  | ((with_reducible apply wpF_fop); (case hw => rfl); (case hT => decide); (case hop => rfl); (case hx => rfl); (case hy => rfl); (case hA => (first | assumption | exact FE.ofInt _ _ | exact FE.lit (by decide +kernel))); (case hB => (first | assumption | exact FE.ofInt _ _ | exact FE.lit (by decide +kernel))); (intro r hr; simp only [Act.put, List.setIfInBounds_toArray, List.set_cons_succ, List.set_cons_zero]))
                  | ((with_reducible apply wpF_fneg); (case hw => rfl); (case hT => decide); (case hx => rfl); (case hA => (first | assumption | exact FE.ofInt _ _ | exact FE.lit (by decide +kernel))); (intro r hr; simp only [Act.put, List.setIfInBounds_toArray, List.set_cons_succ, List.set_cons_zero]))
                  | ((with_reducible apply wpF_fcmp); (case hw => rfl); (case hT => decide); (case hop => rfl); (case hx => rfl); (case hy => rfl); (case hA => (first | assumption | exact FE.ofInt _ _ | exact FE.lit (by decide +kernel))); (case hB => (first | assumption | exact FE.ofInt _ _ | exact FE.lit (by decide +kernel))); (case hb => (first | assumption | rfl)); simp only [Act.put, List.setIfInBounds_toArray, List.set_cons_succ, List.set_cons_zero])
                  | (apply wpF_q rfl (by decide) rfl; intro K hK; go_big_quiet_op; go_big_quiet_on))
                with_reducible apply wpF_nil
                intro os m hf
                obtain ⟨b', r', hb', hB', hr'⟩ := hf.1
                obtain rfl : b' = _ := by simpa using hb'.symm
                have c' := hB'.cellv 0
                clear hf hb'
                refine wpList_append_f rfl rfl i0 Try.underlying28 hi hz0 hz1 hz2 rfl (Ho.out.gr (by (try show Gr _ _); repeat (with_reducible first | exact Gr.refl _ | refine Gr.drewN ?_ _ | refine Gr.grew ?_ _ _ | refine Gr.alloc ?_ _ | refine Gr.drew ?_))) rfl c' hr' (by simp) (Gr.size (Hg.out.trans (by (try show Gr _ _); repeat (with_reducible first | exact Gr.refl _ | refine Gr.drewN ?_ _ | refine Gr.grew ?_ _ _ | refine Gr.alloc ?_ _ | refine Gr.drew ?_)))) ?_
                intro v1 w1 ho1 hg1
                have HO1 := Lib.hid ho1
                have HG1 := Lib.hid (Gr.grownBy (Hg.out.trans ((by (try show Gr _ _); repeat (with_reducible first | exact Gr.refl _ | refine Gr.drewN ?_ _ | refine Gr.grew ?_ _ _ | refine Gr.alloc ?_ _ | refine Gr.drew ?_)) : Gr wr _)) hg1 (fun k hk => (FOwn.block Ho.out hk).1))
                clear hg1 ho1 hB' c'
                go_wp2
                go_roundw
                case rel => exact ⟨1, by omega, by go_num, by rw [← EG.out]; exact HO1.out, HG1.out⟩
                case measure => simp [intOf]
              · have EG := Lib.hid (show lst (3 * 0 + 1) (gTWat xs ys) ++ [fop .add .f32 (fop .add .f32 (fop .mul .f32 (xs.getD 0 0) (ys.getD 1 0)) (fop .mul .f32 (xs.getD 1 0) (ys.getD 4 0))) (fop .mul .f32 (xs.getD 2 0) (ys.getD 7 0))] = lst (3 * 0 + (1 + 1)) (gTWat xs ys) from lst_succ (3 * 0 + 1) (gTWat xs ys))
                obtain ⟨p0, a0, f0⟩ := FX9.out 0 (by decide)
                obtain ⟨p1, a1, f1⟩ := FX9.out 1 (by decide)
                obtain ⟨p2, a2, f2⟩ := FX9.out 2 (by decide)
                obtain ⟨q1, b1, g1⟩ := FY9.out 1 (by decide)
                obtain ⟨q4, b4, g4⟩ := FY9.out 4 (by decide)
                obtain ⟨q7, b7, g7⟩ := FY9.out 7 (by decide)
                rw [Nat.add_zero] at a0
                go_wp2
                apply region_drew 23
                case hm => kernel_rfl
                case hB => kernel_rfl
                simp only [List.take_succ_cons, List.take_zero, List.drop_succ_cons, List.drop_zero]
                repeat (first
                  | (apply wpSoft_skip rfl; simp only [Act.put, List.setIfInBounds_toArray, List.set_cons_succ, List.set_cons_zero])
                  | (apply wpSoft_nilCheck rfl rfl; simp only [Act.put, List.setIfInBounds_toArray, List.set_cons_succ, List.set_cons_zero])
                  | ((with_reducible apply wpSoft_fop); (case hw => rfl); (case hD => exact closed_drew); (case hop => rfl); (case hx => rfl); (case hy => rfl); (case hA => (first | assumption | exact FE.ofInt _ _ | exact FE.lit (by decide +kernel))); (case hB => (first | assumption | exact FE.ofInt _ _ | exact FE.lit (by decide +kernel))); (intro r hr; simp only [Act.put, List.setIfInBounds_toArray, List.set_cons_succ, List.set_cons_zero]))

                  | ((with_reducible apply wpSoft_widen); (case hw => rfl); (case hD => exact closed_drew); (case hs => exact Try.underlying77); (case hd => exact Try.underlying100); (case hx => rfl); (case hA => (first | assumption | exact FE.ofInt _ _ | exact FE.lit (by decide +kernel))); (intro r hr; simp only [Act.put, List.setIfInBounds_toArray, List.set_cons_succ, List.set_cons_zero]))
                  | ((with_reducible apply wpSoft_fneg); (case hw => rfl); (case hx => rfl); (case hA => (first | assumption | exact FE.ofInt _ _ | exact FE.lit (by decide +kernel))); (intro r hr; simp only [Act.put, List.setIfInBounds_toArray, List.set_cons_succ, List.set_cons_zero]))
                  | ((with_reducible apply wpSoft_fcmp); (case hw => rfl); (case hop => rfl); (case hx => rfl); (case hy => rfl); (case hA => (first | assumption | exact FE.ofInt _ _ | exact FE.lit (by decide +kernel))); (case hB => (first | assumption | exact FE.ofInt _ _ | exact FE.lit (by decide +kernel))); (case hb => (first | assumption | rfl)); simp only [Act.put, List.setIfInBounds_toArray, List.set_cons_succ, List.set_cons_zero])
                  | (apply wpSoft_q rfl rfl; intro K hK; go_big_quiet_op; go_big_quiet_on))
                with_reducible apply wpSoft_nil
                intro m
                go_wp2
                apply region_facts 16 [15] (fun _ v w' => ∃ b r, v = .slice (some ⟨b, 0, none⟩) 1 1 ∧ Blk w' b [.float .f32 r] 77 ∧ FE .f32 r (fop .add .f32 (fop .add .f32 (fop .mul .f32 (xs.getD 0 0) (ys.getD 1 0)) (fop .mul .f32 (xs.getD 1 0) (ys.getD 4 0))) (fop .mul .f32 (xs.getD 2 0) (ys.getD 7 0))))
                case hm => kernel_rfl
                case hB => kernel_rfl
                case hR => rfl
                case hP => (intro k hk v w1 w2 hg hv; obtain ⟨b, r, hv, hB, hr⟩ := hv; exact ⟨b, r, hv, hB.gr hg, hr⟩)
                simp only [List.take_succ_cons, List.take_zero, List.drop_succ_cons, List.drop_zero]
                repeat (first
                  | ((with_reducible apply wpF_new (c := #[.float .f32 r]) (e := 77) (fun b => .slice (some ⟨b, 0, none⟩) 1 1)); (case hw => rfl); (case hx => (intro w; simp [execOp, go_sem])); (case hF => (intro w b hb hc _; exact ⟨b, _, rfl, ⟨hc⟩, hr⟩)); (intro b hb; simp only [Act.put, List.setIfInBounds_toArray, List.set_cons_succ, List.set_cons_zero]))
                  | (apply wpF_skip rfl (by decide); simp only [Act.put, List.setIfInBounds_toArray, List.set_cons_succ, List.set_cons_zero])
                  | (apply wpF_nilCheck rfl (by decide) rfl; simp only [Act.put, List.setIfInBounds_toArray, List.set_cons_succ, List.set_cons_zero])
                  | ((with_reducible apply wpF_fop); (case hw => rfl); (case hT => decide); (case hop => rfl); (case hx => rfl); (case hy => rfl); (case hA => (first | assumption | exact FE.ofInt _ _ | exact FE.lit (by decide +kernel))); (case hB => (first | assumption | exact FE.ofInt _ _ | exact FE.lit (by decide +kernel))); (intro r hr; simp only [Act.put, List.setIfInBounds_toArray, List.set_cons_succ, List.set_cons_zero]))
                  | ((with_reducible apply wpF_fneg); (case hw => rfl); (case hT => decide); (case hx => rfl); (case hA => (first | assumption | exact FE.ofInt _ _ | exact FE.lit (by decide +kernel))); (intro r hr; simp only [Act.put, List.setIfInBounds_toArray, List.set_cons_succ, List.set_cons_zero]))
                  | ((with_reducible apply wpF_fcmp); (case hw => rfl); (case hT => decide); (case hop => rfl); (case hx => rfl); (case hy => rfl); (case hA => (first | assumption | exact FE.ofInt _ _ | exact FE.lit (by decide +kernel))); (case hB => (first | assumption | exact FE.ofInt _ _ | exact FE.lit (by decide +kernel))); (case hb => (first | assumption | rfl)); simp only [Act.put, List.setIfInBounds_toArray, List.set_cons_succ, List.set_cons_zero])
                  | (apply wpF_q rfl (by decide) rfl; intro K hK; go_big_quiet_op; go_big_quiet_on))
                with_reducible apply wpF_nil
                intro os m hf
                obtain ⟨b', r', hb', hB', hr'⟩ := hf.1
                obtain rfl : b' = _ := by simpa using hb'.symm
                have c' := hB'.cellv 0
                clear hf hb'
                refine wpList_append_f rfl rfl i0 Try.underlying28 hi hz0 hz1 hz2 rfl (Ho.out.gr (by (try show Gr _ _); repeat (with_reducible first | exact Gr.refl _ | refine Gr.drewN ?_ _ | refine Gr.grew ?_ _ _ | refine Gr.alloc ?_ _ | refine Gr.drew ?_))) rfl c' hr' (by simp) (Gr.size (Hg.out.trans (by (try show Gr _ _); repeat (with_reducible first | exact Gr.refl _ | refine Gr.drewN ?_ _ | refine Gr.grew ?_ _ _ | refine Gr.alloc ?_ _ | refine Gr.drew ?_)))) ?_
                intro v1 w1 ho1 hg1
                have HO1 := Lib.hid ho1
                have HG1 := Lib.hid (Gr.grownBy (Hg.out.trans ((by (try show Gr _ _); repeat (with_reducible first | exact Gr.refl _ | refine Gr.drewN ?_ _ | refine Gr.grew ?_ _ _ | refine Gr.alloc ?_ _ | refine Gr.drew ?_)) : Gr wr _)) hg1 (fun k hk => (FOwn.block Ho.out hk).1))
                clear hg1 ho1 hB' c'
                go_wp2
                go_roundw
                case rel => exact ⟨2, by omega, by go_num, by rw [← EG.out]; exact HO1.out, HG1.out⟩
                case measure => simp [intOf]
              · have EG := Lib.hid (show lst (3 * 0 + 2) (gTWat xs ys) ++ [fop .add .f32 (fop .add .f32 (fop .mul .f32 (xs.getD 0 0) (ys.getD 2 0)) (fop .mul .f32 (xs.getD 1 0) (ys.getD 5 0))) (fop .mul .f32 (xs.getD 2 0) (ys.getD 8 0))] = lst (3 * 0 + (2 + 1)) (gTWat xs ys) from lst_succ (3 * 0 + 2) (gTWat xs ys))
                obtain ⟨p0, a0, f0⟩ := FX9.out 0 (by decide)
                obtain ⟨p1, a1, f1⟩ := FX9.out 1 (by decide)
                obtain ⟨p2, a2, f2⟩ := FX9.out 2 (by decide)
                obtain ⟨q2, b2, g2⟩ := FY9.out 2 (by decide)
                obtain ⟨q5, b5, g5⟩ := FY9.out 5 (by decide)
                obtain ⟨q8, b8, g8⟩ := FY9.out 8 (by decide)
                rw [Nat.add_zero] at a0
                go_wp2
                apply region_drew 23
                case hm => kernel_rfl
                case hB => kernel_rfl
                simp only [List.take_succ_cons, List.take_zero, List.drop_succ_cons, List.drop_zero]
                repeat (first
                  | (apply wpSoft_skip rfl; simp only [Act.put, List.setIfInBounds_toArray, List.set_cons_succ, List.set_cons_zero])
                  | (apply wpSoft_nilCheck rfl rfl; simp only [Act.put, List.setIfInBounds_toArray, List.set_cons_succ, List.set_cons_zero])
                  | ((with_reducible apply wpSoft_fop); (case hw => rfl); (case hD => exact closed_drew); (case hop => rfl); (case hx => rfl); (case hy => rfl); (case hA => (first | assumption | exact FE.ofInt _ _ | exact FE.lit (by decide +kernel))); (case hB => (first | assumption | exact FE.ofInt _ _ | exact FE.lit (by decide +kernel))); (intro r hr; simp only [Act.put, List.setIfInBounds_toArray, List.set_cons_succ, List.set_cons_zero]))

                  | ((with_reducible apply wpSoft_widen); (case hw => rfl); (case hD => exact closed_drew); (case hs => exact Try.underlying77); (case hd => exact Try.underlying100); (case hx => rfl); (case hA => (first | assumption | exact FE.ofInt _ _ | exact FE.lit (by decide +kernel))); (intro r hr; simp only [Act.put, List.setIfInBounds_toArray, List.set_cons_succ, List.set_cons_zero]))
                  | ((with_reducible apply wpSoft_fneg); (case hw => rfl); (case hx => rfl); (case hA => (first | assumption | exact FE.ofInt _ _ | exact FE.lit (by decide +kernel))); (intro r hr; simp only [Act.put, List.setIfInBounds_toArray, List.set_cons_succ, List.set_cons_zero]))
                  | ((with_reducible apply wpSoft_fcmp); (case hw => rfl); (case hop => rfl); (case hx => rfl); (case hy => rfl); (case hA => (first | assumption | exact FE.ofInt _ _ | exact FE.lit (by decide +kernel))); (case hB => (first | assumption | exact FE.ofInt _ _ | exact FE.lit (by decide +kernel))); (case hb => (first | assumption | rfl)); simp only [Act.put, List.setIfInBounds_toArray, List.set_cons_succ, List.set_cons_zero])
                  | (apply wpSoft_q rfl rfl; intro K hK; go_big_quiet_op; go_big_quiet_on))
                with_reducible apply wpSoft_nil
                intro m
                go_wp2
                apply region_facts 16 [15] (fun _ v w' => ∃ b r, v = .slice (some ⟨b, 0, none⟩) 1 1 ∧ Blk w' b [.float .f32 r] 77 ∧ FE .f32 r (fop .add .f32 (fop .add .f32 (fop .mul .f32 (xs.getD 0 0) (ys.getD 2 0)) (fop .mul .f32 (xs.getD 1 0) (ys.getD 5 0))) (fop .mul .f32 (xs.getD 2 0) (ys.getD 8 0))))
                case hm => kernel_rfl
                case hB => kernel_rfl
                case hR => rfl
                case hP => (intro k hk v w1 w2 hg hv; obtain ⟨b, r, hv, hB, hr⟩ := hv; exact ⟨b, r, hv, hB.gr hg, hr⟩)
                simp only [List.take_succ_cons, List.take_zero, List.drop_succ_cons, List.drop_zero]
                repeat (first
                  | ((with_reducible apply wpF_new (c := #[.float .f32 r]) (e := 77) (fun b => .slice (some ⟨b, 0, none⟩) 1 1)); (case hw => rfl); (case hx => (intro w; simp [execOp, go_sem])); (case hF => (intro w b hb hc _; exact ⟨b, _, rfl, ⟨hc⟩, hr⟩)); (intro b hb; simp only [Act.put, List.setIfInBounds_toArray, List.set_cons_succ, List.set_cons_zero]))
                  | (apply wpF_skip rfl (by decide); simp only [Act.put, List.setIfInBounds_toArray, List.set_cons_succ, List.set_cons_zero])
                  | (apply wpF_nilCheck rfl (by decide) rfl; simp only [Act.put, List.setIfInBounds_toArray, List.set_cons_succ, List.set_cons_zero])
                  | ((with_reducible apply wpF_fop); (case hw => rfl); (case hT => decide); (case hop => rfl); (case hx => rfl); (case hy => rfl); (case hA => (first | assumption | exact FE.ofInt _ _ | exact FE.lit (by decide +kernel))); (case hB => (first | assumption | exact FE.ofInt _ _ | exact FE.lit (by decide +kernel))); (intro r hr; simp only [Act.put, List.setIfInBounds_toArray, List.set_cons_succ, List.set_cons_zero]))
                  | ((with_reducible apply wpF_fneg); (case hw => rfl); (case hT => decide); (case hx => rfl); (case hA => (first | assumption | exact FE.ofInt _ _ | exact FE.lit (by decide +kernel))); (intro r hr; simp only [Act.put, List.setIfInBounds_toArray, List.set_cons_succ, List.set_cons_zero]))
                  | ((with_reducible apply wpF_fcmp); (case hw => rfl); (case hT => decide); (case hop => rfl); (case hx => rfl); (case hy => rfl); (case hA => (first | assumption | exact FE.ofInt _ _ | exact FE.lit (by decide +kernel))); (case hB => (first | assumption | exact FE.ofInt _ _ | exact FE.lit (by decide +kernel))); (case hb => (first | assumption | rfl)); simp only [Act.put, List.setIfInBounds_toArray, List.set_cons_succ, List.set_cons_zero])
                  | (apply wpF_q rfl (by decide) rfl; intro K hK; go_big_quiet_op; go_big_quiet_on))
                with_reducible apply wpF_nil
                intro os m hf
                obtain ⟨b', r', hb', hB', hr'⟩ := hf.1
                obtain rfl : b' = _ := by simpa using hb'.symm
                have c' := hB'.cellv 0
                clear hf hb'
                refine wpList_append_f rfl rfl i0 Try.underlying28 hi hz0 hz1 hz2 rfl (Ho.out.gr (by (try show Gr _ _); repeat (with_reducible first | exact Gr.refl _ | refine Gr.drewN ?_ _ | refine Gr.grew ?_ _ _ | refine Gr.alloc ?_ _ | refine Gr.drew ?_))) rfl c' hr' (by simp) (Gr.size (Hg.out.trans (by (try show Gr _ _); repeat (with_reducible first | exact Gr.refl _ | refine Gr.drewN ?_ _ | refine Gr.grew ?_ _ _ | refine Gr.alloc ?_ _ | refine Gr.drew ?_)))) ?_
                intro v1 w1 ho1 hg1
                have HO1 := Lib.hid ho1
                have HG1 := Lib.hid (Gr.grownBy (Hg.out.trans ((by (try show Gr _ _); repeat (with_reducible first | exact Gr.refl _ | refine Gr.drewN ?_ _ | refine Gr.grew ?_ _ _ | refine Gr.alloc ?_ _ | refine Gr.drew ?_)) : Gr wr _)) hg1 (fun k hk => (FOwn.block Ho.out hk).1))
                clear hg1 ho1 hB' c'
                go_wp2
                go_roundw
                case rel => exact ⟨3, by omega, by go_num, by rw [← EG.out]; exact HO1.out, HG1.out⟩
                case measure => simp [intOf]
            · obtain rfl : j = 3 := by omega
              have Ho := Lib.hid ho
              have Hg := Lib.hid hg
              clear ho hg
              go_wp2
              go_roundw
              case rel => exact ⟨1, by omega, by go_num, by rw [show 3 * 1 + 0 = 3 * 0 + 3 by omega]; exact Ho.out, Hg.out⟩
              case measure => simp [intOf]
        · rw [show ((1 : Nat) : Int) = 1 from rfl]
          go_wp2
          go_loopw [6, 22] (fun s i' wr => ∃ j : Nat, j ≤ 3 ∧ i' = .int .i64 j ∧ FOwn wr w.heap.size 77 s (lst (3 * 1 + j) (gTWat xs ys)) ∧ Gr w wr) (fun _ i _ => 3 - (intOf i).toNat)
          case atStart => exact ⟨0, Nat.zero_le _, rfl, Ho.out, Hg.out⟩
          case round =>
            clear Ho Hg
            obtain ⟨j, hj3, rfl, ho, hg⟩ := hrel
            by_cases hjt : j < 3
            · obtain ⟨bx, ox, rfl⟩ := Fx.out.ptr (by have := L1.out; omega)
              obtain ⟨by', oy, rfl⟩ := Fy.out.ptr (by have := L2.out; omega)
              have l1 : 9 ≤ xs.length := by have := L1.out; omega
              have l2 : 9 ≤ ys.length := by have := L2.out; omega
              have FX9 := Lib.hid (fun (k : Nat) (h : k < 9) => (Fx.out.keep hg.kp).get k (by have := L1.out; omega))
              have FY9 := Lib.hid (fun (k : Nat) (h : k < 9) => (Fy.out.keep hg.kp).get k (by have := L2.out; omega))
              have Ho := Lib.hid ho
              have Hg := Lib.hid hg
              clear ho hg
              rcases (show j = 0 ∨ j = 1 ∨ j = 2 by omega) with rfl | rfl | rfl
              · have EG := Lib.hid (show lst (3 * 1 + 0) (gTWat xs ys) ++ [fop .add .f32 (fop .add .f32 (fop .mul .f32 (xs.getD 3 0) (ys.getD 0 0)) (fop .mul .f32 (xs.getD 4 0) (ys.getD 3 0))) (fop .mul .f32 (xs.getD 5 0) (ys.getD 6 0))] = lst (3 * 1 + (0 + 1)) (gTWat xs ys) from lst_succ (3 * 1 + 0) (gTWat xs ys))
                obtain ⟨p3, a3, f3⟩ := FX9.out 3 (by decide)
                obtain ⟨p4, a4, f4⟩ := FX9.out 4 (by decide)
                obtain ⟨p5, a5, f5⟩ := FX9.out 5 (by decide)
                obtain ⟨q0, b0, g0⟩ := FY9.out 0 (by decide)
                obtain ⟨q3, b3, g3⟩ := FY9.out 3 (by decide)
                obtain ⟨q6, b6, g6⟩ := FY9.out 6 (by decide)
                rw [Nat.add_zero] at b0
                go_wp2
                apply region_drew 23
                case hm => kernel_rfl
                case hB => kernel_rfl
                simp only [List.take_succ_cons, List.take_zero, List.drop_succ_cons, List.drop_zero]
                repeat (first
                  | (apply wpSoft_skip rfl; simp only [Act.put, List.setIfInBounds_toArray, List.set_cons_succ, List.set_cons_zero])
                  | (apply wpSoft_nilCheck rfl rfl; simp only [Act.put, List.setIfInBounds_toArray, List.set_cons_succ, List.set_cons_zero])
                  | ((with_reducible apply wpSoft_fop); (case hw => rfl); (case hD => exact closed_drew); (case hop => rfl); (case hx => rfl); (case hy => rfl); (case hA => (first | assumption | exact FE.ofInt _ _ | exact FE.lit (by decide +kernel))); (case hB => (first | assumption | exact FE.ofInt _ _ | exact FE.lit (by decide +kernel))); (intro r hr; simp only [Act.put, List.setIfInBounds_toArray, List.set_cons_succ, List.set_cons_zero]))

                  | ((with_reducible apply wpSoft_widen); (case hw => rfl); (case hD => exact closed_drew); (case hs => exact Try.underlying77); (case hd => exact Try.underlying100); (case hx => rfl); (case hA => (first | assumption | exact FE.ofInt _ _ | exact FE.lit (by decide +kernel))); (intro r hr; simp only [Act.put, List.setIfInBounds_toArray, List.set_cons_succ, List.set_cons_zero]))
                  | ((with_reducible apply wpSoft_fneg); (case hw => rfl); (case hx => rfl); (case hA => (first | assumption | exact FE.ofInt _ _ | exact FE.lit (by decide +kernel))); (intro r hr; simp only [Act.put, List.setIfInBounds_toArray, List.set_cons_succ, List.set_cons_zero]))
                  | ((with_reducible apply wpSoft_fcmp); (case hw => rfl); (case hop => rfl); (case hx => rfl); (case hy => rfl); (case hA => (first | assumption | exact FE.ofInt _ _ | exact FE.lit (by decide +kernel))); (case hB => (first | assumption | exact FE.ofInt _ _ | exact FE.lit (by decide +kernel))); (case hb => (first | assumption | rfl)); simp only [Act.put, List.setIfInBounds_toArray, List.set_cons_succ, List.set_cons_zero])
                  | (apply wpSoft_q rfl rfl; intro K hK; go_big_quiet_op; go_big_quiet_on))
                with_reducible apply wpSoft_nil
                intro m
                go_wp2
                apply region_facts 16 [15] (fun _ v w' => ∃ b r, v = .slice (some ⟨b, 0, none⟩) 1 1 ∧ Blk w' b [.float .f32 r] 77 ∧ FE .f32 r (fop .add .f32 (fop .add .f32 (fop .mul .f32 (xs.getD 3 0) (ys.getD 0 0)) (fop .mul .f32 (xs.getD 4 0) (ys.getD 3 0))) (fop .mul .f32 (xs.getD 5 0) (ys.getD 6 0))))
                case hm => kernel_rfl
                case hB => kernel_rfl
                case hR => rfl
                case hP => (intro k hk v w1 w2 hg hv; obtain ⟨b, r, hv, hB, hr⟩ := hv; exact ⟨b, r, hv, hB.gr hg, hr⟩)
                simp only [List.take_succ_cons, List.take_zero, List.drop_succ_cons, List.drop_zero]
                repeat (first
                  | ((with_reducible apply wpF_new (c := #[.float .f32 r]) (e := 77) (fun b => .slice (some ⟨b, 0, none⟩) 1 1)); (case hw => rfl); (case hx => (intro w; simp [execOp, go_sem])); (case hF => (intro w b hb hc _; exact ⟨b, _, rfl, ⟨hc⟩, hr⟩)); (intro b hb; simp only [Act.put, List.setIfInBounds_toArray, List.set_cons_succ, List.set_cons_zero]))
                  | (apply wpF_skip rfl (by decide); simp only [Act.put, List.setIfInBounds_toArray, List.set_cons_succ, List.set_cons_zero])
                  | (apply wpF_nilCheck rfl (by decide) rfl; simp only [Act.put, List.setIfInBounds_toArray, List.set_cons_succ, List.set_cons_zero])
                  | ((with_reducible apply wpF_fop); (case hw => rfl); (case hT => decide); (case hop => rfl); (case hx => rfl); (case hy => rfl); (case hA => (first | assumption | exact FE.ofInt _ _ | exact FE.lit (by decide +kernel))); (case hB => (first | assumption | exact FE.ofInt _ _ | exact FE.lit (by decide +kernel))); (intro r hr; simp only [Act.put, List.setIfInBounds_toArray, List.set_cons_succ, List.set_cons_zero]))
                  | ((with_reducible apply wpF_fneg); (case hw => rfl); (case hT => decide); (case hx => rfl); (case hA => (first | assumption | exact FE.ofInt _ _ | exact FE.lit (by decide +kernel))); (intro r hr; simp only [Act.put, List.setIfInBounds_toArray, List.set_cons_succ, List.set_cons_zero]))
                  | ((with_reducible apply wpF_fcmp); (case hw => rfl); (case hT => decide); (case hop => rfl); (case hx => rfl); (case hy => rfl); (case hA => (first | assumption | exact FE.ofInt _ _ | exact FE.lit (by decide +kernel))); (case hB => (first | assumption | exact FE.ofInt _ _ | exact FE.lit (by decide +kernel))); (case hb => (first | assumption | rfl)); simp only [Act.put, List.setIfInBounds_toArray, List.set_cons_succ, List.set_cons_zero])
                  | (apply wpF_q rfl (by decide) rfl; intro K hK; go_big_quiet_op; go_big_quiet_on))
                with_reducible apply wpF_nil
                intro os m hf
                obtain ⟨b', r', hb', hB', hr'⟩ := hf.1
                obtain rfl : b' = _ := by simpa using hb'.symm
                have c' := hB'.cellv 0
                clear hf hb'
                refine wpList_append_f rfl rfl i0 Try.underlying28 hi hz0 hz1 hz2 rfl (Ho.out.gr (by (try show Gr _ _); repeat (with_reducible first | exact Gr.refl _ | refine Gr.drewN ?_ _ | refine Gr.grew ?_ _ _ | refine Gr.alloc ?_ _ | refine Gr.drew ?_))) rfl c' hr' (by simp) (Gr.size (Hg.out.trans (by (try show Gr _ _); repeat (with_reducible first | exact Gr.refl _ | refine Gr.drewN ?_ _ | refine Gr.grew ?_ _ _ | refine Gr.alloc ?_ _ | refine Gr.drew ?_)))) ?_
                intro v1 w1 ho1 hg1
                have HO1 := Lib.hid ho1
                have HG1 := Lib.hid (Gr.grownBy (Hg.out.trans ((by (try show Gr _ _); repeat (with_reducible first | exact Gr.refl _ | refine Gr.drewN ?_ _ | refine Gr.grew ?_ _ _ | refine Gr.alloc ?_ _ | refine Gr.drew ?_)) : Gr wr _)) hg1 (fun k hk => (FOwn.block Ho.out hk).1))
                clear hg1 ho1 hB' c'
                go_wp2
                go_roundw
                case rel => exact ⟨1, by omega, by go_num, by rw [← EG.out]; exact HO1.out, HG1.out⟩
                case measure => simp [intOf]
              · have EG := Lib.hid (show lst (3 * 1 + 1) (gTWat xs ys) ++ [fop .add .f32 (fop .add .f32 (fop .mul .f32 (xs.getD 3 0) (ys.getD 1 0)) (fop .mul .f32 (xs.getD 4 0) (ys.getD 4 0))) (fop .mul .f32 (xs.getD 5 0) (ys.getD 7 0))] = lst (3 * 1 + (1 + 1)) (gTWat xs ys) from lst_succ (3 * 1 + 1) (gTWat xs ys))
                obtain ⟨p3, a3, f3⟩ := FX9.out 3 (by decide)
                obtain ⟨p4, a4, f4⟩ := FX9.out 4 (by decide)
                obtain ⟨p5, a5, f5⟩ := FX9.out 5 (by decide)
                obtain ⟨q1, b1, g1⟩ := FY9.out 1 (by decide)
                obtain ⟨q4, b4, g4⟩ := FY9.out 4 (by decide)
                obtain ⟨q7, b7, g7⟩ := FY9.out 7 (by decide)
                go_wp2
                apply region_drew 23
                case hm => kernel_rfl
                case hB => kernel_rfl
                simp only [List.take_succ_cons, List.take_zero, List.drop_succ_cons, List.drop_zero]
                repeat (first
                  | (apply wpSoft_skip rfl; simp only [Act.put, List.setIfInBounds_toArray, List.set_cons_succ, List.set_cons_zero])
                  | (apply wpSoft_nilCheck rfl rfl; simp only [Act.put, List.setIfInBounds_toArray, List.set_cons_succ, List.set_cons_zero])
                  | ((with_reducible apply wpSoft_fop); (case hw => rfl); (case hD => exact closed_drew); (case hop => rfl); (case hx => rfl); (case hy => rfl); (case hA => (first | assumption | exact FE.ofInt _ _ | exact FE.lit (by decide +kernel))); (case hB => (first | assumption | exact FE.ofInt _ _ | exact FE.lit (by decide +kernel))); (intro r hr; simp only [Act.put, List.setIfInBounds_toArray, List.set_cons_succ, List.set_cons_zero]))

                  | ((with_reducible apply wpSoft_widen); (case hw => rfl); (case hD => exact closed_drew); (case hs => exact Try.underlying77); (case hd => exact Try.underlying100); (case hx => rfl); (case hA => (first | assumption | exact FE.ofInt _ _ | exact FE.lit (by decide +kernel))); (intro r hr; simp only [Act.put, List.setIfInBounds_toArray, List.set_cons_succ, List.set_cons_zero]))
                  | ((with_reducible apply wpSoft_fneg); (case hw => rfl); (case hx => rfl); (case hA => (first | assumption | exact FE.ofInt _ _ | exact FE.lit (by decide +kernel))); (intro r hr; simp only [Act.put, List.setIfInBounds_toArray, List.set_cons_succ, List.set_cons_zero]))
                  | ((with_reducible apply wpSoft_fcmp); (case hw => rfl); (case hop => rfl); (case hx => rfl); (case hy => rfl); (case hA => (first | assumption | exact FE.ofInt _ _ | exact FE.lit (by decide +kernel))); (case hB => (first | assumption | exact FE.ofInt _ _ | exact FE.lit (by decide +kernel))); (case hb => (first | assumption | rfl)); simp only [Act.put, List.setIfInBounds_toArray, List.set_cons_succ, List.set_cons_zero])
                  | (apply wpSoft_q rfl rfl; intro K hK; go_big_quiet_op; go_big_quiet_on))
                with_reducible apply wpSoft_nil
                intro m
                go_wp2
                apply region_facts 16 [15] (fun _ v w' => ∃ b r, v = .slice (some ⟨b, 0, none⟩) 1 1 ∧ Blk w' b [.float .f32 r] 77 ∧ FE .f32 r (fop .add .f32 (fop .add .f32 (fop .mul .f32 (xs.getD 3 0) (ys.getD 1 0)) (fop .mul .f32 (xs.getD 4 0) (ys.getD 4 0))) (fop .mul .f32 (xs.getD 5 0) (ys.getD 7 0))))
                case hm => kernel_rfl
                case hB => kernel_rfl
                case hR => rfl
                case hP => (intro k hk v w1 w2 hg hv; obtain ⟨b, r, hv, hB, hr⟩ := hv; exact ⟨b, r, hv, hB.gr hg, hr⟩)
                simp only [List.take_succ_cons, List.take_zero, List.drop_succ_cons, List.drop_zero]
                repeat (first
                  | ((with_reducible apply wpF_new (c := #[.float .f32 r]) (e := 77) (fun b => .slice (some ⟨b, 0, none⟩) 1 1)); (case hw => rfl); (case hx => (intro w; simp [execOp, go_sem])); (case hF => (intro w b hb hc _; exact ⟨b, _, rfl, ⟨hc⟩, hr⟩)); (intro b hb; simp only [Act.put, List.setIfInBounds_toArray, List.set_cons_succ, List.set_cons_zero]))
                  | (apply wpF_skip rfl (by decide); simp only [Act.put, List.setIfInBounds_toArray, List.set_cons_succ, List.set_cons_zero])
                  | (apply wpF_nilCheck rfl (by decide) rfl; simp only [Act.put, List.setIfInBounds_toArray, List.set_cons_succ, List.set_cons_zero])
                  | ((with_reducible apply wpF_fop); (case hw => rfl); (case hT => decide); (case hop => rfl); (case hx => rfl); (case hy => rfl); (case hA => (first | assumption | exact FE.ofInt _ _ | exact FE.lit (by decide +kernel))); (case hB => (first | assumption | exact FE.ofInt _ _ | exact FE.lit (by decide +kernel))); (intro r hr; simp only [Act.put, List.setIfInBounds_toArray, List.set_cons_succ, List.set_cons_zero]))
                  | ((with_reducible apply wpF_fneg); (case hw => rfl); (case hT => decide); (case hx => rfl); (case hA => (first | assumption | exact FE.ofInt _ _ | exact FE.lit (by decide +kernel))); (intro r hr; simp only [Act.put, List.setIfInBounds_toArray, List.set_cons_succ, List.set_cons_zero]))
                  | ((with_reducible apply wpF_fcmp); (case hw => rfl); (case hT => decide); (case hop => rfl); (case hx => rfl); (case hy => rfl); (case hA => (first | assumption | exact FE.ofInt _ _ | exact FE.lit (by decide +kernel))); (case hB => (first | assumption | exact FE.ofInt _ _ | exact FE.lit (by decide +kernel))); (case hb => (first | assumption | rfl)); simp only [Act.put, List.setIfInBounds_toArray, List.set_cons_succ, List.set_cons_zero])
                  | (apply wpF_q rfl (by decide) rfl; intro K hK; go_big_quiet_op; go_big_quiet_on))
                with_reducible apply wpF_nil
                intro os m hf
                obtain ⟨b', r', hb', hB', hr'⟩ := hf.1
                obtain rfl : b' = _ := by simpa using hb'.symm
                have c' := hB'.cellv 0
                clear hf hb'
                refine wpList_append_f rfl rfl i0 Try.underlying28 hi hz0 hz1 hz2 rfl (Ho.out.gr (by (try show Gr _ _); repeat (with_reducible first | exact Gr.refl _ | refine Gr.drewN ?_ _ | refine Gr.grew ?_ _ _ | refine Gr.alloc ?_ _ | refine Gr.drew ?_))) rfl c' hr' (by simp) (Gr.size (Hg.out.trans (by (try show Gr _ _); repeat (with_reducible first | exact Gr.refl _ | refine Gr.drewN ?_ _ | refine Gr.grew ?_ _ _ | refine Gr.alloc ?_ _ | refine Gr.drew ?_)))) ?_
                intro v1 w1 ho1 hg1
                have HO1 := Lib.hid ho1
                have HG1 := Lib.hid (Gr.grownBy (Hg.out.trans ((by (try show Gr _ _); repeat (with_reducible first | exact Gr.refl _ | refine Gr.drewN ?_ _ | refine Gr.grew ?_ _ _ | refine Gr.alloc ?_ _ | refine Gr.drew ?_)) : Gr wr _)) hg1 (fun k hk => (FOwn.block Ho.out hk).1))
                clear hg1 ho1 hB' c'
                go_wp2
                go_roundw
                case rel => exact ⟨2, by omega, by go_num, by rw [← EG.out]; exact HO1.out, HG1.out⟩
                case measure => simp [intOf]
              · have EG := Lib.hid (show lst (3 * 1 + 2) (gTWat xs ys) ++ [fop .add .f32 (fop .add .f32 (fop .mul .f32 (xs.getD 3 0) (ys.getD 2 0)) (fop .mul .f32 (xs.getD 4 0) (ys.getD 5 0))) (fop .mul .f32 (xs.getD 5 0) (ys.getD 8 0))] = lst (3 * 1 + (2 + 1)) (gTWat xs ys) from lst_succ (3 * 1 + 2) (gTWat xs ys))
                obtain ⟨p3, a3, f3⟩ := FX9.out 3 (by decide)
                obtain ⟨p4, a4, f4⟩ := FX9.out 4 (by decide)
                obtain ⟨p5, a5, f5⟩ := FX9.out 5 (by decide)
                obtain ⟨q2, b2, g2⟩ := FY9.out 2 (by decide)
                obtain ⟨q5, b5, g5⟩ := FY9.out 5 (by decide)
                obtain ⟨q8, b8, g8⟩ := FY9.out 8 (by decide)
                go_wp2
                apply region_drew 23
                case hm => kernel_rfl
                case hB => kernel_rfl
                simp only [List.take_succ_cons, List.take_zero, List.drop_succ_cons, List.drop_zero]
                repeat (first
                  | (apply wpSoft_skip rfl; simp only [Act.put, List.setIfInBounds_toArray, List.set_cons_succ, List.set_cons_zero])
                  | (apply wpSoft_nilCheck rfl rfl; simp only [Act.put, List.setIfInBounds_toArray, List.set_cons_succ, List.set_cons_zero])
                  | ((with_reducible apply wpSoft_fop); (case hw => rfl); (case hD => exact closed_drew); (case hop => rfl); (case hx => rfl); (case hy => rfl); (case hA => (first | assumption | exact FE.ofInt _ _ | exact FE.lit (by decide +kernel))); (case hB => (first | assumption | exact FE.ofInt _ _ | exact FE.lit (by decide +kernel))); (intro r hr; simp only [Act.put, List.setIfInBounds_toArray, List.set_cons_succ, List.set_cons_zero]))

                  | ((with_reducible apply wpSoft_widen); (case hw => rfl); (case hD => exact closed_drew); (case hs => exact Try.underlying77); (case hd => exact Try.underlying100); (case hx => rfl); (case hA => (first | assumption | exact FE.ofInt _ _ | exact FE.lit (by decide +kernel))); (intro r hr; simp only [Act.put, List.setIfInBounds_toArray, List.set_cons_succ, List.set_cons_zero]))
                  | ((with_reducible apply wpSoft_fneg); (case hw => rfl); (case hx => rfl); (case hA => (first | assumption | exact FE.ofInt _ _ | exact FE.lit (by decide +kernel))); (intro r hr; simp only [Act.put, List.setIfInBounds_toArray, List.set_cons_succ, List.set_cons_zero]))
                  | ((with_reducible apply wpSoft_fcmp); (case hw => rfl); (case hop => rfl); (case hx => rfl); (case hy => rfl); (case hA => (first | assumption | exact FE.ofInt _ _ | exact FE.lit (by decide +kernel))); (case hB => (first | assumption | exact FE.ofInt _ _ | exact FE.lit (by decide +kernel))); (case hb => (first | assumption | rfl)); simp only [Act.put, List.setIfInBounds_toArray, List.set_cons_succ, List.set_cons_zero])
                  | (apply wpSoft_q rfl rfl; intro K hK; go_big_quiet_op; go_big_quiet_on))
                with_reducible apply wpSoft_nil
                intro m
                go_wp2
                apply region_facts 16 [15] (fun _ v w' => ∃ b r, v = .slice (some ⟨b, 0, none⟩) 1 1 ∧ Blk w' b [.float .f32 r] 77 ∧ FE .f32 r (fop .add .f32 (fop .add .f32 (fop .mul .f32 (xs.getD 3 0) (ys.getD 2 0)) (fop .mul .f32 (xs.getD 4 0) (ys.getD 5 0))) (fop .mul .f32 (xs.getD 5 0) (ys.getD 8 0))))
                case hm => kernel_rfl
                case hB => kernel_rfl
                case hR => rfl
                case hP => (intro k hk v w1 w2 hg hv; obtain ⟨b, r, hv, hB, hr⟩ := hv; exact ⟨b, r, hv, hB.gr hg, hr⟩)
                simp only [List.take_succ_cons, List.take_zero, List.drop_succ_cons, List.drop_zero]
                repeat (first
                  | ((with_reducible apply wpF_new (c := #[.float .f32 r]) (e := 77) (fun b => .slice (some ⟨b, 0, none⟩) 1 1)); (case hw => rfl); (case hx => (intro w; simp [execOp, go_sem])); (case hF => (intro w b hb hc _; exact ⟨b, _, rfl, ⟨hc⟩, hr⟩)); (intro b hb; simp only [Act.put, List.setIfInBounds_toArray, List.set_cons_succ, List.set_cons_zero]))
                  | (apply wpF_skip rfl (by decide); simp only [Act.put, List.setIfInBounds_toArray, List.set_cons_succ, List.set_cons_zero])
                  | (apply wpF_nilCheck rfl (by decide) rfl; simp only [Act.put, List.setIfInBounds_toArray, List.set_cons_succ, List.set_cons_zero])
                  | ((with_reducible apply wpF_fop); (case hw => rfl); (case hT => decide); (case hop => rfl); (case hx => rfl); (case hy => rfl); (case hA => (first | assumption | exact FE.ofInt _ _ | exact FE.lit (by decide +kernel))); (case hB => (first | assumption | exact FE.ofInt _ _ | exact FE.lit (by decide +kernel))); (intro r hr; simp only [Act.put, List.setIfInBounds_toArray, List.set_cons_succ, List.set_cons_zero]))
                  | ((with_reducible apply wpF_fneg); (case hw => rfl); (case hT => decide); (case hx => rfl); (case hA => (first | assumption | exact FE.ofInt _ _ | exact FE.lit (by decide +kernel))); (intro r hr; simp only [Act.put, List.setIfInBounds_toArray, List.set_cons_succ, List.set_cons_zero]))
                  | ((with_reducible apply wpF_fcmp); (case hw => rfl); (case hT => decide); (case hop => rfl); (case hx => rfl); (case hy => rfl); (case hA => (first | assumption | exact FE.ofInt _ _ | exact FE.lit (by decide +kernel))); (case hB => (first | assumption | exact FE.ofInt _ _ | exact FE.lit (by decide +kernel))); (case hb => (first | assumption | rfl)); simp only [Act.put, List.setIfInBounds_toArray, List.set_cons_succ, List.set_cons_zero])
                  | (apply wpF_q rfl (by decide) rfl; intro K hK; go_big_quiet_op; go_big_quiet_on))
                with_reducible apply wpF_nil
                intro os m hf
                obtain ⟨b', r', hb', hB', hr'⟩ := hf.1
                obtain rfl : b' = _ := by simpa using hb'.symm
                have c' := hB'.cellv 0
                clear hf hb'
                refine wpList_append_f rfl rfl i0 Try.underlying28 hi hz0 hz1 hz2 rfl (Ho.out.gr (by (try show Gr _ _); repeat (with_reducible first | exact Gr.refl _ | refine Gr.drewN ?_ _ | refine Gr.grew ?_ _ _ | refine Gr.alloc ?_ _ | refine Gr.drew ?_))) rfl c' hr' (by simp) (Gr.size (Hg.out.trans (by (try show Gr _ _); repeat (with_reducible first | exact Gr.refl _ | refine Gr.drewN ?_ _ | refine Gr.grew ?_ _ _ | refine Gr.alloc ?_ _ | refine Gr.drew ?_)))) ?_
                intro v1 w1 ho1 hg1
                have HO1 := Lib.hid ho1
                have HG1 := Lib.hid (Gr.grownBy (Hg.out.trans ((by (try show Gr _ _); repeat (with_reducible first | exact Gr.refl _ | refine Gr.drewN ?_ _ | refine Gr.grew ?_ _ _ | refine Gr.alloc ?_ _ | refine Gr.drew ?_)) : Gr wr _)) hg1 (fun k hk => (FOwn.block Ho.out hk).1))
                clear hg1 ho1 hB' c'
                go_wp2
                go_roundw
                case rel => exact ⟨3, by omega, by go_num, by rw [← EG.out]; exact HO1.out, HG1.out⟩
                case measure => simp [intOf]
            · obtain rfl : j = 3 := by omega
              have Ho := Lib.hid ho
              have Hg := Lib.hid hg
              clear ho hg
              go_wp2
              go_roundw
              case rel => exact ⟨2, by omega, by go_num, by rw [show 3 * 2 + 0 = 3 * 1 + 3 by omega]; exact Ho.out, Hg.out⟩
              case measure => simp [intOf]
        · rw [show ((2 : Nat) : Int) = 2 from rfl]
          go_wp2
          go_loopw [6, 22] (fun s i' wr => ∃ j : Nat, j ≤ 3 ∧ i' = .int .i64 j ∧ FOwn wr w.heap.size 77 s (lst (3 * 2 + j) (gTWat xs ys)) ∧ Gr w wr) (fun _ i _ => 3 - (intOf i).toNat)
          case atStart => exact ⟨0, Nat.zero_le _, rfl, Ho.out, Hg.out⟩
          case round =>
            clear Ho Hg
            obtain ⟨j, hj3, rfl, ho, hg⟩ := hrel
            by_cases hjt : j < 3
            · obtain ⟨bx, ox, rfl⟩ := Fx.out.ptr (by have := L1.out; omega)
              obtain ⟨by', oy, rfl⟩ := Fy.out.ptr (by have := L2.out; omega)
              have l1 : 9 ≤ xs.length := by have := L1.out; omega
              have l2 : 9 ≤ ys.length := by have := L2.out; omega
              have FX9 := Lib.hid (fun (k : Nat) (h : k < 9) => (Fx.out.keep hg.kp).get k (by have := L1.out; omega))
              have FY9 := Lib.hid (fun (k : Nat) (h : k < 9) => (Fy.out.keep hg.kp).get k (by have := L2.out; omega))
              have Ho := Lib.hid ho
              have Hg := Lib.hid hg
              clear ho hg
              rcases (show j = 0 ∨ j = 1 ∨ j = 2 by omega) with rfl | rfl | rfl
              · have EG := Lib.hid (show lst (3 * 2 + 0) (gTWat xs ys) ++ [fop .add .f32 (fop .add .f32 (fop .mul .f32 (xs.getD 6 0) (ys.getD 0 0)) (fop .mul .f32 (xs.getD 7 0) (ys.getD 3 0))) (fop .mul .f32 (xs.getD 8 0) (ys.getD 6 0))] = lst (3 * 2 + (0 + 1)) (gTWat xs ys) from lst_succ (3 * 2 + 0) (gTWat xs ys))
                obtain ⟨p6, a6, f6⟩ := FX9.out 6 (by decide)
                obtain ⟨p7, a7, f7⟩ := FX9.out 7 (by decide)
                obtain ⟨p8, a8, f8⟩ := FX9.out 8 (by decide)
                obtain ⟨q0, b0, g0⟩ := FY9.out 0 (by decide)
                obtain ⟨q3, b3, g3⟩ := FY9.out 3 (by decide)
                obtain ⟨q6, b6, g6⟩ := FY9.out 6 (by decide)
                rw [Nat.add_zero] at b0
                go_wp2
                apply region_drew 23
                case hm => kernel_rfl
                case hB => kernel_rfl
                simp only [List.take_succ_cons, List.take_zero, List.drop_succ_cons, List.drop_zero]
                repeat (first
                  | (apply wpSoft_skip rfl; simp only [Act.put, List.setIfInBounds_toArray, List.set_cons_succ, List.set_cons_zero])
                  | (apply wpSoft_nilCheck rfl rfl; simp only [Act.put, List.setIfInBounds_toArray, List.set_cons_succ, List.set_cons_zero])
                  | ((with_reducible apply wpSoft_fop); (case hw => rfl); (case hD => exact closed_drew); (case hop => rfl); (case hx => rfl); (case hy => rfl); (case hA => (first | assumption | exact FE.ofInt _ _ | exact FE.lit (by decide +kernel))); (case hB => (first | assumption | exact FE.ofInt _ _ | exact FE.lit (by decide +kernel))); (intro r hr; simp only [Act.put, List.setIfInBounds_toArray, List.set_cons_succ, List.set_cons_zero]))

                  | ((with_reducible apply wpSoft_widen); (case hw => rfl); (case hD => exact closed_drew); (case hs => exact Try.underlying77); (case hd => exact Try.underlying100); (case hx => rfl); (case hA => (first | assumption | exact FE.ofInt _ _ | exact FE.lit (by decide +kernel))); (intro r hr; simp only [Act.put, List.setIfInBounds_toArray, List.set_cons_succ, List.set_cons_zero]))
                  | ((with_reducible apply wpSoft_fneg); (case hw => rfl); (case hx => rfl); (case hA => (first | assumption | exact FE.ofInt _ _ | exact FE.lit (by decide +kernel))); (intro r hr; simp only [Act.put, List.setIfInBounds_toArray, List.set_cons_succ, List.set_cons_zero]))
                  | ((with_reducible apply wpSoft_fcmp); (case hw => rfl); (case hop => rfl); (case hx => rfl); (case hy => rfl); (case hA => (first | assumption | exact FE.ofInt _ _ | exact FE.lit (by decide +kernel))); (case hB => (first | assumption | exact FE.ofInt _ _ | exact FE.lit (by decide +kernel))); (case hb => (first | assumption | rfl)); simp only [Act.put, List.setIfInBounds_toArray, List.set_cons_succ, List.set_cons_zero])
                  | (apply wpSoft_q rfl rfl; intro K hK; go_big_quiet_op; go_big_quiet_on))
                with_reducible apply wpSoft_nil
                intro m
                go_wp2
                apply region_facts 16 [15] (fun _ v w' => ∃ b r, v = .slice (some ⟨b, 0, none⟩) 1 1 ∧ Blk w' b [.float .f32 r] 77 ∧ FE .f32 r (fop .add .f32 (fop .add .f32 (fop .mul .f32 (xs.getD 6 0) (ys.getD 0 0)) (fop .mul .f32 (xs.getD 7 0) (ys.getD 3 0))) (fop .mul .f32 (xs.getD 8 0) (ys.getD 6 0))))
                case hm => kernel_rfl
                case hB => kernel_rfl
                case hR => rfl
                case hP => (intro k hk v w1 w2 hg hv; obtain ⟨b, r, hv, hB, hr⟩ := hv; exact ⟨b, r, hv, hB.gr hg, hr⟩)
                simp only [List.take_succ_cons, List.take_zero, List.drop_succ_cons, List.drop_zero]
                repeat (first
                  | ((with_reducible apply wpF_new (c := #[.float .f32 r]) (e := 77) (fun b => .slice (some ⟨b, 0, none⟩) 1 1)); (case hw => rfl); (case hx => (intro w; simp [execOp, go_sem])); (case hF => (intro w b hb hc _; exact ⟨b, _, rfl, ⟨hc⟩, hr⟩)); (intro b hb; simp only [Act.put, List.setIfInBounds_toArray, List.set_cons_succ, List.set_cons_zero]))
                  | (apply wpF_skip rfl (by decide); simp only [Act.put, List.setIfInBounds_toArray, List.set_cons_succ, List.set_cons_zero])
                  | (apply wpF_nilCheck rfl (by decide) rfl; simp only [Act.put, List.setIfInBounds_toArray, List.set_cons_succ, List.set_cons_zero])
                  | ((with_reducible apply wpF_fop); (case hw => rfl); (case hT => decide); (case hop => rfl); (case hx => rfl); (case hy => rfl); (case hA => (first | assumption | exact FE.ofInt _ _ | exact FE.lit (by decide +kernel))); (case hB => (first | assumption | exact FE.ofInt _ _ | exact FE.lit (by decide +kernel))); (intro r hr; simp only [Act.put, List.setIfInBounds_toArray, List.set_cons_succ, List.set_cons_zero]))
                  | ((with_reducible apply wpF_fneg); (case hw => rfl); (case hT => decide); (case hx => rfl); (case hA => (first | assumption | exact FE.ofInt _ _ | exact FE.lit (by decide +kernel))); (intro r hr; simp only [Act.put, List.setIfInBounds_toArray, List.set_cons_succ, List.set_cons_zero]))
                  | ((with_reducible apply wpF_fcmp); (case hw => rfl); (case hT => decide); (case hop => rfl); (case hx => rfl); (case hy => rfl); (case hA => (first | assumption | exact FE.ofInt _ _ | exact FE.lit (by decide +kernel))); (case hB => (first | assumption | exact FE.ofInt _ _ | exact FE.lit (by decide +kernel))); (case hb => (first | assumption | rfl)); simp only [Act.put, List.setIfInBounds_toArray, List.set_cons_succ, List.set_cons_zero])
                  | (apply wpF_q rfl (by decide) rfl; intro K hK; go_big_quiet_op; go_big_quiet_on))
                with_reducible apply wpF_nil
                intro os m hf
                obtain ⟨b', r', hb', hB', hr'⟩ := hf.1
                obtain rfl : b' = _ := by simpa using hb'.symm
                have c' := hB'.cellv 0
                clear hf hb'
                refine wpList_append_f rfl rfl i0 Try.underlying28 hi hz0 hz1 hz2 rfl (Ho.out.gr (by (try show Gr _ _); repeat (with_reducible first | exact Gr.refl _ | refine Gr.drewN ?_ _ | refine Gr.grew ?_ _ _ | refine Gr.alloc ?_ _ | refine Gr.drew ?_))) rfl c' hr' (by simp) (Gr.size (Hg.out.trans (by (try show Gr _ _); repeat (with_reducible first | exact Gr.refl _ | refine Gr.drewN ?_ _ | refine Gr.grew ?_ _ _ | refine Gr.alloc ?_ _ | refine Gr.drew ?_)))) ?_
                intro v1 w1 ho1 hg1
                have HO1 := Lib.hid ho1
                have HG1 := Lib.hid (Gr.grownBy (Hg.out.trans ((by (try show Gr _ _); repeat (with_reducible first | exact Gr.refl _ | refine Gr.drewN ?_ _ | refine Gr.grew ?_ _ _ | refine Gr.alloc ?_ _ | refine Gr.drew ?_)) : Gr wr _)) hg1 (fun k hk => (FOwn.block Ho.out hk).1))
                clear hg1 ho1 hB' c'
                go_wp2
                go_roundw
                case rel => exact ⟨1, by omega, by go_num, by rw [← EG.out]; exact HO1.out, HG1.out⟩
                case measure => simp [intOf]
              · have EG := Lib.hid (show lst (3 * 2 + 1) (gTWat xs ys) ++ [fop .add .f32 (fop .add .f32 (fop .mul .f32 (xs.getD 6 0) (ys.getD 1 0)) (fop .mul .f32 (xs.getD 7 0) (ys.getD 4 0))) (fop .mul .f32 (xs.getD 8 0) (ys.getD 7 0))] = lst (3 * 2 + (1 + 1)) (gTWat xs ys) from lst_succ (3 * 2 + 1) (gTWat xs ys))
                obtain ⟨p6, a6, f6⟩ := FX9.out 6 (by decide)
                obtain ⟨p7, a7, f7⟩ := FX9.out 7 (by decide)
                obtain ⟨p8, a8, f8⟩ := FX9.out 8 (by decide)
                obtain ⟨q1, b1, g1⟩ := FY9.out 1 (by decide)
                obtain ⟨q4, b4, g4⟩ := FY9.out 4 (by decide)
                obtain ⟨q7, b7, g7⟩ := FY9.out 7 (by decide)
                go_wp2
                apply region_drew 23
                case hm => kernel_rfl
                case hB => kernel_rfl
                simp only [List.take_succ_cons, List.take_zero, List.drop_succ_cons, List.drop_zero]
                repeat (first
                  | (apply wpSoft_skip rfl; simp only [Act.put, List.setIfInBounds_toArray, List.set_cons_succ, List.set_cons_zero])
                  | (apply wpSoft_nilCheck rfl rfl; simp only [Act.put, List.setIfInBounds_toArray, List.set_cons_succ, List.set_cons_zero])
                  | ((with_reducible apply wpSoft_fop); (case hw => rfl); (case hD => exact closed_drew); (case hop => rfl); (case hx => rfl); (case hy => rfl); (case hA => (first | assumption | exact FE.ofInt _ _ | exact FE.lit (by decide +kernel))); (case hB => (first | assumption | exact FE.ofInt _ _ | exact FE.lit (by decide +kernel))); (intro r hr; simp only [Act.put, List.setIfInBounds_toArray, List.set_cons_succ, List.set_cons_zero]))

                  | ((with_reducible apply wpSoft_widen); (case hw => rfl); (case hD => exact closed_drew); (case hs => exact Try.underlying77); (case hd => exact Try.underlying100); (case hx => rfl); (case hA => (first | assumption | exact FE.ofInt _ _ | exact FE.lit (by decide +kernel))); (intro r hr; simp only [Act.put, List.setIfInBounds_toArray, List.set_cons_succ, List.set_cons_zero]))
                  | ((with_reducible apply wpSoft_fneg); (case hw => rfl); (case hx => rfl); (case hA => (first | assumption | exact FE.ofInt _ _ | exact FE.lit (by decide +kernel))); (intro r hr; simp only [Act.put, List.setIfInBounds_toArray, List.set_cons_succ, List.set_cons_zero]))
                  | ((with_reducible apply wpSoft_fcmp); (case hw => rfl); (case hop => rfl); (case hx => rfl); (case hy => rfl); (case hA => (first | assumption | exact FE.ofInt _ _ | exact FE.lit (by decide +kernel))); (case hB => (first | assumption | exact FE.ofInt _ _ | exact FE.lit (by decide +kernel))); (case hb => (first | assumption | rfl)); simp only [Act.put, List.setIfInBounds_toArray, List.set_cons_succ, List.set_cons_zero])
                  | (apply wpSoft_q rfl rfl; intro K hK; go_big_quiet_op; go_big_quiet_on))
                with_reducible apply wpSoft_nil
                intro m
                go_wp2
                apply region_facts 16 [15] (fun _ v w' => ∃ b r, v = .slice (some ⟨b, 0, none⟩) 1 1 ∧ Blk w' b [.float .f32 r] 77 ∧ FE .f32 r (fop .add .f32 (fop .add .f32 (fop .mul .f32 (xs.getD 6 0) (ys.getD 1 0)) (fop .mul .f32 (xs.getD 7 0) (ys.getD 4 0))) (fop .mul .f32 (xs.getD 8 0) (ys.getD 7 0))))
                case hm => kernel_rfl
                case hB => kernel_rfl
                case hR => rfl
                case hP => (intro k hk v w1 w2 hg hv; obtain ⟨b, r, hv, hB, hr⟩ := hv; exact ⟨b, r, hv, hB.gr hg, hr⟩)
                simp only [List.take_succ_cons, List.take_zero, List.drop_succ_cons, List.drop_zero]
                repeat (first
                  | ((with_reducible apply wpF_new (c := #[.float .f32 r]) (e := 77) (fun b => .slice (some ⟨b, 0, none⟩) 1 1)); (case hw => rfl); (case hx => (intro w; simp [execOp, go_sem])); (case hF => (intro w b hb hc _; exact ⟨b, _, rfl, ⟨hc⟩, hr⟩)); (intro b hb; simp only [Act.put, List.setIfInBounds_toArray, List.set_cons_succ, List.set_cons_zero]))
                  | (apply wpF_skip rfl (by decide); simp only [Act.put, List.setIfInBounds_toArray, List.set_cons_succ, List.set_cons_zero])
                  | (apply wpF_nilCheck rfl (by decide) rfl; simp only [Act.put, List.setIfInBounds_toArray, List.set_cons_succ, List.set_cons_zero])
                  | ((with_reducible apply wpF_fop); (case hw => rfl); (case hT => decide); (case hop => rfl); (case hx => rfl); (case hy => rfl); (case hA => (first | assumption | exact FE.ofInt _ _ | exact FE.lit (by decide +kernel))); (case hB => (first | assumption | exact FE.ofInt _ _ | exact FE.lit (by decide +kernel))); (intro r hr; simp only [Act.put, List.setIfInBounds_toArray, List.set_cons_succ, List.set_cons_zero]))
                  | ((with_reducible apply wpF_fneg); (case hw => rfl); (case hT => decide); (case hx => rfl); (case hA => (first | assumption | exact FE.ofInt _ _ | exact FE.lit (by decide +kernel))); (intro r hr; simp only [Act.put, List.setIfInBounds_toArray, List.set_cons_succ, List.set_cons_zero]))
                  | ((with_reducible apply wpF_fcmp); (case hw => rfl); (case hT => decide); (case hop => rfl); (case hx => rfl); (case hy => rfl); (case hA => (first | assumption | exact FE.ofInt _ _ | exact FE.lit (by decide +kernel))); (case hB => (first | assumption | exact FE.ofInt _ _ | exact FE.lit (by decide +kernel))); (case hb => (first | assumption | rfl)); simp only [Act.put, List.setIfInBounds_toArray, List.set_cons_succ, List.set_cons_zero])
                  | (apply wpF_q rfl (by decide) rfl; intro K hK; go_big_quiet_op; go_big_quiet_on))
                with_reducible apply wpF_nil
                intro os m hf
                obtain ⟨b', r', hb', hB', hr'⟩ := hf.1
                obtain rfl : b' = _ := by simpa using hb'.symm
                have c' := hB'.cellv 0
                clear hf hb'
                refine wpList_append_f rfl rfl i0 Try.underlying28 hi hz0 hz1 hz2 rfl (Ho.out.gr (by (try show Gr _ _); repeat (with_reducible first | exact Gr.refl _ | refine Gr.drewN ?_ _ | refine Gr.grew ?_ _ _ | refine Gr.alloc ?_ _ | refine Gr.drew ?_))) rfl c' hr' (by simp) (Gr.size (Hg.out.trans (by (try show Gr _ _); repeat (with_reducible first | exact Gr.refl _ | refine Gr.drewN ?_ _ | refine Gr.grew ?_ _ _ | refine Gr.alloc ?_ _ | refine Gr.drew ?_)))) ?_
                intro v1 w1 ho1 hg1
                have HO1 := Lib.hid ho1
                have HG1 := Lib.hid (Gr.grownBy (Hg.out.trans ((by (try show Gr _ _); repeat (with_reducible first | exact Gr.refl _ | refine Gr.drewN ?_ _ | refine Gr.grew ?_ _ _ | refine Gr.alloc ?_ _ | refine Gr.drew ?_)) : Gr wr _)) hg1 (fun k hk => (FOwn.block Ho.out hk).1))
                clear hg1 ho1 hB' c'
                go_wp2
                go_roundw
                case rel => exact ⟨2, by omega, by go_num, by rw [← EG.out]; exact HO1.out, HG1.out⟩
                case measure => simp [intOf]
              · have EG := Lib.hid (show lst (3 * 2 + 2) (gTWat xs ys) ++ [fop .add .f32 (fop .add .f32 (fop .mul .f32 (xs.getD 6 0) (ys.getD 2 0)) (fop .mul .f32 (xs.getD 7 0) (ys.getD 5 0))) (fop .mul .f32 (xs.getD 8 0) (ys.getD 8 0))] = lst (3 * 2 + (2 + 1)) (gTWat xs ys) from lst_succ (3 * 2 + 2) (gTWat xs ys))
                obtain ⟨p6, a6, f6⟩ := FX9.out 6 (by decide)
                obtain ⟨p7, a7, f7⟩ := FX9.out 7 (by decide)
                obtain ⟨p8, a8, f8⟩ := FX9.out 8 (by decide)
                obtain ⟨q2, b2, g2⟩ := FY9.out 2 (by decide)
                obtain ⟨q5, b5, g5⟩ := FY9.out 5 (by decide)
                obtain ⟨q8, b8, g8⟩ := FY9.out 8 (by decide)
                go_wp2
                apply region_drew 23
                case hm => kernel_rfl
                case hB => kernel_rfl
                simp only [List.take_succ_cons, List.take_zero, List.drop_succ_cons, List.drop_zero]
                repeat (first
                  | (apply wpSoft_skip rfl; simp only [Act.put, List.setIfInBounds_toArray, List.set_cons_succ, List.set_cons_zero])
                  | (apply wpSoft_nilCheck rfl rfl; simp only [Act.put, List.setIfInBounds_toArray, List.set_cons_succ, List.set_cons_zero])
                  | ((with_reducible apply wpSoft_fop); (case hw => rfl); (case hD => exact closed_drew); (case hop => rfl); (case hx => rfl); (case hy => rfl); (case hA => (first | assumption | exact FE.ofInt _ _ | exact FE.lit (by decide +kernel))); (case hB => (first | assumption | exact FE.ofInt _ _ | exact FE.lit (by decide +kernel))); (intro r hr; simp only [Act.put, List.setIfInBounds_toArray, List.set_cons_succ, List.set_cons_zero]))

                  | ((with_reducible apply wpSoft_widen); (case hw => rfl); (case hD => exact closed_drew); (case hs => exact Try.underlying77); (case hd => exact Try.underlying100); (case hx => rfl); (case hA => (first | assumption | exact FE.ofInt _ _ | exact FE.lit (by decide +kernel))); (intro r hr; simp only [Act.put, List.setIfInBounds_toArray, List.set_cons_succ, List.set_cons_zero]))
                  | ((with_reducible apply wpSoft_fneg); (case hw => rfl); (case hx => rfl); (case hA => (first | assumption | exact FE.ofInt _ _ | exact FE.lit (by decide +kernel))); (intro r hr; simp only [Act.put, List.setIfInBounds_toArray, List.set_cons_succ, List.set_cons_zero]))
                  | ((with_reducible apply wpSoft_fcmp); (case hw => rfl); (case hop => rfl); (case hx => rfl); (case hy => rfl); (case hA => (first | assumption | exact FE.ofInt _ _ | exact FE.lit (by decide +kernel))); (case hB => (first | assumption | exact FE.ofInt _ _ | exact FE.lit (by decide +kernel))); (case hb => (first | assumption | rfl)); simp only [Act.put, List.setIfInBounds_toArray, List.set_cons_succ, List.set_cons_zero])
                  | (apply wpSoft_q rfl rfl; intro K hK; go_big_quiet_op; go_big_quiet_on))
                with_reducible apply wpSoft_nil
                intro m
                go_wp2
                apply region_facts 16 [15] (fun _ v w' => ∃ b r, v = .slice (some ⟨b, 0, none⟩) 1 1 ∧ Blk w' b [.float .f32 r] 77 ∧ FE .f32 r (fop .add .f32 (fop .add .f32 (fop .mul .f32 (xs.getD 6 0) (ys.getD 2 0)) (fop .mul .f32 (xs.getD 7 0) (ys.getD 5 0))) (fop .mul .f32 (xs.getD 8 0) (ys.getD 8 0))))
                case hm => kernel_rfl
                case hB => kernel_rfl
                case hR => rfl
                case hP => (intro k hk v w1 w2 hg hv; obtain ⟨b, r, hv, hB, hr⟩ := hv; exact ⟨b, r, hv, hB.gr hg, hr⟩)
                simp only [List.take_succ_cons, List.take_zero, List.drop_succ_cons, List.drop_zero]
                repeat (first
                  | ((with_reducible apply wpF_new (c := #[.float .f32 r]) (e := 77) (fun b => .slice (some ⟨b, 0, none⟩) 1 1)); (case hw => rfl); (case hx => (intro w; simp [execOp, go_sem])); (case hF => (intro w b hb hc _; exact ⟨b, _, rfl, ⟨hc⟩, hr⟩)); (intro b hb; simp only [Act.put, List.setIfInBounds_toArray, List.set_cons_succ, List.set_cons_zero]))
                  | (apply wpF_skip rfl (by decide); simp only [Act.put, List.setIfInBounds_toArray, List.set_cons_succ, List.set_cons_zero])
                  | (apply wpF_nilCheck rfl (by decide) rfl; simp only [Act.put, List.setIfInBounds_toArray, List.set_cons_succ, List.set_cons_zero])
                  | ((with_reducible apply wpF_fop); (case hw => rfl); (case hT => decide); (case hop => rfl); (case hx => rfl); (case hy => rfl); (case hA => (first | assumption | exact FE.ofInt _ _ | exact FE.lit (by decide +kernel))); (case hB => (first | assumption | exact FE.ofInt _ _ | exact FE.lit (by decide +kernel))); (intro r hr; simp only [Act.put, List.setIfInBounds_toArray, List.set_cons_succ, List.set_cons_zero]))
                  | ((with_reducible apply wpF_fneg); (case hw => rfl); (case hT => decide); (case hx => rfl); (case hA => (first | assumption | exact FE.ofInt _ _ | exact FE.lit (by decide +kernel))); (intro r hr; simp only [Act.put, List.setIfInBounds_toArray, List.set_cons_succ, List.set_cons_zero]))
                  | ((with_reducible apply wpF_fcmp); (case hw => rfl); (case hT => decide); (case hop => rfl); (case hx => rfl); (case hy => rfl); (case hA => (first | assumption | exact FE.ofInt _ _ | exact FE.lit (by decide +kernel))); (case hB => (first | assumption | exact FE.ofInt _ _ | exact FE.lit (by decide +kernel))); (case hb => (first | assumption | rfl)); simp only [Act.put, List.setIfInBounds_toArray, List.set_cons_succ, List.set_cons_zero])
                  | (apply wpF_q rfl (by decide) rfl; intro K hK; go_big_quiet_op; go_big_quiet_on))
                with_reducible apply wpF_nil
                intro os m hf
                obtain ⟨b', r', hb', hB', hr'⟩ := hf.1
                obtain rfl : b' = _ := by simpa using hb'.symm
                have c' := hB'.cellv 0
                clear hf hb'
                refine wpList_append_f rfl rfl i0 Try.underlying28 hi hz0 hz1 hz2 rfl (Ho.out.gr (by (try show Gr _ _); repeat (with_reducible first | exact Gr.refl _ | refine Gr.drewN ?_ _ | refine Gr.grew ?_ _ _ | refine Gr.alloc ?_ _ | refine Gr.drew ?_))) rfl c' hr' (by simp) (Gr.size (Hg.out.trans (by (try show Gr _ _); repeat (with_reducible first | exact Gr.refl _ | refine Gr.drewN ?_ _ | refine Gr.grew ?_ _ _ | refine Gr.alloc ?_ _ | refine Gr.drew ?_)))) ?_
                intro v1 w1 ho1 hg1
                have HO1 := Lib.hid ho1
                have HG1 := Lib.hid (Gr.grownBy (Hg.out.trans ((by (try show Gr _ _); repeat (with_reducible first | exact Gr.refl _ | refine Gr.drewN ?_ _ | refine Gr.grew ?_ _ _ | refine Gr.alloc ?_ _ | refine Gr.drew ?_)) : Gr wr _)) hg1 (fun k hk => (FOwn.block Ho.out hk).1))
                clear hg1 ho1 hB' c'
                go_wp2
                go_roundw
                case rel => exact ⟨3, by omega, by go_num, by rw [← EG.out]; exact HO1.out, HG1.out⟩
                case measure => simp [intOf]
            · obtain rfl : j = 3 := by omega
              have Ho := Lib.hid ho
              have Hg := Lib.hid hg
              clear ho hg
              go_wp2
              go_roundw
              case rel => exact ⟨3, by omega, by go_num, by rw [show 3 * 3 + 0 = 3 * 2 + 3 by omega]; exact Ho.out, Hg.out⟩
              case measure => simp [intOf]
      · obtain rfl : i = 3 := by omega
        obtain ⟨a1, c1, rfl, hs1, -⟩ := ho.sl' 9 (by simp)
        have Hs1 := Lib.hid hs1
        have Ho := Lib.hid ho
        have Hg := Lib.hid hg
        clear ho hg hs1
        obtain ⟨LL, hLL⟩ : ∃ LL, LL = lst 9 (gTWat xs ys) := ⟨_, rfl⟩
        have HLL := Lib.hid hLL
        have hLL' : LL = lst (3 * 3 + 0) (gTWat xs ys) := hLL
        have hl9 : LL.length = 9 := by rw [hLL]; simp
        have eok : ok = gFinAll LL := by rw [Hok.out, hLL]
        cases hF : gFinAll LL
        all_goals rw [hF] at eok; subst eok
        rotate_left 1
        rotate_left 1
        · obtain rfl : R = [] := HR.out
          go_wp2_with (first
      | (go_at_call 75; refine (I_toldWarp_no a1 9 c1 LL _ (by rw [HLL.out]; exact Hs1.out) (by unfold maxLen; omega) hF).mono ?_; rintro e w' ⟨rfl, os, m, rfl⟩))
          exact bodyPost_ret (v := .tuple #[.slice none 0 0, .bool false]) (by simp [results, Try.results22, go_sem]) rfl ⟨⟨_, rfl, FOwn.nil _ _ _⟩, Hg.out.trans (by (try show Gr _ _); repeat (with_reducible first | exact Gr.refl _ | refine Gr.drewN ?_ _ | refine Gr.grew ?_ _ _ | refine Gr.alloc ?_ _ | refine Gr.drew ?_))⟩
        · go_wp2_with (first
      | (go_at_call 75; refine (I_toldWarp_ok a1 9 c1 LL _ (by rw [HLL.out]; exact Hs1.out) (by unfold maxLen; omega) hF).mono ?_; rintro e w' ⟨rfl, os, m, rfl⟩))
          exact bodyPost_ret (v := .tuple #[.slice a1 9 c1, .bool true]) (by simp [results, Try.results22, go_sem]) rfl ⟨⟨_, rfl, by rw [HR.out]; exact Ho.out.gr (by (try show Gr _ _); repeat (with_reducible first | exact Gr.refl _ | refine Gr.drewN ?_ _ | refine Gr.grew ?_ _ _ | refine Gr.alloc ?_ _ | refine Gr.drew ?_))⟩, Hg.out.trans (by (try show Gr _ _); repeat (with_reducible first | exact Gr.refl _ | refine Gr.drewN ?_ _ | refine Gr.grew ?_ _ _ | refine Gr.alloc ?_ _ | refine Gr.drew ?_))⟩
end Go.Proofs.Ytcejnifkbheelaa
