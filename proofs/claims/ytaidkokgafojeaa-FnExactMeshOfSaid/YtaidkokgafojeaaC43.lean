/- Contracts: rows of vectors that are copied, compared, marked. MAXREC -/
import Derived.Test.YtaidkokgafojeaaProg
import Derived.Test.YtaidkokgafojeaaC4
import Derived.Test.YtaidkokgafojeaaC8
import Derived.Test.YtaidkokgafojeaaVs
import Derived.Deep.DeepCutAuto
namespace Go.Proofs.Ytaidkokgafojeaa
open Go.RowKit Go.Fx Go.Soft
set_option maxRecDepth 20000 in
set_option maxHeartbeats 400000 in
theorem L_eqVector (a b c a' b' c' A B C : Nat) (w : World) (h1 : FE .f32 a A) (h2 : FE .f32 b B) (h3 : FE .f32 c C) (h1' : FE .f32 a' A) (h2' : FE .f32 b' B) (h3' : FE .f32 c' C) :
    Calls Try.prog 112 #[.agg #[.float .f32 a, .float .f32 b, .float .f32 c], .agg #[.float .f32 a', .float .f32 b', .float .f32 c']] w fun e w' => e = .returned (.bool true) ∧ ∃ os m, w' = w.grew os m := by
  go_enter Try.func112, Try.ntmps112
  go_wp2_with (first
      | (go_at_call 119; with_reducible refine (L_sameFloat _ _ _ _ ‹_› ‹_›).mono ?_; rintro e w' ⟨rfl, n, rfl⟩)
      | ((with_reducible apply wpList_fop); (case hw => rfl); (case hop => rfl); (case hx => rfl); (case hy => rfl); (case hA => (first | assumption | exact FE.ofInt _ _ | exact FE.lit (by decide +kernel))); (case hB => (first | assumption | exact FE.ofInt _ _ | exact FE.lit (by decide +kernel))); intro r n hr)
      | ((with_reducible apply wpList_fcmp); (case hw => rfl); (case hop => rfl); (case hx => rfl); (case hy => rfl); (case hA => (first | assumption | exact FE.ofInt _ _ | exact FE.lit (by decide +kernel))); (case hB => (first | assumption | exact FE.ofInt _ _ | exact FE.lit (by decide +kernel))); (case hb => (first | assumption | rfl)))
      | ((with_reducible apply wpList_widen); (case hw => rfl); (case hs => exact Try.underlying65); (case hd => exact Try.underlying147); (case hx => rfl); (case hA => (first | assumption | exact FE.ofInt _ _ | exact FE.lit (by decide +kernel))); intro r n hr)
      | ((with_reducible apply wpList_fneg); (case hw => rfl); (case hx => rfl); (case hA => (first | assumption | exact FE.ofInt _ _ | exact FE.lit (by decide +kernel))); intro r hr))
  go_ret
  exact ⟨rfl, (by (try show Gr _ _); repeat (with_reducible first | exact Gr.refl _ | refine Gr.drewN ?_ _ | refine Gr.grew ?_ _ _ | refine Gr.alloc ?_ _ | refine Gr.drew ?_))⟩
set_option maxRecDepth 20000 in
set_option maxHeartbeats 1000000 in
theorem L_eqVectorS (a b : Option Addr) (n m ca cb : Nat) (xs : List Nat) (w : World) (hs : FSl w a (n * 3) xs) (ht : FSl w b (m * 3) xs) (hn : n ≤ maxLen) :
    Calls Try.prog 47 #[.slice a n ca, .slice b m cb] w fun e w' => e = .returned (.bool true) ∧ Gr w w' := by
  obtain rfl : n = m := by have := hs.len; have := ht.len; omega
  unfold maxLen at hn
  have Hl := Lib.hid hs.len
  have Hs := Lib.hid hs
  have Ht := Lib.hid ht
  clear hs ht
  go_enter Try.func47, Try.ntmps47
  go_wp2
  go_loopw [5] (fun i wr => ∃ k : Nat, k ≤ n ∧ i = .int .i64 k ∧ Gr w wr) (fun i _ => n - (intOf i).toNat)
  case atStart => exact ⟨0, Nat.zero_le _, rfl, (by (try show Gr _ _); repeat (with_reducible first | exact Gr.refl _ | refine Gr.drewN ?_ _ | refine Gr.grew ?_ _ _ | refine Gr.alloc ?_ _ | refine Gr.drew ?_))⟩
  case round =>
    obtain ⟨k, hk, rfl, hg⟩ := hrel
    by_cases hlt : k < n
    · have hl := Hl.out
      obtain ⟨b1, o1, rfl⟩ := Hs.out.ptr (by omega)
      obtain ⟨b2, o2, rfl⟩ := Ht.out.ptr (by omega)
      have F1 := Hs.out.keep hg.kp
      have F2 := Ht.out.keep hg.kp
      obtain ⟨r0, c0, f0⟩ := F1.get (k * 3) (by omega)
      obtain ⟨r1, c1, f1⟩ := F1.get (k * 3 + 1) (by omega)
      obtain ⟨r2, c2, f2⟩ := F1.get (k * 3 + 2) (by omega)
      obtain ⟨s0, d0, g0⟩ := F2.get (k * 3) (by omega)
      obtain ⟨s1, d1, g1⟩ := F2.get (k * 3 + 1) (by omega)
      obtain ⟨s2, d2, g2⟩ := F2.get (k * 3 + 2) (by omega)
      rw [← Nat.add_assoc] at c1 c2 d1 d2
      have Hg := Lib.hid hg
      clear hg F1 F2 hl
      go_wp2
      apply region_grew 9
      case hm => kernel_rfl
      case hB => kernel_rfl
      simp only [List.take_succ_cons, List.take_zero, List.drop_succ_cons, List.drop_zero]
      repeat (first
        | ((with_reducible apply wpSoft_calleq (f := 112)); (case hw => rfl); (case hc => exact Try.call112); (case hv => ((conv => lhs; simp [Act.eval]); try rfl)); (case hS => (rintro _ ⟨⟨os, m⟩, rfl⟩; with_reducible refine (L_eqVector _ _ _ _ _ _ _ _ _ _ f0 f1 f2 g0 g1 g2).mono ?_; rintro e w' ⟨rfl, os2, m2, rfl⟩; exact ⟨rfl, ⟨⟨_, _⟩, grew_grew _ _ _ _ _⟩⟩)); (simp only [Act.put, List.setIfInBounds_toArray, List.set_cons_succ, List.set_cons_zero]))
        | (apply wpSoft_skip rfl; simp only [Act.put, List.setIfInBounds_toArray, List.set_cons_succ, List.set_cons_zero])
        | (apply wpSoft_nilCheck rfl rfl; simp only [Act.put, List.setIfInBounds_toArray, List.set_cons_succ, List.set_cons_zero])
        | ((with_reducible apply wpSoft_fop); (case hw => rfl); (case hD => exact closed_grew); (case hop => rfl); (case hx => rfl); (case hy => rfl); (case hA => (first | assumption | exact FE.ofInt _ _ | exact FE.lit (by decide +kernel))); (case hB => (first | assumption | exact FE.ofInt _ _ | exact FE.lit (by decide +kernel))); (intro r hr; simp only [Act.put, List.setIfInBounds_toArray, List.set_cons_succ, List.set_cons_zero]))

        | ((with_reducible apply wpSoft_widen); (case hw => rfl); (case hD => exact closed_grew); (case hs => exact Try.underlying65); (case hd => exact Try.underlying147); (case hx => rfl); (case hA => (first | assumption | exact FE.ofInt _ _ | exact FE.lit (by decide +kernel))); (intro r hr; simp only [Act.put, List.setIfInBounds_toArray, List.set_cons_succ, List.set_cons_zero]))
        | ((with_reducible apply wpSoft_fneg); (case hw => rfl); (case hx => rfl); (case hA => (first | assumption | exact FE.ofInt _ _ | exact FE.lit (by decide +kernel))); (intro r hr; simp only [Act.put, List.setIfInBounds_toArray, List.set_cons_succ, List.set_cons_zero]))
        | ((with_reducible apply wpSoft_fcmp); (case hw => rfl); (case hop => rfl); (case hx => rfl); (case hy => rfl); (case hA => (first | assumption | exact FE.ofInt _ _ | exact FE.lit (by decide +kernel))); (case hB => (first | assumption | exact FE.ofInt _ _ | exact FE.lit (by decide +kernel))); (case hb => (first | assumption | rfl)); simp only [Act.put, List.setIfInBounds_toArray, List.set_cons_succ, List.set_cons_zero])
        | (apply wpSoft_q rfl rfl; intro K hK; go_big_quiet_op; go_big_quiet_on))
      with_reducible apply wpSoft_nil
      intro os m
      go_wp2
      go_roundw
      case rel => exact ⟨k + 1, by omega, by go_num, Hg.out.trans (by (try show Gr _ _); repeat (with_reducible first | exact Gr.refl _ | refine Gr.drewN ?_ _ | refine Gr.grew ?_ _ _ | refine Gr.alloc ?_ _ | refine Gr.drew ?_))⟩
      case measure => simp [intOf]; omega
    · obtain rfl : k = n := by omega
      go_wp2
      go_ret
      exact ⟨rfl, hg⟩
theorem marks_succ (k0 : Int) (n : Nat) : marks k0 n ++ [Value.float .f32 (floatOfInt .f32 (k0 + (n : Int)))] = marks k0 (n + 1) := by
  simp [marks, List.range_succ]
set_option maxRecDepth 20000 in
set_option maxHeartbeats 1000000 in
theorem L_markVectorS (v : Value) (lo hi n : Nat) (vs : List Value) (k0 : Int) (w : World) (h : Own w lo hi 137 3 v n vs) (hv : ∀ x ∈ vs, ∃ r, x = .float .f32 r) (hk : 0 ≤ k0) (hn : n ≤ 1048576) (hk2 : k0 ≤ 1099511627776) :
    Calls Try.prog 49 #[v, .int .i64 k0] w fun e w' => e = .returned (.int .i64 (k0 + ((n * 3 : Nat) : Int))) ∧ Wrote w w' v ∧ Own w' lo hi 137 3 v n (marks k0 (n * 3)) := by
  have hl : vs.length = n * 3 := by simpa using h.own.1
  have ho := h.own
  rcases h.own.2 with ⟨rfl, rfl⟩ | ⟨g, cap, cur, rfl, hb, hg, hnc, hcm, hcs, ht⟩
  · have H := Lib.hid h
    clear h ho
    go_enter Try.func49, Try.ntmps49
    go_wp2
    refine wp_loop_rounds 1 ?_
    rw [rounds_succ]
    go_wp2
    go_ret
    exact ⟨by simp, ⟨⟨rfl, rfl, rfl, Nat.le_refl _, fun _ _ _ => rfl⟩⟩, ⟨⟨rfl, .inl ⟨rfl, rfl⟩⟩, H.out.hi⟩⟩
  · have Hh := Lib.hid h.hi
    have Hv := Lib.hid hv
    have Hl := Lib.hid hl
    have Ho := Lib.hid ho
    clear h hb hg hnc hcm hcs ht hv hl ho
    go_enter Try.func49, Try.ntmps49
    go_wp2
    go_loopw [1, 5] (fun q i wr => ∃ (k : Nat) (us : List Value), k ≤ n ∧ i = .int .i64 k ∧ q = .int .i64 (k0 + 3 * (k : Int)) ∧ us.length = n * 3 ∧ (∀ x ∈ us, ∃ r, x = .float .f32 r) ∧ us.take (k * 3) = marks k0 (k * 3) ∧
        wr.ownsRow lo 137 3 (.slice (some ⟨g, 0, none⟩) n cap) n us ∧ w.grownBy wr (some g)) (fun _ i _ => n - (intOf i).toNat)
    case atStart => exact ⟨0, vs, Nat.zero_le _, rfl, by simp, Hl.out, Hv.out, by simp [marks], Ho.out, ⟨rfl, rfl, rfl, Nat.le_refl _, fun _ _ _ => rfl⟩⟩
    case round =>
      obtain ⟨k, us, hkn, rfl, rfl, hul, huf, hut, hown, hgb⟩ := hrel
      by_cases hlt : k < n
      · have hcell : ∀ j, j < n * 3 → ∃ r, wr.cell? ⟨g, j, none⟩ = some (.float .f32 r) := fun j hj => by
          obtain ⟨r, hr⟩ := huf us[j] (List.getElem_mem (by omega))
          exact ⟨r, by rw [hown.cellAt j (by omega), List.getElem?_eq_getElem (by omega), hr]⟩
        obtain ⟨o0, d0⟩ := hcell (k * 3) (by omega)
        obtain ⟨o1, d1⟩ := hcell (k * 3 + 1) (by omega)
        obtain ⟨o2, d2⟩ := hcell (k * 3 + 2) (by omega)
        have z0 := hown.frozenAt (k * 3)
        have z1 := hown.frozenAt (k * 3 + 1)
        have z2 := hown.frozenAt (k * 3 + 2)
        have H1 := Lib.hid hown
        have H2 := Lib.hid huf
        have H3 := Lib.hid hut
        have H4 := Lib.hid hul
        have H5 := Lib.hid hgb
        clear hown huf hut hul hgb hcell
        go_wp2
        go_roundw
        case rel =>
          have e0 : k0 + 3 * (k : Int) = k0 + ((k * 3 : Nat) : Int) := by omega
          have e1 : k0 + 3 * (k : Int) + 1 = k0 + ((k * 3 + 1 : Nat) : Int) := by omega
          have e2 : k0 + 3 * (k : Int) + 1 + 1 = k0 + ((k * 3 + 1 + 1 : Nat) : Int) := by omega
          have s0 := H1.out.stored (k * 3) (.float .f32 (floatOfInt .f32 (k0 + 3 * (k : Int))))
          have s1 := s0.1.stored (k * 3 + 1) (.float .f32 (floatOfInt .f32 (k0 + 3 * (k : Int) + 1)))
          have s2 := s1.1.stored (k * 3 + 1 + 1) (.float .f32 (floatOfInt .f32 (k0 + 3 * (k : Int) + 1 + 1)))
          have hul := H4.out
          refine ⟨k + 1, _, by omega, by go_num, by go_num, ?_, ?_, ?_, s2.1, ?_⟩
          · simp only [List.length_set]; exact H4.out
          · intro x hx
            rcases List.mem_or_eq_of_mem_set hx with hx | hx
            · rcases List.mem_or_eq_of_mem_set hx with hx | hx
              · rcases List.mem_or_eq_of_mem_set hx with hx | hx
                · exact H2.out x hx
                · exact ⟨_, hx⟩
              · exact ⟨_, hx⟩
            · exact ⟨_, hx⟩
          · rw [show (k + 1) * 3 = k * 3 + 1 + 1 + 1 by omega, listSet_take (by simp only [List.length_set]; omega), listSet_take (by simp only [List.length_set]; omega), listSet_take (by omega), H3.out, e2, e1, e0, marks_succ, marks_succ, marks_succ]
          · exact grownBy_trans (grownBy_trans (grownBy_trans H5.out s0.2) s1.2) s2.2
        case measure => simp [intOf]; omega
      · obtain rfl : k = n := by omega
        have H1 := Lib.hid hown
        have H3 := Lib.hid hut
        have H4 := Lib.hid hul
        have H5 := Lib.hid hgb
        clear hown huf hut hul hgb
        go_wp2
        go_ret
        refine ⟨by rw [show k0 + 3 * (k : Int) = k0 + ((k * 3 : Nat) : Int) by omega]; rfl, ⟨H5.out⟩, ⟨?_, Hh.out⟩⟩
        have e := H3.out
        rw [List.take_of_length_le (by have := H4.out; omega)] at e
        rw [← e]; exact H1.out
end Go.Proofs.Ytaidkokgafojeaa
