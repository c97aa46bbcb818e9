/- Contracts: rows of tiles that are compared, marked. MAXREC -/
import Derived.Test.YtcejnifkbheelaaProg
import Derived.Test.YtcejnifkbheelaaC1
import Derived.Test.YtcejnifkbheelaaC8
import Derived.Test.YtcejnifkbheelaaTs
import Derived.Deep.DeepCutAuto
namespace Go.Proofs.Ytcejnifkbheelaa
open Go.RowKit Go.Fx Go.Soft
theorem listSet_take_t {l : List Value} {k : Nat} {v : Value} (hk : k < l.length) : (l.set k v).take (k + 1) = l.take k ++ [v] := by
  rw [List.take_succ_eq_append_getElem (by simpa using hk)]
  simp [List.take_set_of_le]
/-- What a function that hands back tiles leaves. -/
def PostT (w : World) (ok : Bool) (nt : Nat) (L : List Int) (e : Ending) (w' : World) : Prop :=
  (∃ v, e = .returned (.tuple #[v, .bool ok]) ∧ TOwn w' w.heap.size 95 v nt L) ∧ Gr w w'
set_option maxRecDepth 20000 in
set_option maxHeartbeats 400000 in
theorem L_eqTile (a b : Int) (w : World) :
    Calls Try.prog 72 #[.agg #[.int .i64 a, .int .i64 b], .agg #[.int .i64 a, .int .i64 b]] w fun e w' => e = .returned (.bool true) ∧ ∃ os m, w' = w.grew os m := by
  go_enter Try.func72, Try.ntmps72
  go_wp2
  go_ret
  exact ⟨rfl, (by (try show Gr _ _); repeat (with_reducible first | exact Gr.refl _ | refine Gr.drewN ?_ _ | refine Gr.grew ?_ _ _ | refine Gr.alloc ?_ _ | refine Gr.drew ?_))⟩
set_option maxRecDepth 20000 in
set_option maxHeartbeats 1000000 in
theorem L_eqTileS (a b : Option Addr) (n m ca cb : Nat) (xs : List Int) (w : World) (hs : ISl w a (n * 2) xs) (ht : ISl w b (m * 2) xs) (hn : n ≤ maxLen) :
    Calls Try.prog 17 #[.slice a n ca, .slice b m cb] w fun e w' => e = .returned (.bool true) ∧ Gr w w' := by
  obtain rfl : n = m := by have := hs.len; have := ht.len; omega
  unfold maxLen at hn
  have Hl := Lib.hid hs.len
  have Hs := Lib.hid hs
  have Ht := Lib.hid ht
  clear hs ht
  go_enter Try.func17, Try.ntmps17
  go_wp2
  go_loopw [5] (fun i wr => ∃ k : Nat, k ≤ n ∧ i = .int .i64 k ∧ Gr w wr) (fun i _ => n - (intOf i).toNat)
  case atStart => exact ⟨0, Nat.zero_le _, rfl, (by (try show Gr _ _); repeat (with_reducible first | exact Gr.refl _ | refine Gr.drewN ?_ _ | refine Gr.grew ?_ _ _ | refine Gr.alloc ?_ _ | refine Gr.drew ?_))⟩
  case round =>
    obtain ⟨k, hk, rfl, hg⟩ := hrel
    by_cases hlt : k < n
    · have hl := Hl.out
      obtain ⟨b1, o1, rfl⟩ := Hs.out.ptr (by omega)
      obtain ⟨b2, o2, rfl⟩ := Ht.out.ptr (by omega)
      have c0 := (Hs.out.keep hg.kp).get (k * 2) (by omega)
      have c1 := (Hs.out.keep hg.kp).get (k * 2 + 1) (by omega)
      have d0 := (Ht.out.keep hg.kp).get (k * 2) (by omega)
      have d1 := (Ht.out.keep hg.kp).get (k * 2 + 1) (by omega)
      rw [← Nat.add_assoc] at c1 d1
      have Hg := Lib.hid hg
      clear hg hl
      generalize xs.getD (k * 2) 0 = p at *
      generalize xs.getD (k * 2 + 1) 0 = q at *
      go_wp2
      apply region_grew 9
      case hm => kernel_rfl
      case hB => kernel_rfl
      simp only [List.take_succ_cons, List.take_zero, List.drop_succ_cons, List.drop_zero]
      repeat (first
        | ((with_reducible apply wpSoft_calleq (f := 72)); (case hw => rfl); (case hc => exact Try.call72); (case hv => ((conv => lhs; simp [Act.eval]); try rfl)); (case hS => (rintro _ ⟨⟨os, m⟩, rfl⟩; with_reducible refine (L_eqTile _ _ _).mono ?_; rintro e w' ⟨rfl, os2, m2, rfl⟩; exact ⟨rfl, ⟨⟨_, _⟩, grew_grew _ _ _ _ _⟩⟩)); (simp only [Act.put, List.setIfInBounds_toArray, List.set_cons_succ, List.set_cons_zero]))
        | (apply wpSoft_skip rfl; simp only [Act.put, List.setIfInBounds_toArray, List.set_cons_succ, List.set_cons_zero])
        | (apply wpSoft_nilCheck rfl rfl; simp only [Act.put, List.setIfInBounds_toArray, List.set_cons_succ, List.set_cons_zero])
        | ((with_reducible apply wpSoft_fop); (case hw => rfl); (case hD => exact closed_grew); (case hop => rfl); (case hx => rfl); (case hy => rfl); (case hA => (first | assumption | exact FE.ofInt _ _ | exact FE.lit (by decide +kernel))); (case hB => (first | assumption | exact FE.ofInt _ _ | exact FE.lit (by decide +kernel))); (intro r hr; simp only [Act.put, List.setIfInBounds_toArray, List.set_cons_succ, List.set_cons_zero]))

        | ((with_reducible apply wpSoft_widen); (case hw => rfl); (case hD => exact closed_grew); (case hs => exact Try.underlying77); (case hd => exact Try.underlying100); (case hx => rfl); (case hA => (first | assumption | exact FE.ofInt _ _ | exact FE.lit (by decide +kernel))); (intro r hr; simp only [Act.put, List.setIfInBounds_toArray, List.set_cons_succ, List.set_cons_zero]))
        | ((with_reducible apply wpSoft_fneg); (case hw => rfl); (case hx => rfl); (case hA => (first | assumption | exact FE.ofInt _ _ | exact FE.lit (by decide +kernel))); (intro r hr; simp only [Act.put, List.setIfInBounds_toArray, List.set_cons_succ, List.set_cons_zero]))
        | ((with_reducible apply wpSoft_fcmp); (case hw => rfl); (case hop => rfl); (case hx => rfl); (case hy => rfl); (case hA => (first | assumption | exact FE.ofInt _ _ | exact FE.lit (by decide +kernel))); (case hB => (first | assumption | exact FE.ofInt _ _ | exact FE.lit (by decide +kernel))); (case hb => (first | assumption | rfl)); simp only [Act.put, List.setIfInBounds_toArray, List.set_cons_succ, List.set_cons_zero])
        | (apply wpSoft_q rfl rfl; intro K hK; go_big_quiet_op; go_big_quiet_on))
      with_reducible apply wpSoft_nil
      intro os m
      go_wp2
      go_roundw
      case rel => exact ⟨k + 1, by omega, by go_num, Hg.out.trans (by (try show Gr _ _); repeat (with_reducible first | exact Gr.refl _ | refine Gr.drewN ?_ _ | refine Gr.grew ?_ _ _ | refine Gr.alloc ?_ _ | refine Gr.drew ?_))⟩
      case measure => simp [intOf]; omega
    · obtain rfl : k = n := by omega
      go_wp2
      go_ret
      exact ⟨rfl, hg⟩
theorem marksI_succ (k0 : Int) (n : Nat) : marksI k0 n ++ [Value.int .i64 (k0 + (n : Int))] = marksI k0 (n + 1) := by
  simp [marksI, List.range_succ]
set_option maxRecDepth 20000 in
set_option maxHeartbeats 1000000 in
theorem L_markTileS (v : Value) (lo hi n : Nat) (vs : List Value) (k0 : Int) (w : World) (h : Own w lo hi 95 2 v n vs) (hv : ∀ x ∈ vs, ∃ r, x = .int .i64 r) (hk : 0 ≤ k0) (hn : n ≤ 1048576) (hk2 : k0 ≤ 1099511627776) :
    Calls Try.prog 18 #[v, .int .i64 k0] w fun e w' => e = .returned (.int .i64 (k0 + ((n * 2 : Nat) : Int))) ∧ Wrote w w' v ∧ Own w' lo hi 95 2 v n (marksI k0 (n * 2)) := by
  have hl : vs.length = n * 2 := by simpa using h.own.1
  have ho := h.own
  rcases h.own.2 with ⟨rfl, rfl⟩ | ⟨g, cap, cur, rfl, hb, hg, hnc, hcm, hcs, ht⟩
  · have H := Lib.hid h
    clear h ho
    go_enter Try.func18, Try.ntmps18
    go_wp2
    refine wp_loop_rounds 1 ?_
    rw [rounds_succ]
    go_wp2
    go_ret
    exact ⟨by simp, ⟨⟨rfl, rfl, rfl, Nat.le_refl _, fun _ _ _ => rfl⟩⟩, ⟨⟨rfl, .inl ⟨rfl, rfl⟩⟩, H.out.hi⟩⟩
  · have Hh := Lib.hid h.hi
    have Hv := Lib.hid hv
    have Hl := Lib.hid hl
    have Ho := Lib.hid ho
    clear h hb hg hnc hcm hcs ht hv hl ho
    go_enter Try.func18, Try.ntmps18
    go_wp2
    go_loopw [1, 5] (fun q i wr => ∃ (k : Nat) (us : List Value), k ≤ n ∧ i = .int .i64 k ∧ q = .int .i64 (k0 + 2 * (k : Int)) ∧ us.length = n * 2 ∧ (∀ x ∈ us, ∃ r, x = .int .i64 r) ∧ us.take (k * 2) = marksI k0 (k * 2) ∧
        wr.ownsRow lo 95 2 (.slice (some ⟨g, 0, none⟩) n cap) n us ∧ w.grownBy wr (some g)) (fun _ i _ => n - (intOf i).toNat)
    case atStart => exact ⟨0, vs, Nat.zero_le _, rfl, by simp, Hl.out, Hv.out, by simp [marksI], Ho.out, ⟨rfl, rfl, rfl, Nat.le_refl _, fun _ _ _ => rfl⟩⟩
    case round =>
      obtain ⟨k, us, hkn, rfl, rfl, hul, huf, hut, hown, hgb⟩ := hrel
      by_cases hlt : k < n
      · have hcell : ∀ j, j < n * 2 → ∃ r, wr.cell? ⟨g, j, none⟩ = some (.int .i64 r) := fun j hj => by
          obtain ⟨r, hr⟩ := huf us[j] (List.getElem_mem (by omega))
          exact ⟨r, by rw [hown.cellAt j (by omega), List.getElem?_eq_getElem (by omega), hr]⟩
        obtain ⟨o0, d0⟩ := hcell (k * 2) (by omega)
        obtain ⟨o1, d1⟩ := hcell (k * 2 + 1) (by omega)
        have z0 := hown.frozenAt (k * 2)
        have z1 := hown.frozenAt (k * 2 + 1)
        have H1 := Lib.hid hown
        have H2 := Lib.hid huf
        have H3 := Lib.hid hut
        have H4 := Lib.hid hul
        have H5 := Lib.hid hgb
        clear hown huf hut hul hgb hcell
        go_wp2
        go_roundw
        case rel =>
          have e0 : k0 + 2 * (k : Int) = k0 + ((k * 2 : Nat) : Int) := by omega
          have e1 : k0 + 2 * (k : Int) + 1 = k0 + ((k * 2 + 1 : Nat) : Int) := by omega
          have s0 := H1.out.stored (k * 2) (.int .i64 (k0 + 2 * (k : Int)))
          have s1 := s0.1.stored (k * 2 + 1) (.int .i64 (k0 + 2 * (k : Int) + 1))
          have hul := H4.out
          refine ⟨k + 1, _, by omega, by go_num, by go_num, ?_, ?_, ?_, s1.1, ?_⟩
          · simp only [List.length_set]; exact H4.out
          · intro x hx
            rcases List.mem_or_eq_of_mem_set hx with hx | hx
            · rcases List.mem_or_eq_of_mem_set hx with hx | hx
              · exact H2.out x hx
              · exact ⟨_, hx⟩
            · exact ⟨_, hx⟩
          · rw [show (k + 1) * 2 = k * 2 + 1 + 1 by omega, listSet_take_t (by simp only [List.length_set]; omega), listSet_take_t (by omega), H3.out, e1, e0, marksI_succ, marksI_succ]
          · exact grownBy_trans2 (grownBy_trans2 H5.out s0.2) s1.2
        case measure => simp [intOf]; omega
      · obtain rfl : k = n := by omega
        have H1 := Lib.hid hown
        have H3 := Lib.hid hut
        have H4 := Lib.hid hul
        have H5 := Lib.hid hgb
        clear hown huf hut hul hgb
        go_wp2
        go_ret
        refine ⟨by rw [show k0 + 2 * (k : Int) = k0 + ((k * 2 : Nat) : Int) by omega]; rfl, ⟨H5.out⟩, ⟨?_, Hh.out⟩⟩
        have e := H3.out
        rw [List.take_of_length_le (by have := H4.out; omega)] at e
        rw [← e]; exact H1.out
theorem marksI_get {k0 : Int} {m j : Nat} (h : j < m) : (marksI k0 m)[j]? = some (.int .i64 (k0 + (j : Int))) := by simp [marksI, h]
set_option maxRecDepth 20000 in
set_option maxHeartbeats 1000000 in
theorem L_heldTileS (v : Value) (lo hi n : Nat) (k0 : Int) (w : World) (h : Own w lo hi 95 2 v n (marksI k0 (n * 2))) (hk : 0 ≤ k0) (hn : n ≤ 1048576) (hk2 : k0 ≤ 1099511627776) :
    Calls Try.prog 19 #[v, .int .i64 k0] w fun e w' => e = .returned (.int .i64 (k0 + ((n * 2 : Nat) : Int))) ∧ Gr w w' := by
  have ho := h.own
  rcases h.own.2 with ⟨rfl, rfl⟩ | ⟨g, cap, cur, rfl, hb, hg, hnc, hcm, hcs, ht⟩
  · clear h ho
    go_enter Try.func19, Try.ntmps19
    go_wp2
    refine wp_loop_rounds 1 ?_
    rw [rounds_succ]
    go_wp2
    go_ret
    exact ⟨by simp, (by (try show Gr _ _); repeat (with_reducible first | exact Gr.refl _ | refine Gr.drewN ?_ _ | refine Gr.grew ?_ _ _ | refine Gr.alloc ?_ _ | refine Gr.drew ?_))⟩
  · have Ho := Lib.hid ho
    clear h hb hg hnc hcm hcs ht ho
    go_enter Try.func19, Try.ntmps19
    go_wp2
    go_loopw [1, 5] (fun q i wr => ∃ (k : Nat), k ≤ n ∧ i = .int .i64 k ∧ q = .int .i64 (k0 + 2 * (k : Int)) ∧ Gr w wr) (fun _ i _ => n - (intOf i).toNat)
    case atStart => exact ⟨0, Nat.zero_le _, rfl, by simp, (by (try show Gr _ _); repeat (with_reducible first | exact Gr.refl _ | refine Gr.drewN ?_ _ | refine Gr.grew ?_ _ _ | refine Gr.alloc ?_ _ | refine Gr.drew ?_))⟩
    case round =>
      obtain ⟨k, hkn, rfl, rfl, hg⟩ := hrel
      by_cases hlt : k < n
      · have hc : wr.cell? ⟨g, k * 2, none⟩ = some (.int .i64 (k0 + 2 * (k : Int))) := by
          apply hg.cell
          rw [Ho.out.cellAt (k * 2) (by omega), show k0 + 2 * (k : Int) = k0 + ((k * 2 : Nat) : Int) by omega]; exact marksI_get (by omega)
        have hc2 : wr.cell? ⟨g, k * 2 + 1, none⟩ = some (.int .i64 (k0 + 2 * (k : Int) + 1)) := by
          apply hg.cell
          rw [Ho.out.cellAt (k * 2 + 1) (by omega), show k0 + 2 * (k : Int) + 1 = k0 + ((k * 2 + 1 : Nat) : Int) by omega]; exact marksI_get (by omega)
        have Hg := Lib.hid hg
        clear hg
        go_wp2
        go_roundw
        case rel => exact ⟨k + 1, by omega, by go_num, by go_num, Hg.out.trans (by (try show Gr _ _); repeat (with_reducible first | exact Gr.refl _ | refine Gr.drewN ?_ _ | refine Gr.grew ?_ _ _ | refine Gr.alloc ?_ _ | refine Gr.drew ?_))⟩
        case measure => simp [intOf]; omega
      · obtain rfl : k = n := by omega
        go_wp2
        go_ret
        exact ⟨by rw [show k0 + 2 * (k : Int) = k0 + ((k * 2 : Nat) : Int) by omega]; rfl, hg⟩
end Go.Proofs.Ytcejnifkbheelaa
