/- Contracts: values counted between limits. MAXREC -/
import Derived.Test.YtldeeijfipiafaaProg
import Derived.Test.YtldeeijfipiafaaC14
import Derived.Test.YtldeeijfipiafaaGi2
import Derived.Deep.DeepCutAuto
namespace Go.Proofs.Ytldeeijfipiafaa
open Go.RowKit Go.Fx Go.Soft
/-- How many limits a value has reached, from the first one on. -/
def gSlot (ls : List Nat) (x : Nat) : Nat := (ls.takeWhile fun l => fcmp .geq .f32 x l).length
theorem slot_of (p : Nat → Bool) : ∀ (ls : List Nat) (k : Nat), k ≤ ls.length → (∀ j, j < k → p (ls.getD j 0) = true) → (k < ls.length → p (ls.getD k 0) = false) → (ls.takeWhile p).length = k
  | [], k, hk, _, _ => by simp at hk; subst hk; rfl
  | l :: ls, 0, _, _, h => by
    have := h (by simp)
    simp at this
    simp [List.takeWhile, this]
  | l :: ls, k + 1, hk, h1, h2 => by
    have h0 : p l = true := by simpa using h1 0 (by omega)
    have ih := slot_of p ls k (by simpa using hk) (fun j hj => by simpa using h1 (j + 1) (by omega)) (fun hl => by simpa using h2 (by simpa using hl))
    simp [List.takeWhile, h0, ih]
theorem gSlot_le (ls : List Nat) (x : Nat) : gSlot ls x ≤ ls.length := by
  unfold gSlot
  exact (List.takeWhile_sublist _).length_le
/-- The counts behind k values. -/
def gCnt (ls xs : List Nat) : Nat → List Int
  | 0 => List.replicate (ls.length + 1) 0
  | k + 1 => if gHole (xs.getD k 0) then gCnt ls xs k else (gCnt ls xs k).set (gSlot ls (xs.getD k 0)) ((gCnt ls xs k).getD (gSlot ls (xs.getD k 0)) 0 + 1)
theorem gCnt_length (ls xs : List Nat) : ∀ k, (gCnt ls xs k).length = ls.length + 1
  | 0 => by simp [gCnt]
  | k + 1 => by rw [gCnt]; split <;> simp [gCnt_length ls xs k]
theorem getD_set_int (l : List Int) (i j : Nat) (v : Int) (hi : i < l.length) : (l.set i v).getD j 0 = if i = j then v else l.getD j 0 := by
  rw [List.getD_eq_getElem?_getD, List.getD_eq_getElem?_getD, List.getElem?_set]
  split
  · rename_i h; subst h; simp [hi]
  · rfl
theorem gCnt_range (ls xs : List Nat) : ∀ k i, 0 ≤ (gCnt ls xs k).getD i 0 ∧ (gCnt ls xs k).getD i 0 ≤ (k : Int)
  | 0, i => by
    have : (List.replicate (ls.length + 1) (0 : Int)).getD i 0 = 0 := by
      rw [List.getD_eq_getElem?_getD, List.getElem?_replicate]; split <;> rfl
    rw [gCnt, this]; omega
  | k + 1, i => by
    have ih := gCnt_range ls xs k
    rw [gCnt]
    split
    · have := ih i; omega
    · rw [getD_set_int _ _ _ _ (by rw [gCnt_length]; have := gSlot_le ls (xs.getD k 0); omega)]
      split
      · have := ih (gSlot ls (xs.getD k 0)); omega
      · have := ih i; omega
def gRise (ls : List Nat) : Bool := (List.range ls.length).all fun i => !(decide (0 < i) && fcmp .geq .f32 (ls.getD (i - 1) 0) (ls.getD i 0))
def gLims (ls : List Nat) : Bool := decide (ls.length ≤ 256) && (gFinAll ls && gRise ls)
theorem gFinAll_iff (ls : List Nat) : gFinAll ls = true ↔ ∀ j, j < ls.length → gFin (ls.getD j 0) = true := by
  unfold gFinAll
  rw [Bool.not_eq_true', Bool.eq_false_iff]
  simp only [ne_eq, List.any_eq_true, not_exists, not_and, Bool.not_eq_true', Bool.not_eq_false]
  constructor
  · intro h j hj
    rw [List.getD_eq_getElem?_getD, List.getElem?_eq_getElem hj]
    exact h _ (List.getElem_mem hj)
  · intro h x hx
    obtain ⟨j, hj, rfl⟩ := List.getElem_of_mem hx
    have := h j hj
    rw [List.getD_eq_getElem?_getD, List.getElem?_eq_getElem hj] at this
    exact this
theorem gRise_iff (ls : List Nat) : gRise ls = true ↔ ∀ j, 0 < j → j < ls.length → fcmp .geq .f32 (ls.getD (j - 1) 0) (ls.getD j 0) = false := by
  unfold gRise
  simp only [List.all_eq_true, List.mem_range, Bool.not_eq_true', Bool.and_eq_false_iff, decide_eq_false_iff_not]
  constructor
  · intro h j h0 hj
    rcases h j hj with h1 | h1
    · omega
    · exact h1
  · intro h j hj
    by_cases h0 : 0 < j
    · exact .inr (h j h0 hj)
    · exact .inl h0
theorem gLims_iff (ls : List Nat) : gLims ls = true ↔ ls.length ≤ 256 ∧ (∀ j, j < ls.length → gFin (ls.getD j 0) = true) ∧ ∀ j, 0 < j → j < ls.length → fcmp .geq .f32 (ls.getD (j - 1) 0) (ls.getD j 0) = false := by
  unfold gLims
  rw [Bool.and_eq_true, Bool.and_eq_true, decide_eq_true_eq, gFinAll_iff, gRise_iff]
theorem info_int64c : (Try.prog.info? 2).map (fun i => (i.zero, i.size, i.bytes)) = some (some (.int .i64 0), 1, 8) := by kernel_rfl
theorem run_make_ints (n : Nat) (hn : n ≤ 1048576) (w : World) : (Instr.makeSlice 54 (.int .i64 (n : Int)) (.int .i64 (n : Int))).run Try.prog w = .ok (.slice (some ⟨w.heap.size, 0, none⟩) n n) (w.alloc (.cells (madeCells #[.int .i64 0] n) 2)) := by
  obtain ⟨i0, hi, hz0, hz1, hz2⟩ := info_parts info_int64c
  have h := run_make (P := Try.prog) w 54 2 i0 (.int .i64 0) Try.underlying54 hi hz0 .i64 .i64 (n : Int) (n : Int) (by omega) (Int.le_refl _) (by rw [hz2]; omega) (by omega)
  rw [hz1, Int.toNat_natCast, Nat.mul_one] at h
  exact h
set_option maxRecDepth 20000 in
set_option maxHeartbeats 4000000 in
theorem S_CountValues (W H : Int) (a b : Option Addr) (ca cb : Nat) (xs ls : List Nat) (w : World) (fx : FSl w a xs.length xs) (fl : FSl w b ls.length ls) (hn : xs.length ≤ 1048576) (hm : ls.length ≤ 1048576) :
    Calls Try.prog 45 #[.agg #[.int .i64 W, .int .i64 H, .slice a xs.length ca], .slice b ls.length cb] w
      (PostI w (gPic W H xs.length && gLims ls) (if gPic W H xs.length && gLims ls then gCnt ls xs xs.length else [])) := by
  have hn' : xs.length ≤ maxLen := by unfold maxLen; omega
  have Fx := Lib.hid fx
  have Fl := Lib.hid fl
  clear fx fl
  cases hT : gPic W H xs.length
  · go_enter Try.func45, Try.ntmps45
    go_wp2_with (first
      | (go_at_call 68; with_reducible refine (S_l03IsMap W H a _ ca _ _ _ hn' (by first | (simp (maxDischargeDepth := 12) [go_sem]; done) | (simp (maxDischargeDepth := 12) [go_sem, *]; done)) (by first | (simp (maxDischargeDepth := 12) [go_sem]; done) | (simp (maxDischargeDepth := 12) [go_sem, *]; done)) (by first | (simp (maxDischargeDepth := 12) [go_sem]; done) | (simp (maxDischargeDepth := 12) [go_sem, *]; done))).mono ?_; rintro e w' ⟨rfl, n, rfl⟩; rw [hT]))
    exact bodyPost_ret (v := .tuple #[.slice none 0 0, .bool false]) (by simp [results, Try.results45, go_sem]) rfl ⟨⟨_, rfl, IOwn.nil _ _ _⟩, (by (try show Gr _ _); repeat (with_reducible first | exact Gr.refl _ | refine Gr.drewN ?_ _ | refine Gr.grew ?_ _ _ | refine Gr.alloc ?_ _ | refine Gr.drew ?_))⟩
  cases hL : gLims ls
  · by_cases h256 : ls.length ≤ 256
    · have HL := Lib.hid (fun h => Bool.false_ne_true (hL.symm.trans ((gLims_iff ls).2 ⟨h256, h⟩)))
      clear hL
      go_enter Try.func45, Try.ntmps45
      go_wp2_with (first
      | (go_at_call 68; with_reducible refine (S_l03IsMap W H a _ ca _ _ _ hn' (by first | (simp (maxDischargeDepth := 12) [go_sem]; done) | (simp (maxDischargeDepth := 12) [go_sem, *]; done)) (by first | (simp (maxDischargeDepth := 12) [go_sem]; done) | (simp (maxDischargeDepth := 12) [go_sem, *]; done)) (by first | (simp (maxDischargeDepth := 12) [go_sem]; done) | (simp (maxDischargeDepth := 12) [go_sem, *]; done))).mono ?_; rintro e w' ⟨rfl, n, rfl⟩; rw [hT]))
      go_loopw [19] (fun i wr => ∃ k : Nat, k ≤ ls.length ∧ i = .int .i64 k ∧ Hid ((∀ j, j < k → gFin (ls.getD j 0) = true) ∧ ∀ j, 0 < j → j < k → fcmp .geq .f32 (ls.getD (j - 1) 0) (ls.getD j 0) = false) ∧ Gr w wr) (fun i _ => ls.length - (intOf i).toNat)
      case atStart => exact ⟨0, Nat.zero_le _, rfl, ⟨fun j h => by omega, fun j _ h => by omega⟩, (by (try show Gr _ _); repeat (with_reducible first | exact Gr.refl _ | refine Gr.drewN ?_ _ | refine Gr.grew ?_ _ _ | refine Gr.alloc ?_ _ | refine Gr.drew ?_))⟩
      case round =>
        obtain ⟨k, hk, rfl, hP, hg⟩ := hrel
        by_cases hlt : k < ls.length
        · obtain ⟨bl, ol, rfl⟩ := Fl.out.ptr (by omega)
          obtain ⟨r, hc, hr⟩ := (Fl.out.keep hg.kp).get k hlt
          have FL := Lib.hid (Fl.out.keep hg.kp)
          have Hg := Lib.hid hg
          clear hg
          cases t1 : gFin (ls.getD k 0)
          · generalize ls.getD k 0 = v at *
            go_wp2
            apply region_drew 21
            case hm => kernel_rfl
            case hB => kernel_rfl
            simp only [List.take_succ_cons, List.take_zero, List.drop_succ_cons, List.drop_zero]
            repeat (first
              | ((with_reducible apply wpSoft_calleq (f := 115)); (case hw => rfl); (case hc => exact Try.call115); (case hv => ((conv => lhs; simp [Act.eval]); try rfl)); (case hS => (rintro _ ⟨m, rfl⟩; with_reducible refine (S_l01Finite _ _ _ (by assumption)).mono ?_; rintro e w' ⟨rfl, n, rfl⟩; exact ⟨rfl, ⟨_, World.drewN_drewN _ _ _⟩⟩)); (simp only [Act.put, List.setIfInBounds_toArray, List.set_cons_succ, List.set_cons_zero]; try simp only [t1]))
              | (apply wpSoft_skip rfl; simp only [Act.put, List.setIfInBounds_toArray, List.set_cons_succ, List.set_cons_zero])
              | (apply wpSoft_nilCheck rfl rfl; simp only [Act.put, List.setIfInBounds_toArray, List.set_cons_succ, List.set_cons_zero])
              | ((with_reducible apply wpSoft_fop); (case hw => rfl); (case hD => exact closed_drew); (case hop => rfl); (case hx => rfl); (case hy => rfl); (case hA => (first | assumption | exact FE.ofInt _ _ | exact FE.lit (by decide +kernel))); (case hB => (first | assumption | exact FE.ofInt _ _ | exact FE.lit (by decide +kernel))); (intro r hr; simp only [Act.put, List.setIfInBounds_toArray, List.set_cons_succ, List.set_cons_zero]))

              | ((with_reducible apply wpSoft_widen); (case hw => rfl); (case hD => exact closed_drew); (case hs => exact Try.underlying42); (case hd => exact Try.underlying84); (case hx => rfl); (case hA => (first | assumption | exact FE.ofInt _ _ | exact FE.lit (by decide +kernel))); (intro r hr; simp only [Act.put, List.setIfInBounds_toArray, List.set_cons_succ, List.set_cons_zero]))
              | ((with_reducible apply wpSoft_fneg); (case hw => rfl); (case hx => rfl); (case hA => (first | assumption | exact FE.ofInt _ _ | exact FE.lit (by decide +kernel))); (intro r hr; simp only [Act.put, List.setIfInBounds_toArray, List.set_cons_succ, List.set_cons_zero]))
              | ((with_reducible apply wpSoft_fcmp); (case hw => rfl); (case hop => rfl); (case hx => rfl); (case hy => rfl); (case hA => (first | assumption | exact FE.ofInt _ _ | exact FE.lit (by decide +kernel))); (case hB => (first | assumption | exact FE.ofInt _ _ | exact FE.lit (by decide +kernel))); (case hb => (first | assumption | rfl)); simp only [Act.put, List.setIfInBounds_toArray, List.set_cons_succ, List.set_cons_zero])
              | (apply wpSoft_q rfl rfl; intro K hK; go_big_quiet_op; go_big_quiet_on))
            with_reducible apply wpSoft_nil
            intro m
            go_wp2
            exact bodyPost_ret (v := .tuple #[.slice none 0 0, .bool false]) (by simp [results, Try.results45, go_sem]) rfl ⟨⟨_, rfl, IOwn.nil _ _ _⟩, Hg.out.trans (by (try show Gr _ _); repeat (with_reducible first | exact Gr.refl _ | refine Gr.drewN ?_ _ | refine Gr.grew ?_ _ _ | refine Gr.alloc ?_ _ | refine Gr.drew ?_))⟩
          · rcases k with _ | j
            · have HP2 := Lib.hid (show ∀ j, j < 0 + 1 → gFin (ls.getD j 0) = true from fun j h => by rw [show j = 0 by omega]; exact t1)
              rw [Nat.add_zero] at hc
              generalize ls.getD 0 0 = v at *
              go_wp2
              apply region_drew 21
              case hm => kernel_rfl
              case hB => kernel_rfl
              simp only [List.take_succ_cons, List.take_zero, List.drop_succ_cons, List.drop_zero]
              repeat (first
                | ((with_reducible apply wpSoft_calleq (f := 115)); (case hw => rfl); (case hc => exact Try.call115); (case hv => ((conv => lhs; simp [Act.eval]); try rfl)); (case hS => (rintro _ ⟨m, rfl⟩; with_reducible refine (S_l01Finite _ _ _ (by assumption)).mono ?_; rintro e w' ⟨rfl, n, rfl⟩; exact ⟨rfl, ⟨_, World.drewN_drewN _ _ _⟩⟩)); (simp only [Act.put, List.setIfInBounds_toArray, List.set_cons_succ, List.set_cons_zero]; try simp only [t1]))
                | (apply wpSoft_skip rfl; simp only [Act.put, List.setIfInBounds_toArray, List.set_cons_succ, List.set_cons_zero])
                | (apply wpSoft_nilCheck rfl rfl; simp only [Act.put, List.setIfInBounds_toArray, List.set_cons_succ, List.set_cons_zero])
                | ((with_reducible apply wpSoft_fop); (case hw => rfl); (case hD => exact closed_drew); (case hop => rfl); (case hx => rfl); (case hy => rfl); (case hA => (first | assumption | exact FE.ofInt _ _ | exact FE.lit (by decide +kernel))); (case hB => (first | assumption | exact FE.ofInt _ _ | exact FE.lit (by decide +kernel))); (intro r hr; simp only [Act.put, List.setIfInBounds_toArray, List.set_cons_succ, List.set_cons_zero]))

                | ((with_reducible apply wpSoft_widen); (case hw => rfl); (case hD => exact closed_drew); (case hs => exact Try.underlying42); (case hd => exact Try.underlying84); (case hx => rfl); (case hA => (first | assumption | exact FE.ofInt _ _ | exact FE.lit (by decide +kernel))); (intro r hr; simp only [Act.put, List.setIfInBounds_toArray, List.set_cons_succ, List.set_cons_zero]))
                | ((with_reducible apply wpSoft_fneg); (case hw => rfl); (case hx => rfl); (case hA => (first | assumption | exact FE.ofInt _ _ | exact FE.lit (by decide +kernel))); (intro r hr; simp only [Act.put, List.setIfInBounds_toArray, List.set_cons_succ, List.set_cons_zero]))
                | ((with_reducible apply wpSoft_fcmp); (case hw => rfl); (case hop => rfl); (case hx => rfl); (case hy => rfl); (case hA => (first | assumption | exact FE.ofInt _ _ | exact FE.lit (by decide +kernel))); (case hB => (first | assumption | exact FE.ofInt _ _ | exact FE.lit (by decide +kernel))); (case hb => (first | assumption | rfl)); simp only [Act.put, List.setIfInBounds_toArray, List.set_cons_succ, List.set_cons_zero])
                | (apply wpSoft_q rfl rfl; intro K hK; go_big_quiet_op; go_big_quiet_on))
              with_reducible apply wpSoft_nil
              intro m
              go_wp2
              go_roundw
              case rel => exact ⟨1, by omega, by go_num, ⟨HP2.out, fun j _ h => by omega⟩, Hg.out.trans (by (try show Gr _ _); repeat (with_reducible first | exact Gr.refl _ | refine Gr.drewN ?_ _ | refine Gr.grew ?_ _ _ | refine Gr.alloc ?_ _ | refine Gr.drew ?_))⟩
              case measure => simp [intOf]; omega
            · obtain ⟨r2, hc2, hr2⟩ := FL.out.get j (by omega)
              cases t2 : fcmp .geq .f32 (ls.getD j 0) (ls.getD (j + 1) 0)
              · have HP2 := Lib.hid (show (∀ i, i < j + 1 + 1 → gFin (ls.getD i 0) = true) ∧ ∀ i, 0 < i → i < j + 1 + 1 → fcmp .geq .f32 (ls.getD (i - 1) 0) (ls.getD i 0) = false from ⟨fun i h => by
                    rcases Nat.lt_or_ge i (j + 1) with h' | h'
                    · exact hP.1 i h'
                    · rw [show i = j + 1 by omega]; exact t1, fun i h0 h => by
                    rcases Nat.lt_or_ge i (j + 1) with h' | h'
                    · exact hP.2 i h0 h'
                    · rw [show i = j + 1 by omega]; exact t2⟩)
                clear hP
                generalize ls.getD (j + 1) 0 = v at *
                generalize ls.getD j 0 = v2 at *
                go_wp2
                apply region_drew 21
                case hm => kernel_rfl
                case hB => kernel_rfl
                simp only [List.take_succ_cons, List.take_zero, List.drop_succ_cons, List.drop_zero]
                repeat (first
                  | ((with_reducible apply wpSoft_calleq (f := 115)); (case hw => rfl); (case hc => exact Try.call115); (case hv => ((conv => lhs; simp [Act.eval]); try rfl)); (case hS => (rintro _ ⟨m, rfl⟩; with_reducible refine (S_l01Finite _ _ _ (by assumption)).mono ?_; rintro e w' ⟨rfl, n, rfl⟩; exact ⟨rfl, ⟨_, World.drewN_drewN _ _ _⟩⟩)); (simp only [Act.put, List.setIfInBounds_toArray, List.set_cons_succ, List.set_cons_zero]; try simp only [t1]))
                  | (apply wpSoft_skip rfl; simp only [Act.put, List.setIfInBounds_toArray, List.set_cons_succ, List.set_cons_zero])
                  | (apply wpSoft_nilCheck rfl rfl; simp only [Act.put, List.setIfInBounds_toArray, List.set_cons_succ, List.set_cons_zero])
                  | ((with_reducible apply wpSoft_fop); (case hw => rfl); (case hD => exact closed_drew); (case hop => rfl); (case hx => rfl); (case hy => rfl); (case hA => (first | assumption | exact FE.ofInt _ _ | exact FE.lit (by decide +kernel))); (case hB => (first | assumption | exact FE.ofInt _ _ | exact FE.lit (by decide +kernel))); (intro r hr; simp only [Act.put, List.setIfInBounds_toArray, List.set_cons_succ, List.set_cons_zero]))

                  | ((with_reducible apply wpSoft_widen); (case hw => rfl); (case hD => exact closed_drew); (case hs => exact Try.underlying42); (case hd => exact Try.underlying84); (case hx => rfl); (case hA => (first | assumption | exact FE.ofInt _ _ | exact FE.lit (by decide +kernel))); (intro r hr; simp only [Act.put, List.setIfInBounds_toArray, List.set_cons_succ, List.set_cons_zero]))
                  | ((with_reducible apply wpSoft_fneg); (case hw => rfl); (case hx => rfl); (case hA => (first | assumption | exact FE.ofInt _ _ | exact FE.lit (by decide +kernel))); (intro r hr; simp only [Act.put, List.setIfInBounds_toArray, List.set_cons_succ, List.set_cons_zero]))
                  | ((with_reducible apply wpSoft_fcmp); (case hw => rfl); (case hop => rfl); (case hx => rfl); (case hy => rfl); (case hA => (first | assumption | exact FE.ofInt _ _ | exact FE.lit (by decide +kernel))); (case hB => (first | assumption | exact FE.ofInt _ _ | exact FE.lit (by decide +kernel))); (case hb => (first | assumption | rfl)); simp only [Act.put, List.setIfInBounds_toArray, List.set_cons_succ, List.set_cons_zero])
                  | (apply wpSoft_q rfl rfl; intro K hK; go_big_quiet_op; go_big_quiet_on))
                with_reducible apply wpSoft_nil
                intro m
                go_wp2
                go_roundw
                case rel => exact ⟨j + 1 + 1, by omega, by go_num, HP2.out, Hg.out.trans (by (try show Gr _ _); repeat (with_reducible first | exact Gr.refl _ | refine Gr.drewN ?_ _ | refine Gr.grew ?_ _ _ | refine Gr.alloc ?_ _ | refine Gr.drew ?_))⟩
                case measure => simp [intOf]; omega
              · clear hP
                generalize ls.getD (j + 1) 0 = v at *
                generalize ls.getD j 0 = v2 at *
                go_wp2
                apply region_drew 21
                case hm => kernel_rfl
                case hB => kernel_rfl
                simp only [List.take_succ_cons, List.take_zero, List.drop_succ_cons, List.drop_zero]
                repeat (first
                  | ((with_reducible apply wpSoft_calleq (f := 115)); (case hw => rfl); (case hc => exact Try.call115); (case hv => ((conv => lhs; simp [Act.eval]); try rfl)); (case hS => (rintro _ ⟨m, rfl⟩; with_reducible refine (S_l01Finite _ _ _ (by assumption)).mono ?_; rintro e w' ⟨rfl, n, rfl⟩; exact ⟨rfl, ⟨_, World.drewN_drewN _ _ _⟩⟩)); (simp only [Act.put, List.setIfInBounds_toArray, List.set_cons_succ, List.set_cons_zero]; try simp only [t1]))
                  | (apply wpSoft_skip rfl; simp only [Act.put, List.setIfInBounds_toArray, List.set_cons_succ, List.set_cons_zero])
                  | (apply wpSoft_nilCheck rfl rfl; simp only [Act.put, List.setIfInBounds_toArray, List.set_cons_succ, List.set_cons_zero])
                  | ((with_reducible apply wpSoft_fop); (case hw => rfl); (case hD => exact closed_drew); (case hop => rfl); (case hx => rfl); (case hy => rfl); (case hA => (first | assumption | exact FE.ofInt _ _ | exact FE.lit (by decide +kernel))); (case hB => (first | assumption | exact FE.ofInt _ _ | exact FE.lit (by decide +kernel))); (intro r hr; simp only [Act.put, List.setIfInBounds_toArray, List.set_cons_succ, List.set_cons_zero]))

                  | ((with_reducible apply wpSoft_widen); (case hw => rfl); (case hD => exact closed_drew); (case hs => exact Try.underlying42); (case hd => exact Try.underlying84); (case hx => rfl); (case hA => (first | assumption | exact FE.ofInt _ _ | exact FE.lit (by decide +kernel))); (intro r hr; simp only [Act.put, List.setIfInBounds_toArray, List.set_cons_succ, List.set_cons_zero]))
                  | ((with_reducible apply wpSoft_fneg); (case hw => rfl); (case hx => rfl); (case hA => (first | assumption | exact FE.ofInt _ _ | exact FE.lit (by decide +kernel))); (intro r hr; simp only [Act.put, List.setIfInBounds_toArray, List.set_cons_succ, List.set_cons_zero]))
                  | ((with_reducible apply wpSoft_fcmp); (case hw => rfl); (case hop => rfl); (case hx => rfl); (case hy => rfl); (case hA => (first | assumption | exact FE.ofInt _ _ | exact FE.lit (by decide +kernel))); (case hB => (first | assumption | exact FE.ofInt _ _ | exact FE.lit (by decide +kernel))); (case hb => (first | assumption | rfl)); simp only [Act.put, List.setIfInBounds_toArray, List.set_cons_succ, List.set_cons_zero])
                  | (apply wpSoft_q rfl rfl; intro K hK; go_big_quiet_op; go_big_quiet_on))
                with_reducible apply wpSoft_nil
                intro m
                go_wp2
                exact bodyPost_ret (v := .tuple #[.slice none 0 0, .bool false]) (by simp [results, Try.results45, go_sem]) rfl ⟨⟨_, rfl, IOwn.nil _ _ _⟩, Hg.out.trans (by (try show Gr _ _); repeat (with_reducible first | exact Gr.refl _ | refine Gr.drewN ?_ _ | refine Gr.grew ?_ _ _ | refine Gr.alloc ?_ _ | refine Gr.drew ?_))⟩
        · obtain rfl : k = ls.length := by omega
          exact (HL.out hP).elim
    · go_enter Try.func45, Try.ntmps45
      go_wp2_with (first
      | (go_at_call 68; with_reducible refine (S_l03IsMap W H a _ ca _ _ _ hn' (by first | (simp (maxDischargeDepth := 12) [go_sem]; done) | (simp (maxDischargeDepth := 12) [go_sem, *]; done)) (by first | (simp (maxDischargeDepth := 12) [go_sem]; done) | (simp (maxDischargeDepth := 12) [go_sem, *]; done)) (by first | (simp (maxDischargeDepth := 12) [go_sem]; done) | (simp (maxDischargeDepth := 12) [go_sem, *]; done))).mono ?_; rintro e w' ⟨rfl, n, rfl⟩; rw [hT]))
      exact bodyPost_ret (v := .tuple #[.slice none 0 0, .bool false]) (by simp [results, Try.results45, go_sem]) rfl ⟨⟨_, rfl, IOwn.nil _ _ _⟩, (by (try show Gr _ _); repeat (with_reducible first | exact Gr.refl _ | refine Gr.drewN ?_ _ | refine Gr.grew ?_ _ _ | refine Gr.alloc ?_ _ | refine Gr.drew ?_))⟩
  · have h3 := (gLims_iff ls).1 hL
    have h256 := h3.1
    have HL := Lib.hid h3
    have hpos : 0 < xs.length := by
      have hp1 := (gPic_true hT).2
      obtain ⟨s1, s2, s3, s4, s5, s6⟩ := gSize_true (gPic_true hT).1
      omega
    clear h3 hL
    simp only [Bool.and_self, if_true]
    go_enter Try.func45, Try.ntmps45
    go_wp2_with (first
      | (go_at_call 68; with_reducible refine (S_l03IsMap W H a _ ca _ _ _ hn' (by first | (simp (maxDischargeDepth := 12) [go_sem]; done) | (simp (maxDischargeDepth := 12) [go_sem, *]; done)) (by first | (simp (maxDischargeDepth := 12) [go_sem]; done) | (simp (maxDischargeDepth := 12) [go_sem, *]; done)) (by first | (simp (maxDischargeDepth := 12) [go_sem]; done) | (simp (maxDischargeDepth := 12) [go_sem, *]; done))).mono ?_; rintro e w' ⟨rfl, n, rfl⟩; rw [hT]))
    go_loopw [19] (fun i wr => ∃ k : Nat, k ≤ ls.length ∧ i = .int .i64 k ∧ Blk wr w.heap.size [.int .i64 W, .int .i64 H, .slice a xs.length ca] 29 ∧ Gr w wr) (fun i _ => ls.length - (intOf i).toNat)
    case atStart => exact ⟨0, Nat.zero_le _, rfl, (by repeat (with_reducible first | assumption | exact Blk.atNew (by simp) | refine Blk.alloc ?_ _ | refine Blk.grew ?_ _ _ | refine Blk.drewN ?_ _ | refine Blk.drew ?_)), (by (try show Gr _ _); repeat (with_reducible first | exact Gr.refl _ | refine Gr.drewN ?_ _ | refine Gr.grew ?_ _ _ | refine Gr.alloc ?_ _ | refine Gr.drew ?_))⟩
    case round =>
      obtain ⟨k, hk, rfl, hB, hg⟩ := hrel
      by_cases hlt : k < ls.length
      · obtain ⟨bl, ol, rfl⟩ := Fl.out.ptr (by omega)
        obtain ⟨r, hc, hr⟩ := (Fl.out.keep hg.kp).get k hlt
        have FL := Lib.hid (Fl.out.keep hg.kp)
        have t1 := HL.out.2.1 k hlt
        have Hg := Lib.hid hg
        have HB := Lib.hid hB
        clear hg hB
        rcases k with _ | j
        · rw [Nat.add_zero] at hc
          generalize ls.getD 0 0 = v at *
          go_wp2
          apply region_drew 21
          case hm => kernel_rfl
          case hB => kernel_rfl
          simp only [List.take_succ_cons, List.take_zero, List.drop_succ_cons, List.drop_zero]
          repeat (first
            | ((with_reducible apply wpSoft_calleq (f := 115)); (case hw => rfl); (case hc => exact Try.call115); (case hv => ((conv => lhs; simp [Act.eval]); try rfl)); (case hS => (rintro _ ⟨m, rfl⟩; with_reducible refine (S_l01Finite _ _ _ (by assumption)).mono ?_; rintro e w' ⟨rfl, n, rfl⟩; exact ⟨rfl, ⟨_, World.drewN_drewN _ _ _⟩⟩)); (simp only [Act.put, List.setIfInBounds_toArray, List.set_cons_succ, List.set_cons_zero]; try simp only [t1]))
            | (apply wpSoft_skip rfl; simp only [Act.put, List.setIfInBounds_toArray, List.set_cons_succ, List.set_cons_zero])
            | (apply wpSoft_nilCheck rfl rfl; simp only [Act.put, List.setIfInBounds_toArray, List.set_cons_succ, List.set_cons_zero])
            | ((with_reducible apply wpSoft_fop); (case hw => rfl); (case hD => exact closed_drew); (case hop => rfl); (case hx => rfl); (case hy => rfl); (case hA => (first | assumption | exact FE.ofInt _ _ | exact FE.lit (by decide +kernel))); (case hB => (first | assumption | exact FE.ofInt _ _ | exact FE.lit (by decide +kernel))); (intro r hr; simp only [Act.put, List.setIfInBounds_toArray, List.set_cons_succ, List.set_cons_zero]))

            | ((with_reducible apply wpSoft_widen); (case hw => rfl); (case hD => exact closed_drew); (case hs => exact Try.underlying42); (case hd => exact Try.underlying84); (case hx => rfl); (case hA => (first | assumption | exact FE.ofInt _ _ | exact FE.lit (by decide +kernel))); (intro r hr; simp only [Act.put, List.setIfInBounds_toArray, List.set_cons_succ, List.set_cons_zero]))
            | ((with_reducible apply wpSoft_fneg); (case hw => rfl); (case hx => rfl); (case hA => (first | assumption | exact FE.ofInt _ _ | exact FE.lit (by decide +kernel))); (intro r hr; simp only [Act.put, List.setIfInBounds_toArray, List.set_cons_succ, List.set_cons_zero]))
            | ((with_reducible apply wpSoft_fcmp); (case hw => rfl); (case hop => rfl); (case hx => rfl); (case hy => rfl); (case hA => (first | assumption | exact FE.ofInt _ _ | exact FE.lit (by decide +kernel))); (case hB => (first | assumption | exact FE.ofInt _ _ | exact FE.lit (by decide +kernel))); (case hb => (first | assumption | rfl)); simp only [Act.put, List.setIfInBounds_toArray, List.set_cons_succ, List.set_cons_zero])
            | (apply wpSoft_q rfl rfl; intro K hK; go_big_quiet_op; go_big_quiet_on))
          with_reducible apply wpSoft_nil
          intro m
          go_wp2
          go_roundw
          case rel => exact ⟨1, by omega, by go_num, HB.out.gr (by (try show Gr _ _); repeat (with_reducible first | exact Gr.refl _ | refine Gr.drewN ?_ _ | refine Gr.grew ?_ _ _ | refine Gr.alloc ?_ _ | refine Gr.drew ?_)), Hg.out.trans (by (try show Gr _ _); repeat (with_reducible first | exact Gr.refl _ | refine Gr.drewN ?_ _ | refine Gr.grew ?_ _ _ | refine Gr.alloc ?_ _ | refine Gr.drew ?_))⟩
          case measure => simp [intOf]; omega
        · obtain ⟨r2, hc2, hr2⟩ := FL.out.get j (by omega)
          have t2 := HL.out.2.2 (j + 1) (by omega) hlt
          rw [show j + 1 - 1 = j by omega] at t2
          generalize ls.getD (j + 1) 0 = v at *
          generalize ls.getD j 0 = v2 at *
          go_wp2
          apply region_drew 21
          case hm => kernel_rfl
          case hB => kernel_rfl
          simp only [List.take_succ_cons, List.take_zero, List.drop_succ_cons, List.drop_zero]
          repeat (first
            | ((with_reducible apply wpSoft_calleq (f := 115)); (case hw => rfl); (case hc => exact Try.call115); (case hv => ((conv => lhs; simp [Act.eval]); try rfl)); (case hS => (rintro _ ⟨m, rfl⟩; with_reducible refine (S_l01Finite _ _ _ (by assumption)).mono ?_; rintro e w' ⟨rfl, n, rfl⟩; exact ⟨rfl, ⟨_, World.drewN_drewN _ _ _⟩⟩)); (simp only [Act.put, List.setIfInBounds_toArray, List.set_cons_succ, List.set_cons_zero]; try simp only [t1]))
            | (apply wpSoft_skip rfl; simp only [Act.put, List.setIfInBounds_toArray, List.set_cons_succ, List.set_cons_zero])
            | (apply wpSoft_nilCheck rfl rfl; simp only [Act.put, List.setIfInBounds_toArray, List.set_cons_succ, List.set_cons_zero])
            | ((with_reducible apply wpSoft_fop); (case hw => rfl); (case hD => exact closed_drew); (case hop => rfl); (case hx => rfl); (case hy => rfl); (case hA => (first | assumption | exact FE.ofInt _ _ | exact FE.lit (by decide +kernel))); (case hB => (first | assumption | exact FE.ofInt _ _ | exact FE.lit (by decide +kernel))); (intro r hr; simp only [Act.put, List.setIfInBounds_toArray, List.set_cons_succ, List.set_cons_zero]))

            | ((with_reducible apply wpSoft_widen); (case hw => rfl); (case hD => exact closed_drew); (case hs => exact Try.underlying42); (case hd => exact Try.underlying84); (case hx => rfl); (case hA => (first | assumption | exact FE.ofInt _ _ | exact FE.lit (by decide +kernel))); (intro r hr; simp only [Act.put, List.setIfInBounds_toArray, List.set_cons_succ, List.set_cons_zero]))
            | ((with_reducible apply wpSoft_fneg); (case hw => rfl); (case hx => rfl); (case hA => (first | assumption | exact FE.ofInt _ _ | exact FE.lit (by decide +kernel))); (intro r hr; simp only [Act.put, List.setIfInBounds_toArray, List.set_cons_succ, List.set_cons_zero]))
            | ((with_reducible apply wpSoft_fcmp); (case hw => rfl); (case hop => rfl); (case hx => rfl); (case hy => rfl); (case hA => (first | assumption | exact FE.ofInt _ _ | exact FE.lit (by decide +kernel))); (case hB => (first | assumption | exact FE.ofInt _ _ | exact FE.lit (by decide +kernel))); (case hb => (first | assumption | rfl)); simp only [Act.put, List.setIfInBounds_toArray, List.set_cons_succ, List.set_cons_zero])
            | (apply wpSoft_q rfl rfl; intro K hK; go_big_quiet_op; go_big_quiet_on))
          with_reducible apply wpSoft_nil
          intro m
          go_wp2
          go_roundw
          case rel => exact ⟨j + 1 + 1, by omega, by go_num, HB.out.gr (by (try show Gr _ _); repeat (with_reducible first | exact Gr.refl _ | refine Gr.drewN ?_ _ | refine Gr.grew ?_ _ _ | refine Gr.alloc ?_ _ | refine Gr.drew ?_)), Hg.out.trans (by (try show Gr _ _); repeat (with_reducible first | exact Gr.refl _ | refine Gr.drewN ?_ _ | refine Gr.grew ?_ _ _ | refine Gr.alloc ?_ _ | refine Gr.drew ?_))⟩
          case measure => simp [intOf]; omega
      · obtain rfl : k = ls.length := by omega
        have Hg := Lib.hid hg
        have HB := Lib.hid hB
        clear hg hB
        have hb2 := HB.out.cellv 2
        have hcm := run_make_ints (ls.length + 1) (by omega)
        rw [show ((ls.length + 1 : Nat) : Int) = (ls.length : Int) + 1 by omega] at hcm
        have HS := HB.out.lt
        obtain ⟨gg, hgg⟩ : ∃ gg, gg = wr.heap.size := ⟨_, rfl⟩
        have IO := Lib.hid (fun (u : World) (h : w.heap.size + 1 ≤ u.heap.size) => IOwn.made (w := u) (B := w.heap.size + 1) (e := 2) (ls.length + 1) h (by unfold maxLen; omega))
        go_wp2_with (simp only [hcm])
        rw [← hgg]
        go_loopw [52] (fun i wz => ∃ k : Nat, k ≤ xs.length ∧ i = .int .i64 k ∧ IOwn wz (w.heap.size + 1) 2 (.slice (some ⟨gg, 0, none⟩) (ls.length + 1) (ls.length + 1)) (gCnt ls xs k) ∧ Blk wz w.heap.size [.int .i64 W, .int .i64 H, .slice a xs.length ca] 29 ∧ Gr w wz) (fun i _ => xs.length - (intOf i).toNat)
        case atStart => exact ⟨0, Nat.zero_le _, rfl, by
          rw [hgg]; exact IO.out wr (by omega), HB.out.gr (by (try show Gr _ _); repeat (with_reducible first | exact Gr.refl _ | refine Gr.drewN ?_ _ | refine Gr.grew ?_ _ _ | refine Gr.alloc ?_ _ | refine Gr.drew ?_)), Hg.out.trans (by (try show Gr _ _); repeat (with_reducible first | exact Gr.refl _ | refine Gr.drewN ?_ _ | refine Gr.grew ?_ _ _ | refine Gr.alloc ?_ _ | refine Gr.drew ?_))⟩
        case round =>
          rw [← hgg] at HS
          clear hb2 hcm IO HB hgg
          obtain ⟨k, hk, rfl, ho, hB, hgz⟩ := hrel
          by_cases hlt : k < xs.length
          · obtain ⟨bx, ox, rfl⟩ := Fx.out.ptr (by omega)
            obtain ⟨r, hc, hr⟩ := (Fx.out.keep hgz.kp).get k hlt
            have FL := Lib.hid (Fl.out.keep hgz.kp)
            have hb2 := hB.cellv 2
            have HG := Lib.hid (show gCnt ls xs (k + 1) = if gHole (xs.getD k 0) then gCnt ls xs k else (gCnt ls xs k).set (gSlot ls (xs.getD k 0)) ((gCnt ls xs k).getD (gSlot ls (xs.getD k 0)) 0 + 1) from rfl)
            have HBz := Lib.hid hB
            have Hgz := Lib.hid hgz
            have Ho := Lib.hid ho
            clear hB hgz ho
            generalize hv : xs.getD k 0 = v at *
            clear hv
            cases t1 : gHole v
            · have sl := gSlot_le ls v
              have HSl := Lib.hid (fun q h1 h2 h3 => slot_of (fun l => fcmp .geq .f32 v l) ls q h1 h2 h3)
              go_wp2_with (first
      | (go_at_call 109; with_reducible refine (S_l05Hole _ _ _ hr).mono ?_; rintro e w' ⟨rfl, n, rfl⟩; rw [t1]))
              go_loopw [9] (fun i u => ∃ q : Nat, q ≤ ls.length ∧ i = .int .i64 q ∧ Hid (∀ j, j < q → fcmp .geq .f32 v (ls.getD j 0) = true) ∧ ∃ n, u = wr.drewN n) (fun i _ => ls.length - (intOf i).toNat)
              case atStart => exact ⟨0, Nat.zero_le _, rfl, fun j h => by omega, (by first | exact ⟨0, rfl⟩ | exact ⟨_, rfl⟩)⟩
              case round =>
                obtain ⟨q, hq, rfl, hQ, n', rfl⟩ := hrel
                by_cases hqt : q < ls.length
                · obtain ⟨bl, ol, rfl⟩ := FL.out.ptr (by omega)
                  obtain ⟨rl, hcl, hrl⟩ := FL.out.get q hqt
                  cases t2 : fcmp .geq .f32 v (ls.getD q 0)
                  · have ES := Lib.hid (HSl.out q hq hQ (fun _ => t2))
                    have hS1 := Ho.out.get q (by rw [gCnt_length]; omega)
                    have hS2 := Ho.out.free q
                    obtain ⟨hS3, hS4⟩ := gCnt_range ls xs k q
                    have es : gSlot ls v = q := ES.out
                    rw [es] at HG
                    clear es sl
                    generalize (gCnt ls xs k).getD q 0 = c at *
                    generalize ls.getD q 0 = vl at *
                    go_wp2
                    apply region_drew 15
                    case hm => kernel_rfl
                    case hB => kernel_rfl
                    simp only [List.take_succ_cons, List.take_zero, List.drop_succ_cons, List.drop_zero]
                    repeat (first
                      | (apply wpSoft_skip rfl; simp only [Act.put, List.setIfInBounds_toArray, List.set_cons_succ, List.set_cons_zero])
                      | (apply wpSoft_nilCheck rfl rfl; simp only [Act.put, List.setIfInBounds_toArray, List.set_cons_succ, List.set_cons_zero])
                      | ((with_reducible apply wpSoft_fop); (case hw => rfl); (case hD => exact closed_drew); (case hop => rfl); (case hx => rfl); (case hy => rfl); (case hA => (first | assumption | exact FE.ofInt _ _ | exact FE.lit (by decide +kernel))); (case hB => (first | assumption | exact FE.ofInt _ _ | exact FE.lit (by decide +kernel))); (intro r hr; simp only [Act.put, List.setIfInBounds_toArray, List.set_cons_succ, List.set_cons_zero]))

                      | ((with_reducible apply wpSoft_widen); (case hw => rfl); (case hD => exact closed_drew); (case hs => exact Try.underlying42); (case hd => exact Try.underlying84); (case hx => rfl); (case hA => (first | assumption | exact FE.ofInt _ _ | exact FE.lit (by decide +kernel))); (intro r hr; simp only [Act.put, List.setIfInBounds_toArray, List.set_cons_succ, List.set_cons_zero]))
                      | ((with_reducible apply wpSoft_fneg); (case hw => rfl); (case hx => rfl); (case hA => (first | assumption | exact FE.ofInt _ _ | exact FE.lit (by decide +kernel))); (intro r hr; simp only [Act.put, List.setIfInBounds_toArray, List.set_cons_succ, List.set_cons_zero]))
                      | ((with_reducible apply wpSoft_fcmp); (case hw => rfl); (case hop => rfl); (case hx => rfl); (case hy => rfl); (case hA => (first | assumption | exact FE.ofInt _ _ | exact FE.lit (by decide +kernel))); (case hB => (first | assumption | exact FE.ofInt _ _ | exact FE.lit (by decide +kernel))); (case hb => (first | assumption | rfl)); simp only [Act.put, List.setIfInBounds_toArray, List.set_cons_succ, List.set_cons_zero])
                      | (apply wpSoft_q rfl rfl; intro K hK; go_big_quiet_op; go_big_quiet_on))
                    with_reducible apply wpSoft_nil
                    intro m
                    go_wp2_with (first
      | ((with_reducible apply wpList_fop); (case hw => rfl); (case hop => rfl); (case hx => rfl); (case hy => rfl); (case hA => (first | assumption | exact FE.ofInt _ _ | exact FE.lit (by decide +kernel))); (case hB => (first | assumption | exact FE.ofInt _ _ | exact FE.lit (by decide +kernel))); intro r n hr)
      | ((with_reducible apply wpList_fcmp); (case hw => rfl); (case hop => rfl); (case hx => rfl); (case hy => rfl); (case hA => (first | assumption | exact FE.ofInt _ _ | exact FE.lit (by decide +kernel))); (case hB => (first | assumption | exact FE.ofInt _ _ | exact FE.lit (by decide +kernel))); (case hb => (first | assumption | rfl)))
      | ((with_reducible apply wpList_widen); (case hw => rfl); (case hs => exact Try.underlying42); (case hd => exact Try.underlying84); (case hx => rfl); (case hA => (first | assumption | exact FE.ofInt _ _ | exact FE.lit (by decide +kernel))); intro r n hr)
      | ((with_reducible apply wpList_fneg); (case hw => rfl); (case hx => rfl); (case hA => (first | assumption | exact FE.ofInt _ _ | exact FE.lit (by decide +kernel))); intro r hr))
                    go_roundw
                    case rel => exact ⟨k + 1, by omega, by go_num, by rw [HG.out, t1]; exact (Ho.out.store q (c + 1)).gr (by (try show Gr _ _); repeat (with_reducible first | exact Gr.refl _ | refine Gr.drewN ?_ _ | refine Gr.grew ?_ _ _ | refine Gr.alloc ?_ _ | refine Gr.drew ?_)), (HBz.out.setOther (p := ⟨gg, q, none⟩) _ (by show gg ≠ _; omega)).gr (by (try show Gr _ _); repeat (with_reducible first | exact Gr.refl _ | refine Gr.drewN ?_ _ | refine Gr.grew ?_ _ _ | refine Gr.alloc ?_ _ | refine Gr.drew ?_)), (Hgz.out.setCell (p := ⟨gg, q, none⟩) (by show w.heap.size ≤ gg; omega) _).trans (by (try show Gr _ _); repeat (with_reducible first | exact Gr.refl _ | refine Gr.drewN ?_ _ | refine Gr.grew ?_ _ _ | refine Gr.alloc ?_ _ | refine Gr.drew ?_))⟩
                    case measure => simp [intOf]; omega
                  · have HQ2 := Lib.hid (show ∀ j, j < q + 1 → fcmp .geq .f32 v (ls.getD j 0) = true from fun j h => by
                      rcases Nat.lt_or_ge j q with h' | h'
                      · exact hQ j h'
                      · rw [show j = q by omega]; exact t2)
                    clear hQ
                    generalize ls.getD q 0 = vl at *
                    go_wp2
                    apply region_drew 15
                    case hm => kernel_rfl
                    case hB => kernel_rfl
                    simp only [List.take_succ_cons, List.take_zero, List.drop_succ_cons, List.drop_zero]
                    repeat (first
                      | (apply wpSoft_skip rfl; simp only [Act.put, List.setIfInBounds_toArray, List.set_cons_succ, List.set_cons_zero])
                      | (apply wpSoft_nilCheck rfl rfl; simp only [Act.put, List.setIfInBounds_toArray, List.set_cons_succ, List.set_cons_zero])
                      | ((with_reducible apply wpSoft_fop); (case hw => rfl); (case hD => exact closed_drew); (case hop => rfl); (case hx => rfl); (case hy => rfl); (case hA => (first | assumption | exact FE.ofInt _ _ | exact FE.lit (by decide +kernel))); (case hB => (first | assumption | exact FE.ofInt _ _ | exact FE.lit (by decide +kernel))); (intro r hr; simp only [Act.put, List.setIfInBounds_toArray, List.set_cons_succ, List.set_cons_zero]))

                      | ((with_reducible apply wpSoft_widen); (case hw => rfl); (case hD => exact closed_drew); (case hs => exact Try.underlying42); (case hd => exact Try.underlying84); (case hx => rfl); (case hA => (first | assumption | exact FE.ofInt _ _ | exact FE.lit (by decide +kernel))); (intro r hr; simp only [Act.put, List.setIfInBounds_toArray, List.set_cons_succ, List.set_cons_zero]))
                      | ((with_reducible apply wpSoft_fneg); (case hw => rfl); (case hx => rfl); (case hA => (first | assumption | exact FE.ofInt _ _ | exact FE.lit (by decide +kernel))); (intro r hr; simp only [Act.put, List.setIfInBounds_toArray, List.set_cons_succ, List.set_cons_zero]))
                      | ((with_reducible apply wpSoft_fcmp); (case hw => rfl); (case hop => rfl); (case hx => rfl); (case hy => rfl); (case hA => (first | assumption | exact FE.ofInt _ _ | exact FE.lit (by decide +kernel))); (case hB => (first | assumption | exact FE.ofInt _ _ | exact FE.lit (by decide +kernel))); (case hb => (first | assumption | rfl)); simp only [Act.put, List.setIfInBounds_toArray, List.set_cons_succ, List.set_cons_zero])
                      | (apply wpSoft_q rfl rfl; intro K hK; go_big_quiet_op; go_big_quiet_on))
                    with_reducible apply wpSoft_nil
                    intro m
                    go_wp2_with (first
      | ((with_reducible apply wpList_fop); (case hw => rfl); (case hop => rfl); (case hx => rfl); (case hy => rfl); (case hA => (first | assumption | exact FE.ofInt _ _ | exact FE.lit (by decide +kernel))); (case hB => (first | assumption | exact FE.ofInt _ _ | exact FE.lit (by decide +kernel))); intro r n hr)
      | ((with_reducible apply wpList_fcmp); (case hw => rfl); (case hop => rfl); (case hx => rfl); (case hy => rfl); (case hA => (first | assumption | exact FE.ofInt _ _ | exact FE.lit (by decide +kernel))); (case hB => (first | assumption | exact FE.ofInt _ _ | exact FE.lit (by decide +kernel))); (case hb => (first | assumption | rfl)))
      | ((with_reducible apply wpList_widen); (case hw => rfl); (case hs => exact Try.underlying42); (case hd => exact Try.underlying84); (case hx => rfl); (case hA => (first | assumption | exact FE.ofInt _ _ | exact FE.lit (by decide +kernel))); intro r n hr)
      | ((with_reducible apply wpList_fneg); (case hw => rfl); (case hx => rfl); (case hA => (first | assumption | exact FE.ofInt _ _ | exact FE.lit (by decide +kernel))); intro r hr))
                    go_roundw
                    case rel => exact ⟨q + 1, by omega, by go_num, HQ2.out, (by first | exact ⟨0, rfl⟩ | exact ⟨_, rfl⟩)⟩
                    case measure => simp [intOf]; omega
                · obtain rfl : q = ls.length := by omega
                  have ES := Lib.hid (HSl.out _ hq hQ (fun h => by omega))
                  have hS1 := Ho.out.get ls.length (by rw [gCnt_length]; omega)
                  have hS2 := Ho.out.free ls.length
                  obtain ⟨hS3, hS4⟩ := gCnt_range ls xs k ls.length
                  have es : gSlot ls v = ls.length := ES.out
                  rw [es] at HG
                  clear es sl
                  generalize (gCnt ls xs k).getD ls.length 0 = c at *
                  go_wp2
                  apply region_drew 15
                  case hm => kernel_rfl
                  case hB => kernel_rfl
                  simp only [List.take_succ_cons, List.take_zero, List.drop_succ_cons, List.drop_zero]
                  repeat (first
                    | (apply wpSoft_skip rfl; simp only [Act.put, List.setIfInBounds_toArray, List.set_cons_succ, List.set_cons_zero])
                    | (apply wpSoft_nilCheck rfl rfl; simp only [Act.put, List.setIfInBounds_toArray, List.set_cons_succ, List.set_cons_zero])
                    | ((with_reducible apply wpSoft_fop); (case hw => rfl); (case hD => exact closed_drew); (case hop => rfl); (case hx => rfl); (case hy => rfl); (case hA => (first | assumption | exact FE.ofInt _ _ | exact FE.lit (by decide +kernel))); (case hB => (first | assumption | exact FE.ofInt _ _ | exact FE.lit (by decide +kernel))); (intro r hr; simp only [Act.put, List.setIfInBounds_toArray, List.set_cons_succ, List.set_cons_zero]))

                    | ((with_reducible apply wpSoft_widen); (case hw => rfl); (case hD => exact closed_drew); (case hs => exact Try.underlying42); (case hd => exact Try.underlying84); (case hx => rfl); (case hA => (first | assumption | exact FE.ofInt _ _ | exact FE.lit (by decide +kernel))); (intro r hr; simp only [Act.put, List.setIfInBounds_toArray, List.set_cons_succ, List.set_cons_zero]))
                    | ((with_reducible apply wpSoft_fneg); (case hw => rfl); (case hx => rfl); (case hA => (first | assumption | exact FE.ofInt _ _ | exact FE.lit (by decide +kernel))); (intro r hr; simp only [Act.put, List.setIfInBounds_toArray, List.set_cons_succ, List.set_cons_zero]))
                    | ((with_reducible apply wpSoft_fcmp); (case hw => rfl); (case hop => rfl); (case hx => rfl); (case hy => rfl); (case hA => (first | assumption | exact FE.ofInt _ _ | exact FE.lit (by decide +kernel))); (case hB => (first | assumption | exact FE.ofInt _ _ | exact FE.lit (by decide +kernel))); (case hb => (first | assumption | rfl)); simp only [Act.put, List.setIfInBounds_toArray, List.set_cons_succ, List.set_cons_zero])
                    | (apply wpSoft_q rfl rfl; intro K hK; go_big_quiet_op; go_big_quiet_on))
                  with_reducible apply wpSoft_nil
                  intro m
                  go_wp2_with (first
      | ((with_reducible apply wpList_fop); (case hw => rfl); (case hop => rfl); (case hx => rfl); (case hy => rfl); (case hA => (first | assumption | exact FE.ofInt _ _ | exact FE.lit (by decide +kernel))); (case hB => (first | assumption | exact FE.ofInt _ _ | exact FE.lit (by decide +kernel))); intro r n hr)
      | ((with_reducible apply wpList_fcmp); (case hw => rfl); (case hop => rfl); (case hx => rfl); (case hy => rfl); (case hA => (first | assumption | exact FE.ofInt _ _ | exact FE.lit (by decide +kernel))); (case hB => (first | assumption | exact FE.ofInt _ _ | exact FE.lit (by decide +kernel))); (case hb => (first | assumption | rfl)))
      | ((with_reducible apply wpList_widen); (case hw => rfl); (case hs => exact Try.underlying42); (case hd => exact Try.underlying84); (case hx => rfl); (case hA => (first | assumption | exact FE.ofInt _ _ | exact FE.lit (by decide +kernel))); intro r n hr)
      | ((with_reducible apply wpList_fneg); (case hw => rfl); (case hx => rfl); (case hA => (first | assumption | exact FE.ofInt _ _ | exact FE.lit (by decide +kernel))); intro r hr))
                  go_roundw
                  case rel => exact ⟨k + 1, by omega, by go_num, by rw [HG.out, t1]; exact (Ho.out.store _ (c + 1)).gr (by (try show Gr _ _); repeat (with_reducible first | exact Gr.refl _ | refine Gr.drewN ?_ _ | refine Gr.grew ?_ _ _ | refine Gr.alloc ?_ _ | refine Gr.drew ?_)), (HBz.out.setOther (p := ⟨gg, ls.length, none⟩) _ (by show gg ≠ _; omega)).gr (by (try show Gr _ _); repeat (with_reducible first | exact Gr.refl _ | refine Gr.drewN ?_ _ | refine Gr.grew ?_ _ _ | refine Gr.alloc ?_ _ | refine Gr.drew ?_)), (Hgz.out.setCell (p := ⟨gg, ls.length, none⟩) (by show w.heap.size ≤ gg; omega) _).trans (by (try show Gr _ _); repeat (with_reducible first | exact Gr.refl _ | refine Gr.drewN ?_ _ | refine Gr.grew ?_ _ _ | refine Gr.alloc ?_ _ | refine Gr.drew ?_))⟩
                  case measure => simp [intOf]; omega
            · go_wp2_with (first
      | (go_at_call 109; with_reducible refine (S_l05Hole _ _ _ hr).mono ?_; rintro e w' ⟨rfl, n, rfl⟩; rw [t1]))
              go_roundw
              case rel => exact ⟨k + 1, by omega, by go_num, by rw [HG.out, t1]; exact Ho.out.gr (by (try show Gr _ _); repeat (with_reducible first | exact Gr.refl _ | refine Gr.drewN ?_ _ | refine Gr.grew ?_ _ _ | refine Gr.alloc ?_ _ | refine Gr.drew ?_)), HBz.out.gr (by (try show Gr _ _); repeat (with_reducible first | exact Gr.refl _ | refine Gr.drewN ?_ _ | refine Gr.grew ?_ _ _ | refine Gr.alloc ?_ _ | refine Gr.drew ?_)), Hgz.out.trans (by (try show Gr _ _); repeat (with_reducible first | exact Gr.refl _ | refine Gr.drewN ?_ _ | refine Gr.grew ?_ _ _ | refine Gr.alloc ?_ _ | refine Gr.drew ?_))⟩
              case measure => simp [intOf]; omega
          · obtain rfl : k = xs.length := by omega
            have Ho := Lib.hid ho
            have Hgz := Lib.hid hgz
            clear ho hB hgz
            go_wp2
            exact bodyPost_ret (v := .tuple #[_, .bool true]) (by simp [results, Try.results45, go_sem]; rfl) rfl ⟨⟨_, rfl, by simpa using Ho.out.base (B' := w.heap.size) (by omega)⟩, Hgz.out⟩
set_option maxRecDepth 20000 in
set_option maxHeartbeats 400000 in
theorem I_listOk (b : Option Addr) (n cb : Nat) (w : World) (hn : n ≤ 1048576) :
    Calls Try.prog 116 #[.slice b n cb] w fun e w' => e = .returned (.bool (decide (n ≤ 256))) ∧ w' = w := by
  by_cases h : n ≤ 256
  all_goals
    go_enter Try.func116, Try.ntmps116
    go_wp2
    go_ret
    exact ⟨by simp [h] <;> omega, rfl⟩
set_option maxRecDepth 20000 in
set_option maxHeartbeats 4000000 in
theorem I_CountValues (W H : Int) (a b : Option Addr) (ca cb : Nat) (xs ls : List Nat) (w : World) (fx : FSl w a xs.length xs) (fl : FSl w b ls.length ls) (hn : xs.length ≤ 1048576) (hm : ls.length ≤ 1048576) :
    Calls Try.prog 47 #[.agg #[.int .i64 W, .int .i64 H, .slice a xs.length ca], .slice b ls.length cb] w
      (PostI w (gPic W H xs.length && gLims ls) (if gPic W H xs.length && gLims ls then gCnt ls xs xs.length else [])) := by
  have hn' : xs.length ≤ maxLen := by unfold maxLen; omega
  have Fx := Lib.hid fx
  have Fl := Lib.hid fl
  clear fx fl
  cases hT : gPic W H xs.length
  · go_enter Try.func47, Try.ntmps47
    go_wp2_with (first
      | (go_at_call 72; with_reducible refine (I_ValidMap _ _ _ _ _ _ hn').mono ?_; rintro e w' ⟨rfl, os, m, rfl⟩; rw [hT]))
    exact bodyPost_ret (v := .tuple #[.slice none 0 0, .bool false]) (by simp [results, Try.results47, go_sem]) rfl ⟨⟨_, rfl, IOwn.nil _ _ _⟩, (by (try show Gr _ _); repeat (with_reducible first | exact Gr.refl _ | refine Gr.drewN ?_ _ | refine Gr.grew ?_ _ _ | refine Gr.alloc ?_ _ | refine Gr.drew ?_))⟩
  cases hL : gLims ls
  · by_cases h256 : ls.length ≤ 256
    · have e256 : decide (ls.length ≤ 256) = true := decide_eq_true h256
      cases hF : gFinAll ls
      · clear hL
        go_enter Try.func47, Try.ntmps47
        go_wp2_with (first
      | (go_at_call 72; with_reducible refine (I_ValidMap _ _ _ _ _ _ hn').mono ?_; rintro e w' ⟨rfl, os, m, rfl⟩; rw [hT])
      | (go_at_call 116; refine (I_listOk _ _ _ _ (by omega)).mono ?_; rintro e w' ⟨rfl, rfl⟩)
      | (go_at_call 117; refine (I_finite _ _ _ ls _ (Fl.out.keep (by (repeat (with_reducible first | exact Kp.refl _ | exact kp_same | exact kp_app1 | exact kp_app2 | exact kp_app3 | refine Kp.grew ?_ _ _ | refine Kp.drewN ?_ _ | refine Kp.drew ?_ | refine Kp.alloc ?_ _)))) (by unfold maxLen; omega)).mono ?_; rintro e w' ⟨rfl, os2, m2, rfl⟩; rw [hF]))
        exact bodyPost_ret (v := .tuple #[.slice none 0 0, .bool false]) (by simp [results, Try.results47, go_sem]) rfl ⟨⟨_, rfl, IOwn.nil _ _ _⟩, (by (try show Gr _ _); repeat (with_reducible first | exact Gr.refl _ | refine Gr.drewN ?_ _ | refine Gr.grew ?_ _ _ | refine Gr.alloc ?_ _ | refine Gr.drew ?_))⟩
      · have HL := Lib.hid (fun h => Bool.false_ne_true (hL.symm.trans ((gLims_iff ls).2 ⟨h256, (gFinAll_iff ls).1 hF, h⟩)))
        clear hL
        go_enter Try.func47, Try.ntmps47
        go_wp2_with (first
      | (go_at_call 72; with_reducible refine (I_ValidMap _ _ _ _ _ _ hn').mono ?_; rintro e w' ⟨rfl, os, m, rfl⟩; rw [hT])
      | (go_at_call 116; refine (I_listOk _ _ _ _ (by omega)).mono ?_; rintro e w' ⟨rfl, rfl⟩)
      | (go_at_call 117; refine (I_finite _ _ _ ls _ (Fl.out.keep (by (repeat (with_reducible first | exact Kp.refl _ | exact kp_same | exact kp_app1 | exact kp_app2 | exact kp_app3 | refine Kp.grew ?_ _ _ | refine Kp.drewN ?_ _ | refine Kp.drew ?_ | refine Kp.alloc ?_ _)))) (by unfold maxLen; omega)).mono ?_; rintro e w' ⟨rfl, os2, m2, rfl⟩; rw [hF]))
        go_loopw [6] (fun i wr => ∃ k : Nat, k ≤ ls.length ∧ i = .int .i64 ((k : Int) + 1) ∧ Hid (∀ j, 0 < j → j < k + 1 → fcmp .geq .f32 (ls.getD (j - 1) 0) (ls.getD j 0) = false) ∧ Gr w wr) (fun i _ => ls.length - (intOf i).toNat)
        case atStart => exact ⟨0, Nat.zero_le _, by go_num, (fun j h0 h => by omega), (by (try show Gr _ _); repeat (with_reducible first | exact Gr.refl _ | refine Gr.drewN ?_ _ | refine Gr.grew ?_ _ _ | refine Gr.alloc ?_ _ | refine Gr.drew ?_))⟩
        case round =>
          obtain ⟨j, hk, rfl, hP, hg⟩ := hrel
          by_cases hlt : j + 1 < ls.length
          · obtain ⟨bl, ol, rfl⟩ := Fl.out.ptr (by omega)
            obtain ⟨r, hc, hr⟩ := (Fl.out.keep hg.kp).get (j + 1) hlt
            obtain ⟨r2, hc2, hr2⟩ := (Fl.out.keep hg.kp).get j (by omega)
            have Hg := Lib.hid hg
            clear hg
            cases t2 : fcmp .geq .f32 (ls.getD j 0) (ls.getD (j + 1) 0)
            · have HP2 := Lib.hid (show ∀ i, 0 < i → i < j + 1 + 1 → fcmp .geq .f32 (ls.getD (i - 1) 0) (ls.getD i 0) = false from fun i h0 h => by
                rcases Nat.lt_or_ge i (j + 1) with h' | h'
                · exact hP i h0 h'
                · rw [show i = j + 1 by omega]; exact t2)
              clear hP
              generalize ls.getD (j + 1) 0 = v at *
              generalize ls.getD j 0 = v2 at *
              go_wp2
              apply region_drew 9
              case hm => kernel_rfl
              case hB => kernel_rfl
              simp only [List.take_succ_cons, List.take_zero, List.drop_succ_cons, List.drop_zero]
              repeat (first
                | (apply wpSoft_skip rfl; simp only [Act.put, List.setIfInBounds_toArray, List.set_cons_succ, List.set_cons_zero])
                | (apply wpSoft_nilCheck rfl rfl; simp only [Act.put, List.setIfInBounds_toArray, List.set_cons_succ, List.set_cons_zero])
                | ((with_reducible apply wpSoft_fop); (case hw => rfl); (case hD => exact closed_drew); (case hop => rfl); (case hx => rfl); (case hy => rfl); (case hA => (first | assumption | exact FE.ofInt _ _ | exact FE.lit (by decide +kernel))); (case hB => (first | assumption | exact FE.ofInt _ _ | exact FE.lit (by decide +kernel))); (intro r hr; simp only [Act.put, List.setIfInBounds_toArray, List.set_cons_succ, List.set_cons_zero]))

                | ((with_reducible apply wpSoft_widen); (case hw => rfl); (case hD => exact closed_drew); (case hs => exact Try.underlying42); (case hd => exact Try.underlying84); (case hx => rfl); (case hA => (first | assumption | exact FE.ofInt _ _ | exact FE.lit (by decide +kernel))); (intro r hr; simp only [Act.put, List.setIfInBounds_toArray, List.set_cons_succ, List.set_cons_zero]))
                | ((with_reducible apply wpSoft_fneg); (case hw => rfl); (case hx => rfl); (case hA => (first | assumption | exact FE.ofInt _ _ | exact FE.lit (by decide +kernel))); (intro r hr; simp only [Act.put, List.setIfInBounds_toArray, List.set_cons_succ, List.set_cons_zero]))
                | ((with_reducible apply wpSoft_fcmp); (case hw => rfl); (case hop => rfl); (case hx => rfl); (case hy => rfl); (case hA => (first | assumption | exact FE.ofInt _ _ | exact FE.lit (by decide +kernel))); (case hB => (first | assumption | exact FE.ofInt _ _ | exact FE.lit (by decide +kernel))); (case hb => (first | assumption | rfl)); simp only [Act.put, List.setIfInBounds_toArray, List.set_cons_succ, List.set_cons_zero])
                | (apply wpSoft_q rfl rfl; intro K hK; go_big_quiet_op; go_big_quiet_on))
              with_reducible apply wpSoft_nil
              intro m
              go_wp2_with (first
      | ((with_reducible apply wpList_fop); (case hw => rfl); (case hop => rfl); (case hx => rfl); (case hy => rfl); (case hA => (first | assumption | exact FE.ofInt _ _ | exact FE.lit (by decide +kernel))); (case hB => (first | assumption | exact FE.ofInt _ _ | exact FE.lit (by decide +kernel))); intro r n hr)
      | ((with_reducible apply wpList_fcmp); (case hw => rfl); (case hop => rfl); (case hx => rfl); (case hy => rfl); (case hA => (first | assumption | exact FE.ofInt _ _ | exact FE.lit (by decide +kernel))); (case hB => (first | assumption | exact FE.ofInt _ _ | exact FE.lit (by decide +kernel))); (case hb => (first | assumption | rfl)))
      | ((with_reducible apply wpList_widen); (case hw => rfl); (case hs => exact Try.underlying42); (case hd => exact Try.underlying84); (case hx => rfl); (case hA => (first | assumption | exact FE.ofInt _ _ | exact FE.lit (by decide +kernel))); intro r n hr)
      | ((with_reducible apply wpList_fneg); (case hw => rfl); (case hx => rfl); (case hA => (first | assumption | exact FE.ofInt _ _ | exact FE.lit (by decide +kernel))); intro r hr))
              go_roundw
              case rel => exact ⟨j + 1, by omega, by go_num, HP2.out, Hg.out.trans (by (try show Gr _ _); repeat (with_reducible first | exact Gr.refl _ | refine Gr.drewN ?_ _ | refine Gr.grew ?_ _ _ | refine Gr.alloc ?_ _ | refine Gr.drew ?_))⟩
              case measure => simp [intOf]; omega
            · clear hP
              generalize ls.getD (j + 1) 0 = v at *
              generalize ls.getD j 0 = v2 at *
              go_wp2
              apply region_drew 9
              case hm => kernel_rfl
              case hB => kernel_rfl
              simp only [List.take_succ_cons, List.take_zero, List.drop_succ_cons, List.drop_zero]
              repeat (first
                | (apply wpSoft_skip rfl; simp only [Act.put, List.setIfInBounds_toArray, List.set_cons_succ, List.set_cons_zero])
                | (apply wpSoft_nilCheck rfl rfl; simp only [Act.put, List.setIfInBounds_toArray, List.set_cons_succ, List.set_cons_zero])
                | ((with_reducible apply wpSoft_fop); (case hw => rfl); (case hD => exact closed_drew); (case hop => rfl); (case hx => rfl); (case hy => rfl); (case hA => (first | assumption | exact FE.ofInt _ _ | exact FE.lit (by decide +kernel))); (case hB => (first | assumption | exact FE.ofInt _ _ | exact FE.lit (by decide +kernel))); (intro r hr; simp only [Act.put, List.setIfInBounds_toArray, List.set_cons_succ, List.set_cons_zero]))

                | ((with_reducible apply wpSoft_widen); (case hw => rfl); (case hD => exact closed_drew); (case hs => exact Try.underlying42); (case hd => exact Try.underlying84); (case hx => rfl); (case hA => (first | assumption | exact FE.ofInt _ _ | exact FE.lit (by decide +kernel))); (intro r hr; simp only [Act.put, List.setIfInBounds_toArray, List.set_cons_succ, List.set_cons_zero]))
                | ((with_reducible apply wpSoft_fneg); (case hw => rfl); (case hx => rfl); (case hA => (first | assumption | exact FE.ofInt _ _ | exact FE.lit (by decide +kernel))); (intro r hr; simp only [Act.put, List.setIfInBounds_toArray, List.set_cons_succ, List.set_cons_zero]))
                | ((with_reducible apply wpSoft_fcmp); (case hw => rfl); (case hop => rfl); (case hx => rfl); (case hy => rfl); (case hA => (first | assumption | exact FE.ofInt _ _ | exact FE.lit (by decide +kernel))); (case hB => (first | assumption | exact FE.ofInt _ _ | exact FE.lit (by decide +kernel))); (case hb => (first | assumption | rfl)); simp only [Act.put, List.setIfInBounds_toArray, List.set_cons_succ, List.set_cons_zero])
                | (apply wpSoft_q rfl rfl; intro K hK; go_big_quiet_op; go_big_quiet_on))
              with_reducible apply wpSoft_nil
              intro m
              go_wp2_with (first
      | ((with_reducible apply wpList_fop); (case hw => rfl); (case hop => rfl); (case hx => rfl); (case hy => rfl); (case hA => (first | assumption | exact FE.ofInt _ _ | exact FE.lit (by decide +kernel))); (case hB => (first | assumption | exact FE.ofInt _ _ | exact FE.lit (by decide +kernel))); intro r n hr)
      | ((with_reducible apply wpList_fcmp); (case hw => rfl); (case hop => rfl); (case hx => rfl); (case hy => rfl); (case hA => (first | assumption | exact FE.ofInt _ _ | exact FE.lit (by decide +kernel))); (case hB => (first | assumption | exact FE.ofInt _ _ | exact FE.lit (by decide +kernel))); (case hb => (first | assumption | rfl)))
      | ((with_reducible apply wpList_widen); (case hw => rfl); (case hs => exact Try.underlying42); (case hd => exact Try.underlying84); (case hx => rfl); (case hA => (first | assumption | exact FE.ofInt _ _ | exact FE.lit (by decide +kernel))); intro r n hr)
      | ((with_reducible apply wpList_fneg); (case hw => rfl); (case hx => rfl); (case hA => (first | assumption | exact FE.ofInt _ _ | exact FE.lit (by decide +kernel))); intro r hr))
              exact bodyPost_ret (v := .tuple #[.slice none 0 0, .bool false]) (by simp [results, Try.results47, go_sem]) rfl ⟨⟨_, rfl, IOwn.nil _ _ _⟩, Hg.out.trans (by (try show Gr _ _); repeat (with_reducible first | exact Gr.refl _ | refine Gr.drewN ?_ _ | refine Gr.grew ?_ _ _ | refine Gr.alloc ?_ _ | refine Gr.drew ?_))⟩
          · exact (HL.out fun j h0 h => hP j h0 (by omega)).elim
    · have e256 : decide (ls.length ≤ 256) = false := decide_eq_false h256
      have hF : True := trivial
      go_enter Try.func47, Try.ntmps47
      go_wp2_with (first
      | (go_at_call 72; with_reducible refine (I_ValidMap _ _ _ _ _ _ hn').mono ?_; rintro e w' ⟨rfl, os, m, rfl⟩; rw [hT])
      | (go_at_call 116; refine (I_listOk _ _ _ _ (by omega)).mono ?_; rintro e w' ⟨rfl, rfl⟩))
      exact bodyPost_ret (v := .tuple #[.slice none 0 0, .bool false]) (by simp [results, Try.results47, go_sem]) rfl ⟨⟨_, rfl, IOwn.nil _ _ _⟩, (by (try show Gr _ _); repeat (with_reducible first | exact Gr.refl _ | refine Gr.drewN ?_ _ | refine Gr.grew ?_ _ _ | refine Gr.alloc ?_ _ | refine Gr.drew ?_))⟩
  · have h3 := (gLims_iff ls).1 hL
    have h256 := h3.1
    have hF := (gFinAll_iff ls).2 h3.2.1
    have HL := Lib.hid h3
    have hpos : 0 < xs.length := by
      have hp1 := (gPic_true hT).2
      obtain ⟨s1, s2, s3, s4, s5, s6⟩ := gSize_true (gPic_true hT).1
      omega
    clear h3 hL
    simp only [Bool.and_self, if_true]
    go_enter Try.func47, Try.ntmps47
    go_wp2_with (first
      | (go_at_call 72; with_reducible refine (I_ValidMap _ _ _ _ _ _ hn').mono ?_; rintro e w' ⟨rfl, os, m, rfl⟩; rw [hT])
      | (go_at_call 116; refine (I_listOk _ _ _ _ (by omega)).mono ?_; rintro e w' ⟨rfl, rfl⟩)
      | (go_at_call 117; refine (I_finite _ _ _ ls _ (Fl.out.keep (by (repeat (with_reducible first | exact Kp.refl _ | exact kp_same | exact kp_app1 | exact kp_app2 | exact kp_app3 | refine Kp.grew ?_ _ _ | refine Kp.drewN ?_ _ | refine Kp.drew ?_ | refine Kp.alloc ?_ _)))) (by unfold maxLen; omega)).mono ?_; rintro e w' ⟨rfl, os2, m2, rfl⟩; rw [hF]))
    go_loopw [6] (fun i wr => ∃ k : Nat, k ≤ ls.length ∧ i = .int .i64 ((k : Int) + 1) ∧ Blk wr w.heap.size [.int .i64 W, .int .i64 H, .slice a xs.length ca] 29 ∧ Gr w wr) (fun i _ => ls.length - (intOf i).toNat)
    case atStart => exact ⟨0, Nat.zero_le _, by go_num, (by repeat (with_reducible first | assumption | exact Blk.atNew (by simp) | refine Blk.alloc ?_ _ | refine Blk.grew ?_ _ _ | refine Blk.drewN ?_ _ | refine Blk.drew ?_)), (by (try show Gr _ _); repeat (with_reducible first | exact Gr.refl _ | refine Gr.drewN ?_ _ | refine Gr.grew ?_ _ _ | refine Gr.alloc ?_ _ | refine Gr.drew ?_))⟩
    case round =>
      obtain ⟨j, hk, rfl, hP, hg⟩ := hrel
      by_cases hlt : j + 1 < ls.length
      · obtain ⟨bl, ol, rfl⟩ := Fl.out.ptr (by omega)
        obtain ⟨r, hc, hr⟩ := (Fl.out.keep hg.kp).get (j + 1) hlt
        obtain ⟨r2, hc2, hr2⟩ := (Fl.out.keep hg.kp).get j (by omega)
        have Hg := Lib.hid hg
        clear hg
        have HB := Lib.hid hP
        have t2 := HL.out.2.2 (j + 1) (by omega) hlt
        rw [show j + 1 - 1 = j by omega] at t2
        clear hP
        generalize ls.getD (j + 1) 0 = v at *
        generalize ls.getD j 0 = v2 at *
        go_wp2
        apply region_drew 9
        case hm => kernel_rfl
        case hB => kernel_rfl
        simp only [List.take_succ_cons, List.take_zero, List.drop_succ_cons, List.drop_zero]
        repeat (first
          | (apply wpSoft_skip rfl; simp only [Act.put, List.setIfInBounds_toArray, List.set_cons_succ, List.set_cons_zero])
          | (apply wpSoft_nilCheck rfl rfl; simp only [Act.put, List.setIfInBounds_toArray, List.set_cons_succ, List.set_cons_zero])
          | ((with_reducible apply wpSoft_fop); (case hw => rfl); (case hD => exact closed_drew); (case hop => rfl); (case hx => rfl); (case hy => rfl); (case hA => (first | assumption | exact FE.ofInt _ _ | exact FE.lit (by decide +kernel))); (case hB => (first | assumption | exact FE.ofInt _ _ | exact FE.lit (by decide +kernel))); (intro r hr; simp only [Act.put, List.setIfInBounds_toArray, List.set_cons_succ, List.set_cons_zero]))

          | ((with_reducible apply wpSoft_widen); (case hw => rfl); (case hD => exact closed_drew); (case hs => exact Try.underlying42); (case hd => exact Try.underlying84); (case hx => rfl); (case hA => (first | assumption | exact FE.ofInt _ _ | exact FE.lit (by decide +kernel))); (intro r hr; simp only [Act.put, List.setIfInBounds_toArray, List.set_cons_succ, List.set_cons_zero]))
          | ((with_reducible apply wpSoft_fneg); (case hw => rfl); (case hx => rfl); (case hA => (first | assumption | exact FE.ofInt _ _ | exact FE.lit (by decide +kernel))); (intro r hr; simp only [Act.put, List.setIfInBounds_toArray, List.set_cons_succ, List.set_cons_zero]))
          | ((with_reducible apply wpSoft_fcmp); (case hw => rfl); (case hop => rfl); (case hx => rfl); (case hy => rfl); (case hA => (first | assumption | exact FE.ofInt _ _ | exact FE.lit (by decide +kernel))); (case hB => (first | assumption | exact FE.ofInt _ _ | exact FE.lit (by decide +kernel))); (case hb => (first | assumption | rfl)); simp only [Act.put, List.setIfInBounds_toArray, List.set_cons_succ, List.set_cons_zero])
          | (apply wpSoft_q rfl rfl; intro K hK; go_big_quiet_op; go_big_quiet_on))
        with_reducible apply wpSoft_nil
        intro m
        go_wp2_with (first
      | ((with_reducible apply wpList_fop); (case hw => rfl); (case hop => rfl); (case hx => rfl); (case hy => rfl); (case hA => (first | assumption | exact FE.ofInt _ _ | exact FE.lit (by decide +kernel))); (case hB => (first | assumption | exact FE.ofInt _ _ | exact FE.lit (by decide +kernel))); intro r n hr)
      | ((with_reducible apply wpList_fcmp); (case hw => rfl); (case hop => rfl); (case hx => rfl); (case hy => rfl); (case hA => (first | assumption | exact FE.ofInt _ _ | exact FE.lit (by decide +kernel))); (case hB => (first | assumption | exact FE.ofInt _ _ | exact FE.lit (by decide +kernel))); (case hb => (first | assumption | rfl)))
      | ((with_reducible apply wpList_widen); (case hw => rfl); (case hs => exact Try.underlying42); (case hd => exact Try.underlying84); (case hx => rfl); (case hA => (first | assumption | exact FE.ofInt _ _ | exact FE.lit (by decide +kernel))); intro r n hr)
      | ((with_reducible apply wpList_fneg); (case hw => rfl); (case hx => rfl); (case hA => (first | assumption | exact FE.ofInt _ _ | exact FE.lit (by decide +kernel))); intro r hr))
        go_roundw
        case rel => exact ⟨j + 1, by omega, by go_num, HB.out.gr (by (try show Gr _ _); repeat (with_reducible first | exact Gr.refl _ | refine Gr.drewN ?_ _ | refine Gr.grew ?_ _ _ | refine Gr.alloc ?_ _ | refine Gr.drew ?_)), Hg.out.trans (by (try show Gr _ _); repeat (with_reducible first | exact Gr.refl _ | refine Gr.drewN ?_ _ | refine Gr.grew ?_ _ _ | refine Gr.alloc ?_ _ | refine Gr.drew ?_))⟩
        case measure => simp [intOf]; omega
      · have hB := hP
        clear hP
        have Hg := Lib.hid hg
        have HB := Lib.hid hB
        clear hg hB
        have hb2 := HB.out.cellv 2
        have hcm := run_make_ints (ls.length + 1) (by omega)
        rw [show ((ls.length + 1 : Nat) : Int) = (ls.length : Int) + 1 by omega] at hcm
        have HS := HB.out.lt
        obtain ⟨gg, hgg⟩ : ∃ gg, gg = wr.heap.size := ⟨_, rfl⟩
        have IO := Lib.hid (fun (u : World) (h : w.heap.size + 1 ≤ u.heap.size) => IOwn.made (w := u) (B := w.heap.size + 1) (e := 2) (ls.length + 1) h (by unfold maxLen; omega))
        go_wp2_with (simp only [hcm])
        rw [← hgg]
        go_loopw [47] (fun i wz => ∃ k : Nat, k ≤ xs.length ∧ i = .int .i64 k ∧ IOwn wz (w.heap.size + 1) 2 (.slice (some ⟨gg, 0, none⟩) (ls.length + 1) (ls.length + 1)) (gCnt ls xs k) ∧ Blk wz w.heap.size [.int .i64 W, .int .i64 H, .slice a xs.length ca] 29 ∧ Gr w wz) (fun i _ => xs.length - (intOf i).toNat)
        case atStart => exact ⟨0, Nat.zero_le _, rfl, by
          rw [hgg]; exact IO.out wr (by omega), HB.out.gr (by (try show Gr _ _); repeat (with_reducible first | exact Gr.refl _ | refine Gr.drewN ?_ _ | refine Gr.grew ?_ _ _ | refine Gr.alloc ?_ _ | refine Gr.drew ?_)), Hg.out.trans (by (try show Gr _ _); repeat (with_reducible first | exact Gr.refl _ | refine Gr.drewN ?_ _ | refine Gr.grew ?_ _ _ | refine Gr.alloc ?_ _ | refine Gr.drew ?_))⟩
        case round =>
          rw [← hgg] at HS
          clear hb2 hcm IO HB hgg
          obtain ⟨k, hk, rfl, ho, hB, hgz⟩ := hrel
          by_cases hlt : k < xs.length
          · obtain ⟨bx, ox, rfl⟩ := Fx.out.ptr (by omega)
            obtain ⟨r, hc, hr⟩ := (Fx.out.keep hgz.kp).get k hlt
            have FL := Lib.hid (Fl.out.keep hgz.kp)
            have hb2 := hB.cellv 2
            have HG := Lib.hid (show gCnt ls xs (k + 1) = if gHole (xs.getD k 0) then gCnt ls xs k else (gCnt ls xs k).set (gSlot ls (xs.getD k 0)) ((gCnt ls xs k).getD (gSlot ls (xs.getD k 0)) 0 + 1) from rfl)
            have HBz := Lib.hid hB
            have Hgz := Lib.hid hgz
            have Ho := Lib.hid ho
            clear hB hgz ho
            generalize hv : xs.getD k 0 = v at *
            clear hv
            cases t1 : gHole v
            · have sl := gSlot_le ls v
              have HSl := Lib.hid (fun q h1 h2 h3 => slot_of (fun l => fcmp .geq .f32 v l) ls q h1 h2 h3)
              go_wp2_with (first
      | (go_at_call 118; with_reducible refine (I_isHole _ _ _ hr).mono ?_; rintro e w' ⟨rfl, n, rfl⟩; rw [t1]))
              go_loopw [10] (fun i u => ∃ q : Nat, q ≤ ls.length ∧ i = .int .i64 q ∧ Hid (∀ j, j < q → fcmp .geq .f32 v (ls.getD j 0) = true) ∧ ∃ n, u = wr.drewN n) (fun i _ => ls.length - (intOf i).toNat)
              case atStart => exact ⟨0, Nat.zero_le _, rfl, fun j h => by omega, (by first | exact ⟨0, rfl⟩ | exact ⟨_, rfl⟩)⟩
              case round =>
                obtain ⟨q, hq, rfl, hQ, n', rfl⟩ := hrel
                by_cases hqt : q < ls.length
                · obtain ⟨bl, ol, rfl⟩ := FL.out.ptr (by omega)
                  obtain ⟨rl, hcl, hrl⟩ := FL.out.get q hqt
                  cases t2 : fcmp .geq .f32 v (ls.getD q 0)
                  · have ES := Lib.hid (HSl.out q hq hQ (fun _ => t2))
                    have hS1 := Ho.out.get q (by rw [gCnt_length]; omega)
                    have hS2 := Ho.out.free q
                    obtain ⟨hS3, hS4⟩ := gCnt_range ls xs k q
                    have es : gSlot ls v = q := ES.out
                    rw [es] at HG
                    clear es sl
                    generalize (gCnt ls xs k).getD q 0 = c at *
                    generalize ls.getD q 0 = vl at *
                    go_wp2_with (first
      | ((with_reducible apply wpList_fop); (case hw => rfl); (case hop => rfl); (case hx => rfl); (case hy => rfl); (case hA => (first | assumption | exact FE.ofInt _ _ | exact FE.lit (by decide +kernel))); (case hB => (first | assumption | exact FE.ofInt _ _ | exact FE.lit (by decide +kernel))); intro r n hr)
      | ((with_reducible apply wpList_fcmp); (case hw => rfl); (case hop => rfl); (case hx => rfl); (case hy => rfl); (case hA => (first | assumption | exact FE.ofInt _ _ | exact FE.lit (by decide +kernel))); (case hB => (first | assumption | exact FE.ofInt _ _ | exact FE.lit (by decide +kernel))); (case hb => (first | assumption | rfl)))
      | ((with_reducible apply wpList_widen); (case hw => rfl); (case hs => exact Try.underlying42); (case hd => exact Try.underlying84); (case hx => rfl); (case hA => (first | assumption | exact FE.ofInt _ _ | exact FE.lit (by decide +kernel))); intro r n hr)
      | ((with_reducible apply wpList_fneg); (case hw => rfl); (case hx => rfl); (case hA => (first | assumption | exact FE.ofInt _ _ | exact FE.lit (by decide +kernel))); intro r hr))
                    go_roundw
                    case rel => exact ⟨k + 1, by omega, by go_num, by rw [HG.out, t1]; exact (Ho.out.store q (c + 1)).gr (by (try show Gr _ _); repeat (with_reducible first | exact Gr.refl _ | refine Gr.drewN ?_ _ | refine Gr.grew ?_ _ _ | refine Gr.alloc ?_ _ | refine Gr.drew ?_)), (HBz.out.setOther (p := ⟨gg, q, none⟩) _ (by show gg ≠ _; omega)).gr (by (try show Gr _ _); repeat (with_reducible first | exact Gr.refl _ | refine Gr.drewN ?_ _ | refine Gr.grew ?_ _ _ | refine Gr.alloc ?_ _ | refine Gr.drew ?_)), (Hgz.out.setCell (p := ⟨gg, q, none⟩) (by show w.heap.size ≤ gg; omega) _).trans (by (try show Gr _ _); repeat (with_reducible first | exact Gr.refl _ | refine Gr.drewN ?_ _ | refine Gr.grew ?_ _ _ | refine Gr.alloc ?_ _ | refine Gr.drew ?_))⟩
                    case measure => simp [intOf]; omega
                  · have HQ2 := Lib.hid (show ∀ j, j < q + 1 → fcmp .geq .f32 v (ls.getD j 0) = true from fun j h => by
                      rcases Nat.lt_or_ge j q with h' | h'
                      · exact hQ j h'
                      · rw [show j = q by omega]; exact t2)
                    clear hQ
                    generalize ls.getD q 0 = vl at *
                    go_wp2_with (first
      | ((with_reducible apply wpList_fop); (case hw => rfl); (case hop => rfl); (case hx => rfl); (case hy => rfl); (case hA => (first | assumption | exact FE.ofInt _ _ | exact FE.lit (by decide +kernel))); (case hB => (first | assumption | exact FE.ofInt _ _ | exact FE.lit (by decide +kernel))); intro r n hr)
      | ((with_reducible apply wpList_fcmp); (case hw => rfl); (case hop => rfl); (case hx => rfl); (case hy => rfl); (case hA => (first | assumption | exact FE.ofInt _ _ | exact FE.lit (by decide +kernel))); (case hB => (first | assumption | exact FE.ofInt _ _ | exact FE.lit (by decide +kernel))); (case hb => (first | assumption | rfl)))
      | ((with_reducible apply wpList_widen); (case hw => rfl); (case hs => exact Try.underlying42); (case hd => exact Try.underlying84); (case hx => rfl); (case hA => (first | assumption | exact FE.ofInt _ _ | exact FE.lit (by decide +kernel))); intro r n hr)
      | ((with_reducible apply wpList_fneg); (case hw => rfl); (case hx => rfl); (case hA => (first | assumption | exact FE.ofInt _ _ | exact FE.lit (by decide +kernel))); intro r hr))
                    go_roundw
                    case rel => exact ⟨q + 1, by omega, by go_num, HQ2.out, (by first | exact ⟨0, rfl⟩ | exact ⟨_, rfl⟩)⟩
                    case measure => simp [intOf]; omega
                · obtain rfl : q = ls.length := by omega
                  have ES := Lib.hid (HSl.out _ hq hQ (fun h => by omega))
                  have hS1 := Ho.out.get ls.length (by rw [gCnt_length]; omega)
                  have hS2 := Ho.out.free ls.length
                  obtain ⟨hS3, hS4⟩ := gCnt_range ls xs k ls.length
                  have es : gSlot ls v = ls.length := ES.out
                  rw [es] at HG
                  clear es sl
                  generalize (gCnt ls xs k).getD ls.length 0 = c at *
                  go_wp2_with (first
      | ((with_reducible apply wpList_fop); (case hw => rfl); (case hop => rfl); (case hx => rfl); (case hy => rfl); (case hA => (first | assumption | exact FE.ofInt _ _ | exact FE.lit (by decide +kernel))); (case hB => (first | assumption | exact FE.ofInt _ _ | exact FE.lit (by decide +kernel))); intro r n hr)
      | ((with_reducible apply wpList_fcmp); (case hw => rfl); (case hop => rfl); (case hx => rfl); (case hy => rfl); (case hA => (first | assumption | exact FE.ofInt _ _ | exact FE.lit (by decide +kernel))); (case hB => (first | assumption | exact FE.ofInt _ _ | exact FE.lit (by decide +kernel))); (case hb => (first | assumption | rfl)))
      | ((with_reducible apply wpList_widen); (case hw => rfl); (case hs => exact Try.underlying42); (case hd => exact Try.underlying84); (case hx => rfl); (case hA => (first | assumption | exact FE.ofInt _ _ | exact FE.lit (by decide +kernel))); intro r n hr)
      | ((with_reducible apply wpList_fneg); (case hw => rfl); (case hx => rfl); (case hA => (first | assumption | exact FE.ofInt _ _ | exact FE.lit (by decide +kernel))); intro r hr))
                  go_roundw
                  case rel => exact ⟨k + 1, by omega, by go_num, by rw [HG.out, t1]; exact (Ho.out.store _ (c + 1)).gr (by (try show Gr _ _); repeat (with_reducible first | exact Gr.refl _ | refine Gr.drewN ?_ _ | refine Gr.grew ?_ _ _ | refine Gr.alloc ?_ _ | refine Gr.drew ?_)), (HBz.out.setOther (p := ⟨gg, ls.length, none⟩) _ (by show gg ≠ _; omega)).gr (by (try show Gr _ _); repeat (with_reducible first | exact Gr.refl _ | refine Gr.drewN ?_ _ | refine Gr.grew ?_ _ _ | refine Gr.alloc ?_ _ | refine Gr.drew ?_)), (Hgz.out.setCell (p := ⟨gg, ls.length, none⟩) (by show w.heap.size ≤ gg; omega) _).trans (by (try show Gr _ _); repeat (with_reducible first | exact Gr.refl _ | refine Gr.drewN ?_ _ | refine Gr.grew ?_ _ _ | refine Gr.alloc ?_ _ | refine Gr.drew ?_))⟩
                  case measure => simp [intOf]; omega
            · go_wp2_with (first
      | (go_at_call 118; with_reducible refine (I_isHole _ _ _ hr).mono ?_; rintro e w' ⟨rfl, n, rfl⟩; rw [t1]))
              go_roundw
              case rel => exact ⟨k + 1, by omega, by go_num, by rw [HG.out, t1]; exact Ho.out.gr (by (try show Gr _ _); repeat (with_reducible first | exact Gr.refl _ | refine Gr.drewN ?_ _ | refine Gr.grew ?_ _ _ | refine Gr.alloc ?_ _ | refine Gr.drew ?_)), HBz.out.gr (by (try show Gr _ _); repeat (with_reducible first | exact Gr.refl _ | refine Gr.drewN ?_ _ | refine Gr.grew ?_ _ _ | refine Gr.alloc ?_ _ | refine Gr.drew ?_)), Hgz.out.trans (by (try show Gr _ _); repeat (with_reducible first | exact Gr.refl _ | refine Gr.drewN ?_ _ | refine Gr.grew ?_ _ _ | refine Gr.alloc ?_ _ | refine Gr.drew ?_))⟩
              case measure => simp [intOf]; omega
          · obtain rfl : k = xs.length := by omega
            have Ho := Lib.hid ho
            have Hgz := Lib.hid hgz
            clear ho hB hgz
            go_wp2
            exact bodyPost_ret (v := .tuple #[_, .bool true]) (by simp [results, Try.results47, go_sem]; rfl) rfl ⟨⟨_, rfl, by simpa using Ho.out.base (B' := w.heap.size) (by omega)⟩, Hgz.out⟩
end Go.Proofs.Ytldeeijfipiafaa
