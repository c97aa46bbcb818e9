/- Contracts: lists of floats that are copied, compared, marked; warps. -/
import Derived.Test.YtaidkokgafojeaaProg
import Derived.Test.YtaidkokgafojeaaC2
namespace Go.Proofs.Ytaidkokgafojeaa
open Go.RowKit Go.Fx Go.Soft
theorem frow_set {w : World} {B : Nat} {e : TypeId} {g n cap k r : Nat} {rs : List Nat} (h : w.ownsRow B e 1 (.slice (some ⟨g, 0, none⟩) n cap) n (rs.map (Value.float .f32))) :
    (w.setCell ⟨g, k, none⟩ (.float .f32 r)).ownsRow B e 1 (.slice (some ⟨g, 0, none⟩) n cap) n ((rs.set k r).map (Value.float .f32)) := by
  have := (h.stored k (.float .f32 r)).1
  rwa [List.map_set]
theorem frow_cell {w : World} {B : Nat} {e : TypeId} {g n cap k : Nat} {rs : List Nat} (h : w.ownsRow B e 1 (.slice (some ⟨g, 0, none⟩) n cap) n (rs.map (Value.float .f32))) (hk : k < n) (hl : rs.length = n) :
    ∃ r, w.cell? ⟨g, k, none⟩ = some (.float .f32 r) := by
  refine ⟨rs[k], ?_⟩
  rw [h.cellAt k (by omega)]
  simp [hl, hk]
theorem madeFloats (n : Nat) : (madeCells #[Value.float .f32 0] n).toList = (List.replicate n 0).map (Value.float .f32) := by
  apply List.ext_getElem
  · simp [madeCells]
  · intro i h1 h2
    simp [madeCells, Nat.mod_one]
theorem info_float32 : (Try.prog.info? 65).map (fun i => (i.zero, i.size, i.bytes)) = some (some (.float .f32 0), 1, 4) := by kernel_rfl
set_option maxHeartbeats 400000 in
theorem L_toFloat32S (a : Option Addr) (n cap : Nat) (xs : List Nat) (w : World) (hs : FSl w a n xs) (hn : n ≤ 1048576) :
    Calls Try.prog 68 #[.slice a n cap] w fun e w' => (∃ v, e = .returned v ∧ FOwn w' w.heap.size 65 v xs) ∧ ∃ os m, w' = w.grew os m := by
  obtain rfl := hs.len
  obtain ⟨i0, hi, hz0, hz1, hz2⟩ := info_parts info_float32
  have hcl := hs.at_
  clear hs
  have Hcl := Lib.hid hcl
  clear hcl
  go_enter Try.func68, Try.ntmps68
  go_wp2_with ((at_make; refine wpList_make_full _ rfl _ _ 22 rfl w.heap.size 65 i0 (.float .f32 0) 1 Try.underlying22 hi hz0 hz1 _ _ _ _ xs.length rfl rfl rfl rfl (by rw [hz2]; omega) (by unfold maxLen; omega) (Nat.le_refl _) ?_))
  intro w1 hown hg
  rw [madeFloats] at hown
  have hgr : Gr w w1 := (Gr.refl w).grownBy hg (fun k hk => by cases hk)
  have Hown := Lib.hid hown
  clear hown hg hz0 hz1 hz2 hi
  obtain ⟨os1, m1, rfl⟩ := hgr
  go_wp2
  go_loopw [4] (fun i wr => ∃ (k : Nat) (rs : List Nat), k ≤ xs.length ∧ i = .int .i64 k ∧ rs.length = xs.length ∧ (∀ j (h : j < rs.length) (h' : j < xs.length), j < k → FE .f32 rs[j] xs[j]) ∧
      wr.ownsRow w.heap.size 65 1 (.slice (some ⟨w.heap.size, 0, none⟩) xs.length xs.length) xs.length (rs.map (Value.float .f32)) ∧ Gr w wr) (fun i _ => xs.length - (intOf i).toNat)
  case atStart => exact ⟨0, List.replicate xs.length 0, Nat.zero_le _, rfl, by simp, fun j _ _ h => absurd h (by omega), Hown.out, ⟨_, _, rfl⟩⟩
  case round =>
    obtain ⟨k, rs, hk, rfl, hl, hfe, hown, os, m, rfl⟩ := hrel
    by_cases hlt : k < xs.length
    · obtain ⟨b, off, r, rfl, hcell, hr⟩ := Hcl.out k hlt
      obtain ⟨old, hc⟩ := frow_cell hown (by omega) hl
      have hz := hown.frozenAt k
      have H1 := Lib.hid hown
      have H2 := Lib.hid hfe
      have H3 := Lib.hid hl
      clear hown hfe hl
      go_wp2
      go_roundw
      case rel =>
        refine ⟨k + 1, rs.set k r, by omega, by go_num, by rw [List.length_set]; exact H3.out, fun j h h' hj => ?_, frow_set H1.out, Gr.setCell ⟨_, _, rfl⟩ (Nat.le_refl _) _⟩
        rw [List.getElem_set]
        split
        · rename_i e; subst e; exact hr
        · exact H2.out j (by rw [List.length_set] at h; exact h) h' (by omega)
      case measure => simp [intOf]; omega
    · obtain rfl : k = xs.length := by omega
      have H1 := Lib.hid hown
      have H2 := Lib.hid hfe
      have H3 := Lib.hid hl
      clear hown hfe hl
      go_wp2
      go_ret
      exact ⟨⟨_, rfl, rs, ⟨H3.out, fun j h h' => H2.out j h h' h'⟩, by rw [H3.out]; exact H1.out⟩, (by (try show Gr _ _); repeat (with_reducible first | exact Gr.refl _ | refine Gr.drewN ?_ _ | refine Gr.grew ?_ _ _ | refine Gr.alloc ?_ _ | refine Gr.drew ?_))⟩
set_option maxHeartbeats 400000 in
theorem L_eqFloat32S (a b : Option Addr) (n m ca cb : Nat) (xs : List Nat) (w : World) (hs : FSl w a n xs) (ht : FSl w b m xs) (hn : n ≤ maxLen) :
    Calls Try.prog 62 #[.slice a n ca, .slice b m cb] w fun e w' => e = .returned (.bool true) ∧ ∃ n, w' = w.drewN n := by
  obtain rfl := hs.len
  obtain rfl := ht.len
  unfold maxLen at hn
  have Hs := Lib.hid hs.at_
  have Ht := Lib.hid ht.at_
  clear hs ht
  go_enter Try.func62, Try.ntmps62
  go_wp2
  go_loopw [5] (fun i wr => ∃ k : Nat, k ≤ xs.length ∧ i = .int .i64 k ∧ ∃ n, wr = w.drewN n) (fun i _ => xs.length - (intOf i).toNat)
  case atStart => exact ⟨0, Nat.zero_le _, rfl, (by first | exact ⟨0, rfl⟩ | exact ⟨_, rfl⟩)⟩
  case round =>
    obtain ⟨k, hk, rfl, n, rfl⟩ := hrel
    by_cases hlt : k < xs.length
    · obtain ⟨b1, off1, r1, rfl, hc1, hr1⟩ := Hs.out k hlt
      obtain ⟨b2, off2, r2, rfl, hc2, hr2⟩ := Ht.out k hlt
      go_wp2
      apply region_drew 10
      case hm => kernel_rfl
      case hB => kernel_rfl
      simp only [List.take_succ_cons, List.take_zero, List.drop_succ_cons, List.drop_zero]
      repeat (first
        | (apply wpSoft_skip rfl; simp only [Act.put, List.setIfInBounds_toArray, List.set_cons_succ, List.set_cons_zero])
        | (apply wpSoft_nilCheck rfl rfl; simp only [Act.put, List.setIfInBounds_toArray, List.set_cons_succ, List.set_cons_zero])
        | ((with_reducible apply wpSoft_fop); (case hw => rfl); (case hD => exact closed_drew); (case hop => rfl); (case hx => rfl); (case hy => rfl); (case hA => (first | assumption | exact FE.ofInt _ _ | exact FE.lit (by decide +kernel))); (case hB => (first | assumption | exact FE.ofInt _ _ | exact FE.lit (by decide +kernel))); (intro r hr; simp only [Act.put, List.setIfInBounds_toArray, List.set_cons_succ, List.set_cons_zero]))

        | ((with_reducible apply wpSoft_widen); (case hw => rfl); (case hD => exact closed_drew); (case hs => exact Try.underlying65); (case hd => exact Try.underlying147); (case hx => rfl); (case hA => (first | assumption | exact FE.ofInt _ _ | exact FE.lit (by decide +kernel))); (intro r hr; simp only [Act.put, List.setIfInBounds_toArray, List.set_cons_succ, List.set_cons_zero]))
        | ((with_reducible apply wpSoft_fneg); (case hw => rfl); (case hx => rfl); (case hA => (first | assumption | exact FE.ofInt _ _ | exact FE.lit (by decide +kernel))); (intro r hr; simp only [Act.put, List.setIfInBounds_toArray, List.set_cons_succ, List.set_cons_zero]))
        | ((with_reducible apply wpSoft_fcmp); (case hw => rfl); (case hop => rfl); (case hx => rfl); (case hy => rfl); (case hA => (first | assumption | exact FE.ofInt _ _ | exact FE.lit (by decide +kernel))); (case hB => (first | assumption | exact FE.ofInt _ _ | exact FE.lit (by decide +kernel))); (case hb => (first | assumption | rfl)); simp only [Act.put, List.setIfInBounds_toArray, List.set_cons_succ, List.set_cons_zero])
        | (apply wpSoft_q rfl rfl; intro K hK; go_big_quiet_op; go_big_quiet_on))
      with_reducible apply wpSoft_nil
      intro m
      go_wp2_with (first
      | (go_at_call 119; with_reducible refine (L_sameFloat _ _ _ _ ‹_› ‹_›).mono ?_; rintro e w' ⟨rfl, n, rfl⟩)
      | ((with_reducible apply wpList_fop); (case hw => rfl); (case hop => rfl); (case hx => rfl); (case hy => rfl); (case hA => (first | assumption | exact FE.ofInt _ _ | exact FE.lit (by decide +kernel))); (case hB => (first | assumption | exact FE.ofInt _ _ | exact FE.lit (by decide +kernel))); intro r n hr)
      | ((with_reducible apply wpList_fcmp); (case hw => rfl); (case hop => rfl); (case hx => rfl); (case hy => rfl); (case hA => (first | assumption | exact FE.ofInt _ _ | exact FE.lit (by decide +kernel))); (case hB => (first | assumption | exact FE.ofInt _ _ | exact FE.lit (by decide +kernel))); (case hb => (first | assumption | rfl)))
      | ((with_reducible apply wpList_widen); (case hw => rfl); (case hs => exact Try.underlying65); (case hd => exact Try.underlying147); (case hx => rfl); (case hA => (first | assumption | exact FE.ofInt _ _ | exact FE.lit (by decide +kernel))); intro r n hr)
      | ((with_reducible apply wpList_fneg); (case hw => rfl); (case hx => rfl); (case hA => (first | assumption | exact FE.ofInt _ _ | exact FE.lit (by decide +kernel))); intro r hr))
      go_roundw
      case rel => exact ⟨k + 1, by omega, by go_num, (by first | exact ⟨0, rfl⟩ | exact ⟨_, rfl⟩)⟩
      case measure => simp [intOf]; omega
    · obtain rfl : k = xs.length := by omega
      go_wp2
      go_ret
      exact ⟨rfl, (by first | exact ⟨0, rfl⟩ | exact ⟨_, rfl⟩)⟩
def gWarp (xs : List Nat) : Bool := decide (xs.length = 9) && gFinAll xs
theorem gFinAll_take {xs : List Nat} {k : Nat} (hk : k < xs.length) : gFinAll (xs.take (k + 1)) = (gFinAll (xs.take k) && gFin xs[k]) := by
  unfold gFinAll
  rw [List.take_succ_eq_append_getElem hk, List.any_append]
  simp only [List.any_cons, List.any_nil, Bool.or_false]
  generalize (xs.take k).any (fun x => !gFin x) = A
  cases A <;> cases gFin xs[k] <;> rfl
theorem gFinAll_false {xs : List Nat} {k : Nat} (hk : k < xs.length) (h : gFin xs[k] = false) : gFinAll xs = false := by
  unfold gFinAll
  simp only [Bool.not_eq_false', List.any_eq_true]
  exact ⟨xs[k], List.getElem_mem hk, by simp [h]⟩
end Go.Proofs.Ytaidkokgafojeaa
