/- Contracts: where a warp leads. -/
import Derived.Test.YtkaikcabnhhciaaProg
import Derived.Test.YtkaikcabnhhciaaC3
namespace Go.Proofs.Ytkaikcabnhhciaa
open Go.RowKit Go.Fx Go.Soft
def gRow (xs : List Nat) (k x y : Nat) : Nat := fop .add .f32 (fop .add .f32 (fop .mul .f32 (xs.getD k 0) x) (fop .mul .f32 (xs.getD (k + 1) 0) y)) (xs.getD (k + 2) 0)
def gLead (xs : List Nat) (x y : Nat) : Option (Nat × Nat) :=
  let u := fop .quo .f32 (gRow xs 0 x y) (gRow xs 6 x y)
  let v := fop .quo .f32 (gRow xs 3 x y) (gRow xs 6 x y)
  if gFin u && gFin v then some (u, v) else none
theorem gLead_some {xs : List Nat} {x y : Nat} (h1 : gFin (fop .quo .f32 (gRow xs 0 x y) (gRow xs 6 x y)) = true) (h2 : gFin (fop .quo .f32 (gRow xs 3 x y) (gRow xs 6 x y)) = true) :
    gLead xs x y = some (fop .quo .f32 (gRow xs 0 x y) (gRow xs 6 x y), fop .quo .f32 (gRow xs 3 x y) (gRow xs 6 x y)) := by simp [gLead, h1, h2]
theorem gLead_none {xs : List Nat} {x y : Nat} (h : (gFin (fop .quo .f32 (gRow xs 0 x y) (gRow xs 6 x y)) && gFin (fop .quo .f32 (gRow xs 3 x y) (gRow xs 6 x y))) = false) :
    gLead xs x y = none := by simp only [gLead, h]; rfl
set_option maxHeartbeats 400000 in
theorem I_warpPoint_1 (k : Int) (q : Nat) (hk : k = 0 ∧ q = 0 ∨ k = 3 ∧ q = 3 ∨ k = 6 ∧ q = 6) (b off cap : Nat) (xs : List Nat) (pw px py x y X Y : Nat) (w : World) (hs : FSl w (some ⟨b, off, none⟩) 9 xs) (hx : FE .f32 x X) (hy : FE .f32 y Y)
    (cw : w.cell? ⟨pw, 0, none⟩ = some (.slice (some ⟨b, off, none⟩) 9 cap)) (cx : w.cell? ⟨px, 0, none⟩ = some (.float .f32 x)) (cy : w.cell? ⟨py, 0, none⟩ = some (.float .f32 y)) :
    Calls Try.prog 98 #[.int .i64 k, .pointer (some ⟨pw, 0, none⟩), .pointer (some ⟨px, 0, none⟩), .pointer (some ⟨py, 0, none⟩)] w fun e w' => ∃ r, e = .returned (.float .f32 r) ∧ FE .f32 r (gRow xs q X Y) ∧ ∃ n, w' = w.drewN n := by
  have Hl := Lib.hid hs.len
  obtain ⟨r0, c0, e0⟩ := hs.get q (by have := Hl.out; omega)
  obtain ⟨r1, c1, e1⟩ := hs.get (q + 1) (by have := Hl.out; omega)
  obtain ⟨r2, c2, e2⟩ := hs.get (q + 2) (by have := Hl.out; omega)
  clear hs
  rcases hk with ⟨rfl, rfl⟩ | ⟨rfl, rfl⟩ | ⟨rfl, rfl⟩
  all_goals
    simp only [Nat.add_zero, Nat.zero_add, Nat.reduceAdd] at c0 c1 c2
    go_enter Try.func98, Try.ntmps98
    go_wp2_with (first
      | ((with_reducible apply wpList_fop); (case hw => rfl); (case hop => rfl); (case hx => rfl); (case hy => rfl); (case hA => assumption); (case hB => assumption); intro r n hr)
      | ((with_reducible apply wpList_fcmp); (case hw => rfl); (case hop => rfl); (case hx => rfl); (case hy => rfl); (case hA => assumption); (case hB => assumption); (case hb => (first | assumption | rfl)))
      | ((with_reducible apply wpList_widen); (case hw => rfl); (case hs => exact Try.underlying22); (case hd => exact Try.underlying29); (case hx => rfl); (case hA => assumption); intro r n hr)
      | ((with_reducible apply wpList_fneg); (case hw => rfl); (case hx => rfl); (case hA => assumption); intro r hr))
    apply region_drew 20
    case hm => kernel_rfl
    case hB => kernel_rfl
    simp only [List.take_succ_cons, List.take_zero, List.drop_succ_cons, List.drop_zero]
    repeat (first
      | (apply wpSoft_skip rfl; simp only [Act.put, List.setIfInBounds_toArray, List.set_cons_succ, List.set_cons_zero])
      | (apply wpSoft_nilCheck rfl rfl; simp only [Act.put, List.setIfInBounds_toArray, List.set_cons_succ, List.set_cons_zero])
      | ((with_reducible apply wpSoft_fop); (case hw => rfl); (case hD => exact closed_drew); (case hop => rfl); (case hx => rfl); (case hy => rfl); (case hA => assumption); (case hB => assumption); (intro r hr; simp only [Act.put, List.setIfInBounds_toArray, List.set_cons_succ, List.set_cons_zero]))

      | ((with_reducible apply wpSoft_widen); (case hw => rfl); (case hD => exact closed_drew); (case hs => exact Try.underlying22); (case hd => exact Try.underlying29); (case hx => rfl); (case hA => assumption); (intro r hr; simp only [Act.put, List.setIfInBounds_toArray, List.set_cons_succ, List.set_cons_zero]))
      | ((with_reducible apply wpSoft_fneg); (case hw => rfl); (case hx => rfl); (case hA => assumption); (intro r hr; simp only [Act.put, List.setIfInBounds_toArray, List.set_cons_succ, List.set_cons_zero]))
      | ((with_reducible apply wpSoft_fcmp); (case hw => rfl); (case hop => rfl); (case hx => rfl); (case hy => rfl); (case hA => assumption); (case hB => assumption); (case hb => (first | assumption | rfl)); simp only [Act.put, List.setIfInBounds_toArray, List.set_cons_succ, List.set_cons_zero])
      | (apply wpSoft_q rfl rfl; intro K hK; go_big_quiet_op; go_big_quiet_on))
    apply wpSoft_nil
    intro m
    go_wp2_with (first
      | ((with_reducible apply wpList_fop); (case hw => rfl); (case hop => rfl); (case hx => rfl); (case hy => rfl); (case hA => assumption); (case hB => assumption); intro r n hr)
      | ((with_reducible apply wpList_fcmp); (case hw => rfl); (case hop => rfl); (case hx => rfl); (case hy => rfl); (case hA => assumption); (case hB => assumption); (case hb => (first | assumption | rfl)))
      | ((with_reducible apply wpList_widen); (case hw => rfl); (case hs => exact Try.underlying22); (case hd => exact Try.underlying29); (case hx => rfl); (case hA => assumption); intro r n hr)
      | ((with_reducible apply wpList_fneg); (case hw => rfl); (case hx => rfl); (case hA => assumption); intro r hr))
    go_ret
    exact ⟨_, rfl, ‹_›, (by first | exact ⟨0, rfl⟩ | exact ⟨_, rfl⟩)⟩
set_option maxHeartbeats 1000000 in
theorem I_warpPoint (a : Option Addr) (cap : Nat) (xs : List Nat) (x y X Y : Nat) (w : World) (hs : FSl w a 9 xs) (hx : FE .f32 x X) (hy : FE .f32 y Y) :
    Calls Try.prog 73 #[.slice a 9 cap, .float .f32 x, .float .f32 y] w fun e w' => (∃ r s, e = .returned (.tuple #[.float .f32 r, .float .f32 s, .bool (gLead xs X Y).isSome]) ∧ FE .f32 r (((gLead xs X Y).map (·.1)).getD 0) ∧ FE .f32 s (((gLead xs X Y).map (·.2)).getD 0)) ∧ ∃ os m, w' = w.grew os m := by
  have h0 := FE0
  have Hl := Lib.hid hs.len
  obtain ⟨b, off, rfl⟩ := hs.ptr (by have := Hl.out; omega)
  have Hs := Lib.hid hs
  clear hs
  cases hF : gFinAll [fop .quo .f32 (gRow xs 0 X Y) (gRow xs 6 X Y), fop .quo .f32 (gRow xs 3 X Y) (gRow xs 6 X Y)]
  · have Hg := Lib.hid (gLead_none (xs := xs) (x := X) (y := Y) (by simpa [gFinAll] using hF))
    go_enter Try.func73, Try.ntmps73
    go_wp2_with fail
    refine (I_warpPoint_1 0 0 (by omega) b off cap xs _ _ _ x y X Y _ (Hs.out.keep (by (first | exact Kp.refl _ | exact kp_same | exact kp_pre (by simp only [Array.append_assoc]; exact ⟨_, rfl⟩) | (repeat (first | exact Kp.refl _ | refine Kp.grew ?_ _ _ | refine Kp.drewN ?_ _ | refine Kp.alloc ?_ _))))) hx hy (by simp [go_sem]) (by simp [go_sem]) (by simp [go_sem])).mono ?_
    rintro e w1 ⟨r0, rfl, hr0, n0, rfl⟩
    go_wp2_with fail
    refine (I_warpPoint_1 6 6 (by omega) b off cap xs _ _ _ x y X Y _ (Hs.out.keep (by (first | exact Kp.refl _ | exact kp_same | exact kp_pre (by simp only [Array.append_assoc]; exact ⟨_, rfl⟩) | (repeat (first | exact Kp.refl _ | refine Kp.grew ?_ _ _ | refine Kp.drewN ?_ _ | refine Kp.alloc ?_ _))))) hx hy (by simp [go_sem]) (by simp [go_sem]) (by simp [go_sem])).mono ?_
    rintro e w1 ⟨r1, rfl, hr1, n1, rfl⟩
    go_wp2_with (first
      | ((with_reducible apply wpList_fop); (case hw => rfl); (case hop => rfl); (case hx => rfl); (case hy => rfl); (case hA => assumption); (case hB => assumption); intro r n hr)
      | ((with_reducible apply wpList_fcmp); (case hw => rfl); (case hop => rfl); (case hx => rfl); (case hy => rfl); (case hA => assumption); (case hB => assumption); (case hb => (first | assumption | rfl)))
      | ((with_reducible apply wpList_widen); (case hw => rfl); (case hs => exact Try.underlying22); (case hd => exact Try.underlying29); (case hx => rfl); (case hA => assumption); intro r n hr)
      | ((with_reducible apply wpList_fneg); (case hw => rfl); (case hx => rfl); (case hA => assumption); intro r hr))
    go_wp2_with fail
    refine (I_warpPoint_1 3 3 (by omega) b off cap xs _ _ _ x y X Y _ (Hs.out.keep (by (first | exact Kp.refl _ | exact kp_same | exact kp_pre (by simp only [Array.append_assoc]; exact ⟨_, rfl⟩) | (repeat (first | exact Kp.refl _ | refine Kp.grew ?_ _ _ | refine Kp.drewN ?_ _ | refine Kp.alloc ?_ _))))) hx hy (by simp [go_sem]) (by simp [go_sem]) (by simp [go_sem])).mono ?_
    rintro e w1 ⟨r2, rfl, hr2, n2, rfl⟩
    go_wp2_with fail
    refine (I_warpPoint_1 6 6 (by omega) b off cap xs _ _ _ x y X Y _ (Hs.out.keep (by (first | exact Kp.refl _ | exact kp_same | exact kp_pre (by simp only [Array.append_assoc]; exact ⟨_, rfl⟩) | (repeat (first | exact Kp.refl _ | refine Kp.grew ?_ _ _ | refine Kp.drewN ?_ _ | refine Kp.alloc ?_ _))))) hx hy (by simp [go_sem]) (by simp [go_sem]) (by simp [go_sem])).mono ?_
    rintro e w1 ⟨r3, rfl, hr3, n3, rfl⟩
    go_wp2_with (first
      | (go_at_call 64; refine (I_finite _ _ _ [fop .quo .f32 (gRow xs 0 X Y) (gRow xs 6 X Y), fop .quo .f32 (gRow xs 3 X Y) (gRow xs 6 X Y)] _ (by exact FSl.two ‹FE .f32 _ (fop .quo .f32 (gRow xs 0 X Y) (gRow xs 6 X Y))› ‹FE .f32 _ (fop .quo .f32 (gRow xs 3 X Y) (gRow xs 6 X Y))› (by simp [go_sem]) (by simp [go_sem])) (by unfold maxLen; omega)).mono ?_; rintro e w' ⟨rfl, os, m, rfl⟩)
      | ((with_reducible apply wpList_fop); (case hw => rfl); (case hop => rfl); (case hx => rfl); (case hy => rfl); (case hA => assumption); (case hB => assumption); intro r n hr)
      | ((with_reducible apply wpList_fcmp); (case hw => rfl); (case hop => rfl); (case hx => rfl); (case hy => rfl); (case hA => assumption); (case hB => assumption); (case hb => (first | assumption | rfl)))
      | ((with_reducible apply wpList_widen); (case hw => rfl); (case hs => exact Try.underlying22); (case hd => exact Try.underlying29); (case hx => rfl); (case hA => assumption); intro r n hr)
      | ((with_reducible apply wpList_fneg); (case hw => rfl); (case hx => rfl); (case hA => assumption); intro r hr))
    go_ret3
    rw [Hg.out]
    exact ⟨⟨_, _, rfl, h0, h0⟩, (by repeat (first | exact Gr.refl _ | refine Gr.drewN ?_ _ | refine Gr.grew ?_ _ _ | refine Gr.alloc ?_ _ | refine Gr.drew ?_))⟩
  · have Hg := Lib.hid (gLead_some (xs := xs) (x := X) (y := Y) (by simp [gFinAll] at hF; exact hF.1) (by simp [gFinAll] at hF; exact hF.2))
    go_enter Try.func73, Try.ntmps73
    go_wp2_with fail
    refine (I_warpPoint_1 0 0 (by omega) b off cap xs _ _ _ x y X Y _ (Hs.out.keep (by (first | exact Kp.refl _ | exact kp_same | exact kp_pre (by simp only [Array.append_assoc]; exact ⟨_, rfl⟩) | (repeat (first | exact Kp.refl _ | refine Kp.grew ?_ _ _ | refine Kp.drewN ?_ _ | refine Kp.alloc ?_ _))))) hx hy (by simp [go_sem]) (by simp [go_sem]) (by simp [go_sem])).mono ?_
    rintro e w1 ⟨r0, rfl, hr0, n0, rfl⟩
    go_wp2_with fail
    refine (I_warpPoint_1 6 6 (by omega) b off cap xs _ _ _ x y X Y _ (Hs.out.keep (by (first | exact Kp.refl _ | exact kp_same | exact kp_pre (by simp only [Array.append_assoc]; exact ⟨_, rfl⟩) | (repeat (first | exact Kp.refl _ | refine Kp.grew ?_ _ _ | refine Kp.drewN ?_ _ | refine Kp.alloc ?_ _))))) hx hy (by simp [go_sem]) (by simp [go_sem]) (by simp [go_sem])).mono ?_
    rintro e w1 ⟨r1, rfl, hr1, n1, rfl⟩
    go_wp2_with (first
      | ((with_reducible apply wpList_fop); (case hw => rfl); (case hop => rfl); (case hx => rfl); (case hy => rfl); (case hA => assumption); (case hB => assumption); intro r n hr)
      | ((with_reducible apply wpList_fcmp); (case hw => rfl); (case hop => rfl); (case hx => rfl); (case hy => rfl); (case hA => assumption); (case hB => assumption); (case hb => (first | assumption | rfl)))
      | ((with_reducible apply wpList_widen); (case hw => rfl); (case hs => exact Try.underlying22); (case hd => exact Try.underlying29); (case hx => rfl); (case hA => assumption); intro r n hr)
      | ((with_reducible apply wpList_fneg); (case hw => rfl); (case hx => rfl); (case hA => assumption); intro r hr))
    go_wp2_with fail
    refine (I_warpPoint_1 3 3 (by omega) b off cap xs _ _ _ x y X Y _ (Hs.out.keep (by (first | exact Kp.refl _ | exact kp_same | exact kp_pre (by simp only [Array.append_assoc]; exact ⟨_, rfl⟩) | (repeat (first | exact Kp.refl _ | refine Kp.grew ?_ _ _ | refine Kp.drewN ?_ _ | refine Kp.alloc ?_ _))))) hx hy (by simp [go_sem]) (by simp [go_sem]) (by simp [go_sem])).mono ?_
    rintro e w1 ⟨r2, rfl, hr2, n2, rfl⟩
    go_wp2_with fail
    refine (I_warpPoint_1 6 6 (by omega) b off cap xs _ _ _ x y X Y _ (Hs.out.keep (by (first | exact Kp.refl _ | exact kp_same | exact kp_pre (by simp only [Array.append_assoc]; exact ⟨_, rfl⟩) | (repeat (first | exact Kp.refl _ | refine Kp.grew ?_ _ _ | refine Kp.drewN ?_ _ | refine Kp.alloc ?_ _))))) hx hy (by simp [go_sem]) (by simp [go_sem]) (by simp [go_sem])).mono ?_
    rintro e w1 ⟨r3, rfl, hr3, n3, rfl⟩
    go_wp2_with (first
      | (go_at_call 64; refine (I_finite _ _ _ [fop .quo .f32 (gRow xs 0 X Y) (gRow xs 6 X Y), fop .quo .f32 (gRow xs 3 X Y) (gRow xs 6 X Y)] _ (by exact FSl.two ‹FE .f32 _ (fop .quo .f32 (gRow xs 0 X Y) (gRow xs 6 X Y))› ‹FE .f32 _ (fop .quo .f32 (gRow xs 3 X Y) (gRow xs 6 X Y))› (by simp [go_sem]) (by simp [go_sem])) (by unfold maxLen; omega)).mono ?_; rintro e w' ⟨rfl, os, m, rfl⟩)
      | ((with_reducible apply wpList_fop); (case hw => rfl); (case hop => rfl); (case hx => rfl); (case hy => rfl); (case hA => assumption); (case hB => assumption); intro r n hr)
      | ((with_reducible apply wpList_fcmp); (case hw => rfl); (case hop => rfl); (case hx => rfl); (case hy => rfl); (case hA => assumption); (case hB => assumption); (case hb => (first | assumption | rfl)))
      | ((with_reducible apply wpList_widen); (case hw => rfl); (case hs => exact Try.underlying22); (case hd => exact Try.underlying29); (case hx => rfl); (case hA => assumption); intro r n hr)
      | ((with_reducible apply wpList_fneg); (case hw => rfl); (case hx => rfl); (case hA => assumption); intro r hr))
    go_ret3
    rw [Hg.out]
    simp only [Option.map_some, Option.getD_some]
    exact ⟨⟨_, _, rfl, ‹_›, ‹_›⟩, (by repeat (first | exact Gr.refl _ | refine Gr.drewN ?_ _ | refine Gr.grew ?_ _ _ | refine Gr.alloc ?_ _ | refine Gr.drew ?_))⟩
end Go.Proofs.Ytkaikcabnhhciaa
