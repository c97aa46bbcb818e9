/- Contracts: points of a camera. -/
import Derived.Test.YtaidkokgafojeaaProg
import Derived.Test.YtaidkokgafojeaaC3
import Derived.Test.YtaidkokgafojeaaWk2
namespace Go.Proofs.Ytaidkokgafojeaa
open Go.RowKit Go.Fx Go.Soft
def gPt (f m x z : Nat) : Nat := fop .mul .f32 z (fop .quo .f32 (fop .sub .f32 x m) f)
set_option maxHeartbeats 6000000 in
theorem S_l06Point_ok (f b mx my x y d F B MX MY X Y D Z bl of : Nat) (w : World) (hf : FE .f32 f F) (hb : FE .f32 b B) (hmx : FE .f32 mx MX) (hmy : FE .f32 my MY) (hx : FE .f32 x X) (hy : FE .f32 y Y) (hd : FE .f32 d D)
    (c0 : w.cell? ⟨bl, of, none⟩ = some (.float .f32 f)) (c1 : w.cell? ⟨bl, of + 1, none⟩ = some (.float .f32 b)) (c2 : w.cell? ⟨bl, of + 2, none⟩ = some (.float .f32 mx)) (c3 : w.cell? ⟨bl, of + 3, none⟩ = some (.float .f32 my))
    (hZ : gFar F B D = some Z) (fx : gFin X = true) (fy : gFin Y = true) :
    Calls Try.prog 146 #[.pointer (some ⟨bl, of, none⟩), .float .f32 x, .float .f32 y, .float .f32 d] w fun e w' =>
      (∃ r s t, e = .returned (.tuple #[.agg #[.float .f32 r, .float .f32 s, .float .f32 t], .bool true]) ∧ FE .f32 r (gPt F MX X Z) ∧ FE .f32 s (gPt F MY Y Z) ∧ FE .f32 t Z) ∧ ∃ os m, w' = w.grew os m := by
  have h0 := FE0
  have H := Lib.hid hZ
  clear hZ
  go_enter Try.func146, Try.ntmps146
  go_wp2_with (first
      | (go_at_call 161; with_reducible refine (S_l06Depth _ _ _ _ _ _ _ _ _ hf hb hd (by simp [go_sem, c0]) (by simp [go_sem, c1])).mono ?_; rintro e w' ⟨⟨z, rfl, hz⟩, n, rfl⟩; rw [H.out] at hz ⊢)
      | (go_at_call 145; with_reducible refine (S_l01Finite _ _ _ ‹_›).mono ?_; rintro e w' ⟨rfl, n, rfl⟩; first | rw [fx] | rw [fy])
      | ((with_reducible apply wpList_fop); (case hw => rfl); (case hop => rfl); (case hx => rfl); (case hy => rfl); (case hA => (first | assumption | exact FE.ofInt _ _ | exact FE.lit (by decide +kernel))); (case hB => (first | assumption | exact FE.ofInt _ _ | exact FE.lit (by decide +kernel))); intro r n hr)
      | ((with_reducible apply wpList_fcmp); (case hw => rfl); (case hop => rfl); (case hx => rfl); (case hy => rfl); (case hA => (first | assumption | exact FE.ofInt _ _ | exact FE.lit (by decide +kernel))); (case hB => (first | assumption | exact FE.ofInt _ _ | exact FE.lit (by decide +kernel))); (case hb => (first | assumption | rfl)))
      | ((with_reducible apply wpList_widen); (case hw => rfl); (case hs => exact Try.underlying65); (case hd => exact Try.underlying147); (case hx => rfl); (case hA => (first | assumption | exact FE.ofInt _ _ | exact FE.lit (by decide +kernel))); intro r n hr)
      | ((with_reducible apply wpList_fneg); (case hw => rfl); (case hx => rfl); (case hA => (first | assumption | exact FE.ofInt _ _ | exact FE.lit (by decide +kernel))); intro r hr))
  apply region_facts 28 [27] (fun _ v w' => ∃ b', v = .pointer (some ⟨b', 0, none⟩) ∧ w'.heap[b']? = some (.cells #[.float .f32 0, .float .f32 0, .float .f32 0] 137 (0, 0)))
  case hm => kernel_rfl
  case hB => kernel_rfl
  case hR => rfl
  case hP => (intro k hk v w1 w2 hg hv; obtain ⟨b, hv, hc⟩ := hv; exact ⟨b, hv, hg.heap hc⟩)
  simp only [List.take_succ_cons, List.take_zero, List.drop_succ_cons, List.drop_zero]
  repeat (first
    | (apply wpF_alloc (c := #[.float .f32 0, .float .f32 0, .float .f32 0]) (e := 137); (case hw => rfl); (case hx => (intro w; simp [execOp, go_sem])); (case hF => (intro w b hb hc _; exact ⟨b, rfl, hc⟩)); (intro b hb; simp only [Act.put, List.setIfInBounds_toArray, List.set_cons_succ, List.set_cons_zero]))
    | (apply wpF_build; (case hw => rfl); (case hT => decide); (case hx => (intro w; simp [execOp, go_sem]; rfl)); simp only [Act.put, List.setIfInBounds_toArray, List.set_cons_succ, List.set_cons_zero])
    | (apply wpF_skip rfl (by decide); simp only [Act.put, List.setIfInBounds_toArray, List.set_cons_succ, List.set_cons_zero])
    | (apply wpF_nilCheck rfl (by decide) rfl; simp only [Act.put, List.setIfInBounds_toArray, List.set_cons_succ, List.set_cons_zero])
    | ((with_reducible apply wpF_fop); (case hw => rfl); (case hT => decide); (case hop => rfl); (case hx => rfl); (case hy => rfl); (case hA => (first | assumption | exact FE.ofInt _ _ | exact FE.lit (by decide +kernel))); (case hB => (first | assumption | exact FE.ofInt _ _ | exact FE.lit (by decide +kernel))); (intro r hr; simp only [Act.put, List.setIfInBounds_toArray, List.set_cons_succ, List.set_cons_zero]))
    | ((with_reducible apply wpF_fneg); (case hw => rfl); (case hT => decide); (case hx => rfl); (case hA => (first | assumption | exact FE.ofInt _ _ | exact FE.lit (by decide +kernel))); (intro r hr; simp only [Act.put, List.setIfInBounds_toArray, List.set_cons_succ, List.set_cons_zero]))
    | ((with_reducible apply wpF_fcmp); (case hw => rfl); (case hT => decide); (case hop => rfl); (case hx => rfl); (case hy => rfl); (case hA => (first | assumption | exact FE.ofInt _ _ | exact FE.lit (by decide +kernel))); (case hB => (first | assumption | exact FE.ofInt _ _ | exact FE.lit (by decide +kernel))); (case hb => (first | assumption | rfl)); simp only [Act.put, List.setIfInBounds_toArray, List.set_cons_succ, List.set_cons_zero])
    | (apply wpF_q rfl (by decide) rfl; intro K hK; go_big_quiet_op; go_big_quiet_on))
  with_reducible apply wpF_nil
  intro os m hf
  obtain ⟨b', hb', hc⟩ := hf.1
  obtain rfl : b' = _ := by simpa using hb'.symm
  (try simp only [grew_grew, drewN_grew, grew_drewN, Array.append_assoc] at hc ⊢)
  obtain ⟨os1, os2, ew, eb⟩ := split_grew (by assumption) hc
  rw [ew]
  clear hf hb' hc ew
  subst eb
  go_wp2
  have e0 := ‹FE .f32 _ (fop .mul .f32 Z (fop .quo .f32 (fop .sub .f32 X MX) F))›
  have e1 := ‹FE .f32 _ (fop .mul .f32 Z (fop .quo .f32 (fop .sub .f32 Y MY) F))›
  refine bodyPost_ret ?h rfl ⟨⟨_, _, _, rfl, e0, e1, hz⟩, (by (try show Gr _ _); repeat (with_reducible first | exact Gr.refl _ | refine Gr.drewN ?_ _ | refine Gr.grew ?_ _ _ | refine Gr.alloc ?_ _ | refine Gr.drew ?_))⟩
  case h => simp [results, Try.results146, go_sem]
def gPtOk (F B X Y D : Nat) : Bool := (gFar F B D).isSome && (gFin X && gFin Y)
def gPtA (F B M X Y D P : Nat) : Nat := if gPtOk F B X Y D then gPt F M P ((gFar F B D).getD 0) else 0
def gPtZ (F B X Y D : Nat) : Nat := if gPtOk F B X Y D then (gFar F B D).getD 0 else 0
set_option maxHeartbeats 2000000 in
theorem S_l06Point_no (f b mx my x y d F B MX MY X Y D bl of : Nat) (w : World) (hf : FE .f32 f F) (hb : FE .f32 b B) (hx : FE .f32 x X) (hy : FE .f32 y Y) (hd : FE .f32 d D)
    (c0 : w.cell? ⟨bl, of, none⟩ = some (.float .f32 f)) (c1 : w.cell? ⟨bl, of + 1, none⟩ = some (.float .f32 b)) (hno : gPtOk F B X Y D = false) :
    Calls Try.prog 146 #[.pointer (some ⟨bl, of, none⟩), .float .f32 x, .float .f32 y, .float .f32 d] w fun e w' =>
      e = .returned (.tuple #[.agg #[.float .f32 0, .float .f32 0, .float .f32 0], .bool false]) ∧ ∃ os m, w' = w.grew os m := by
  have h0 := FE0
  have H := Lib.hid hno
  unfold gPtOk at hno
  rcases (show ((gFar F B D).isSome = false) ∨ ((gFar F B D).isSome = true ∧ gFin X = false) ∨ ((gFar F B D).isSome = true ∧ gFin X = true ∧ gFin Y = false) ∨ ((gFar F B D).isSome = true ∧ gFin X = true ∧ gFin Y = true) by cases (gFar F B D).isSome <;> cases gFin X <;> cases gFin Y <;> simp) with t1 | ⟨t1, t2⟩ | ⟨t1, t2, t3⟩ | ⟨t1, t2, t3⟩
  · clear hno
    go_enter Try.func146, Try.ntmps146
    go_wp2_with (first
      | (go_at_call 161; with_reducible refine (S_l06Depth _ _ _ _ _ _ _ _ _ hf hb hd (by simp [go_sem, c0]) (by simp [go_sem, c1])).mono ?_; rintro e w' ⟨⟨z, rfl, hz⟩, n, rfl⟩; rw [t1])
      | (go_at_call 145; with_reducible refine (S_l01Finite _ _ _ ‹_›).mono ?_; rintro e w' ⟨rfl, n, rfl⟩)
      | ((with_reducible apply wpList_fop); (case hw => rfl); (case hop => rfl); (case hx => rfl); (case hy => rfl); (case hA => (first | assumption | exact FE.ofInt _ _ | exact FE.lit (by decide +kernel))); (case hB => (first | assumption | exact FE.ofInt _ _ | exact FE.lit (by decide +kernel))); intro r n hr)
      | ((with_reducible apply wpList_fcmp); (case hw => rfl); (case hop => rfl); (case hx => rfl); (case hy => rfl); (case hA => (first | assumption | exact FE.ofInt _ _ | exact FE.lit (by decide +kernel))); (case hB => (first | assumption | exact FE.ofInt _ _ | exact FE.lit (by decide +kernel))); (case hb => (first | assumption | rfl)))
      | ((with_reducible apply wpList_widen); (case hw => rfl); (case hs => exact Try.underlying65); (case hd => exact Try.underlying147); (case hx => rfl); (case hA => (first | assumption | exact FE.ofInt _ _ | exact FE.lit (by decide +kernel))); intro r n hr)
      | ((with_reducible apply wpList_fneg); (case hw => rfl); (case hx => rfl); (case hA => (first | assumption | exact FE.ofInt _ _ | exact FE.lit (by decide +kernel))); intro r hr))
    exact bodyPost_ret (v := .tuple #[.agg #[.float .f32 0, .float .f32 0, .float .f32 0], .bool false]) (by simp [results, Try.results146, go_sem]) rfl ⟨rfl, (by (try show Gr _ _); repeat (with_reducible first | exact Gr.refl _ | refine Gr.drewN ?_ _ | refine Gr.grew ?_ _ _ | refine Gr.alloc ?_ _ | refine Gr.drew ?_))⟩
  · clear hno
    go_enter Try.func146, Try.ntmps146
    go_wp2_with (first
      | (go_at_call 161; with_reducible refine (S_l06Depth _ _ _ _ _ _ _ _ _ hf hb hd (by simp [go_sem, c0]) (by simp [go_sem, c1])).mono ?_; rintro e w' ⟨⟨z, rfl, hz⟩, n, rfl⟩; rw [t1])
      | (go_at_call 145; with_reducible refine (S_l01Finite _ _ _ ‹_›).mono ?_; rintro e w' ⟨rfl, n, rfl⟩; rw [t2])
      | ((with_reducible apply wpList_fop); (case hw => rfl); (case hop => rfl); (case hx => rfl); (case hy => rfl); (case hA => (first | assumption | exact FE.ofInt _ _ | exact FE.lit (by decide +kernel))); (case hB => (first | assumption | exact FE.ofInt _ _ | exact FE.lit (by decide +kernel))); intro r n hr)
      | ((with_reducible apply wpList_fcmp); (case hw => rfl); (case hop => rfl); (case hx => rfl); (case hy => rfl); (case hA => (first | assumption | exact FE.ofInt _ _ | exact FE.lit (by decide +kernel))); (case hB => (first | assumption | exact FE.ofInt _ _ | exact FE.lit (by decide +kernel))); (case hb => (first | assumption | rfl)))
      | ((with_reducible apply wpList_widen); (case hw => rfl); (case hs => exact Try.underlying65); (case hd => exact Try.underlying147); (case hx => rfl); (case hA => (first | assumption | exact FE.ofInt _ _ | exact FE.lit (by decide +kernel))); intro r n hr)
      | ((with_reducible apply wpList_fneg); (case hw => rfl); (case hx => rfl); (case hA => (first | assumption | exact FE.ofInt _ _ | exact FE.lit (by decide +kernel))); intro r hr))
    exact bodyPost_ret (v := .tuple #[.agg #[.float .f32 0, .float .f32 0, .float .f32 0], .bool false]) (by simp [results, Try.results146, go_sem]) rfl ⟨rfl, (by (try show Gr _ _); repeat (with_reducible first | exact Gr.refl _ | refine Gr.drewN ?_ _ | refine Gr.grew ?_ _ _ | refine Gr.alloc ?_ _ | refine Gr.drew ?_))⟩
  · clear hno
    go_enter Try.func146, Try.ntmps146
    go_wp2_with (first
      | (go_at_call 161; with_reducible refine (S_l06Depth _ _ _ _ _ _ _ _ _ hf hb hd (by simp [go_sem, c0]) (by simp [go_sem, c1])).mono ?_; rintro e w' ⟨⟨z, rfl, hz⟩, n, rfl⟩; rw [t1])
      | (go_at_call 145; with_reducible refine (S_l01Finite _ _ _ ‹_›).mono ?_; rintro e w' ⟨rfl, n, rfl⟩; first | rw [t2] | rw [t3])
      | ((with_reducible apply wpList_fop); (case hw => rfl); (case hop => rfl); (case hx => rfl); (case hy => rfl); (case hA => (first | assumption | exact FE.ofInt _ _ | exact FE.lit (by decide +kernel))); (case hB => (first | assumption | exact FE.ofInt _ _ | exact FE.lit (by decide +kernel))); intro r n hr)
      | ((with_reducible apply wpList_fcmp); (case hw => rfl); (case hop => rfl); (case hx => rfl); (case hy => rfl); (case hA => (first | assumption | exact FE.ofInt _ _ | exact FE.lit (by decide +kernel))); (case hB => (first | assumption | exact FE.ofInt _ _ | exact FE.lit (by decide +kernel))); (case hb => (first | assumption | rfl)))
      | ((with_reducible apply wpList_widen); (case hw => rfl); (case hs => exact Try.underlying65); (case hd => exact Try.underlying147); (case hx => rfl); (case hA => (first | assumption | exact FE.ofInt _ _ | exact FE.lit (by decide +kernel))); intro r n hr)
      | ((with_reducible apply wpList_fneg); (case hw => rfl); (case hx => rfl); (case hA => (first | assumption | exact FE.ofInt _ _ | exact FE.lit (by decide +kernel))); intro r hr))
    exact bodyPost_ret (v := .tuple #[.agg #[.float .f32 0, .float .f32 0, .float .f32 0], .bool false]) (by simp [results, Try.results146, go_sem]) rfl ⟨rfl, (by (try show Gr _ _); repeat (with_reducible first | exact Gr.refl _ | refine Gr.drewN ?_ _ | refine Gr.grew ?_ _ _ | refine Gr.alloc ?_ _ | refine Gr.drew ?_))⟩
  · rw [t1, t2, t3] at hno; cases hno
set_option maxHeartbeats 2000000 in
theorem I_Camera_point (f b mx my x y z F B MX MY X Y Z bl of : Nat) (w : World) (hf : FE .f32 f F) (hmx : FE .f32 mx MX) (hmy : FE .f32 my MY) (hx : FE .f32 x X) (hy : FE .f32 y Y) (hz : FE .f32 z Z)
    (c0 : w.cell? ⟨bl, of, none⟩ = some (.float .f32 f)) (c2 : w.cell? ⟨bl, of + 2, none⟩ = some (.float .f32 mx)) (c3 : w.cell? ⟨bl, of + 3, none⟩ = some (.float .f32 my)) :
    Calls Try.prog 111 #[.pointer (some ⟨bl, of, none⟩), .float .f32 x, .float .f32 y, .float .f32 z] w fun e w' =>
      (∃ r s t, e = .returned (.agg #[.float .f32 r, .float .f32 s, .float .f32 t]) ∧ FE .f32 r (gPt F MX X Z) ∧ FE .f32 s (gPt F MY Y Z) ∧ FE .f32 t Z) ∧ ∃ os m, w' = w.grew os m := by
  go_enter Try.func111, Try.ntmps111
  go_wp2_with (first
      | ((with_reducible apply wpList_fop); (case hw => rfl); (case hop => rfl); (case hx => rfl); (case hy => rfl); (case hA => (first | assumption | exact FE.ofInt _ _ | exact FE.lit (by decide +kernel))); (case hB => (first | assumption | exact FE.ofInt _ _ | exact FE.lit (by decide +kernel))); intro r n hr)
      | ((with_reducible apply wpList_fcmp); (case hw => rfl); (case hop => rfl); (case hx => rfl); (case hy => rfl); (case hA => (first | assumption | exact FE.ofInt _ _ | exact FE.lit (by decide +kernel))); (case hB => (first | assumption | exact FE.ofInt _ _ | exact FE.lit (by decide +kernel))); (case hb => (first | assumption | rfl)))
      | ((with_reducible apply wpList_widen); (case hw => rfl); (case hs => exact Try.underlying65); (case hd => exact Try.underlying147); (case hx => rfl); (case hA => (first | assumption | exact FE.ofInt _ _ | exact FE.lit (by decide +kernel))); intro r n hr)
      | ((with_reducible apply wpList_fneg); (case hw => rfl); (case hx => rfl); (case hA => (first | assumption | exact FE.ofInt _ _ | exact FE.lit (by decide +kernel))); intro r hr))
  apply region_drew 27
  case hm => kernel_rfl
  case hB => kernel_rfl
  simp only [List.take_succ_cons, List.take_zero, List.drop_succ_cons, List.drop_zero]
  repeat (first
    | (apply wpSoft_skip rfl; simp only [Act.put, List.setIfInBounds_toArray, List.set_cons_succ, List.set_cons_zero])
    | (apply wpSoft_nilCheck rfl rfl; simp only [Act.put, List.setIfInBounds_toArray, List.set_cons_succ, List.set_cons_zero])
    | ((with_reducible apply wpSoft_fop); (case hw => rfl); (case hD => exact closed_drew); (case hop => rfl); (case hx => rfl); (case hy => rfl); (case hA => (first | assumption | exact FE.ofInt _ _ | exact FE.lit (by decide +kernel))); (case hB => (first | assumption | exact FE.ofInt _ _ | exact FE.lit (by decide +kernel))); (intro r hr; simp only [Act.put, List.setIfInBounds_toArray, List.set_cons_succ, List.set_cons_zero]))

    | ((with_reducible apply wpSoft_widen); (case hw => rfl); (case hD => exact closed_drew); (case hs => exact Try.underlying65); (case hd => exact Try.underlying147); (case hx => rfl); (case hA => (first | assumption | exact FE.ofInt _ _ | exact FE.lit (by decide +kernel))); (intro r hr; simp only [Act.put, List.setIfInBounds_toArray, List.set_cons_succ, List.set_cons_zero]))
    | ((with_reducible apply wpSoft_fneg); (case hw => rfl); (case hx => rfl); (case hA => (first | assumption | exact FE.ofInt _ _ | exact FE.lit (by decide +kernel))); (intro r hr; simp only [Act.put, List.setIfInBounds_toArray, List.set_cons_succ, List.set_cons_zero]))
    | ((with_reducible apply wpSoft_fcmp); (case hw => rfl); (case hop => rfl); (case hx => rfl); (case hy => rfl); (case hA => (first | assumption | exact FE.ofInt _ _ | exact FE.lit (by decide +kernel))); (case hB => (first | assumption | exact FE.ofInt _ _ | exact FE.lit (by decide +kernel))); (case hb => (first | assumption | rfl)); simp only [Act.put, List.setIfInBounds_toArray, List.set_cons_succ, List.set_cons_zero])
    | (apply wpSoft_q rfl rfl; intro K hK; go_big_quiet_op; go_big_quiet_on))
  with_reducible apply wpSoft_nil
  intro m
  go_wp2
  have e0 := ‹FE .f32 _ (fop .mul .f32 Z (fop .quo .f32 (fop .sub .f32 X MX) F))›
  have e1 := ‹FE .f32 _ (fop .mul .f32 Z (fop .quo .f32 (fop .sub .f32 Y MY) F))›
  refine bodyPost_ret ?h rfl ⟨⟨_, _, _, rfl, e0, e1, hz⟩, (by (try show Gr _ _); repeat (with_reducible first | exact Gr.refl _ | refine Gr.drewN ?_ _ | refine Gr.grew ?_ _ _ | refine Gr.alloc ?_ _ | refine Gr.drew ?_))⟩
  case h => simp [results, Try.results111, go_sem]
def gPaOk (F B MX MY X Y D : Nat) : Bool := (gDepth F B MX MY D).isSome && (gFin X && gFin Y)
def gPaV (F B MX MY M P X Y D : Nat) : Nat := if gPaOk F B MX MY X Y D then gPt F M P ((gDepth F B MX MY D).getD 0) else 0
def gPaZ (F B MX MY X Y D : Nat) : Nat := if gPaOk F B MX MY X Y D then (gDepth F B MX MY D).getD 0 else 0
set_option maxHeartbeats 2000000 in
theorem L_eqVector (a b c x y z A B C : Nat) (w : World) (ha : FE .f32 a A) (hb : FE .f32 b B) (hc : FE .f32 c C) (hx : FE .f32 x A) (hy : FE .f32 y B) (hz : FE .f32 z C) :
    Calls Try.prog 112 #[.agg #[.float .f32 a, .float .f32 b, .float .f32 c], .agg #[.float .f32 x, .float .f32 y, .float .f32 z]] w fun e w' => e = .returned (.bool true) ∧ ∃ os m, w' = w.grew os m := by
  go_enter Try.func112, Try.ntmps112
  go_wp2_with (first
      | (go_at_call 119; with_reducible refine (L_sameFloat _ _ _ _ ‹_› ‹_›).mono ?_; rintro e w' ⟨rfl, n, rfl⟩)
      | ((with_reducible apply wpList_fop); (case hw => rfl); (case hop => rfl); (case hx => rfl); (case hy => rfl); (case hA => (first | assumption | exact FE.ofInt _ _ | exact FE.lit (by decide +kernel))); (case hB => (first | assumption | exact FE.ofInt _ _ | exact FE.lit (by decide +kernel))); intro r n hr)
      | ((with_reducible apply wpList_fcmp); (case hw => rfl); (case hop => rfl); (case hx => rfl); (case hy => rfl); (case hA => (first | assumption | exact FE.ofInt _ _ | exact FE.lit (by decide +kernel))); (case hB => (first | assumption | exact FE.ofInt _ _ | exact FE.lit (by decide +kernel))); (case hb => (first | assumption | rfl)))
      | ((with_reducible apply wpList_widen); (case hw => rfl); (case hs => exact Try.underlying65); (case hd => exact Try.underlying147); (case hx => rfl); (case hA => (first | assumption | exact FE.ofInt _ _ | exact FE.lit (by decide +kernel))); intro r n hr)
      | ((with_reducible apply wpList_fneg); (case hw => rfl); (case hx => rfl); (case hA => (first | assumption | exact FE.ofInt _ _ | exact FE.lit (by decide +kernel))); intro r hr))
  go_ret
  exact ⟨rfl, (by (try show Gr _ _); repeat (with_reducible first | exact Gr.refl _ | refine Gr.drewN ?_ _ | refine Gr.grew ?_ _ _ | refine Gr.alloc ?_ _ | refine Gr.drew ?_))⟩
end Go.Proofs.Ytaidkokgafojeaa
