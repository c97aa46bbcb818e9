/- Contracts: the points near a plane. MAXREC -/
import Derived.Test.YtldeeijfipiafaaProg
import Derived.Test.YtldeeijfipiafaaC44
import Derived.Deep.DeepCutAuto
namespace Go.Proofs.Ytldeeijfipiafaa
open Go.RowKit Go.Fx Go.Soft
/-- Whether the k-th point is near. -/
def gIsNear (A B C N : Nat) (xs : List Nat) (k : Nat) : Bool := fcmp .leq .f32 (gAbs (gOffD A B C xs k)) N
theorem info_int64v : (Try.prog.info? 2).map (fun i => (i.zero, i.size, i.bytes)) = some (some (.int .i64 0), 1, 8) := by kernel_rfl
set_option maxRecDepth 20000 in
set_option maxHeartbeats 2000000 in
theorem I_nearPlane (a b c nr A B C N n : Nat) (p : Option Addr) (cp : Nat) (xs : List Nat) (w : World) (fx : FSl w p (n * 3) xs) (hn : n ≤ 1048576) (ha : FE .f32 a A) (hb : FE .f32 b B) (hc : FE .f32 c C) (hN : FE .f32 nr N) :
    Calls Try.prog 122 #[.slice p n cp, .agg #[.float .f32 a, .float .f32 b, .float .f32 c], .float .f32 nr] w fun e w' => (∃ v, e = .returned v ∧ IOwn w' w.heap.size 2 v (gPk (gIsNear A B C N xs) n)) ∧ Gr w w' := by
  obtain ⟨i0, hi, hz0, hz1, hz2⟩ := info_parts info_int64v
  have Fx := Lib.hid fx
  have Hl := Lib.hid fx.len
  clear fx
  go_enter Try.func122, Try.ntmps122
  go_wp2
  go_loopw [7, 13] (fun s i wr => ∃ k : Nat, k ≤ n ∧ i = .int .i64 k ∧ IOwn wr w.heap.size 2 s (gPk (gIsNear A B C N xs) k) ∧ Blk wr w.heap.size [.float .f32 a, .float .f32 b, .float .f32 c] 76 ∧ Gr w wr) (fun _ i _ => n - (intOf i).toNat)
  case atStart => exact ⟨0, Nat.zero_le _, rfl, IOwn.empty (Blk.atNew (by simp)) (by first | omega | (simp <;> omega)), (by repeat (with_reducible first | assumption | exact Blk.atNew (by simp) | refine Blk.alloc ?_ _ | refine Blk.grew ?_ _ _ | refine Blk.drewN ?_ _ | refine Blk.drew ?_)), (by (try show Gr _ _); repeat (with_reducible first | exact Gr.refl _ | refine Gr.drewN ?_ _ | refine Gr.grew ?_ _ _ | refine Gr.alloc ?_ _ | refine Gr.drew ?_))⟩
  case round =>
    obtain ⟨k, hk, rfl, ho, hB, hg⟩ := hrel
    by_cases hlt : k < n
    · have hl := Hl.out
      obtain ⟨bx, ox, rfl⟩ := Fx.out.ptr (by omega)
      have FX := Fx.out.keep hg.kp
      obtain ⟨r0, c0, g0⟩ := FX.get (k * 3) (by omega)
      obtain ⟨r1, c1, g1⟩ := FX.get (k * 3 + 1) (by omega)
      obtain ⟨r2, c2, g2⟩ := FX.get (k * 3 + 2) (by omega)
      rw [← Nat.add_assoc] at c1 c2
      have p0 := hB.cellv 0
      have p1 := hB.cellv 1
      have p2 := hB.cellv 2
      have HO := Lib.hid (fun (u : World) => I_off r0 r1 r2 a b c _ _ _ A B C u g0 g1 g2 ha hb hc)
      have HB := Lib.hid hB
      clear hB
      have EK := Lib.hid (show gPk (gIsNear A B C N xs) (k + 1) = if gIsNear A B C N xs k then gPk (gIsNear A B C N xs) k ++ [(k : Int)] else gPk (gIsNear A B C N xs) k from rfl)
      have HLk := gPk_length (gIsNear A B C N xs) k
      have eN : fcmp .leq .f32 (gAbs (fop .sub .f32 (xs.getD (k * 3 + 2) 0) (gHeight A B C (xs.getD (k * 3) 0) (xs.getD (k * 3 + 1) 0)))) N = gIsNear A B C N xs k := rfl
      generalize gAbs (fop .sub .f32 (xs.getD (k * 3 + 2) 0) (gHeight A B C (xs.getD (k * 3) 0) (xs.getD (k * 3 + 1) 0))) = O at *
      have Ho := Lib.hid ho
      have Hg := Lib.hid hg
      clear ho hg FX hl g0 g1 g2
      cases t1 : gIsNear A B C N xs k
      · rw [t1] at eN
        go_wp2_with (first
      | (go_at_call 125; refine (HO.out _).mono ?_; rintro e w' ⟨q, rfl, hq, os, m, rfl⟩)
      | ((with_reducible apply wpList_fop); (case hw => rfl); (case hop => rfl); (case hx => rfl); (case hy => rfl); (case hA => (first | assumption | exact FE.ofInt _ _ | exact FE.lit (by decide +kernel))); (case hB => (first | assumption | exact FE.ofInt _ _ | exact FE.lit (by decide +kernel))); intro r n hr)
      | ((with_reducible apply wpList_fcmp); (case hw => rfl); (case hop => rfl); (case hx => rfl); (case hy => rfl); (case hA => (first | assumption | exact FE.ofInt _ _ | exact FE.lit (by decide +kernel))); (case hB => (first | assumption | exact FE.ofInt _ _ | exact FE.lit (by decide +kernel))); (case hb => (first | assumption | rfl)))
      | ((with_reducible apply wpList_widen); (case hw => rfl); (case hs => exact Try.underlying42); (case hd => exact Try.underlying84); (case hx => rfl); (case hA => (first | assumption | exact FE.ofInt _ _ | exact FE.lit (by decide +kernel))); intro r n hr)
      | ((with_reducible apply wpList_fneg); (case hw => rfl); (case hx => rfl); (case hA => (first | assumption | exact FE.ofInt _ _ | exact FE.lit (by decide +kernel))); intro r hr))
        go_roundw
        case rel => exact ⟨k + 1, by omega, by go_num, by rw [EK.out, t1]; exact Ho.out.gr (by repeat (with_reducible first | assumption | exact Gr.refl _ | refine Gr.alloc ?_ _ | refine Gr.grew ?_ _ _ | refine Gr.drewN ?_ _ | refine Gr.drew ?_)), HB.out.gr (by repeat (with_reducible first | assumption | exact Gr.refl _ | refine Gr.alloc ?_ _ | refine Gr.grew ?_ _ _ | refine Gr.drewN ?_ _ | refine Gr.drew ?_)), Hg.out.trans (by repeat (with_reducible first | assumption | exact Gr.refl _ | refine Gr.alloc ?_ _ | refine Gr.grew ?_ _ _ | refine Gr.drewN ?_ _ | refine Gr.drew ?_))⟩
        case measure => simp [intOf]; omega
      · rw [t1] at eN
        go_wp2_with (first
      | (go_at_call 125; refine (HO.out _).mono ?_; rintro e w' ⟨q, rfl, hq, os, m, rfl⟩)
      | (apply wpList_append_i (hgd := rfl) (ho := rfl) (i := i0) (ht := Try.underlying54) (hi := hi) (hz := hz0) (hsize := hz1) (hby := hz2); (case hown => exact Ho.out.gr (by repeat (with_reducible first | assumption | exact Gr.refl _ | refine Gr.alloc ?_ _ | refine Gr.grew ?_ _ _ | refine Gr.drewN ?_ _ | refine Gr.drew ?_))); (case hs => rfl); (case hx => rfl); (case hcell => exact (Blk.atNew (by simp)).cellv 0 rfl); (case hn => omega); (case hB => exact Gr.size (Hg.out.trans (by repeat (with_reducible first | assumption | exact Gr.refl _ | refine Gr.alloc ?_ _ | refine Gr.grew ?_ _ _ | refine Gr.drewN ?_ _ | refine Gr.drew ?_)))); intro v2 w2 ho2 hg2; have G2 := Lib.hid (Gr.grownBy (Hg.out.trans (by repeat (with_reducible first | assumption | exact Gr.refl _ | refine Gr.alloc ?_ _ | refine Gr.grew ?_ _ _ | refine Gr.drewN ?_ _ | refine Gr.drew ?_))) hg2 (fun q hq => (IOwn.block Ho.out hq).1)); have HO2 := Lib.hid ho2; have B3 := Lib.hid (Blk.grown (HB.out.gr (by repeat (with_reducible first | assumption | exact Gr.refl _ | refine Gr.alloc ?_ _ | refine Gr.grew ?_ _ _ | refine Gr.drewN ?_ _ | refine Gr.drew ?_))) hg2 (Ho.out.okb (.inr (HB.out.okb (e := 2) (by decide))))); clear hg2 ho2)
      | ((with_reducible apply wpList_fop); (case hw => rfl); (case hop => rfl); (case hx => rfl); (case hy => rfl); (case hA => (first | assumption | exact FE.ofInt _ _ | exact FE.lit (by decide +kernel))); (case hB => (first | assumption | exact FE.ofInt _ _ | exact FE.lit (by decide +kernel))); intro r n hr)
      | ((with_reducible apply wpList_fcmp); (case hw => rfl); (case hop => rfl); (case hx => rfl); (case hy => rfl); (case hA => (first | assumption | exact FE.ofInt _ _ | exact FE.lit (by decide +kernel))); (case hB => (first | assumption | exact FE.ofInt _ _ | exact FE.lit (by decide +kernel))); (case hb => (first | assumption | rfl)))
      | ((with_reducible apply wpList_widen); (case hw => rfl); (case hs => exact Try.underlying42); (case hd => exact Try.underlying84); (case hx => rfl); (case hA => (first | assumption | exact FE.ofInt _ _ | exact FE.lit (by decide +kernel))); intro r n hr)
      | ((with_reducible apply wpList_fneg); (case hw => rfl); (case hx => rfl); (case hA => (first | assumption | exact FE.ofInt _ _ | exact FE.lit (by decide +kernel))); intro r hr))
        go_roundw
        case rel => exact ⟨k + 1, by omega, by go_num, by rw [EK.out, t1]; exact HO2.out, B3.out, G2.out⟩
        case measure => simp [intOf]; omega
    · obtain rfl : k = n := by omega
      have Ho := Lib.hid ho
      have Hg := Lib.hid hg
      clear ho hg
      go_wp2
      go_ret
      exact ⟨⟨_, rfl, Ho.out⟩, Hg.out⟩
set_option maxRecDepth 20000 in
set_option maxHeartbeats 2000000 in
theorem S_l06Near (a b c nr A B C N n bl : Nat) (p : Option Addr) (cp : Nat) (xs : List Nat) (w : World) (fx : FSl w p (n * 3) xs) (hn : n ≤ 1048576) (ha : FE .f32 a A) (hb : FE .f32 b B) (hc : FE .f32 c C) (hN : FE .f32 nr N)
    (q0 : w.cell? ⟨bl, 0, none⟩ = some (.float .f32 a)) (q1 : w.cell? ⟨bl, 1, none⟩ = some (.float .f32 b)) (q2 : w.cell? ⟨bl, 2, none⟩ = some (.float .f32 c)) :
    Calls Try.prog 120 #[.slice p n cp, .pointer (some ⟨bl, 0, none⟩), .float .f32 nr] w fun e w' => (∃ v, e = .returned v ∧ IOwn w' w.heap.size 2 v (gPk (gIsNear A B C N xs) n)) ∧ Gr w w' := by
  obtain ⟨i0, hi, hz0, hz1, hz2⟩ := info_parts info_int64v
  have Fx := Lib.hid fx
  have Hl := Lib.hid fx.len
  clear fx
  go_enter Try.func120, Try.ntmps120
  go_wp2
  go_loopw [7, 8] (fun s i wr => ∃ k : Nat, k ≤ n ∧ i = .int .i64 k ∧ IOwn wr w.heap.size 2 s (gPk (gIsNear A B C N xs) k) ∧ Gr w wr) (fun _ i _ => n - (intOf i).toNat)
  case atStart => exact ⟨0, Nat.zero_le _, rfl, IOwn.empty (Blk.atNew (by simp)) (by first | omega | (simp <;> omega)), (by (try show Gr _ _); repeat (with_reducible first | exact Gr.refl _ | refine Gr.drewN ?_ _ | refine Gr.grew ?_ _ _ | refine Gr.alloc ?_ _ | refine Gr.drew ?_))⟩
  case round =>
    obtain ⟨k, hk, rfl, ho, hg⟩ := hrel
    by_cases hlt : k < n
    · have hl := Hl.out
      obtain ⟨bx, ox, rfl⟩ := Fx.out.ptr (by omega)
      have FX := Fx.out.keep hg.kp
      obtain ⟨r0, c0, g0⟩ := FX.get (k * 3) (by omega)
      obtain ⟨r1, c1, g1⟩ := FX.get (k * 3 + 1) (by omega)
      obtain ⟨r2, c2, g2⟩ := FX.get (k * 3 + 2) (by omega)
      rw [← Nat.add_assoc] at c1 c2
      have HO := Lib.hid (fun (u : World) (hu : Gr wr u) => S_l06Off r0 r1 r2 a b c _ _ _ A B C bl u g0 g1 g2 ha hb hc (hu.cell (hg.cell q0)) (hu.cell (hg.cell q1)) (hu.cell (hg.cell q2)))
      have EK := Lib.hid (show gPk (gIsNear A B C N xs) (k + 1) = if gIsNear A B C N xs k then gPk (gIsNear A B C N xs) k ++ [(k : Int)] else gPk (gIsNear A B C N xs) k from rfl)
      have HLk := gPk_length (gIsNear A B C N xs) k
      have eN : fcmp .leq .f32 (gNegV (fop .sub .f32 (xs.getD (k * 3 + 2) 0) (gHeight A B C (xs.getD (k * 3) 0) (xs.getD (k * 3 + 1) 0)))) N = gIsNear A B C N xs k := leq_abs _ _ (gOffD_neg A B C xs k)
      generalize gNegV (fop .sub .f32 (xs.getD (k * 3 + 2) 0) (gHeight A B C (xs.getD (k * 3) 0) (xs.getD (k * 3 + 1) 0))) = O at *
      have Ho := Lib.hid ho
      have Hg := Lib.hid hg
      clear ho hg FX hl g0 g1 g2
      cases t1 : gIsNear A B C N xs k
      · rw [t1] at eN
        go_wp2_with (first
      | (go_at_call 124; refine (HO.out _ (by repeat (with_reducible first | assumption | exact Gr.refl _ | refine Gr.alloc ?_ _ | refine Gr.grew ?_ _ _ | refine Gr.drewN ?_ _ | refine Gr.drew ?_))).mono ?_; rintro e w' ⟨q, rfl, hq, os, m, rfl⟩)
      | ((with_reducible apply wpList_fop); (case hw => rfl); (case hop => rfl); (case hx => rfl); (case hy => rfl); (case hA => (first | assumption | exact FE.ofInt _ _ | exact FE.lit (by decide +kernel))); (case hB => (first | assumption | exact FE.ofInt _ _ | exact FE.lit (by decide +kernel))); intro r n hr)
      | ((with_reducible apply wpList_fcmp); (case hw => rfl); (case hop => rfl); (case hx => rfl); (case hy => rfl); (case hA => (first | assumption | exact FE.ofInt _ _ | exact FE.lit (by decide +kernel))); (case hB => (first | assumption | exact FE.ofInt _ _ | exact FE.lit (by decide +kernel))); (case hb => (first | assumption | rfl)))
      | ((with_reducible apply wpList_widen); (case hw => rfl); (case hs => exact Try.underlying42); (case hd => exact Try.underlying84); (case hx => rfl); (case hA => (first | assumption | exact FE.ofInt _ _ | exact FE.lit (by decide +kernel))); intro r n hr)
      | ((with_reducible apply wpList_fneg); (case hw => rfl); (case hx => rfl); (case hA => (first | assumption | exact FE.ofInt _ _ | exact FE.lit (by decide +kernel))); intro r hr))
        go_roundw
        case rel => exact ⟨k + 1, by omega, by go_num, by rw [EK.out, t1]; exact Ho.out.gr (by repeat (with_reducible first | assumption | exact Gr.refl _ | refine Gr.alloc ?_ _ | refine Gr.grew ?_ _ _ | refine Gr.drewN ?_ _ | refine Gr.drew ?_)), Hg.out.trans (by repeat (with_reducible first | assumption | exact Gr.refl _ | refine Gr.alloc ?_ _ | refine Gr.grew ?_ _ _ | refine Gr.drewN ?_ _ | refine Gr.drew ?_))⟩
        case measure => simp [intOf]; omega
      · rw [t1] at eN
        go_wp2_with (first
      | (go_at_call 124; refine (HO.out _ (by repeat (with_reducible first | assumption | exact Gr.refl _ | refine Gr.alloc ?_ _ | refine Gr.grew ?_ _ _ | refine Gr.drewN ?_ _ | refine Gr.drew ?_))).mono ?_; rintro e w' ⟨q, rfl, hq, os, m, rfl⟩)
      | (apply wpList_append_i (hgd := rfl) (ho := rfl) (i := i0) (ht := Try.underlying54) (hi := hi) (hz := hz0) (hsize := hz1) (hby := hz2); (case hown => exact Ho.out.gr (by repeat (with_reducible first | assumption | exact Gr.refl _ | refine Gr.alloc ?_ _ | refine Gr.grew ?_ _ _ | refine Gr.drewN ?_ _ | refine Gr.drew ?_))); (case hs => rfl); (case hx => rfl); (case hcell => exact (Blk.atNew (by simp)).cellv 0 rfl); (case hn => omega); (case hB => exact Gr.size (Hg.out.trans (by repeat (with_reducible first | assumption | exact Gr.refl _ | refine Gr.alloc ?_ _ | refine Gr.grew ?_ _ _ | refine Gr.drewN ?_ _ | refine Gr.drew ?_)))); intro v2 w2 ho2 hg2; have G2 := Lib.hid (Gr.grownBy (Hg.out.trans (by repeat (with_reducible first | assumption | exact Gr.refl _ | refine Gr.alloc ?_ _ | refine Gr.grew ?_ _ _ | refine Gr.drewN ?_ _ | refine Gr.drew ?_))) hg2 (fun q hq => (IOwn.block Ho.out hq).1)); have HO2 := Lib.hid ho2; clear hg2 ho2)
      | ((with_reducible apply wpList_fop); (case hw => rfl); (case hop => rfl); (case hx => rfl); (case hy => rfl); (case hA => (first | assumption | exact FE.ofInt _ _ | exact FE.lit (by decide +kernel))); (case hB => (first | assumption | exact FE.ofInt _ _ | exact FE.lit (by decide +kernel))); intro r n hr)
      | ((with_reducible apply wpList_fcmp); (case hw => rfl); (case hop => rfl); (case hx => rfl); (case hy => rfl); (case hA => (first | assumption | exact FE.ofInt _ _ | exact FE.lit (by decide +kernel))); (case hB => (first | assumption | exact FE.ofInt _ _ | exact FE.lit (by decide +kernel))); (case hb => (first | assumption | rfl)))
      | ((with_reducible apply wpList_widen); (case hw => rfl); (case hs => exact Try.underlying42); (case hd => exact Try.underlying84); (case hx => rfl); (case hA => (first | assumption | exact FE.ofInt _ _ | exact FE.lit (by decide +kernel))); intro r n hr)
      | ((with_reducible apply wpList_fneg); (case hw => rfl); (case hx => rfl); (case hA => (first | assumption | exact FE.ofInt _ _ | exact FE.lit (by decide +kernel))); intro r hr))
        go_roundw
        case rel => exact ⟨k + 1, by omega, by go_num, by rw [EK.out, t1]; exact HO2.out, G2.out⟩
        case measure => simp [intOf]; omega
    · obtain rfl : k = n := by omega
      have Ho := Lib.hid ho
      have Hg := Lib.hid hg
      clear ho hg
      go_wp2
      go_ret
      exact ⟨⟨_, rfl, Ho.out⟩, Hg.out⟩
set_option maxRecDepth 20000 in
set_option maxHeartbeats 1000000 in
theorem I_NearPlane (a b c nr A B C N n : Nat) (p : Option Addr) (cp : Nat) (xs : List Nat) (w : World) (fx : FSl w p (n * 3) xs) (hn : n ≤ 1048576) (ha : FE .f32 a A) (hb : FE .f32 b B) (hc : FE .f32 c C) (hN : FE .f32 nr N) :
    Calls Try.prog 54 #[.slice p n cp, .agg #[.float .f32 a, .float .f32 b, .float .f32 c], .float .f32 nr] w (PostI w (decide (n ≤ 256)) (if n ≤ 256 then gPk (gIsNear A B C N xs) n else [])) := by
  have Fx := Lib.hid fx
  clear fx
  by_cases h256 : n ≤ 256
  · rw [if_pos h256, decide_eq_true h256]
    go_enter Try.func54, Try.ntmps54
    go_wp2_with fail
    refine (I_nearPlane a b c nr A B C N n p cp xs _ (Fx.out.keep (by (repeat (with_reducible first | exact Kp.refl _ | exact kp_same | exact kp_app1 | exact kp_app2 | exact kp_app3 | refine Kp.grew ?_ _ _ | refine Kp.drewN ?_ _ | refine Kp.drew ?_ | refine Kp.alloc ?_ _)))) hn ha hb hc hN).mono ?_
    rintro e u ⟨⟨v, rfl, ho⟩, g⟩
    have Ho := Lib.hid (ho.base (B' := w.heap.size) (by simp))
    have Hg := Lib.hid (Gr.trans (by (try show Gr _ _); repeat (with_reducible first | exact Gr.refl _ | refine Gr.drewN ?_ _ | refine Gr.grew ?_ _ _ | refine Gr.alloc ?_ _ | refine Gr.drew ?_)) g : Gr w u)
    obtain ⟨a1, c1, rfl, -, -⟩ := ho.sl
    clear ho g
    go_wp2
    exact bodyPost_ret (v := .tuple #[.slice a1 _ c1, .bool true]) (by simp [results, Try.results54, go_sem]) rfl ⟨⟨_, rfl, Ho.out⟩, Hg.out⟩
  · rw [if_neg h256, decide_eq_false h256]
    go_enter Try.func54, Try.ntmps54
    go_wp2
    exact bodyPost_ret (v := .tuple #[.slice none 0 0, .bool false]) (by simp [results, Try.results54, go_sem]) rfl ⟨⟨_, rfl, IOwn.nil _ _ _⟩, (by (try show Gr _ _); repeat (with_reducible first | exact Gr.refl _ | refine Gr.drewN ?_ _ | refine Gr.grew ?_ _ _ | refine Gr.alloc ?_ _ | refine Gr.drew ?_))⟩
set_option maxRecDepth 20000 in
set_option maxHeartbeats 1000000 in
theorem S_NearPlane (a b c nr A B C N n : Nat) (p : Option Addr) (cp : Nat) (xs : List Nat) (w : World) (fx : FSl w p (n * 3) xs) (hn : n ≤ 1048576) (ha : FE .f32 a A) (hb : FE .f32 b B) (hc : FE .f32 c C) (hN : FE .f32 nr N) :
    Calls Try.prog 51 #[.slice p n cp, .agg #[.float .f32 a, .float .f32 b, .float .f32 c], .float .f32 nr] w (PostI w (decide (n ≤ 256)) (if n ≤ 256 then gPk (gIsNear A B C N xs) n else [])) := by
  have Fx := Lib.hid fx
  clear fx
  by_cases h256 : n ≤ 256
  · rw [if_pos h256, decide_eq_true h256]
    have e256 : decide (n ≤ 256) = true := decide_eq_true h256
    go_enter Try.func51, Try.ntmps51
    go_wp2_with (first
      | (go_at_call 119; refine (S_l06Many0 _ _ _ _ hn).mono ?_; rintro e w' ⟨rfl, rfl⟩; rw [e256]))
    refine (S_l06Near a b c nr A B C N n _ p cp xs _ (Fx.out.keep (by (repeat (with_reducible first | exact Kp.refl _ | exact kp_same | exact kp_app1 | exact kp_app2 | exact kp_app3 | refine Kp.grew ?_ _ _ | refine Kp.drewN ?_ _ | refine Kp.drew ?_ | refine Kp.alloc ?_ _)))) hn ha hb hc hN (by first | (simp (maxDischargeDepth := 12) [go_sem]; done) | (simp (maxDischargeDepth := 12) [go_sem, *]; done)) (by first | (simp (maxDischargeDepth := 12) [go_sem]; done) | (simp (maxDischargeDepth := 12) [go_sem, *]; done)) (by first | (simp (maxDischargeDepth := 12) [go_sem]; done) | (simp (maxDischargeDepth := 12) [go_sem, *]; done))).mono ?_
    rintro e u ⟨⟨v, rfl, ho⟩, g⟩
    have Ho := Lib.hid (ho.base (B' := w.heap.size) (by simp))
    have Hg := Lib.hid (Gr.trans (by (try show Gr _ _); repeat (with_reducible first | exact Gr.refl _ | refine Gr.drewN ?_ _ | refine Gr.grew ?_ _ _ | refine Gr.alloc ?_ _ | refine Gr.drew ?_)) g : Gr w u)
    obtain ⟨a1, c1, rfl, -, -⟩ := ho.sl
    clear ho g
    go_wp2
    exact bodyPost_ret (v := .tuple #[.slice a1 _ c1, .bool true]) (by simp [results, Try.results51, go_sem]) rfl ⟨⟨_, rfl, Ho.out⟩, Hg.out⟩
  · rw [if_neg h256, decide_eq_false h256]
    have e256 : decide (n ≤ 256) = false := decide_eq_false h256
    go_enter Try.func51, Try.ntmps51
    go_wp2_with (first
      | (go_at_call 119; refine (S_l06Many0 _ _ _ _ hn).mono ?_; rintro e w' ⟨rfl, rfl⟩; rw [e256]))
    exact bodyPost_ret (v := .tuple #[.slice none 0 0, .bool false]) (by simp [results, Try.results51, go_sem]) rfl ⟨⟨_, rfl, IOwn.nil _ _ _⟩, (by (try show Gr _ _); repeat (with_reducible first | exact Gr.refl _ | refine Gr.drewN ?_ _ | refine Gr.grew ?_ _ _ | refine Gr.alloc ?_ _ | refine Gr.drew ?_))⟩
end Go.Proofs.Ytldeeijfipiafaa
