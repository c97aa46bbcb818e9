/- Contracts: pictures that are copied. MAXREC -/
import Derived.Test.YtaidkokgafojeaaProg
import Derived.Test.YtaidkokgafojeaaPt
import Derived.Test.YtaidkokgafojeaaC15
import Derived.Test.YtaidkokgafojeaaC63
import Derived.ArgAppend
import Derived.Lib.SliceRun
import Derived.Deep.DeepCutAuto
import Derived.Deep.RegionHeld3
namespace Go.Proofs.Ytaidkokgafojeaa
open Go.RowKit Go.Fx Go.Soft
set_option maxRecDepth 20000 in
set_option maxHeartbeats 1000000 in
theorem S_l02Own (W H : Int) (a : Option Addr) (ca b off : Nat) (xs : List Nat) (w : World) (c0 : w.cell? ⟨b, off, none⟩ = some (.int .i64 W)) (c1 : w.cell? ⟨b, off + 1, none⟩ = some (.int .i64 H)) (c2 : w.cell? ⟨b, off + 2, none⟩ = some (.slice a xs.length ca)) (fs : FSl w a xs.length xs) (hpos : 0 < xs.length) (hn : xs.length ≤ 1048576) :
    Calls Try.prog 133 #[.pointer (some ⟨b, off, none⟩)] w fun e w' => (∃ v, e = .returned (.agg #[.int .i64 W, .int .i64 H, v]) ∧ FOwn w' w.heap.size 65 v xs) ∧ Gr w w' := by
  obtain ⟨i0, hi, hz0, hz1, hz2⟩ := info_parts info_float32
  have Hs := Lib.hid fs
  clear fs
  go_enter Try.func133, Try.ntmps133
  go_wp2
  apply region_facts 14 [13] (fun _ v w' => FOwn w' (w.heap.size + 1) 65 v xs)
  case hm => kernel_rfl
  case hB => kernel_rfl
  case hR => rfl
  case hP => (intro k hk v w1 w2 hg hv; exact hv.gr hg)
  simp only [List.take_succ_cons, List.take_zero, List.drop_succ_cons, List.drop_zero]
  repeat (first
    | ((with_reducible apply wpF_new (c := #[]) (e := 65) (fun b => .slice (some ⟨b, 0, none⟩) 0 0)); (case hw => rfl); (case hx => (intro w; simp [execOp, go_sem])); (case hF => (intro w b hb hc hk; exact absurd hk (by decide))); (intro b hb; simp only [Act.put, List.setIfInBounds_toArray, List.set_cons_succ, List.set_cons_zero]))
    | ((with_reducible apply wpF_appendNew); (case hw => rfl); (case i => exact i0); (case ht => exact Try.underlying22); (case hi => exact hi); (case hz => exact hz0); (case hsize => exact hz1); (case hby => exact hz2); (case hs => rfl); (case hx => rfl); (case hy => exact Hs.out.keep (by (repeat (with_reducible first | exact Kp.refl _ | exact kp_same | exact kp_app1 | exact kp_app2 | exact kp_app3 | refine Kp.grew ?_ _ _ | refine Kp.drewN ?_ _ | refine Kp.drew ?_ | refine Kp.alloc ?_ _)))); (case hpos => exact hpos); (case hn => exact hn); (case hF => (intro w v ho _; exact ho.base (by simp <;> omega))); (intro a' c'; simp only [Act.put, List.setIfInBounds_toArray, List.set_cons_succ, List.set_cons_zero]))
    | (apply wpF_skip rfl (by decide); simp only [Act.put, List.setIfInBounds_toArray, List.set_cons_succ, List.set_cons_zero])
    | (apply wpF_nilCheck rfl (by decide) rfl; simp only [Act.put, List.setIfInBounds_toArray, List.set_cons_succ, List.set_cons_zero])
    | ((with_reducible apply wpF_fop); (case hw => rfl); (case hT => decide); (case hop => rfl); (case hx => rfl); (case hy => rfl); (case hA => (first | assumption | exact FE.ofInt _ _ | exact FE.lit (by decide +kernel))); (case hB => (first | assumption | exact FE.ofInt _ _ | exact FE.lit (by decide +kernel))); (intro r hr; simp only [Act.put, List.setIfInBounds_toArray, List.set_cons_succ, List.set_cons_zero]))
    | ((with_reducible apply wpF_fneg); (case hw => rfl); (case hT => decide); (case hx => rfl); (case hA => (first | assumption | exact FE.ofInt _ _ | exact FE.lit (by decide +kernel))); (intro r hr; simp only [Act.put, List.setIfInBounds_toArray, List.set_cons_succ, List.set_cons_zero]))
    | ((with_reducible apply wpF_fcmp); (case hw => rfl); (case hT => decide); (case hop => rfl); (case hx => rfl); (case hy => rfl); (case hA => (first | assumption | exact FE.ofInt _ _ | exact FE.lit (by decide +kernel))); (case hB => (first | assumption | exact FE.ofInt _ _ | exact FE.lit (by decide +kernel))); (case hb => (first | assumption | rfl)); simp only [Act.put, List.setIfInBounds_toArray, List.set_cons_succ, List.set_cons_zero])
    | (apply wpF_q rfl (by decide) rfl; intro K hK; go_big_quiet_op; go_big_quiet_on))
  with_reducible apply wpF_nil
  intro os m hf
  have Ho := Lib.hid hf.1
  clear hf
  go_wp2
  exact bodyPost_ret (v := .agg #[.int .i64 W, .int .i64 H, .slice a' xs.length c']) (by simp [results, Try.results133, go_sem]) rfl ⟨⟨_, rfl, (Ho.out.swap (by simp) (by simp)).base (by omega)⟩, (by (try show Gr _ _); repeat (with_reducible first | exact Gr.refl _ | refine Gr.drewN ?_ _ | refine Gr.grew ?_ _ _ | refine Gr.alloc ?_ _ | refine Gr.drew ?_))⟩
set_option maxRecDepth 20000 in
set_option maxHeartbeats 1000000 in
theorem CloneF (a : Option Addr) (ca : Nat) (xs : List Nat) (w : World) (fs : FSl w a xs.length xs) (hpos : 0 < xs.length) (hn : xs.length ≤ 1048576) :
    Calls Try.prog 160 #[.slice a xs.length ca] w fun e w' => (∃ v, e = .returned v ∧ FOwn w' w.heap.size 65 v xs) ∧ Gr w w' := by
  obtain ⟨i0, hi, hz0, hz1, hz2⟩ := info_parts info_float32
  have Hs := Lib.hid fs
  obtain ⟨bx, ox, rfl⟩ := fs.ptr hpos
  clear fs
  have hnil : (binOp .eql 22 (.slice (some ⟨bx, ox, none⟩) xs.length ca) (.slice none 0 0)).run Try.prog w = .ok (.bool false) w := Lib.run_eql_slice_nil w _ _ _ _ _ _ _ Try.underlying22
  go_enter Try.func160, Try.ntmps160
  go_wp2_with (first | (simp only [hnil]) | (at_builtin; refine wpList_append_fs rfl rfl i0 Try.underlying22 hi hz0 hz1 hz2 (v := .slice (some ⟨w.heap.size, 0, none⟩) 0 0) (xs := []) (B := w.heap.size) rfl (FOwn.empty (Blk.atNew rfl) (Nat.le_refl _)) rfl (Hs.out.keep (by (repeat (with_reducible first | exact Kp.refl _ | exact kp_same | exact kp_app1 | exact kp_app2 | exact kp_app3 | refine Kp.grew ?_ _ _ | refine Kp.drewN ?_ _ | refine Kp.drew ?_ | refine Kp.alloc ?_ _)))) hpos ?c3 ?c4 ?_))
  case c3 => simp; omega
  case c4 => simp
  intro v' w' ho hg
  have G := Lib.hid (Gr.grownBy (show Gr w (w.alloc (.cells #[] 65)) from (by (try show Gr _ _); repeat (with_reducible first | exact Gr.refl _ | refine Gr.drewN ?_ _ | refine Gr.grew ?_ _ _ | refine Gr.alloc ?_ _ | refine Gr.drew ?_))) hg (fun k hk => by simp [Value.ownBlock] at hk; omega))
  have Ho := Lib.hid ho
  obtain ⟨a1, c1, rfl, -, -⟩ := ho.sl
  clear ho hg
  go_wp2
  go_ret
  exact ⟨⟨_, rfl, Ho.out⟩, G.out⟩
set_option maxRecDepth 20000 in
set_option maxHeartbeats 1000000 in
theorem I_clonePicture (W H : Int) (a : Option Addr) (ca : Nat) (xs : List Nat) (w : World) (fs : FSl w a xs.length xs) (hpos : 0 < xs.length) (hn : xs.length ≤ 1048576) :
    Calls Try.prog 134 #[.agg #[.int .i64 W, .int .i64 H, .slice a xs.length ca]] w fun e w' => (∃ v, e = .returned (.agg #[.int .i64 W, .int .i64 H, v]) ∧ FOwn w' w.heap.size 65 v xs) ∧ Gr w w' := by
  have LC := Lib.hid (fun w1 (g : Gr w w1) => CloneF a ca xs w1 (fs.keep g.kp) hpos hn)
  clear fs
  go_enter Try.func134, Try.ntmps134
  go_wp2
  go_region_held3 (fun w' => w'.cell? ⟨w.heap.size, 0, none⟩ = some (.int .i64 W) ∧ w'.cell? ⟨w.heap.size, 1, none⟩ = some (.int .i64 H) ∧ w'.cell? ⟨w.heap.size, 2, none⟩ = some (.slice a xs.length ca))
      (first | (simp (maxDischargeDepth := 12) [go_sem]; done) | (simp (maxDischargeDepth := 12) [go_sem, *]; done)) (first
      | (go_at_call 160; refine (LC.out _ (by (try show Gr _ _); repeat (with_reducible first | exact Gr.refl _ | refine Gr.drewN ?_ _ | refine Gr.grew ?_ _ _ | refine Gr.alloc ?_ _ | refine Gr.drew ?_))).mono ?_; rintro e w1 ⟨⟨v, rfl, ho⟩, os, m, rfl⟩; obtain ⟨a1, c1, rfl, -, -⟩ := ho.sl))
  have Ho := Lib.hid ho
  clear ho LC
  go_wp2
  refine bodyPost_ret (v := .agg #[.int .i64 W, .int .i64 H, .slice a1 xs.length c1]) (by simp [results, Try.results134, go_sem]) rfl ⟨⟨_, rfl, ?_⟩, (by (try show Gr _ _); repeat (with_reducible first | exact Gr.refl _ | refine Gr.drewN ?_ _ | refine Gr.grew ?_ _ _ | refine Gr.alloc ?_ _ | refine Gr.drew ?_))⟩
  exact (FOwn.swap Ho.out (by simp) (by simp)).base (by simp <;> omega)
end Go.Proofs.Ytaidkokgafojeaa
