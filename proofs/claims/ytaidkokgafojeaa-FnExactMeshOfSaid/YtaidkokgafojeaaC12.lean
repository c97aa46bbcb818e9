/- Contracts: pictures and maps whose cells are told by a function value. -/
import Derived.Test.YtaidkokgafojeaaProg
import Derived.Test.YtaidkokgafojeaaC8
import Derived.Test.YtaidkokgafojeaaGd
import Derived.Test.YtaidkokgafojeaaWk2
namespace Go.Proofs.Ytaidkokgafojeaa
open Go.RowKit Go.Fx Go.Soft
/-- A function value that tells the numbers V of the cells, in whatever grows out of w. -/
structure Tells (w : World) (f : FuncId) (cs : Array Value) (W H : Nat) (V : Nat → Nat → Nat) : Prop where
  call : ∀ args w, (callFunc f args).run Try.prog w = .ok (.enter f args) w
  says : ∀ x y, x < W → y < H → ∀ w1, Gr w w1 → Calls Try.prog f (#[.int .i64 x, .int .i64 y] ++ cs) w1 fun e w' => (∃ r, e = .returned (.float .f32 r) ∧ FE .f32 r (V x y)) ∧ Gr w1 w'
theorem calls_some {f : FuncId} {args : Array Value} {w : World} {Q : Ending → World → Prop} (h : Calls Try.prog f args w Q) : ∃ e w', Q e w' := by
  obtain ⟨e, w', fr, hq, _⟩ := h []
  exact ⟨e, w', hq⟩
theorem Tells.fe {w : World} {f : FuncId} {cs : Array Value} {W H : Nat} {V : Nat → Nat → Nat} (h : Tells w f cs W H V) {x y : Nat} (hx : x < W) (hy : y < H) : ∃ v, FS .f32 (V x y) v := by
  obtain ⟨e, w', ⟨r, _, hr⟩, _⟩ := calls_some (h.says x y hx hy w (Gr.refl w))
  exact ⟨_, r, rfl, hr⟩
theorem Tells.gr {w w' : World} {f : FuncId} {cs : Array Value} {W H : Nat} {V : Nat → Nat → Nat} (h : Tells w f cs W H V) (g : Gr w w') : Tells w' f cs W H V :=
  ⟨h.call, fun x y hx hy w1 g1 => h.says x y hx hy w1 (g.trans g1)⟩
theorem FS_some {k : FloatKind} {r e : Nat} (h : FE k r e) : ∃ v, FS k e v := ⟨_, r, rfl, h⟩
theorem run_field_greys (x y : Value) (a : Option Addr) (n c : Nat) (w : World) : (Instr.field 35 (.agg #[x, y, .slice a n c]) 2).run Try.prog w = .ok (.slice a n c) w := by
  simp [Instr.field, part, asAgg, run_underlying Try.underlying35, go_sem]
attribute [go_sem] run_field_greys
set_option maxHeartbeats 4000000 in
theorem I_made (W H : Nat) (V : Nat → Nat → Nat) (f : FuncId) (cs : Array Value) (w : World) (hf : Tells w f cs W H V) (hW : W ≤ 24) (hH : H ≤ 24) (hW0 : 1 ≤ W) (hH0 : 1 ≤ H) :
    Calls Try.prog 127 #[.int .i64 W, .int .i64 H, .func (.func f) #[] cs] w fun e w' => (∃ v, e = .returned (.agg #[.int .i64 W, .int .i64 H, v]) ∧ FOwn w' w.heap.size 65 v (grid W V (W * H))) ∧ Gr w w' := by
  obtain ⟨i0, hi, hz0, hz1, hz2⟩ := info_parts info_float32
  have Hf := Lib.hid hf
  clear hf
  have h24 : W * H ≤ 576 := Nat.mul_le_mul hW hH
  go_enter Try.func127, Try.ntmps127
  go_wp2
  go_loopw [8, 14] (fun s8 i wr => ∃ y : Nat, y ≤ H ∧ i = .int .i64 y ∧ ∃ v, Blk wr (w.heap.size + 1) [.int .i64 W, .int .i64 H, v] 35 ∧ Blk wr w.heap.size [.int .i64 0, .int .i64 0, .slice none 0 0] 35 ∧ FOwn wr (w.heap.size + 2) 65 v (grid W V (0 + W * y)) ∧ Gr w wr) (fun _ i _ => H - (intOf i).toNat)
  case atStart => exact ⟨0, Nat.zero_le _, rfl, .slice none 0 0, (by repeat (with_reducible first | assumption | exact Blk.atNew (by simp) | refine Blk.alloc ?_ _ | refine Blk.grew ?_ _ _ | refine Blk.drewN ?_ _ | refine Blk.drew ?_)), (by repeat (with_reducible first | assumption | exact Blk.atNew (by simp) | refine Blk.alloc ?_ _ | refine Blk.grew ?_ _ _ | refine Blk.drewN ?_ _ | refine Blk.drew ?_)), FOwn.nil _ _ _, (by (try show Gr _ _); repeat (with_reducible first | exact Gr.refl _ | refine Gr.drewN ?_ _ | refine Gr.grew ?_ _ _ | refine Gr.alloc ?_ _ | refine Gr.drew ?_))⟩
  case round =>
    obtain ⟨y, hy, rfl, v, hb, hb0, ho, hg⟩ := hrel
    by_cases hlt : y < H
    · have Hb := Lib.hid hb
      have Hb0 := Lib.hid hb0
      have Ho := Lib.hid ho
      have Hg := Lib.hid hg
      clear hb hb0 ho hg
      go_wp2
      go_loopw [9, 18] (fun s9 i wx => ∃ x : Nat, x ≤ W ∧ i = .int .i64 x ∧ ∃ v, Blk wx (w.heap.size + 1) [.int .i64 W, .int .i64 H, v] 35 ∧ Blk wx w.heap.size [.int .i64 0, .int .i64 0, .slice none 0 0] 35 ∧ FOwn wx (w.heap.size + 2) 65 v (grid W V (x + W * y)) ∧ Gr w wx) (fun _ i _ => W - (intOf i).toNat)
      case atStart => exact ⟨0, Nat.zero_le _, rfl, v, Hb.out, Hb0.out, Ho.out, Hg.out⟩
      case round =>
        clear Hb Hb0 Ho Hg
        obtain ⟨x, hx, rfl, v, hb, hb0, ho, hg⟩ := hrel
        by_cases hxt : x < W
        · have p2 := hb.cellv 2
          have hl := cell_lt hxt hlt
          have Hb := Lib.hid hb
          have Hb0 := Lib.hid hb0
          have Ho := Lib.hid ho
          have Hg := Lib.hid hg
          clear hb hb0 ho hg
          go_wp2
          apply region_facts 7 [6] (fun _ v w' => ∃ b r, v = .slice (some ⟨b, 0, none⟩) 1 1 ∧ Blk w' b [.float .f32 r] 65 ∧ FE .f32 r (V x y))
          case hm => kernel_rfl
          case hB => kernel_rfl
          case hR => rfl
          case hP => (intro k hk v w1 w2 hg hv; obtain ⟨b, r, hv, hB, hr⟩ := hv; exact ⟨b, r, hv, hB.gr hg, hr⟩)
          simp only [List.take_succ_cons, List.take_zero, List.drop_succ_cons, List.drop_zero]
          repeat (first
            | ((with_reducible apply wpF_callv (f := f) (cs := cs) (vs := #[.int .i64 x, .int .i64 y] ++ cs) (S := FS .f32 (V x y))); (case hw => rfl); (case hfx => rfl); (case hc => exact Hf.out.call); (case hv => (simp [Act.eval]; done)); (case hS => (intro os m _; refine (Hf.out.says x y hxt hlt _ (Hg.out.grew os m)).mono ?_; rintro e w' ⟨⟨r, rfl, hr⟩, g⟩; exact ⟨_, rfl, g, fun h => absurd h (by decide), r, rfl, hr⟩)); (case hne => exact Hf.out.fe hxt hlt); (rintro v ⟨r, rfl, hr⟩; simp only [Act.put, List.setIfInBounds_toArray, List.set_cons_succ, List.set_cons_zero]))
            | ((with_reducible apply wpF_new (c := #[.float .f32 r]) (e := 65) (fun b => .slice (some ⟨b, 0, none⟩) 1 1)); (case hw => rfl); (case hx => (intro w; simp [execOp, go_sem])); (case hF => (intro w b hb hc _; exact ⟨b, _, rfl, ⟨hc⟩, hr⟩)); (intro b hb; simp only [Act.put, List.setIfInBounds_toArray, List.set_cons_succ, List.set_cons_zero]))
            | (apply wpF_skip rfl (by decide); simp only [Act.put, List.setIfInBounds_toArray, List.set_cons_succ, List.set_cons_zero])
            | (apply wpF_nilCheck rfl (by decide) rfl; simp only [Act.put, List.setIfInBounds_toArray, List.set_cons_succ, List.set_cons_zero])
            | ((with_reducible apply wpF_fop); (case hw => rfl); (case hT => decide); (case hop => rfl); (case hx => rfl); (case hy => rfl); (case hA => (first | assumption | exact FE.ofInt _ _ | exact FE.lit (by decide +kernel))); (case hB => (first | assumption | exact FE.ofInt _ _ | exact FE.lit (by decide +kernel))); (intro r hr; simp only [Act.put, List.setIfInBounds_toArray, List.set_cons_succ, List.set_cons_zero]))
            | ((with_reducible apply wpF_fneg); (case hw => rfl); (case hT => decide); (case hx => rfl); (case hA => (first | assumption | exact FE.ofInt _ _ | exact FE.lit (by decide +kernel))); (intro r hr; simp only [Act.put, List.setIfInBounds_toArray, List.set_cons_succ, List.set_cons_zero]))
            | ((with_reducible apply wpF_fcmp); (case hw => rfl); (case hT => decide); (case hop => rfl); (case hx => rfl); (case hy => rfl); (case hA => (first | assumption | exact FE.ofInt _ _ | exact FE.lit (by decide +kernel))); (case hB => (first | assumption | exact FE.ofInt _ _ | exact FE.lit (by decide +kernel))); (case hb => (first | assumption | rfl)); simp only [Act.put, List.setIfInBounds_toArray, List.set_cons_succ, List.set_cons_zero])
            | (apply wpF_q rfl (by decide) rfl; intro K hK; go_big_quiet_op; go_big_quiet_on))
          with_reducible apply wpF_nil
          intro os m hf
          obtain ⟨b', r', hb', hB', hr'⟩ := hf.1
          obtain rfl : b' = _ := by simpa using hb'.symm
          have G := (Gr.refl wr).grew os m
          have ho' := Ho.out.gr G
          have Hb1 := Lib.hid (Hb.out.gr G)
          have Hb01 := Lib.hid (Hb0.out.gr G)
          have c' := hB'.cellv 0
          clear hf hb'
          refine wpList_append_f rfl rfl i0 Try.underlying22 hi hz0 hz1 hz2 rfl ho' rfl c' hr' (by simp; omega) (by have := Hb1.out.lt; omega) ?_
          intro v1 w1 ho1 hg1
          obtain ⟨a1, c1, rfl, -, -⟩ := ho1.sl' (x + W * y + 1) (by simp)
          have nb := ho'.notBlk (b := w.heap.size + 1) (by omega)
          have nb0 := ho'.notBlk (b := w.heap.size) (by omega)
          have hb1 := Hb1.out.grown hg1 nb
          have Hb02 := Lib.hid (Hb01.out.grown hg1 nb0)
          have q2 := hb1.cellv 2
          have z2 := hb1.frozen 2
          have Hg1 := Lib.hid ((Hg.out.trans G).grownBy hg1 (fun k hk => by have := (ho'.block hk).1; omega))
          have Hb2 := Lib.hid hb1
          have Ho1 := Lib.hid ho1
          clear nb nb0 hg1 hb1 ho' ho1
          go_wp2
          go_roundw
          case rel => exact ⟨x + 1, by omega, by go_num, _, Hb2.out.set _, Hb02.out.setOther _ (by simp), by rw [← grid_succ hxt]; exact Ho1.out.setOther _ (by simp), Hg1.out.setCell (by simp) _⟩
          case measure => simp [intOf]; omega
        · obtain rfl : x = W := by omega
          have Hb := Lib.hid hb
          have Hb0 := Lib.hid hb0
          have Ho := Lib.hid ho
          have Hg := Lib.hid hg
          clear hb hb0 ho hg
          go_wp2
          go_roundw
          case rel => exact ⟨y + 1, by omega, by go_num, v, Hb.out, Hb0.out, by rw [← grid_row]; exact Ho.out, Hg.out⟩
          case measure => simp [intOf]; omega
    · obtain rfl : y = H := by omega
      have p0 := hb.cellv 0
      have p1 := hb.cellv 1
      have p2 := hb.cellv 2
      have q0 := hb0.cellv 0
      have q1 := hb0.cellv 1
      have q2 := hb0.cellv 2
      have z0 := hb0.frozen 0
      have z1 := hb0.frozen 1
      have z2 := hb0.frozen 2
      obtain ⟨a1, c1, rfl, -, -⟩ := ho.sl' (W * y) (by simp)
      have Ho := Lib.hid ho
      have Hg := Lib.hid hg
      clear hb hb0 ho hg
      go_wp2
      refine bodyPost_ret (v := .agg #[.int .i64 W, .int .i64 y, .slice a1 (W * y) c1]) (by simp [results, Try.results127, go_sem, *]) rfl ⟨⟨_, rfl, ?_⟩, ?_⟩
      · have h := Ho.out
        rw [Nat.zero_add] at h
        refine FOwn.base (B := w.heap.size + 2) ?_ (by omega)
        exact ((h.setOther (p := ⟨w.heap.size, 0, none⟩) _ (by simp)).setOther (p := ⟨w.heap.size, 1, none⟩) _ (by simp)).setOther (p := ⟨w.heap.size, 2, none⟩) _ (by simp)
      · exact ((Hg.out.setCell (Nat.le_refl _) _).setCell (Nat.le_refl _) _).setCell (Nat.le_refl _) _
end Go.Proofs.Ytaidkokgafojeaa
