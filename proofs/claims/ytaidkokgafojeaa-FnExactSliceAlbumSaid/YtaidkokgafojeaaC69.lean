/- Contracts: some pictures of an album, copied. MAXREC -/
import Derived.Test.YtaidkokgafojeaaProg
import Derived.Test.YtaidkokgafojeaaC68
import Derived.Test.YtaidkokgafojeaaWk2
import Derived.Deep.DeepCutAuto
import Derived.Deep.RegionHeld3
namespace Go.Fx
open Go Go.Soft Go.RowKit
section
variable {P : Program} {ops : Array Oper} {w0 : World} {T : List Nat} {F : Nat → Value → World → Prop} {Q : Act → Prop} {k : Nat} {rest : List Oper} {Ms : List (Option (Value → Prop))} {a : Act} {dst : Option Tmp} {ty : TypeId} {pos : String} {after : Array Edge} {guard : Option (Nat × Bool)}
/-- As wpF_new; what is told of other operations may be used. -/
theorem wpF_newS {oo : Op} {c : Array Value} {e : TypeId} (mk : Nat → Value) (hw : Region.wanted ⟨dst, oo, ty, pos, after, guard⟩ (yielded ops a.tmps) = true)
    (hx : ∀ w, (execOp a.eval ⟨dst, oo, ty, pos, after, guard⟩).run P w = .ok (.value (mk w.heap.size)) (w.alloc (.cells c e)))
    (hF : ∀ w, Gr w0 w → Soft2.seen ops .any T F ⟨dst, oo, ty, pos, after, guard⟩ a w → k ∈ T → F k (mk w.heap.size) (w.alloc (.cells c e)))
    (h : ∀ b, w0.heap.size ≤ b → wpF P ops w0 T F Q (k + 1) rest Ms (a.put dst (mk b))) :
    wpF P ops w0 T F Q k (⟨dst, oo, ty, pos, after, guard⟩ :: rest) (some (fun v => ∃ b, w0.heap.size ≤ b ∧ v = mk b) :: Ms) a := by
  simp only [wpF, Soft2.wpSoft, hw, if_true]
  refine ⟨?_, ⟨_, w0.heap.size, Nat.le_refl _, rfl⟩, fun v ⟨b, hb, hv⟩ => by subst hv; exact h b hb⟩
  rintro w ⟨g, rfl⟩ hse
  rw [hx]
  refine ⟨⟨⟨g.os ++ #[.cells c e], g.m⟩, ?_⟩, (Gr.refl _).alloc _, fun hT => hF _ ⟨g.os, g.m, rfl⟩ hse hT, _, by simp, rfl⟩
  rw [alloc_grew]; simp; rfl
end
end Go.Fx
namespace Go.Proofs.Ytaidkokgafojeaa
open Go.RowKit Go.Fx Go.Soft
theorem info_picture' : (Try.prog.info? 35).map (fun i => (i.zero, i.size, i.bytes)) = some (some (.agg #[.int .i64 0, .int .i64 0, .slice none 0 0]), 3, 40) := by kernel_rfl
/-- A row of pictures behind a store into the cell of an album. -/
theorem PIn_set {w : World} {lo b n : Nat} {v u x : Value} {cs : List Value} {ps : List Pic} (ho : w.ownsRow lo 35 3 v ps.length cs) (hp : PRow w lo w.heap.size 65 cs ps ps.length) (hB : Blk w b [x] 50) : PIn (w.setCell ⟨b, n, none⟩ u) lo w.heap.size 35 65 v ps :=
  ⟨cs, ⟨own_setCell ho u (own_ne ho (hB.okb (by decide))), fun k hk => (World.ownsRow.lt ho k hk).2⟩, hp.imp (Nat.le_refl _) (Nat.le_refl _) (fun _ _ _ _ _ _ f => f.setOk (hB.okb (by decide)))⟩
set_option maxRecDepth 20000 in
set_option maxHeartbeats 4000000 in
theorem S_l07Some (b F C n cap : Nat) (a : Option Addr) (ps : List Pic) (w : World) (c0 : w.cell? ⟨b, 0, none⟩ = some (.slice a n cap)) (hs : PSl w a ps) (hl : ps.length = n) (hn : n ≤ 1048576) (hFC : F + C ≤ n) (hps : ∀ i, i < n → 0 < (pAt ps i).gs.length ∧ (pAt ps i).gs.length ≤ 1048576) :
    Calls Try.prog 83 #[.pointer (some ⟨b, 0, none⟩), .int .i64 F, .int .i64 C] w fun e w' => (∃ v, e = .returned (.agg #[v]) ∧ PIn w' w.heap.size w'.heap.size 35 65 v (gSome ps F C)) ∧ Gr w w' := by
  obtain ⟨i0, hi, hz0, hz1, hz2⟩ := info_parts info_picture'
  have Hs := Lib.hid hs
  have Hl := Lib.hid hl
  have Hps := Lib.hid hps
  clear hs hl hps
  go_enter Try.func83, Try.ntmps83
  go_wp2
  go_loopw [8] (fun i wr => ∃ k : Nat, k ≤ C ∧ i = .int .i64 ((F + k : Nat) : Int) ∧ (∃ v cs, Blk wr (w.heap.size + 2) [v] 50 ∧ Blk wr w.heap.size [.slice none 0 0] 50 ∧ wr.ownsRow (w.heap.size + 1) 35 3 v k cs ∧ PRow wr (w.heap.size + 1) wr.heap.size 65 cs (gSome ps F C) k) ∧ Gr w wr) (fun i _ => F + C - (intOf i).toNat)
  case atStart => exact ⟨0, Nat.zero_le _, rfl, ⟨_, [], (by repeat (with_reducible first | assumption | exact Blk.atNew (by simp) | refine Blk.alloc ?_ _ | refine Blk.grew ?_ _ _ | refine Blk.drewN ?_ _ | refine Blk.drew ?_)), (by repeat (with_reducible first | assumption | exact Blk.atNew (by simp) | refine Blk.alloc ?_ _ | refine Blk.grew ?_ _ _ | refine Blk.drewN ?_ _ | refine Blk.drew ?_)), own_empty (by repeat (with_reducible first | assumption | exact Blk.atNew (by simp) | refine Blk.alloc ?_ _ | refine Blk.grew ?_ _ _ | refine Blk.drewN ?_ _ | refine Blk.drew ?_)) (by simp), PRow.zero _ _ _ _ _ _⟩, (by (try show Gr _ _); repeat (with_reducible first | exact Gr.refl _ | refine Gr.drewN ?_ _ | refine Gr.grew ?_ _ _ | refine Gr.alloc ?_ _ | refine Gr.drew ?_))⟩
  case round =>
    obtain ⟨k, hk, rfl, ⟨v, cs, hb, hb0, ho, hp⟩, hg⟩ := hrel
    obtain ⟨av, cv, rfl⟩ := own_form ho
    have x0 := hg.cell c0
    by_cases hlt : k < C
    · obtain ⟨bl, off, rfl⟩ := Hs.out.ptr (by rw [Hl.out]; omega)
      obtain ⟨ga, gc, d0, d1, d2, df, -⟩ := (Hs.out.keep hg.kp).get (i := F + k) (by rw [Hl.out]; omega)
      obtain ⟨hpos, hm⟩ := Hps.out (F + k) (by omega)
      have EW := Lib.hid (show (pAt (gSome ps F C) k) = pAt ps (F + k) from gSome_at ps F hlt)
      obtain ⟨W, hW⟩ : ∃ W, W = (pAt ps (F + k)).wide := ⟨_, rfl⟩
      obtain ⟨H, hH⟩ : ∃ H, H = (pAt ps (F + k)).high := ⟨_, rfl⟩
      obtain ⟨L, hL⟩ : ∃ L, L = (pAt ps (F + k)).gs := ⟨_, rfl⟩
      have HW := Lib.hid hW
      have HH := Lib.hid hH
      have HL := Lib.hid hL
      rw [← hW] at d0
      rw [← hH] at d1
      rw [← hL] at d2 df hpos hm
      have LO := Lib.hid (fun w1 (g : Gr wr w1) => S_l02Own W H ga gc bl (off + (F + k) * 3) L w1 (g.cell d0) (g.cell d1) (g.cell d2) (df.keep g.kp) hpos hm)
      have p0 := hb.cellv 0
      have Hb := Lib.hid hb
      have Hb0 := Lib.hid hb0
      have Ho := Lib.hid ho
      have Hp := Lib.hid hp
      have Hg := Lib.hid hg
      clear hb hb0 ho hp hg df hW hH hL d0 d1 d2
      go_wp2
      apply region_facts 10 [8, 9] (fun k v w' => (k = 8 → ∃ v', v = .agg #[.int .i64 W, .int .i64 H, v'] ∧ FOwn w' wr.heap.size 65 v' L) ∧ (k = 9 → ∃ b x, v = .slice (some ⟨b, 0, none⟩) 1 1 ∧ Blk w' b [.int .i64 W, .int .i64 H, x] 35 ∧ FOwn w' wr.heap.size 65 x L))
      case hm => kernel_rfl
      case hB => kernel_rfl
      case hR => rfl
      case hP => (intro k hk v w1 w2 hg hv; exact ⟨fun h => (by obtain ⟨v', e, ho⟩ := hv.1 h; exact ⟨v', e, ho.gr hg⟩), fun h => (by obtain ⟨b, x, e, hb, ho⟩ := hv.2 h; exact ⟨b, x, e, hb.gr hg, ho.gr hg⟩)⟩)
      simp only [List.take_succ_cons, List.take_zero, List.drop_succ_cons, List.drop_zero]
      repeat (first
        | ((with_reducible apply wpF_call (f := 133) (S := fun v => ∃ a' c', v = .agg #[.int .i64 W, .int .i64 H, .slice a' L.length c'])); (case hw => rfl); (case hc => exact Try.call133); (case hv => ((conv => lhs; simp [Act.eval]); try rfl)); (case hS => (intro os m _; refine (LO.out _ ⟨os, m, rfl⟩).mono ?_; rintro e w' ⟨⟨v', rfl, ho⟩, g⟩; obtain ⟨a', c', rfl, -, -⟩ := ho.sl; exact ⟨_, rfl, g, fun _ => ⟨fun _ => ⟨_, rfl, ho.base (by simp)⟩, fun h => absurd h (by decide)⟩, a', c', rfl⟩)); (case hne => exact ⟨_, none, 0, rfl⟩); (rintro v ⟨aq, cq, rfl⟩; simp only [Act.put, List.setIfInBounds_toArray, List.set_cons_succ, List.set_cons_zero]))
        | ((with_reducible apply wpF_newS (c := #[.int .i64 W, .int .i64 H, .slice aq L.length cq]) (e := 35) (fun b => .slice (some ⟨b, 0, none⟩) 1 1)); (case hw => rfl); (case hx => (intro w; simp [execOp, go_sem])); (case hF => (intro w' g hse _; obtain ⟨v', ev, ho⟩ := (hse ⟨8, .data⟩ (by simp) rfl (by decide) _ _ rfl rfl).1 rfl; simp at ev; obtain rfl := ev; exact ⟨fun h => absurd h (by decide), fun _ => ⟨_, _, rfl, Blk.new w' [_, _, _] _, ho.gr ((Gr.refl _).alloc _)⟩⟩)); (intro b hb; simp only [Act.put, List.setIfInBounds_toArray, List.set_cons_succ, List.set_cons_zero]))
        | (apply wpF_skip rfl (by decide); simp only [Act.put, List.setIfInBounds_toArray, List.set_cons_succ, List.set_cons_zero])
        | (apply wpF_nilCheck rfl (by decide) rfl; simp only [Act.put, List.setIfInBounds_toArray, List.set_cons_succ, List.set_cons_zero])
        | ((with_reducible apply wpF_fop); (case hw => rfl); (case hT => decide); (case hop => rfl); (case hx => rfl); (case hy => rfl); (case hA => (first | assumption | exact FE.ofInt _ _ | exact FE.lit (by decide +kernel))); (case hB => (first | assumption | exact FE.ofInt _ _ | exact FE.lit (by decide +kernel))); (intro r hr; simp only [Act.put, List.setIfInBounds_toArray, List.set_cons_succ, List.set_cons_zero]))
        | ((with_reducible apply wpF_fneg); (case hw => rfl); (case hT => decide); (case hx => rfl); (case hA => (first | assumption | exact FE.ofInt _ _ | exact FE.lit (by decide +kernel))); (intro r hr; simp only [Act.put, List.setIfInBounds_toArray, List.set_cons_succ, List.set_cons_zero]))
        | ((with_reducible apply wpF_fcmp); (case hw => rfl); (case hT => decide); (case hop => rfl); (case hx => rfl); (case hy => rfl); (case hA => (first | assumption | exact FE.ofInt _ _ | exact FE.lit (by decide +kernel))); (case hB => (first | assumption | exact FE.ofInt _ _ | exact FE.lit (by decide +kernel))); (case hb => (first | assumption | rfl)); simp only [Act.put, List.setIfInBounds_toArray, List.set_cons_succ, List.set_cons_zero])
        | (apply wpF_q rfl (by decide) rfl; intro K hK; go_big_quiet_op; go_big_quiet_on))
      with_reducible apply wpF_nil
      intro os m hf
      obtain ⟨b', s', hb', hB', hs'⟩ := hf.2.1.2 rfl
      obtain rfl : b' = _ := by simpa using hb'.symm
      obtain ⟨as', cs', rfl, -, -⟩ := hs'.sl
      obtain ⟨u, hu⟩ : ∃ u, u = World.grew wr os m := ⟨_, rfl⟩
      rw [← hu] at hB' hs' ⊢
      have K : Gr wr u := ⟨os, m, hu⟩
      have q0 := hB'.cellv 0
      have q1 := hB'.cellv 1
      have q2 := hB'.cellv 2
      have HN := hs'.fin
      have oK := own_gr Ho.out K
      clear hf hb' hu hB' hs'
      refine wpList_append_p rfl rfl i0 Try.underlying48 hi hz0 hz1 hz2 rfl oK rfl q0 q1 q2 (by omega) (by have := Hb.out.lt; have := K.size; omega) ?_
      intro v1 w1 ho1 hg1
      obtain ⟨a1, c1, rfl⟩ := own_form ho1
      have hwr : w.heap.size + 1 ≤ wr.heap.size := by have := Hb.out.lt; omega
      have HB1 := (Hb0.out.gr K).grown hg1 (own_ne oK ((Hb0.out.gr K).okb (by decide)))
      obtain ⟨hb1, g1, ho2, hp2⟩ := pushP_step (m := 0) (ps := gSome ps F C) (Hg.out.trans K) (show w.heap.size ≤ w.heap.size + 1 by omega) oK (Hp.out.gr K (Nat.le_refl _)) (Hb.out.gr K) (show w.heap.size ≤ w.heap.size + 2 by omega) (by decide) (by decide) (by decide) (by rw [EW.out, ← HL.out]; exact HN) hwr (Nat.le_refl _) K.size (by rw [EW.out, ← HW.out]) (by rw [EW.out, ← HH.out]) hg1 ho1
      have r0 := hb1.cellv 0
      have z0 := hb1.frozen 0
      have Hb2 := Lib.hid hb1
      have HB2 := Lib.hid HB1
      have G1 := Lib.hid g1
      have O2 := Lib.hid ho2
      have P2 := Lib.hid hp2
      clear hb1 HB1 g1 ho2 hp2 ho1 hg1 oK HN q0 q1 q2
      go_wp2
      go_roundw
      case rel => exact ⟨k + 1, by omega, by go_num, ⟨_, _, Hb2.out.set _, HB2.out.setOther _ (by simp; omega), O2.out, P2.out.imp (Nat.le_refl _) (by simp [World.setCell]) (fun _ _ _ _ _ _ f => f)⟩, G1.out.setCell (by simp; omega) _⟩
      case measure => simp [intOf]; omega
    · obtain rfl : k = C := by omega
      have p0 := hb.cellv 0
      have q0 := hb0.cellv 0
      have z0 := hb0.frozen 0
      have Hp := Lib.hid (PIn_set (ps := gSome ps F k) (n := 0) (u := .slice av k cv) (by rw [gSome_length]; exact ho) (by rw [gSome_length]; exact hp) hb0)
      have Hg := Lib.hid hg
      clear hb hb0 ho hp hg x0
      go_wp2
      refine bodyPost_ret (v := .agg #[.slice av k cv]) (by simp [results, Try.results83, go_sem, *]) rfl ⟨⟨_, rfl, ?_⟩, ?_⟩
      · exact Hp.out.base (by omega) (by simp [World.setCell])
      · exact Hg.out.setCell (Nat.le_refl _) _
theorem PSl.part {w : World} {bl off F C : Nat} {ps : List Pic} (h : PSl w (some ⟨bl, off, none⟩) ps) (hl : F + C ≤ ps.length) : PSl w (some ⟨bl, off + F * 3, none⟩) (gSome ps F C) := by
  intro i hi
  rw [gSome_length] at hi
  obtain ⟨ga, gc, q0, q1, q2, q3, q4⟩ := h.get (i := F + i) (by omega)
  rw [gSome_at ps F hi]
  refine ⟨bl, off + F * 3, ga, gc, rfl, ?_, ?_, ?_, q3, q4⟩
  · rw [show off + F * 3 + i * 3 = off + (F + i) * 3 by omega]; exact q0
  · rw [show off + F * 3 + i * 3 + 1 = off + (F + i) * 3 + 1 by omega]; exact q1
  · rw [show off + F * 3 + i * 3 + 2 = off + (F + i) * 3 + 2 by omega]; exact q2
set_option maxRecDepth 20000 in
set_option maxHeartbeats 4000000 in
theorem I_cloneAlbum (n cap : Nat) (a : Option Addr) (ps : List Pic) (w : World) (hs : PSl w a ps) (hl : ps.length = n) (hn : n ≤ 1048576) (hps : ∀ i, i < n → 0 < (pAt ps i).gs.length ∧ (pAt ps i).gs.length ≤ 1048576) :
    Calls Try.prog 85 #[.slice a n cap] w fun e w' => (∃ v, e = .returned (.agg #[v]) ∧ PIn w' w.heap.size w'.heap.size 35 65 v ps) ∧ Gr w w' := by
  obtain ⟨i0, hi, hz0, hz1, hz2⟩ := info_parts info_picture'
  have Hs := Lib.hid hs
  have Hl := Lib.hid hl
  have Hps := Lib.hid hps
  clear hs hl hps
  go_enter Try.func85, Try.ntmps85
  go_wp2
  go_loopw [9] (fun i wr => ∃ k : Nat, k ≤ n ∧ i = .int .i64 k ∧ (∃ v cs, Blk wr (w.heap.size + 1) [v] 50 ∧ Blk wr w.heap.size [.slice none 0 0] 50 ∧ wr.ownsRow (w.heap.size + 2) 35 3 v k cs ∧ PRow wr (w.heap.size + 2) wr.heap.size 65 cs ps k) ∧ Gr w wr) (fun i _ => n - (intOf i).toNat)
  case atStart => exact ⟨0, Nat.zero_le _, rfl, ⟨.slice none 0 0, [], Blk.atNew (by simp), (Blk.atNew rfl).alloc _, ⟨rfl, .inl ⟨rfl, rfl⟩⟩, PRow.zero _ _ _ _ _ _⟩, (by (try show Gr _ _); repeat (with_reducible first | exact Gr.refl _ | refine Gr.drewN ?_ _ | refine Gr.grew ?_ _ _ | refine Gr.alloc ?_ _ | refine Gr.drew ?_))⟩
  case round =>
    obtain ⟨k, hk, rfl, ⟨v, cs, hb, hb0, ho, hp⟩, hg⟩ := hrel
    obtain ⟨av, cv, rfl⟩ := own_form ho
    by_cases hlt : k < n
    · obtain ⟨bl, off, rfl⟩ := Hs.out.ptr (by rw [Hl.out]; omega)
      obtain ⟨ga, gc, d0, d1, d2, df, -⟩ := (Hs.out.keep hg.kp).get (i := k) (by rw [Hl.out]; omega)
      obtain ⟨hpos, hm⟩ := Hps.out k (by omega)
      obtain ⟨W, hW⟩ : ∃ W, W = (pAt ps k).wide := ⟨_, rfl⟩
      obtain ⟨H, hH⟩ : ∃ H, H = (pAt ps k).high := ⟨_, rfl⟩
      obtain ⟨L, hL⟩ : ∃ L, L = (pAt ps k).gs := ⟨_, rfl⟩
      have HW := Lib.hid hW
      have HH := Lib.hid hH
      have HL := Lib.hid hL
      rw [← hW] at d0
      rw [← hH] at d1
      rw [← hL] at d2 df hpos hm
      have LO := Lib.hid (fun w1 (g : Gr wr w1) => I_clonePicture W H ga gc L w1 (df.keep g.kp) hpos hm)
      have p0 := hb.cellv 0
      have Hb := Lib.hid hb
      have Hb0 := Lib.hid hb0
      have Ho := Lib.hid ho
      have Hp := Lib.hid hp
      have Hg := Lib.hid hg
      clear hb hb0 ho hp hg df hW hH hL
      go_wp2
      clear d0 d1 d2
      apply region_facts 5 [3, 4] (fun k v w' => (k = 3 → ∃ v', v = .agg #[.int .i64 W, .int .i64 H, v'] ∧ FOwn w' wr.heap.size 65 v' L) ∧ (k = 4 → ∃ b x, v = .slice (some ⟨b, 0, none⟩) 1 1 ∧ Blk w' b [.int .i64 W, .int .i64 H, x] 35 ∧ FOwn w' wr.heap.size 65 x L))
      case hm => kernel_rfl
      case hB => kernel_rfl
      case hR => rfl
      case hP => (intro k hk v w1 w2 hg hv; exact ⟨fun h => (by obtain ⟨v', e, ho⟩ := hv.1 h; exact ⟨v', e, ho.gr hg⟩), fun h => (by obtain ⟨b, x, e, hb, ho⟩ := hv.2 h; exact ⟨b, x, e, hb.gr hg, ho.gr hg⟩)⟩)
      simp only [List.take_succ_cons, List.take_zero, List.drop_succ_cons, List.drop_zero]
      repeat (first
        | ((with_reducible apply wpF_call (f := 134) (S := fun v => ∃ a' c', v = .agg #[.int .i64 W, .int .i64 H, .slice a' L.length c'])); (case hw => rfl); (case hc => exact Try.call134); (case hv => ((conv => lhs; simp [Act.eval]); try rfl)); (case hS => (intro os m _; refine (LO.out _ (((Gr.refl wr).alloc _).grew os m)).mono ?_; rintro e w' ⟨⟨v', rfl, ho⟩, g⟩; obtain ⟨a', c', rfl, -, -⟩ := ho.sl; exact ⟨_, rfl, g, fun _ => ⟨fun _ => ⟨_, rfl, ho.base (by simp <;> omega)⟩, fun h => absurd h (by decide)⟩, a', c', rfl⟩)); (case hne => exact ⟨_, none, 0, rfl⟩); (rintro v ⟨aq, cq, rfl⟩; simp only [Act.put, List.setIfInBounds_toArray, List.set_cons_succ, List.set_cons_zero]))
        | ((with_reducible apply wpF_newS (c := #[.int .i64 W, .int .i64 H, .slice aq L.length cq]) (e := 35) (fun b => .slice (some ⟨b, 0, none⟩) 1 1)); (case hw => rfl); (case hx => (intro w; simp [execOp, go_sem])); (case hF => (intro w' g hse _; obtain ⟨v', ev, ho⟩ := (hse ⟨3, .data⟩ (by simp) rfl (by decide) _ _ rfl rfl).1 rfl; simp at ev; obtain rfl := ev; exact ⟨fun h => absurd h (by decide), fun _ => ⟨_, _, rfl, Blk.new w' [_, _, _] _, ho.gr ((Gr.refl _).alloc _)⟩⟩)); (intro b hb; simp only [Act.put, List.setIfInBounds_toArray, List.set_cons_succ, List.set_cons_zero]))
        | (apply wpF_skip rfl (by decide); simp only [Act.put, List.setIfInBounds_toArray, List.set_cons_succ, List.set_cons_zero])
        | (apply wpF_nilCheck rfl (by decide) rfl; simp only [Act.put, List.setIfInBounds_toArray, List.set_cons_succ, List.set_cons_zero])
        | ((with_reducible apply wpF_fop); (case hw => rfl); (case hT => decide); (case hop => rfl); (case hx => rfl); (case hy => rfl); (case hA => (first | assumption | exact FE.ofInt _ _ | exact FE.lit (by decide +kernel))); (case hB => (first | assumption | exact FE.ofInt _ _ | exact FE.lit (by decide +kernel))); (intro r hr; simp only [Act.put, List.setIfInBounds_toArray, List.set_cons_succ, List.set_cons_zero]))
        | ((with_reducible apply wpF_fneg); (case hw => rfl); (case hT => decide); (case hx => rfl); (case hA => (first | assumption | exact FE.ofInt _ _ | exact FE.lit (by decide +kernel))); (intro r hr; simp only [Act.put, List.setIfInBounds_toArray, List.set_cons_succ, List.set_cons_zero]))
        | ((with_reducible apply wpF_fcmp); (case hw => rfl); (case hT => decide); (case hop => rfl); (case hx => rfl); (case hy => rfl); (case hA => (first | assumption | exact FE.ofInt _ _ | exact FE.lit (by decide +kernel))); (case hB => (first | assumption | exact FE.ofInt _ _ | exact FE.lit (by decide +kernel))); (case hb => (first | assumption | rfl)); simp only [Act.put, List.setIfInBounds_toArray, List.set_cons_succ, List.set_cons_zero])
        | (apply wpF_q rfl (by decide) rfl; intro K hK; go_big_quiet_op; go_big_quiet_on))
      with_reducible apply wpF_nil
      intro os m hf
      obtain ⟨b', s', hb', hB', hs'⟩ := hf.2.1.2 rfl
      obtain rfl : b' = _ := by simpa using hb'.symm
      obtain ⟨as', cs', rfl, -, -⟩ := hs'.sl
      obtain ⟨u, hu⟩ : ∃ u, u = World.grew (wr.alloc (.cells #[.int .i64 W, .int .i64 H, .slice ga L.length gc] 35)) os m := ⟨_, rfl⟩
      rw [← hu] at hB' hs' ⊢
      have K : Gr wr u := by rw [hu]; exact (by (try show Gr _ _); repeat (with_reducible first | exact Gr.refl _ | refine Gr.drewN ?_ _ | refine Gr.grew ?_ _ _ | refine Gr.alloc ?_ _ | refine Gr.drew ?_))
      have q0 := hB'.cellv 0
      have q1 := hB'.cellv 1
      have q2 := hB'.cellv 2
      have HN := hs'.fin
      have oK := own_gr Ho.out K
      clear hf hb' hu hB' hs'
      refine wpList_append_p rfl rfl i0 Try.underlying48 hi hz0 hz1 hz2 rfl oK rfl q0 q1 q2 (by omega) (by have := Hb.out.lt; have := K.size; omega) ?_
      intro v1 w1 ho1 hg1
      obtain ⟨a1, c1, rfl⟩ := own_form ho1
      have hwr : w.heap.size + 2 ≤ wr.heap.size := by have := Hb.out.lt; omega
      have HB1 := (Hb0.out.gr K).grown hg1 (own_ne oK ((Hb0.out.gr K).okb (by decide)))
      obtain ⟨hb1, g1, ho2, hp2⟩ := pushP_step (m := 0) (ps := ps) (Hg.out.trans K) (show w.heap.size ≤ w.heap.size + 2 by omega) oK (Hp.out.gr K (Nat.le_refl _)) (Hb.out.gr K) (show w.heap.size ≤ w.heap.size + 1 by omega) (by decide) (by decide) (by decide) (by rw [← HL.out]; exact HN) hwr (Nat.le_refl _) K.size HW.out HH.out hg1 ho1
      have r0 := hb1.cellv 0
      have z0 := hb1.frozen 0
      have Hb2 := Lib.hid hb1
      have HB2 := Lib.hid HB1
      have G1 := Lib.hid g1
      have O2 := Lib.hid ho2
      have P2 := Lib.hid hp2
      clear hb1 HB1 g1 ho2 hp2 ho1 hg1 oK HN q0 q1 q2
      go_wp2
      go_roundw
      case rel => exact ⟨k + 1, by omega, by go_num, ⟨_, _, Hb2.out.set _, HB2.out.setOther _ (by simp), O2.out, P2.out.imp (Nat.le_refl _) (by simp [World.setCell]) (fun _ _ _ _ _ _ f => f)⟩, G1.out.setCell (by simp) _⟩
      case measure => simp [intOf]; omega
    · obtain rfl : k = n := by omega
      have p0 := hb.cellv 0
      have q0 := hb0.cellv 0
      have z0 := hb0.frozen 0
      have Hp := Lib.hid (PIn_set (ps := ps) (n := 0) (u := .slice av k cv) (by rw [Hl.out]; exact ho) (by rw [Hl.out]; exact hp) hb0)
      have Hg := Lib.hid hg
      clear hb hb0 ho hp hg
      go_wp2
      refine bodyPost_ret (v := .agg #[.slice av k cv]) (by simp [results, Try.results85, go_sem, *]) rfl ⟨⟨_, rfl, ?_⟩, ?_⟩
      · exact Hp.out.base (by omega) (by simp [World.setCell])
      · exact Hg.out.setCell (Nat.le_refl _) _
end Go.Proofs.Ytaidkokgafojeaa
