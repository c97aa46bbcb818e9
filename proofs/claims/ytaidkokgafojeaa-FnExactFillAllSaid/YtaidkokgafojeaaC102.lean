/- Contracts: maps whose cells are told by a function value that counts. MAXREC -/
import Derived.Test.YtaidkokgafojeaaProg
import Derived.Test.YtaidkokgafojeaaC13
import Derived.Test.YtaidkokgafojeaaFp
import Derived.Deep.RegionLaw
namespace Go.Fx
open Go Go.Soft Go.RowKit
theorem setCell_twice (w : World) (p : Addr) (u v : Value) : (w.setCell p u).setCell p v = w.setCell p v := by
  unfold World.setCell
  simp only [World.mk.injEq, and_true]
  apply Array.ext_getElem?
  intro k
  simp only [Array.getElem?_modify]
  split
  · cases w.heap[k]? with
    | none => rfl
    | some o => cases o <;> simp <;> split <;> simp
  · rfl
/-- 'append(v, x)', one float: the law for one operation. -/
theorem wp_append_f {P : Program} {w : World} {o : Oper} {a : Act} {K : Act → World → Prop} {Q : Exit → Act → World → Prop} {s x : Operand} {t : TypeId}
    (ho : o.op = .call { callee := .builtin .append, args := #[s, x], argTypes := #[t, t] }) {B : Nat} {e : TypeId} (i : TypeInfo) (ht : P.underlying t = some (.slice e)) (hi : P.info? e = some i) (hz : i.zero = some (.float .f32 0)) (hsize : i.size = 1) (hby : i.bytes = 4)
    {v : Value} {xs : List Nat} (hs : a.eval s = v) (hown : FOwn w B e v xs) {ad : Addr} {c r X : Nat} (hx : a.eval x = .slice (some ad) 1 c) (hcell : w.cell? ad = some (.float .f32 r)) (hr : FE .f32 r X) (hn : xs.length ≤ 1048576) (hB : B ≤ w.heap.size)
    (h : ∀ v' w', FOwn w' B e v' (xs ++ [X]) → w.grownBy w' v.ownBlock → K (a.put o.dst v') w') : o.wp P a w K Q := by
  obtain ⟨rs, h1, h2⟩ := hown
  have hl := h1.len
  refine wp_append_own w s x t ho B e i (.float .f32 0) 1 4 ht hi hz hsize hby rfl (by decide) v rs.length (rs.map (Value.float .f32)) hs h2 ad 1 c [.float .f32 r] hx rfl ?_ ?_ (by unfold maxLen; omega) (by omega) hB ?_
  · intro j u hj
    match j, hj with
    | 0, hj => simp at hj; subst hj; simpa [Addr.add] using hcell
  · intro u hu; simp at hu; subst hu; rfl
  · intro v' w' h3 h4 _
    refine h v' w' ⟨rs ++ [r], h1.snoc hr, ?_⟩ h4
    simpa using h3
end Go.Fx
namespace Go.Proofs.Ytaidkokgafojeaa
open Go.RowKit Go.Fx Go.Soft
/-- How many of the first k cells are counted. -/
def gCntC (W : Nat) (G : Nat → Nat → Bool) (k : Nat) : Nat := gCnt (fun i => G (i % W) (i / W)) k
theorem gCntC_le (W : Nat) (G : Nat → Nat → Bool) : ∀ k, gCntC W G k ≤ k
  | 0 => Nat.le_refl _
  | k + 1 => by
    have h := gCntC_le W G k
    have e : gCntC W G (k + 1) = gCntC W G k + if G (k % W) (k / W) then 1 else 0 := rfl
    rw [e]
    split <;> omega
theorem gCntC_succ {W x y : Nat} (G : Nat → Nat → Bool) (hx : x < W) : gCntC W G (x + 1 + W * y) = gCntC W G (x + W * y) + if G x y then 1 else 0 := by
  rw [show x + 1 + W * y = (x + W * y) + 1 by omega]
  unfold gCntC
  conv => lhs; unfold gCnt
  rw [mod_of hx, div_of hx]
/-- The world w, but that block b counts c. -/
def cw (w : World) (b c : Nat) : World := w.setCell ⟨b, 0, none⟩ (.int .i64 (c : Int))
theorem cw_size (w : World) (b c : Nat) : (cw w b c).heap.size = w.heap.size := by unfold cw; simp [World.setCell]
theorem cw_self {w : World} {b c : Nat} {t : TypeId} (h : Blk w b [.int .i64 (c : Int)] t) : cw w b c = w := by
  have h0 := h.at_
  unfold cw World.setCell
  obtain ⟨hp, a2, a3, a4, a5⟩ := w
  simp only [World.mk.injEq, and_true]
  apply Array.ext_getElem?
  intro k
  simp only [Array.getElem?_modify]
  split
  · rename_i e
    subst e
    have h0' : hp[b]? = some (.cells #[.int .i64 (c : Int)] t (0, 0)) := by simpa using h0
    rw [h0']
    simp
  · rfl
theorem cw_next {w u v : World} {b c d : Nat} (hb : (w.cell? ⟨b, 0, none⟩).isSome = true) (g : Gr (cw w b c) u) (g2 : Gr (cw u b d) v) : Gr (cw w b d) v := by
  obtain ⟨os, m, rfl⟩ := g
  have e : cw ((cw w b c).grew os m) b d = (cw w b d).grew os m := by
    unfold cw
    rw [setCell_grew _ _ _ _ _ (by rw [World.cell?_setCell_same' _ _ _ hb]; rfl), setCell_twice]
  rw [e] at g2
  exact Gr.trans ⟨os, m, rfl⟩ g2
theorem cw_gr {w u : World} {b c : Nat} (hb : (w.cell? ⟨b, 0, none⟩).isSome = true) (g : Gr w u) : Gr (cw w b c) (cw u b c) := by
  obtain ⟨os, m, rfl⟩ := g
  unfold cw
  rw [setCell_grew _ _ _ _ _ hb]
  exact ⟨os, m, rfl⟩
/-- A function value that tells the numbers V of the cells and counts those of G, in block b. -/
structure TellsC (w : World) (b : Nat) (f : FuncId) (cs : Array Value) (W H : Nat) (V : Nat → Nat → Nat) (G : Nat → Nat → Bool) : Prop where
  call : ∀ args w, (callFunc f args).run Try.prog w = .ok (.enter f args) w
  says : ∀ x y, x < W → y < H → ∀ (c : Nat) w1, c ≤ 576 → Gr (cw w b c) w1 → Calls Try.prog f (#[.int .i64 x, .int .i64 y] ++ cs) w1 fun e w' => (∃ r, e = .returned (.float .f32 r) ∧ FE .f32 r (V x y)) ∧ Gr (cw w1 b (c + if G x y then 1 else 0)) w'
theorem TellsC.gr {w w' : World} {b : Nat} {f : FuncId} {cs : Array Value} {W H : Nat} {V : Nat → Nat → Nat} {G : Nat → Nat → Bool} (h : TellsC w b f cs W H V G) (hb : (w.cell? ⟨b, 0, none⟩).isSome = true) (g : Gr w w') : TellsC w' b f cs W H V G :=
  ⟨h.call, fun x y hx hy c w1 hc g1 => h.says x y hx hy c w1 hc ((cw_gr hb g).trans g1)⟩
set_option maxRecDepth 20000 in
set_option maxHeartbeats 4000000 in
theorem I_made_c (W H mb : Nat) (V : Nat → Nat → Nat) (G : Nat → Nat → Bool) (f : FuncId) (cs : Array Value) (w : World) (hf : TellsC w mb f cs W H V G) (hm : Blk w mb [.int .i64 ((0 : Nat) : Int)] 3) (hW : W ≤ 24) (hH : H ≤ 24) (hW0 : 1 ≤ W) (hH0 : 1 ≤ H) :
    Calls Try.prog 127 #[.int .i64 W, .int .i64 H, .func (.func f) #[] cs] w fun e w' => (∃ v, e = .returned (.agg #[.int .i64 W, .int .i64 H, v]) ∧ FOwn w' w.heap.size 65 v (grid W V (W * H))) ∧ Gr (cw w mb (gCntC W G (W * H))) w' := by
  obtain ⟨i0, hi, hz0, hz1, hz2⟩ := info_parts info_float32
  have hcall := hf.call
  have Hf := Lib.hid hf.says
  have hmlt := hm.lt
  have hms : (w.cell? ⟨mb, 0, none⟩).isSome = true := by rw [hm.cellv 0 rfl]; rfl
  have hself := cw_self hm
  clear hf
  have h24 : W * H ≤ 576 := Nat.mul_le_mul hW hH
  have HS := Lib.hid hself
  have HMS := Lib.hid hms
  clear hself hms hm
  go_enter Try.func127, Try.ntmps127
  go_wp2
  go_loopw [8, 14] (fun s8 i wr => ∃ y : Nat, y ≤ H ∧ i = .int .i64 y ∧ ∃ v, Blk wr (w.heap.size + 1) [.int .i64 W, .int .i64 H, v] 35 ∧ Blk wr w.heap.size [.int .i64 0, .int .i64 0, .slice none 0 0] 35 ∧ FOwn wr (w.heap.size + 2) 65 v (grid W V (0 + W * y)) ∧ Gr (cw w mb (gCntC W G (0 + W * y))) wr) (fun _ i _ => H - (intOf i).toNat)
  case atStart => exact ⟨0, Nat.zero_le _, rfl, .slice none 0 0, (by repeat (with_reducible first | assumption | exact Blk.atNew (by simp) | refine Blk.alloc ?_ _ | refine Blk.grew ?_ _ _ | refine Blk.drewN ?_ _ | refine Blk.drew ?_)), (by repeat (with_reducible first | assumption | exact Blk.atNew (by simp) | refine Blk.alloc ?_ _ | refine Blk.grew ?_ _ _ | refine Blk.drewN ?_ _ | refine Blk.drew ?_)), FOwn.nil _ _ _, by show Gr (cw w mb 0) _; rw [HS.out]; exact (by (try show Gr _ _); repeat (with_reducible first | exact Gr.refl _ | refine Gr.drewN ?_ _ | refine Gr.grew ?_ _ _ | refine Gr.alloc ?_ _ | refine Gr.drew ?_))⟩
  case round =>
    obtain ⟨y, hy, rfl, v, hb, hb0, ho, hg⟩ := hrel
    by_cases hlt : y < H
    · have Hb := Lib.hid hb
      have Hb0 := Lib.hid hb0
      have Ho := Lib.hid ho
      have Hg := Lib.hid hg
      clear hb hb0 ho hg
      go_wp2
      go_loopw [9, 18] (fun s9 i wx => ∃ x : Nat, x ≤ W ∧ i = .int .i64 x ∧ ∃ v, Blk wx (w.heap.size + 1) [.int .i64 W, .int .i64 H, v] 35 ∧ Blk wx w.heap.size [.int .i64 0, .int .i64 0, .slice none 0 0] 35 ∧ FOwn wx (w.heap.size + 2) 65 v (grid W V (x + W * y)) ∧ Gr (cw w mb (gCntC W G (x + W * y))) wx) (fun _ i _ => W - (intOf i).toNat)
      case atStart => exact ⟨0, Nat.zero_le _, rfl, v, Hb.out, Hb0.out, Ho.out, Hg.out⟩
      case round =>
        clear Hb Hb0 Ho Hg
        obtain ⟨x, hx, rfl, v, hb, hb0, ho, hg⟩ := hrel
        by_cases hxt : x < W
        · have hl := cell_lt hxt hlt
          have hc576 : gCntC W G (x + W * y) ≤ 576 := Nat.le_trans (gCntC_le _ _ _) (by omega)
          obtain ⟨a0, c0, rfl, -, -⟩ := ho.sl' (x + W * y) (by simp)
          have p2 := hb.cellv 2
          have z2 := hb.frozen 2
          have hsz : w.heap.size + 2 ≤ wr.heap.size := by have := hb.lt; omega
          have HC := Lib.hid (fun (u : World) (g : Gr wr u) => Hf.out x y hxt hlt (gCntC W G (x + W * y)) u hc576 (hg.trans g))
          have EC := Lib.hid (gCntC_succ (y := y) G hxt)
          have Hb := Lib.hid hb
          have Hb0 := Lib.hid hb0
          have Ho := Lib.hid ho
          have Hg := Lib.hid hg
          have HSZ := Lib.hid hsz
          clear hb hb0 ho hg hc576 hsz
          go_wp2_with fail
          go_region_law (first
            | (go_simp
               refine (HC.out _ (by (try show Gr _ _); repeat (with_reducible first | exact Gr.refl _ | refine Gr.drewN ?_ _ | refine Gr.grew ?_ _ _ | refine Gr.alloc ?_ _ | refine Gr.drew ?_))).mono ?_
               rintro e w1 ⟨⟨r, rfl, hr⟩, g⟩
               have gG := cw_next HMS.out (Hg.out.trans (by (try show Gr _ _); repeat (with_reducible first | exact Gr.refl _ | refine Gr.drewN ?_ _ | refine Gr.grew ?_ _ _ | refine Gr.alloc ?_ _ | refine Gr.drew ?_))) g
               have hb1 : Blk w1 (w.heap.size + 1) [.int .i64 W, .int .i64 H, .slice a0 (x + W * y) c0] 35 := ((Hb.out.gr (by (try show Gr _ _); repeat (with_reducible first | exact Gr.refl _ | refine Gr.drewN ?_ _ | refine Gr.grew ?_ _ _ | refine Gr.alloc ?_ _ | refine Gr.drew ?_))).setOther _ (by show mb ≠ _; omega)).gr g
               have p3 := hb1.cellv 2
               have z3 := hb1.frozen 2
               have HB0 : Blk w1 w.heap.size [.int .i64 0, .int .i64 0, .slice none 0 0] 35 := ((Hb0.out.gr (by (try show Gr _ _); repeat (with_reducible first | exact Gr.refl _ | refine Gr.drewN ?_ _ | refine Gr.grew ?_ _ _ | refine Gr.alloc ?_ _ | refine Gr.drew ?_))).setOther _ (by show mb ≠ _; omega)).gr g
               have HO1 : FOwn w1 (w.heap.size + 2) 65 (.slice a0 (x + W * y) c0) (grid W V (x + W * y)) := ((Ho.out.gr (by (try show Gr _ _); repeat (with_reducible first | exact Gr.refl _ | refine Gr.drewN ?_ _ | refine Gr.grew ?_ _ _ | refine Gr.alloc ?_ _ | refine Gr.drew ?_))).setOther _ (by show mb < _; omega)).gr g
               have HB1 := Lib.hid hb1
               replace HB0 := Lib.hid HB0
               replace HO1 := Lib.hid HO1
               have GG := Lib.hid gG
               have HLT := Lib.hid (Blk.lt hb1)
               clear g hb1 gG
               (try go_wp2_with fail))
            | (rw [if_pos (by rfl)]
               have GA : Gr w1 (w1.alloc (.cells #[.float .f32 r] 65)) := (Gr.refl _).alloc _
               have ho' := HO1.out.gr GA
               refine wp_append_f rfl i0 Try.underlying22 hi hz0 hz1 hz2 rfl ho' rfl ((Blk.atNew rfl).cellv 0 rfl) hr ?hn ?hB ?_
               case hn => simp; omega
               case hB => (have := HLT.out; simp; omega)
               intro v1 w2 ho1 hg1
               obtain ⟨a1, c1, rfl, -, -⟩ := ho1.sl' (x + W * y + 1) (by simp)
               have nb := ho'.notBlk (b := w.heap.size + 1) (by omega)
               have nb0 := ho'.notBlk (b := w.heap.size) (by omega)
               have hb2 := (HB1.out.gr GA).grown hg1 nb
               have HB02 := Lib.hid ((HB0.out.gr GA).grown hg1 nb0)
               have q2 := hb2.cellv 2
               have y2 := hb2.frozen 2
               have GG2 := Lib.hid ((GG.out.trans GA).grownBy hg1 (fun k hk => by have := (ho'.block hk).1; rw [cw_size]; omega))
               have HB2 := Lib.hid hb2
               have HO2 := Lib.hid ho1
               clear nb nb0 hg1 hb2 ho' ho1 GA))
          all_goals
            go_wp2
            go_roundw
            case rel => exact ⟨x + 1, by omega, by go_num, _, HB2.out.set _, HB02.out.setOther _ (by simp), by rw [← grid_succ hxt]; exact HO2.out.setOther _ (by simp), by rw [EC.out]; exact GG2.out.setCell (by rw [cw_size]; simp) _⟩
            case measure => simp [intOf]; omega
        · obtain rfl : x = W := by omega
          have Hb := Lib.hid hb
          have Hb0 := Lib.hid hb0
          have Ho := Lib.hid ho
          have Hg := Lib.hid hg
          clear hb hb0 ho hg
          go_wp2
          go_roundw
          case rel => exact ⟨y + 1, by omega, by go_num, v, Hb.out, Hb0.out, by rw [← grid_row]; exact Ho.out, by rw [show 0 + x * (y + 1) = x + x * y by rw [Nat.mul_add, Nat.mul_one, Nat.zero_add, Nat.add_comm]]; exact Hg.out⟩
          case measure => simp [intOf]; omega
    · obtain rfl : y = H := by omega
      have p0 := hb.cellv 0
      have p1 := hb.cellv 1
      have p2 := hb.cellv 2
      have q0 := hb0.cellv 0
      have q1 := hb0.cellv 1
      have q2 := hb0.cellv 2
      have z0 := hb0.frozen 0
      have z1 := hb0.frozen 1
      have z2 := hb0.frozen 2
      obtain ⟨a1, c1, rfl, -, -⟩ := ho.sl' (W * y) (by simp)
      have Ho := Lib.hid ho
      have Hg := Lib.hid hg
      clear hb hb0 ho hg
      go_wp2
      refine bodyPost_ret (v := .agg #[.int .i64 W, .int .i64 y, .slice a1 (W * y) c1]) (by simp [results, Try.results127, go_sem, *]) rfl ⟨⟨_, rfl, ?_⟩, ?_⟩
      · have h := Ho.out
        rw [Nat.zero_add] at h
        refine FOwn.base (B := w.heap.size + 2) ?_ (by omega)
        exact ((h.setOther (p := ⟨w.heap.size, 0, none⟩) _ (by simp)).setOther (p := ⟨w.heap.size, 1, none⟩) _ (by simp)).setOther (p := ⟨w.heap.size, 2, none⟩) _ (by simp)
      · have h := Hg.out
        rw [Nat.zero_add] at h
        exact ((h.setCell (by rw [cw_size]; exact Nat.le_refl _) _).setCell (by rw [cw_size]; exact Nat.le_refl _) _).setCell (by rw [cw_size]; exact Nat.le_refl _) _
set_option maxRecDepth 20000 in
set_option maxHeartbeats 1000000 in
theorem I_mapOf_c (W H mb : Nat) (V : Nat → Nat → Nat) (G : Nat → Nat → Bool) (f : FuncId) (cs : Array Value) (w : World) (hf : TellsC w mb f cs W H V G) (hm : Blk w mb [.int .i64 ((0 : Nat) : Int)] 3) (hW : W ≤ 24) (hH : H ≤ 24) (hW0 : 1 ≤ W) (hH0 : 1 ≤ H) :
    Calls Try.prog 137 #[.int .i64 W, .int .i64 H, .func (.func f) #[] cs] w fun e w' => (∃ v, e = .returned (.agg #[.int .i64 W, .int .i64 H, v]) ∧ FOwn w' w.heap.size 65 v (grid W V (W * H))) ∧ Gr (cw w mb (gCntC W G (W * H))) w' := by
  have Hf := Lib.hid hf
  have Hm := Lib.hid hm
  have hlt := hm.lt
  have hms : (w.cell? ⟨mb, 0, none⟩).isSome = true := by rw [hm.cellv 0 rfl]; rfl
  have HMS := Lib.hid hms
  clear hf hm hms
  go_enter Try.func137, Try.ntmps137
  go_wp2_with fail
  refine (I_made_c W H mb V G f cs _ (Hf.out.gr HMS.out (by (try show Gr _ _); repeat (with_reducible first | exact Gr.refl _ | refine Gr.drewN ?_ _ | refine Gr.grew ?_ _ _ | refine Gr.alloc ?_ _ | refine Gr.drew ?_))) (Hm.out.gr (by (try show Gr _ _); repeat (with_reducible first | exact Gr.refl _ | refine Gr.drewN ?_ _ | refine Gr.grew ?_ _ _ | refine Gr.alloc ?_ _ | refine Gr.drew ?_))) hW hH hW0 hH0).mono ?_
  rintro e w1 ⟨⟨v0, rfl, ho⟩, g⟩
  have hb0 : Blk w1 w.heap.size [.int .i64 0, .int .i64 0, .slice none 0 0] 24 := (Blk.setOther (p := ⟨mb, 0, none⟩) (show Blk _ w.heap.size [.int .i64 0, .int .i64 0, .slice none 0 0] 24 from (by repeat (with_reducible first | assumption | exact Blk.atNew (by simp) | refine Blk.alloc ?_ _ | refine Blk.grew ?_ _ _ | refine Blk.drewN ?_ _ | refine Blk.drew ?_))) _ (by show mb ≠ _; omega)).gr g
  have hg : Gr (cw w mb (gCntC W G (W * H))) w1 := (cw_gr HMS.out (by (try show Gr _ _); repeat (with_reducible first | exact Gr.refl _ | refine Gr.drewN ?_ _ | refine Gr.grew ?_ _ _ | refine Gr.alloc ?_ _ | refine Gr.drew ?_))).trans g
  have ho2 := ho.base (B' := w.heap.size + 1) (by simp)
  obtain ⟨a1, c1, rfl, -, -⟩ := ho2.sl' (W * H) (by simp)
  have q0 := hb0.cellv 0
  have q1 := hb0.cellv 1
  have q2 := hb0.cellv 2
  have z0 := hb0.frozen 0
  have z1 := hb0.frozen 1
  have z2 := hb0.frozen 2
  have Ho := Lib.hid ho2
  have Hg := Lib.hid hg
  clear ho ho2 hb0 hg g
  go_wp2
  refine bodyPost_ret (v := .agg #[.int .i64 W, .int .i64 H, .slice a1 (W * H) c1]) (by simp [results, Try.results137, go_sem, *]) rfl ⟨⟨_, rfl, ?_⟩, ?_⟩
  · refine FOwn.base (B := w.heap.size + 1) ?_ (by omega)
    exact ((Ho.out.setOther (p := ⟨w.heap.size, 0, none⟩) _ (by simp)).setOther (p := ⟨w.heap.size, 1, none⟩) _ (by simp)).setOther (p := ⟨w.heap.size, 2, none⟩) _ (by simp)
  · exact ((Hg.out.setCell (by rw [cw_size]; exact Nat.le_refl _) _).setCell (by rw [cw_size]; exact Nat.le_refl _) _).setCell (by rw [cw_size]; exact Nat.le_refl _) _
end Go.Proofs.Ytaidkokgafojeaa
