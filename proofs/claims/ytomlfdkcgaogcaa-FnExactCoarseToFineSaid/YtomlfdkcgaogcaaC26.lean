/- Contracts: winners between; maps of what is told of cells. MAXREC -/
import Derived.Test.YtomlfdkcgaogcaaProg
import Derived.Test.YtomlfdkcgaogcaaC25
import Derived.Test.YtomlfdkcgaogcaaC18
namespace Go.Proofs.Ytomlfdkcgaogcaa
open Go.RowKit Go.Fx Go.Soft
/-- The share of a step that is added. -/
def gStep (a b c : Nat) : Nat := fop .quo .f32 (fop .sub .f32 a c) (fop .add .f32 (fop .sub .f32 a b) (fop .sub .f32 c b))
def gSharp (c : Nat → Nat) (D : Nat) : Nat :=
  if gWin c (-1) D ≤ 0 ∨ gWin c (-1) D = (D : Int) - 1 then floatOfInt .f32 (gWin c (-1) D)
  else if fcmp .geq .f32 (gStep (c ((gWin c (-1) D).toNat - 1)) (c (gWin c (-1) D).toNat) (c ((gWin c (-1) D).toNat + 1))) 3212836864 && fcmp .leq .f32 (gStep (c ((gWin c (-1) D).toNat - 1)) (c (gWin c (-1) D).toNat) (c ((gWin c (-1) D).toNat + 1))) 1065353216 then
    fop .add .f32 (floatOfInt .f32 (gWin c (-1) D)) (fop .mul .f32 1056964608 (gStep (c ((gWin c (-1) D).toNat - 1)) (c (gWin c (-1) D).toNat) (c ((gWin c (-1) D).toNat + 1))))
  else floatOfInt .f32 (gWin c (-1) D)
theorem gSharp_congr {c c' : Nat → Nat} {D : Nat} (h : ∀ j, j < D → c j = c' j) : gSharp c D = gSharp c' D := by
  have e := gWin_congr (but := -1) h
  have r := gWin_range c (-1) D
  unfold gSharp
  rw [← e]
  by_cases h1 : gWin c (-1) D ≤ 0 ∨ gWin c (-1) D = (D : Int) - 1
  · rw [if_pos h1, if_pos h1]
  · rw [if_neg h1, if_neg h1, h _ (show (gWin c (-1) D).toNat - 1 < D by omega), h _ (show (gWin c (-1) D).toNat < D by omega), h _ (show (gWin c (-1) D).toNat + 1 < D by omega)]
/-- The ways of gSharp. -/
theorem gSharp_ways (c : Nat → Nat) (D : Nat) (hD : 1 ≤ D) :
    (gWin c (-1) D ≤ 0 ∧ gSharp c D = floatOfInt .f32 (gWin c (-1) D)) ∨ (0 < gWin c (-1) D ∧ gWin c (-1) D = (D : Int) - 1 ∧ gSharp c D = floatOfInt .f32 (gWin c (-1) D)) ∨
    ∃ d : Nat, 0 < d ∧ d + 1 < D ∧ gWin c (-1) D = d ∧
      ((fcmp .geq .f32 (gStep (c (d - 1)) (c d) (c (d + 1))) 3212836864 = false ∧ gSharp c D = floatOfInt .f32 (d : Int)) ∨
       (fcmp .geq .f32 (gStep (c (d - 1)) (c d) (c (d + 1))) 3212836864 = true ∧ fcmp .leq .f32 (gStep (c (d - 1)) (c d) (c (d + 1))) 1065353216 = false ∧ gSharp c D = floatOfInt .f32 (d : Int)) ∨
       (fcmp .geq .f32 (gStep (c (d - 1)) (c d) (c (d + 1))) 3212836864 = true ∧ fcmp .leq .f32 (gStep (c (d - 1)) (c d) (c (d + 1))) 1065353216 = true ∧ gSharp c D = fop .add .f32 (floatOfInt .f32 (d : Int)) (fop .mul .f32 1056964608 (gStep (c (d - 1)) (c d) (c (d + 1)))))) := by
  have r := gWin_range c (-1) D
  by_cases h0 : gWin c (-1) D ≤ 0
  · left; exact ⟨h0, by unfold gSharp; rw [if_pos (Or.inl h0)]⟩
  · right
    by_cases h1 : gWin c (-1) D = (D : Int) - 1
    · left; exact ⟨by omega, h1, by unfold gSharp; rw [if_pos (Or.inr h1)]⟩
    · right
      obtain ⟨d, hd⟩ := Int.eq_ofNat_of_zero_le (show 0 ≤ gWin c (-1) D by omega)
      refine ⟨d, by omega, by omega, hd, ?_⟩
      have hn : ¬ (gWin c (-1) D ≤ 0 ∨ gWin c (-1) D = (D : Int) - 1) := by omega
      have e : gSharp c D = if fcmp .geq .f32 (gStep (c (d - 1)) (c d) (c (d + 1))) 3212836864 && fcmp .leq .f32 (gStep (c (d - 1)) (c d) (c (d + 1))) 1065353216 then fop .add .f32 (floatOfInt .f32 (d : Int)) (fop .mul .f32 1056964608 (gStep (c (d - 1)) (c d) (c (d + 1)))) else floatOfInt .f32 (d : Int) := by
        unfold gSharp
        rw [if_neg hn, hd, Int.toNat_natCast]
      rw [e]
      cases fcmp .geq .f32 (gStep (c (d - 1)) (c d) (c (d + 1))) 3212836864 <;> cases fcmp .leq .f32 (gStep (c (d - 1)) (c d) (c (d + 1))) 1065353216 <;> simp
/-- A function value that tells something of the costs of a cell. -/
structure TellsC (w : World) (f : FuncId) (cs : Array Value) (T : List Nat → Nat) : Prop where
  call : ∀ args w, (callFunc f args).run Try.prog w = .ok (.enter f args) w
  says : ∀ a c ys w1, Gr w w1 → FSl w1 a ys.length ys → 1 ≤ ys.length → ys.length ≤ 8 → Calls Try.prog f (#[.slice a ys.length c] ++ cs) w1 fun e w' => (∃ r, e = .returned (.float .f32 r) ∧ FE .f32 r (T ys)) ∧ Gr w1 w'
theorem TellsC.gr {w w' : World} {f : FuncId} {cs : Array Value} {T : List Nat → Nat} (h : TellsC w f cs T) (g : Gr w w') : TellsC w' f cs T :=
  ⟨h.call, fun a c ys w1 g1 hs h1 h8 => h.says a c ys w1 (g.trans g1) hs h1 h8⟩
set_option maxRecDepth 20000 in
set_option maxHeartbeats 1000000 in
theorem I_cellMap_1 (W H D x y b1 b2 bx ox cap : Nat) (xs : List Nat) (f : FuncId) (cs : Array Value) (T : List Nat → Nat) (w : World) (hf : TellsC w f cs T) (c0 : w.cell? ⟨b1, 0, none⟩ = some (.func (.func f) #[] cs)) (hm : MV w b2 W H D (some ⟨bx, ox, none⟩) xs.length cap xs)
    (hW : W ≤ 24) (hH : H ≤ 24) (hD0 : 1 ≤ D) (hD : D ≤ 8) (hx : x < W) (hy : y < H) (hn : xs.length = W * H * D) (hc : xs.length ≤ cap) :
    Calls Try.prog 122 #[.int .i64 x, .int .i64 y, .pointer (some ⟨b1, 0, none⟩), .pointer (some ⟨b2, 0, none⟩)] w fun e w' => (∃ r, e = .returned (.float .f32 r) ∧ FE .f32 r (T (lst D fun j => xs.getD ((x + W * y) * D + j) 0))) ∧ Gr w w' := by
  have hcl := vol_cell (D := D) hx hy
  have FS0 := vol_fs hm.fs (i := x + W * y) (D := D) (by omega)
  have hl : (lst D fun j => xs.getD ((x + W * y) * D + j) 0).length = D := by simp
  have HC := fun (w1 : World) (g : Gr w w1) => I_Volume_cell W H D x y b2 bx ox cap xs w1 (hm.gr g) hW hH hD0 hD hx hy hn hc
  obtain ⟨ys, hys⟩ : ∃ ys, ys = lst D fun j => xs.getD ((x + W * y) * D + j) 0 := ⟨_, rfl⟩
  obtain ⟨o', ho'⟩ : ∃ o', o' = ox + (x + W * y) * D := ⟨_, rfl⟩
  rw [← ho'] at HC FS0
  rw [← hys] at FS0 hl ⊢
  clear hys hcl ho' hm
  have HF := fun (w1 : World) (g : Gr w w1) => hf.says (some ⟨bx, o', none⟩) D ys w1 g (FS0.keep g.kp) (by omega) (by omega)
  have hcall := hf.call
  rw [hl] at HF
  have hfe : ∃ v, FS .f32 (T ys) v := by
    obtain ⟨e, w', ⟨r, _, hr⟩, _⟩ := calls_some (HF w (Gr.refl w))
    exact ⟨_, r, rfl, hr⟩
  have HC := Lib.hid HC
  have HF := Lib.hid HF
  have HCa := Lib.hid hcall
  have HFE := Lib.hid hfe
  clear hf hn FS0 hl hcall hfe
  go_enter Try.func122, Try.ntmps122
  go_wp2
  apply region_facts 5 [] (fun _ _ _ => True)
  case hm => kernel_rfl
  case hB => kernel_rfl
  case hR => rfl
  case hP => (intro k hk; cases hk)
  simp only [List.take_succ_cons, List.take_zero, List.drop_succ_cons, List.drop_zero]
  repeat (first
    | ((with_reducible apply wpF_call (f := 94) (S := fun v => v = .slice (some ⟨bx, o', none⟩) D D)); (case hw => rfl); (case hc => exact Try.call94); (case hv => ((conv => lhs; simp [Act.eval]); try rfl)); (case hS => (intro os m _; refine (HC.out _ ⟨os, m, rfl⟩).mono ?_; rintro e w' ⟨rfl, n, hn⟩; exact ⟨_, rfl, gr_of_drew hn, fun h => absurd h (by decide), rfl⟩)); (case hne => exact ⟨_, rfl⟩); (rintro v rfl; simp only [Act.put, List.setIfInBounds_toArray, List.set_cons_succ, List.set_cons_zero]))
    | ((with_reducible apply wpF_callv (f := f) (cs := cs) (vs := #[.slice (some ⟨bx, o', none⟩) D D] ++ cs) (S := FS .f32 (T ys))); (case hw => rfl); (case hfx => rfl); (case hc => exact HCa.out); (case hv => (simp [Act.eval]; done)); (case hS => (intro os m _; refine (HF.out _ ⟨os, m, rfl⟩).mono ?_; rintro e w' ⟨⟨r, rfl, hr⟩, g⟩; exact ⟨_, rfl, g, fun h => absurd h (by decide), r, rfl, hr⟩)); (case hne => exact HFE.out); (rintro v ⟨r, rfl, hr⟩; simp only [Act.put, List.setIfInBounds_toArray, List.set_cons_succ, List.set_cons_zero]))
    | (apply wpF_skip rfl (by decide); simp only [Act.put, List.setIfInBounds_toArray, List.set_cons_succ, List.set_cons_zero])
    | (apply wpF_nilCheck rfl (by decide) rfl; simp only [Act.put, List.setIfInBounds_toArray, List.set_cons_succ, List.set_cons_zero])
    | ((with_reducible apply wpF_fop); (case hw => rfl); (case hT => decide); (case hop => rfl); (case hx => rfl); (case hy => rfl); (case hA => (first | assumption | exact FE.ofInt _ _ | exact FE.lit (by decide +kernel))); (case hB => (first | assumption | exact FE.ofInt _ _ | exact FE.lit (by decide +kernel))); (intro r hr; simp only [Act.put, List.setIfInBounds_toArray, List.set_cons_succ, List.set_cons_zero]))
    | ((with_reducible apply wpF_fneg); (case hw => rfl); (case hT => decide); (case hx => rfl); (case hA => (first | assumption | exact FE.ofInt _ _ | exact FE.lit (by decide +kernel))); (intro r hr; simp only [Act.put, List.setIfInBounds_toArray, List.set_cons_succ, List.set_cons_zero]))
    | ((with_reducible apply wpF_fcmp); (case hw => rfl); (case hT => decide); (case hop => rfl); (case hx => rfl); (case hy => rfl); (case hA => (first | assumption | exact FE.ofInt _ _ | exact FE.lit (by decide +kernel))); (case hB => (first | assumption | exact FE.ofInt _ _ | exact FE.lit (by decide +kernel))); (case hb => (first | assumption | rfl)); simp only [Act.put, List.setIfInBounds_toArray, List.set_cons_succ, List.set_cons_zero])
    | (apply wpF_q rfl (by decide) rfl; intro K hK; go_big_quiet_op; go_big_quiet_on))
  with_reducible apply wpF_nil
  intro os m hf
  clear hf
  go_wp2
  go_ret
  exact ⟨⟨_, rfl, hr⟩, (by (try show Gr _ _); repeat (with_reducible first | exact Gr.refl _ | refine Gr.drewN ?_ _ | refine Gr.grew ?_ _ _ | refine Gr.alloc ?_ _ | refine Gr.drew ?_))⟩
theorem tells_cellMap (W H D b1 b2 bx ox cap : Nat) (xs : List Nat) (f : FuncId) (cs : Array Value) (T : List Nat → Nat) (w : World) (hf : TellsC w f cs T) (c0 : w.cell? ⟨b1, 0, none⟩ = some (.func (.func f) #[] cs)) (hm : MV w b2 W H D (some ⟨bx, ox, none⟩) xs.length cap xs)
    (hW : W ≤ 24) (hH : H ≤ 24) (hD0 : 1 ≤ D) (hD : D ≤ 8) (hn : xs.length = W * H * D) (hc : xs.length ≤ cap) :
    Tells w 122 #[.pointer (some ⟨b1, 0, none⟩), .pointer (some ⟨b2, 0, none⟩)] W H (fun x y => T (lst D fun j => xs.getD ((x + W * y) * D + j) 0)) :=
  ⟨Try.call122, fun x y hx hy w1 g => I_cellMap_1 W H D x y b1 b2 bx ox cap xs f cs T w1 (hf.gr g) (g.cell c0) (hm.gr g) hW hH hD0 hD hx hy hn hc⟩
/-- What is told of cell number i. -/
def gCellAt (T : List Nat → Nat) (xs : List Nat) (D : Int) (i : Nat) : Nat := T (lst D.toNat fun j => xs.getD (i * D.toNat + j) 0)
set_option maxRecDepth 20000 in
set_option maxHeartbeats 800000 in
theorem I_cellMap (W H D : Int) (a : Option Addr) (ca : Nat) (xs : List Nat) (f : FuncId) (cs : Array Value) (T : List Nat → Nat) (w : World) (fx : FSl w a xs.length xs) (hca : xs.length ≤ ca) (hn : xs.length ≤ 1048576) (hf : TellsC w f cs T) :
    Calls Try.prog 89 #[.agg #[.int .i64 W, .int .i64 H, .int .i64 D, .slice a xs.length ca], .func (.func f) #[] cs] w
      (PostP w (gW (gVol W H D xs.length) W) (gW (gVol W H D xs.length) H) (gVol W H D xs.length) (gVals (gVol W H D xs.length) ((W * H).toNat) (gCellAt T xs D))) := by
  have Fx := Lib.hid fx
  clear fx
  have hn' : xs.length ≤ maxLen := by unfold maxLen; omega
  have Hf := Lib.hid hf
  clear hf
  cases hT : gVol W H D xs.length
  · go_enter Try.func89, Try.ntmps89
    go_wp2_with (first
      | (go_at_call 55; with_reducible refine (I_ValidVolume _ _ _ _ _ _ _ hn').mono ?_; rintro e w' ⟨rfl, os, m, rfl⟩; rw [hT]))
    exact bodyPost_ret (v := .tuple #[.agg #[.int .i64 0, .int .i64 0, .slice none 0 0], .bool false]) (by simp [results, Try.results89, go_sem]) rfl ⟨⟨_, rfl, FOwn.nil _ _ _⟩, (by (try show Gr _ _); repeat (with_reducible first | exact Gr.refl _ | refine Gr.drewN ?_ _ | refine Gr.grew ?_ _ _ | refine Gr.alloc ?_ _ | refine Gr.drew ?_))⟩
  · obtain ⟨hS, d1, d2, hp, hp2⟩ := gVol_true hT
    obtain ⟨s1, s2, s3, s4, s5, s6⟩ := gSize_true hS
    obtain ⟨W, rfl⟩ := Int.eq_ofNat_of_zero_le (show 0 ≤ W by omega)
    obtain ⟨H, rfl⟩ := Int.eq_ofNat_of_zero_le (show 0 ≤ H by omega)
    obtain ⟨D, rfl⟩ := Int.eq_ofNat_of_zero_le (show 0 ≤ D by omega)
    have e1 := Lib.hid (show xs.length = W * H * D by exact_mod_cast hp)
    have eN : ((W : Int) * (H : Int)).toNat = W * H := by rw [← Int.natCast_mul]; exact Int.toNat_natCast _
    have hWH : 0 < W * H := Nat.mul_pos (by omega) (by omega)
    have hpos : 0 < xs.length := by rw [e1.out]; exact Nat.mul_pos hWH (by omega)
    obtain ⟨bx, ox, rfl⟩ := Fx.out.ptr hpos
    have HT := Lib.hid hT
    rw [eN]
    clear eN hp s5 s6 hS hT hWH
    have EG : Hid (grid W (fun x y => T (lst D fun j => xs.getD ((x + W * y) * D + j) 0)) (W * H) = lst (W * H) (gCellAt T xs D)) := by
      exact lst_congr fun i _ => by show T (lst D fun j => xs.getD ((i % W + W * (i / W)) * D + j) 0) = _; unfold gCellAt; rw [Nat.mod_add_div, Int.toNat_natCast]
    go_enter Try.func89, Try.ntmps89
    go_wp2_with fail
    refine (I_ValidVolume W H D _ _ ca _ hn').mono ?_
    rintro e u0 ⟨rfl, g⟩
    have k : Gr w u0 := Gr.trans (by (try show Gr _ _); repeat (with_reducible first | exact Gr.refl _ | refine Gr.drewN ?_ _ | refine Gr.grew ?_ _ _ | refine Gr.alloc ?_ _ | refine Gr.drew ?_)) g
    rw [HT.out]
    have B0 := Lib.hid (Blk.gr (show Blk _ (w.heap.size) [.int .i64 W, .int .i64 H, .int .i64 D, .slice (some ⟨bx, ox, none⟩) xs.length ca] 44 from (by repeat (with_reducible first | assumption | exact Blk.atNew (by simp) | refine Blk.alloc ?_ _ | refine Blk.grew ?_ _ _ | refine Blk.drewN ?_ _ | refine Blk.drew ?_))) g)
    have B1 := Lib.hid (Blk.gr (show Blk _ (w.heap.size + 1) [.func (.func f) #[] cs] 96 from (by repeat (with_reducible first | assumption | exact Blk.atNew (by simp) | refine Blk.alloc ?_ _ | refine Blk.grew ?_ _ _ | refine Blk.drewN ?_ _ | refine Blk.drew ?_))) g)
    have B2 := Lib.hid (Blk.gr (show Blk _ (w.heap.size + 1 + 1) [.int .i64 0, .int .i64 0, .slice none 0 0] 30 from (by repeat (with_reducible first | assumption | exact Blk.atNew (by simp) | refine Blk.alloc ?_ _ | refine Blk.grew ?_ _ _ | refine Blk.drewN ?_ _ | refine Blk.drew ?_))) g)
    have G := Lib.hid k
    clear g k
    have p0_0 := B0.out.cellv 0
    have p0_1 := B0.out.cellv 1
    have p0_2 := B0.out.cellv 2
    have p0_3 := B0.out.cellv 3
    have p1_0 := B1.out.cellv 0
    go_wp2_with fail
    refine (I_mapOf W H (fun x y => T (lst D fun j => xs.getD ((x + W * y) * D + j) 0)) 122 _ u0 (tells_cellMap W H D _ _ bx ox ca xs f cs T u0 (Hf.out.gr G.out) (B1.out.cellv 0) ⟨B0.out.cellv 0, B0.out.cellv 1, B0.out.cellv 2, B0.out.cellv 3, Fx.out.keep G.out.kp⟩ (by omega) (by omega) (by omega) (by omega) e1.out hca) (by omega) (by omega) (by omega) (by omega)).mono ?_
    rintro e un ⟨⟨v0, rfl, ho⟩, g⟩
    rw [EG.out] at ho
    obtain ⟨a1, c1, rfl, -, -⟩ := ho.sl' (W * H) (by simp)
    have Hb := Lib.hid B2.out.lt
    replace B2 := Lib.hid (B2.out.gr g)
    have Ho := Lib.hid ho
    have G1 := Lib.hid (G.out.trans g)
    have G0 := Lib.hid G.out.size
    clear ho g p0_0 p0_1 p0_2 p0_3 p1_0
    have q0 := B2.out.cellv 0
    have q1 := B2.out.cellv 1
    have q2 := B2.out.cellv 2
    have z0 := B2.out.frozen 0
    have z1 := B2.out.frozen 1
    have z2 := B2.out.frozen 2
    go_wp2
    refine bodyPost_ret (v := .tuple #[.agg #[.int .i64 W, .int .i64 H, .slice a1 (W * H) c1], .bool true]) (by simp [results, Try.results89, go_sem, gW, *]) rfl ⟨⟨_, rfl, ?_⟩, ?_⟩
    · have h := Ho.out
      have hb := Hb.out
      have h0 := G0.out
      show FOwn _ _ _ _ (lst (W * H) _)
      exact FOwn.base (B := u0.heap.size) (by repeat (with_reducible first | assumption | refine FOwn.setOther ?_ _ (by simp <;> omega))) h0
    · have h := G1.out
      exact (by repeat (with_reducible first | assumption | refine Gr.setCell ?_ (by simp <;> omega) _))
end Go.Proofs.Ytomlfdkcgaogcaa
