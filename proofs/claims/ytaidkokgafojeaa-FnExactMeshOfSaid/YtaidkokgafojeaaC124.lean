/- Contracts: MeshOf, the program. MAXREC -/
import Derived.Test.YtaidkokgafojeaaProg
import Derived.Test.YtaidkokgafojeaaC123
import Derived.Test.YtaidkokgafojeaaC121
import Derived.Maps.AppendAt
import Derived.Deep.RegionLaw
import Derived.Deep.DeepCutAuto
import Derived.Deep.LoopGhost
namespace Go.Fx
open Go Go.Soft Go.RowKit
/-- 'append(v, x)', one number: the law for one operation. -/
theorem wp_append_ia {P : Program} {w : World} {o : Oper} {a : Act} {K : Act → World → Prop} {Q : Exit → Act → World → Prop} {s x : Operand} {t : TypeId}
    (ho : o.op = .call { callee := .builtin .append, args := #[s, x], argTypes := #[t, t] }) {B : Nat} {e : TypeId} (i : TypeInfo) (ht : P.underlying t = some (.slice e)) (hi : P.info? e = some i) (hz : i.zero = some (.int .i64 0)) (hsize : i.size = 1) (hby : i.bytes = 8)
    {v : Value} {xs : List Int} (hs : a.eval s = v) (hown : IOwn w B e v xs) {ad : Addr} {c : Nat} {X : Int} (hx : a.eval x = .slice (some ad) 1 c) (hcell : w.cell? ad = some (.int .i64 X)) (hn : xs.length ≤ 1048576) (hB : B ≤ w.heap.size)
    (h : ∀ v' w', IOwn w' B e v' (xs ++ [X]) → w.grownBy w' v.ownBlock → (v'.ownBlock = v.ownBlock ∨ v'.ownBlock = some w.heap.size) → K (a.put o.dst v') w') : o.wp P a w K Q := by
  obtain ⟨v', w', hr, h2, h3, h4, h5⟩ := run_append_own_at (P := P) (w := w) B t o.type e i (.int .i64 0) 1 8 ht hi hz hsize hby rfl (by decide) v xs.length (xs.map (Value.int .i64)) hown ad 1 c [.int .i64 X] rfl (fun j u hj => by
    match j, hj with
    | 0, hj => simp at hj; subst hj; simpa [Addr.add] using hcell) (fun u hu => by simp at hu; subst hu; rfl) (by unfold maxLen; omega) (by omega) hB
  unfold Oper.wp execOp
  simp only [ho, resolve, invoke, builtin, Sem.run_bind, Sem.run_pure, Result.andThen_ok, List.map_toArray, List.map_cons, List.map_nil, hs, hx, hr]
  refine h v' w' ?_ h3 h5
  show w'.ownsRow B e 1 v' (xs ++ [X]).length ((xs ++ [X]).map (Value.int .i64))
  simpa using h2
/-- 'append(v, x)', one float: the law for one operation. -/
theorem wp_append_f1 {P : Program} {w : World} {o : Oper} {a : Act} {K : Act → World → Prop} {Q : Exit → Act → World → Prop} {s x : Operand} {t : TypeId}
    (ho : o.op = .call { callee := .builtin .append, args := #[s, x], argTypes := #[t, t] }) {B : Nat} {e : TypeId} (i : TypeInfo) (ht : P.underlying t = some (.slice e)) (hi : P.info? e = some i) (hz : i.zero = some (.float .f32 0)) (hsize : i.size = 1) (hby : i.bytes = 4)
    {v : Value} {xs : List Nat} (hs : a.eval s = v) (hown : FOwn w B e v xs) {ad : Addr} {c r X : Nat} (hx : a.eval x = .slice (some ad) 1 c) (hcell : w.cell? ad = some (.float .f32 r)) (hr : FE .f32 r X) (hn : xs.length ≤ 1048576) (hB : B ≤ w.heap.size)
    (h : ∀ v' w', FOwn w' B e v' (xs ++ [X]) → w.grownBy w' v.ownBlock → K (a.put o.dst v') w') : o.wp P a w K Q := by
  obtain ⟨rs, h1, h2⟩ := hown
  have hl := h1.len
  refine wp_append_own w s x t ho B e i (.float .f32 0) 1 4 ht hi hz hsize hby rfl (by decide) v rs.length (rs.map (Value.float .f32)) hs h2 ad 1 c [.float .f32 r] hx rfl ?_ ?_ (by unfold maxLen; omega) (by omega) hB ?_
  · intro j u hj
    match j, hj with
    | 0, hj => simp at hj; subst hj; simpa [Addr.add] using hcell
  · intro u hu; simp at hu; subst hu; rfl
  · intro v' w' h3 h4 _
    refine h v' w' ⟨rs ++ [r], h1.snoc hr, ?_⟩ h4
    simpa using h3
theorem FOwn.besideI {w w' : World} {lo lo' : Nat} {t t' : TypeId} {v v' : Value} {xs : List Nat} {ys : List Int} (h : FOwn w lo t v xs) (h' : IOwn w lo' t' v' ys) (g : w.grownBy w' v'.ownBlock) (ht : t ≠ t') : FOwn w' lo t v xs := by
  obtain ⟨rs, h1, h2⟩ := h
  exact ⟨rs, h1, h2.kept g (rows_ne h2 h' ht)⟩
theorem IOwn.besideF {w w' : World} {lo lo' : Nat} {t t' : TypeId} {v v' : Value} {xs : List Nat} {ys : List Int} (h : IOwn w lo' t' v' ys) (h' : FOwn w lo t v xs) (g : w.grownBy w' v.ownBlock) (ht : t ≠ t') : IOwn w' lo' t' v' ys := by
  obtain ⟨rs, h1, h2⟩ := h'
  exact World.ownsRow.kept h g (rows_ne h h2 (Ne.symm ht))
theorem Blk.besideI {w w' : World} {b lo : Nat} {cs : List Value} {t t' : TypeId} {v : Value} {ys : List Int} (h : Blk w b cs t) (h' : IOwn w lo t' v ys) (g : w.grownBy w' v.ownBlock) (ht : t ≠ t') : Blk w' b cs t :=
  h.grown g (own_ne h' (h.okb ht))
theorem Blk.besideF {w w' : World} {b lo : Nat} {cs : List Value} {t t' : TypeId} {v : Value} {ys : List Nat} (h : Blk w b cs t) (h' : FOwn w lo t' v ys) (g : w.grownBy w' v.ownBlock) (ht : t ≠ t') : Blk w' b cs t := by
  obtain ⟨rs, h1, h2⟩ := h'
  exact h.grown g (own_ne h2 (h.okb ht))
section
variable {P : Program} {ops : Array Oper} {w0 : World} {T : List Nat} {F : Nat → Value → World → Prop} {Q : Act → Prop} {k : Nat} {rest : List Oper} {Ms : List (Option (Value → Prop))} {a : Act} {dst : Option Tmp} {ty : TypeId} {pos : String} {after : Array Edge} {guard : Option (Nat × Bool)}
/-- As wpF_new; what is told of other operations may be used. -/
theorem wpF_newT {oo : Op} {c : Array Value} {e : TypeId} (mk : Nat → Value) (hw : Region.wanted ⟨dst, oo, ty, pos, after, guard⟩ (yielded ops a.tmps) = true)
    (hx : ∀ w, (execOp a.eval ⟨dst, oo, ty, pos, after, guard⟩).run P w = .ok (.value (mk w.heap.size)) (w.alloc (.cells c e)))
    (hF : ∀ w, Gr w0 w → Soft2.seen ops .any T F ⟨dst, oo, ty, pos, after, guard⟩ a w → k ∈ T → F k (mk w.heap.size) (w.alloc (.cells c e)))
    (h : ∀ b, w0.heap.size ≤ b → wpF P ops w0 T F Q (k + 1) rest Ms (a.put dst (mk b))) :
    wpF P ops w0 T F Q k (⟨dst, oo, ty, pos, after, guard⟩ :: rest) (some (fun v => ∃ b, w0.heap.size ≤ b ∧ v = mk b) :: Ms) a := by
  simp only [wpF, Soft2.wpSoft, hw, if_true]
  refine ⟨?_, ⟨_, w0.heap.size, Nat.le_refl _, rfl⟩, fun v ⟨b, hb, hv⟩ => by subst hv; exact h b hb⟩
  rintro w ⟨g, rfl⟩ hse
  rw [hx]
  refine ⟨⟨⟨g.os ++ #[.cells c e], g.m⟩, ?_⟩, (Gr.refl _).alloc _, fun hT => hF _ ⟨g.os, g.m, rfl⟩ hse hT, _, by simp, rfl⟩
  rw [alloc_grew]; simp; rfl
end
end Go.Fx
namespace Go.Proofs.Ytaidkokgafojeaa
open Go.RowKit Go.Fx Go.Soft
/-- The numbers and the depths of those of the first k cells that have a point. -/
def gN (I : List Int) (cs : List Int) : Nat → List Int
  | 0 => []
  | k + 1 => if gIx I (cs.getD k 0) < I.length then gN I cs k ++ [(gIx I (cs.getD k 0) : Int)] else gN I cs k
def gD (I : List Int) (V : List Nat) (cs : List Int) : Nat → List Nat
  | 0 => []
  | k + 1 => if gIx I (cs.getD k 0) < I.length then gD I V cs k ++ [gZat V (gIx I (cs.getD k 0))] else gD I V cs k
theorem gN_len (I : List Int) (cs : List Int) : ∀ k, (gN I cs k).length ≤ k
  | 0 => Nat.le_refl _
  | k + 1 => by
    have := gN_len I cs k
    unfold gN
    split
    · simp; omega
    · omega
theorem gD_len (I : List Int) (V : List Nat) (cs : List Int) : ∀ k, (gD I V cs k).length ≤ k
  | 0 => Nat.le_refl _
  | k + 1 => by
    have := gD_len I V cs k
    unfold gD
    split
    · simp; omega
    · omega
theorem gN_on {I cs : List Int} {k : Nat} (h : gIx I (cs.getD k 0) < I.length) : gN I cs (k + 1) = gN I cs k ++ [(gIx I (cs.getD k 0) : Int)] := by
  conv => lhs; unfold gN
  rw [if_pos h]
theorem gN_off {I cs : List Int} {k : Nat} (h : ¬ gIx I (cs.getD k 0) < I.length) : gN I cs (k + 1) = gN I cs k := by
  conv => lhs; unfold gN
  rw [if_neg h]
theorem gD_on {I cs : List Int} {V : List Nat} {k : Nat} (h : gIx I (cs.getD k 0) < I.length) : gD I V cs (k + 1) = gD I V cs k ++ [gZat V (gIx I (cs.getD k 0))] := by
  conv => lhs; unfold gD
  rw [if_pos h]
theorem gD_off {I cs : List Int} {V : List Nat} {k : Nat} (h : ¬ gIx I (cs.getD k 0) < I.length) : gD I V cs (k + 1) = gD I V cs k := by
  conv => lhs; unfold gD
  rw [if_neg h]
theorem gN_four {I : List Int} {a b c d : Int} (h1 : gIx I a < I.length) (h2 : gIx I b < I.length) (h3 : gIx I c < I.length) (h4 : gIx I d < I.length) : gN I [a, b, c, d] 4 = [(gIx I a : Int), (gIx I b : Int), (gIx I c : Int), (gIx I d : Int)] := by
  rw [gN_on (k := 3) h4, gN_on (k := 2) h3, gN_on (k := 1) h2, gN_on (k := 0) h1]
  rfl
theorem gD_four {I : List Int} {V : List Nat} {a b c d : Int} (h1 : gIx I a < I.length) (h2 : gIx I b < I.length) (h3 : gIx I c < I.length) (h4 : gIx I d < I.length) : gD I V [a, b, c, d] 4 = [gZat V (gIx I a), gZat V (gIx I b), gZat V (gIx I c), gZat V (gIx I d)] := by
  rw [gD_on (k := 3) h4, gD_on (k := 2) h3, gD_on (k := 1) h2, gD_on (k := 0) h1]
  rfl
theorem gN_step (I cs : List Int) (k : Nat) : (gN I cs k).length ≤ (gN I cs (k + 1)).length ∧ (gN I cs (k + 1)).length ≤ (gN I cs k).length + 1 := by
  by_cases h : gIx I (cs.getD k 0) < I.length
  · rw [gN_on h]; simp
  · rw [gN_off h]; omega
theorem gN_short {I : List Int} {a b c d : Int} (h : ¬ (gIx I a < I.length ∧ gIx I b < I.length ∧ gIx I c < I.length ∧ gIx I d < I.length)) : (gN I [a, b, c, d] 4).length ≠ 4 := by
  have s0 : (gN I [a, b, c, d] 0).length ≤ (gN I [a, b, c, d] 1).length ∧ (gN I [a, b, c, d] 1).length ≤ (gN I [a, b, c, d] 0).length + 1 := gN_step I [a, b, c, d] 0
  have s1 : (gN I [a, b, c, d] 1).length ≤ (gN I [a, b, c, d] 2).length ∧ (gN I [a, b, c, d] 2).length ≤ (gN I [a, b, c, d] 1).length + 1 := gN_step I [a, b, c, d] 1
  have s2 : (gN I [a, b, c, d] 2).length ≤ (gN I [a, b, c, d] 3).length ∧ (gN I [a, b, c, d] 3).length ≤ (gN I [a, b, c, d] 2).length + 1 := gN_step I [a, b, c, d] 2
  have s3 : (gN I [a, b, c, d] 3).length ≤ (gN I [a, b, c, d] 4).length ∧ (gN I [a, b, c, d] 4).length ≤ (gN I [a, b, c, d] 3).length + 1 := gN_step I [a, b, c, d] 3
  have z0 : (gN I [a, b, c, d] 0).length = 0 := rfl
  by_cases h1 : gIx I a < I.length
  · by_cases h2 : gIx I b < I.length
    · by_cases h3 : gIx I c < I.length
      · have h4 : ¬ gIx I d < I.length := fun h4 => h ⟨h1, h2, h3, h4⟩
        have e : (gN I [a, b, c, d] 4).length = (gN I [a, b, c, d] 3).length := congrArg List.length (gN_off (I := I) (cs := [a, b, c, d]) (k := 3) h4)
        omega
      · have e : (gN I [a, b, c, d] 3).length = (gN I [a, b, c, d] 2).length := congrArg List.length (gN_off (I := I) (cs := [a, b, c, d]) (k := 2) h3)
        omega
    · have e : (gN I [a, b, c, d] 2).length = (gN I [a, b, c, d] 1).length := congrArg List.length (gN_off (I := I) (cs := [a, b, c, d]) (k := 1) h2)
      omega
  · have e : (gN I [a, b, c, d] 1).length = (gN I [a, b, c, d] 0).length := congrArg List.length (gN_off (I := I) (cs := [a, b, c, d]) (k := 0) h1)
    omega
set_option maxRecDepth 20000 in
set_option maxHeartbeats 8000000 in
theorem I_MeshOf (f b mx my F B X Y most M : Nat) (W H : Int) (a : Option Addr) (ca : Nat) (xs : List Nat) (w : World) (hf : FE .f32 f F) (hb : FE .f32 b B) (hx : FE .f32 mx X) (hy : FE .f32 my Y) (hM : FE .f32 most M) (fx : FSl w a xs.length xs) (hn : xs.length ≤ 1048576) :
    Calls Try.prog 54 #[.agg #[.float .f32 f, .float .f32 b, .float .f32 mx, .float .f32 my], .agg #[.int .i64 W, .int .i64 H, .slice a xs.length ca], .float .f32 most] w
      (PostVT w (gPtsOk F B X Y W H xs.length) (if gPtsOk F B X Y W H xs.length then (gPtsI F B xs xs.length).length else 0) (if gPtsOk F B X Y W H xs.length then gPtsV F B X Y W.toNat xs xs.length else []) (if gPtsOk F B X Y W H xs.length then gMesh (gPtsI F B xs xs.length) (gPtsV F B X Y W.toNat xs xs.length) W.toNat H.toNat M xs.length else [])) := by
  obtain ⟨i0, hi, hz0, hz1, hz2⟩ := info_parts info_int64S
  obtain ⟨j0, ji, jz0, jz1, jz2⟩ := info_parts info_int64
  obtain ⟨f0, fi, fz0, fz1, fz2⟩ := info_parts info_float32
  have Fx := Lib.hid fx
  clear fx
  have LP := Lib.hid (fun w1 (g : Gr w w1) => I_PointsOf f b mx my F B X Y W H a ca xs w1 hf hb hx hy (Fx.out.keep g.kp) hn)
  cases hO : gPtsOk F B X Y W H xs.length
  · rw [hO] at LP
    go_enter Try.func54, Try.ntmps54
    go_wp2_with fail
    refine (LP.out _ (by (try show Gr _ _); repeat (with_reducible first | exact Gr.refl _ | refine Gr.drewN ?_ _ | refine Gr.grew ?_ _ _ | refine Gr.alloc ?_ _ | refine Gr.drew ?_))).mono ?_
    rintro e w1 ⟨⟨v, u, rfl, ho, hu⟩, g⟩
    have G1 := Lib.hid (Gr.trans (show Gr w _ from (by (try show Gr _ _); repeat (with_reducible first | exact Gr.refl _ | refine Gr.drewN ?_ _ | refine Gr.grew ?_ _ _ | refine Gr.alloc ?_ _ | refine Gr.drew ?_))) g)
    clear ho hu g
    go_wp2
    exact bodyPost_ret (v := .tuple #[.slice none 0 0, .slice none 0 0, .bool false]) (by simp [results, Try.results54, go_sem]) rfl ⟨⟨_, _, rfl, VOwn.nil _ _ _, TriOwn.nil _ _ _ _ _⟩, G1.out.trans (by (try show Gr _ _); repeat (with_reducible first | exact Gr.refl _ | refine Gr.drewN ?_ _ | refine Gr.grew ?_ _ _ | refine Gr.alloc ?_ _ | refine Gr.drew ?_))⟩
  · rw [hO] at LP
    have hO' := hO
    simp only [gPtsOk, Bool.and_eq_true] at hO'
    obtain ⟨W', H', rfl, rfl, h1, h2, h3, h4, h5, h6⟩ := gPic_nat hO'.2
    simp only [if_true, Int.toNat_natCast] at LP ⊢
    have hdeep := gPtsV_deep F B X Y W' xs xs.length
    have hrise := gPtsI_rise F B xs xs.length
    obtain ⟨V, hV⟩ : ∃ V, V = gPtsV F B X Y W' xs xs.length := ⟨_, rfl⟩
    obtain ⟨I, hI⟩ : ∃ I, I = gPtsI F B xs xs.length := ⟨_, rfl⟩
    have hIl : I.length ≤ xs.length := by rw [hI]; exact gPtsI_length F B xs _
    rw [← hV, ← hI] at LP hdeep ⊢
    rw [← hI] at hrise
    have HD := Lib.hid hdeep
    have HR := Lib.hid hrise
    have hn5 : xs.length ≤ 576 := by rw [h5]; exact Nat.mul_le_mul h1 h2
    have hI4 : I.length ≤ 576 := by omega
    obtain ⟨W1, hW1⟩ : ∃ W1, W1 + 1 = W' := ⟨W' - 1, by omega⟩
    obtain ⟨H1, hH1⟩ : ∃ H1, H1 + 1 = H' := ⟨H' - 1, by omega⟩
    have eW : IntKind.i64.wrap ((W' : Int) - 1) = (W1 : Int) := by rw [IntWalk.i64_in _ (by omega)]; omega
    have eH : IntKind.i64.wrap ((H' : Int) - 1) = (H1 : Int) := by rw [IntWalk.i64_in _ (by omega)]; omega
    have H5 := Lib.hid h5
    have hWH : W' * H' ≤ 576 := Nat.mul_le_mul h1 h2
    have HE : Hid (gMesh I V W' H' M (W' * H1) = gMesh I V W' H' M xs.length) := Lib.hid (by
      have := gMesh_last (I := I) (V := V) (W := W') (H := H1) (M := M) (by omega) W' (Nat.le_refl _)
      rw [hH1] at this
      rw [← this, h5, ← hH1, Nat.mul_succ])
    have HW := Lib.hid hW1
    have HH := Lib.hid hH1
    clear hV hI h5 h6 hdeep hrise hO hO' hf hb hx hy
    go_enter Try.func54, Try.ntmps54
    go_wp2_with fail
    refine (LP.out _ (by (try show Gr _ _); repeat (with_reducible first | exact Gr.refl _ | refine Gr.drewN ?_ _ | refine Gr.grew ?_ _ _ | refine Gr.alloc ?_ _ | refine Gr.drew ?_))).mono ?_
    rintro e w1 ⟨⟨v, u, rfl, ho, hu⟩, g⟩
    have G1 := Lib.hid (Gr.trans (show Gr w _ from (by (try show Gr _ _); repeat (with_reducible first | exact Gr.refl _ | refine Gr.drewN ?_ _ | refine Gr.grew ?_ _ _ | refine Gr.alloc ?_ _ | refine Gr.drew ?_))) g)
    have B1 := Lib.hid (Blk.gr (show Blk _ (w.heap.size + 1) [.int .i64 W', .int .i64 H', .slice a xs.length ca] 24 from (by repeat (with_reducible first | assumption | exact Blk.atNew (by simp) | refine Blk.alloc ?_ _ | refine Blk.grew ?_ _ _ | refine Blk.drewN ?_ _ | refine Blk.drew ?_))) g)
    have HO := Lib.hid (ho.base (B' := w.heap.size) (by simp <;> omega))
    have HU := Lib.hid (hu.base (B' := w.heap.size) (by simp <;> omega))
    have hs1 := G1.out.size
    obtain ⟨av, cv, rfl⟩ := ho.form
    obtain ⟨au, cu, rfl⟩ := hu.form
    have m0 := B1.out.cellv 0
    have m1 := B1.out.cellv 1
    have m2 := B1.out.cellv 2
    clear ho hu g LP Fx
    go_wp2
    go_loopg [12, 35] H1 (fun g1 s t wr => ∃ y : Nat, t = .int .i64 y ∧ y ≤ H1 ∧ g1 = H1 - y ∧ TriOwn wr w1.heap.size wr.heap.size 71 2 s (gMesh I V W' H' M (W' * y)) ∧ Gr w1 wr)
    case atStart => exact ⟨0, rfl, Nat.zero_le _, by omega, by rw [Nat.mul_zero]; exact TriOwn.empty (by repeat (with_reducible first | assumption | exact Blk.atNew (by simp) | refine Blk.alloc ?_ _ | refine Blk.grew ?_ _ _ | refine Blk.drewN ?_ _ | refine Blk.drew ?_)) (Nat.le_refl _), (by (try show Gr _ _); repeat (with_reducible first | exact Gr.refl _ | refine Gr.drewN ?_ _ | refine Gr.grew ?_ _ _ | refine Gr.alloc ?_ _ | refine Gr.drew ?_))⟩
    case round =>
      obtain ⟨y, rfl, hyH, rfl, ht, hg⟩ := hrel
      by_cases hlt : y < H1
      · have m0 := hg.cell m0
        have m1 := hg.cell m1
        have m2 := hg.cell m2
        have Ht := Lib.hid ht
        have Hg := Lib.hid hg
        clear ht hg
        go_wp2
        go_loopg [12, 41] W1 (fun g1 s t wr => ∃ x : Nat, t = .int .i64 x ∧ x ≤ W1 ∧ g1 = W1 - x ∧ TriOwn wr w1.heap.size wr.heap.size 71 2 s (gMesh I V W' H' M (x + W' * y)) ∧ Gr w1 wr)
        case atStart => exact ⟨0, rfl, Nat.zero_le _, by omega, by rw [Nat.zero_add]; exact Ht.out, Hg.out⟩
        case round =>
          obtain ⟨x, rfl, hxW, rfl, ht, hg⟩ := hrel
          clear Ht Hg
          obtain ⟨at', ct, rfl⟩ := ht.form
          have m0 := (B1.out.gr hg).cellv 0
          have m1 := (B1.out.gr hg).cellv 1
          have m2 := (B1.out.gr hg).cellv 2
          have Ht := Lib.hid ht
          have Hg := Lib.hid hg
          clear ht hg
          by_cases hxt : x < W1
          · obtain ⟨c, hc⟩ : ∃ c, c = x + W' * y := ⟨_, rfl⟩
            have hc6 : c < 576 := by
              have := cell_lt (w := W') (h := H') (x := x) (y := y) (by omega) (by omega)
              omega
            have hyW : W' * y ≤ c := by omega
            have ES := Lib.hid (show gMesh I V W' H' M (c + 1) = gMesh I V W' H' M c ++ gQuad I V W' M c from gMesh_on (by
              have hx1 : x < W' := by omega
              rw [hc, mod_of hx1, div_of hx1]
              omega))
            have HC := Lib.hid hc
            have EC := Lib.hid (show (x : Int) + (W' : Int) * (y : Int) = (c : Int) by rw [hc]; simp)
            rw [← hc] at Ht ⊢
            obtain ⟨wx, rfl⟩ : ∃ u, u = wr := ⟨_, rfl⟩
            obtain ⟨cs, hcs⟩ : ∃ cs : List Int, cs = [(c : Int), (c : Int) + 1, (c : Int) + (W' : Int) + 1, (c : Int) + (W' : Int)] := ⟨_, rfl⟩
            have HCS := Lib.hid hcs
            have hcl : cs.length = 4 := by rw [hcs]; rfl
            clear hc hcs
            go_wp2
            go_loopg [16, 17, 66] 4 (fun g1 s t i w4 => ∃ k : Nat, i = .int .i64 k ∧ k ≤ 4 ∧ g1 = 4 - k ∧ IOwn w4 wx.heap.size 2 s (gN I cs k) ∧ FOwn w4 wx.heap.size 65 t (gD I V cs k) ∧ Blk w4 (wx.heap.size + 2) (cs.map (Value.int .i64)) 2 ∧ s.ownBlock ≠ some (wx.heap.size + 2) ∧ Gr wx w4)
            case atStart => exact ⟨0, rfl, by omega, by omega, IOwn.empty (g := wx.heap.size) (by repeat (with_reducible first | assumption | exact Blk.atNew (by simp) | refine Blk.alloc ?_ _ | refine Blk.grew ?_ _ _ | refine Blk.drewN ?_ _ | refine Blk.drew ?_)) (Nat.le_refl _), FOwn.empty (g := wx.heap.size + 1) (by repeat (with_reducible first | assumption | exact Blk.atNew (by simp) | refine Blk.alloc ?_ _ | refine Blk.grew ?_ _ _ | refine Blk.drewN ?_ _ | refine Blk.drew ?_)) (by omega), by rw [HCS.out, ← EC.out]; exact (show Blk _ (wx.heap.size + 2) [.int .i64 ((x : Int) + (W' : Int) * (y : Int)), .int .i64 ((x : Int) + (W' : Int) * (y : Int) + 1), .int .i64 ((x : Int) + (W' : Int) * (y : Int) + (W' : Int) + 1), .int .i64 ((x : Int) + (W' : Int) * (y : Int) + (W' : Int))] 2 from (by repeat (with_reducible first | assumption | exact Blk.atNew (by simp) | refine Blk.alloc ?_ _ | refine Blk.grew ?_ _ _ | refine Blk.drewN ?_ _ | refine Blk.drew ?_))), by simp [Value.ownBlock], (by (try show Gr _ _); repeat (with_reducible first | exact Gr.refl _ | refine Gr.drewN ?_ _ | refine Gr.grew ?_ _ _ | refine Gr.alloc ?_ _ | refine Gr.drew ?_))⟩
            case round =>
              obtain ⟨k, rfl, hk, rfl, ho, hf, hB, hne, hg⟩ := hrel
              have GG := Lib.hid (Hg.out.trans hg)
              by_cases hk4 : k < 4
              · have ck := (hB.cell k).trans (show (cs.map (Value.int .i64))[k]? = some (.int .i64 (cs.getD k 0)) by simp [hcl, hk4])
                have ki : (k : Int) < 4 := by omega
                have wi : IntKind.i64.wrap ((k : Int) + 1) = (k : Int) + 1 := IntWalk.i64_in _ (by omega)
                obtain ⟨z, hz⟩ : ∃ z, z = cs.getD k 0 := ⟨_, rfl⟩
                rw [← hz] at ck
                obtain ⟨aN, cN, rfl⟩ := ho.form
                obtain ⟨aD, cD, rfl, -, -⟩ := hf.sl
                have lN := gN_len I cs k
                have lD := gD_len I V cs k
                obtain ⟨au', cu', eu, hIs, -⟩ := HU.out.sl
                cases eu
                have HIs := Lib.hid (hIs.keep GG.out.kp)
                obtain ⟨q, hq⟩ : ∃ q, q = gIx I z := ⟨_, rfl⟩
                by_cases hqI : q < I.length
                · have EN := Lib.hid (show gN I cs (k + 1) = gN I cs k ++ [(q : Int)] by
                    have h := gN_on (I := I) (cs := cs) (k := k) (by rw [← hz, ← hq]; exact hqI)
                    rw [← hz, ← hq] at h; exact h)
                  have ED := Lib.hid (show gD I V cs (k + 1) = gD I V cs k ++ [gZat V q] by
                    have h := gD_on (I := I) (V := V) (cs := cs) (k := k) (by rw [← hz, ← hq]; exact hqI)
                    rw [← hz, ← hq] at h; exact h)
                  have LB := Lib.hid (show Calls Try.prog 114 #[.slice au I.length cu, .int .i64 z] wr fun e w' => e = .returned (.tuple #[.int .i64 (q : Int), .bool true]) ∧ w' = wr from (I_BinSearch au cu I z wr HIs.out HR.out (by omega)).mono (by
                    rintro e w' ⟨⟨p, rfl, hp⟩, rfl⟩
                    rw [decide_eq_true (by rw [← hq]; exact hqI), hp (by rw [← hq]; exact hqI), ← hq]
                    exact ⟨rfl, rfl⟩))
                  obtain ⟨gV, cV, eV, -⟩ := HO.out.ptr (by omega)
                  cases eV
                  obtain ⟨p0, dq⟩ := deep_cell HO.out HD.out.1 HD.out.2 hqI
                  have hrq := dq.fe
                  generalize gZat V q = zq at *
                  have p1 := GG.out.cell p0
                  have kq : (q : Int) < (I.length : Int) := by omega
                  have HN := Lib.hid ho
                  have HF := Lib.hid hf
                  have H4 := Lib.hid hB
                  have HNE := Lib.hid hne
                  have HG := Lib.hid hg
                  have HSZ := Lib.hid hB.lt
                  have P0 := Lib.hid p0
                  have HRQ := Lib.hid hrq
                  generalize gN I cs k = LN at *
                  generalize gD I V cs k = LD at *
                  clear ho hf hB hne hg hIs hq hz dq p0
                  go_wp2_with fail
                  refine LB.out.mono ?_
                  rintro e u ⟨rfl, rfl⟩
                  go_upto_region 18 with fail
                  go_region_law (first
                    | (rw [if_pos (by rfl)]
                       refine wp_append_ia (X := (q : Int)) rfl j0 Try.underlying71 ji jz0 jz1 jz2 rfl (HN.out.gr (by (try show Gr _ _); repeat (with_reducible first | exact Gr.refl _ | refine Gr.drewN ?_ _ | refine Gr.grew ?_ _ _ | refine Gr.alloc ?_ _ | refine Gr.drew ?_))) rfl ?hc ?hn ?hB ?_
                       case hc => (refine Blk.cellv (cs := [.int .i64 (q : Int)]) (t := 2) ?_ 0 rfl; exact (by repeat (with_reducible first | assumption | exact Blk.atNew (by simp) | refine Blk.alloc ?_ _ | refine Blk.grew ?_ _ _ | refine Blk.drewN ?_ _ | refine Blk.drew ?_)))
                       case hn => omega
                       case hB => (have := HSZ.out; simp; omega)
                       intro v1 w2 ho1 hg1 hv1
                       have G2 := Gr.grownBy (HG.out.trans (by (try show Gr _ _); repeat (with_reducible first | exact Gr.refl _ | refine Gr.drewN ?_ _ | refine Gr.grew ?_ _ _ | refine Gr.alloc ?_ _ | refine Gr.drew ?_))) hg1 (fun p hp => (IOwn.block HN.out hp).1)
                       have p2 := (Hg.out.trans G2).cell P0.out
                       have H42 := Lib.hid (Blk.grown (H4.out.gr (by (try show Gr _ _); repeat (with_reducible first | exact Gr.refl _ | refine Gr.drewN ?_ _ | refine Gr.grew ?_ _ _ | refine Gr.alloc ?_ _ | refine Gr.drew ?_))) hg1 HNE.out)
                       have HF2 := Lib.hid (FOwn.besideI (HF.out.gr (by (try show Gr _ _); repeat (with_reducible first | exact Gr.refl _ | refine Gr.drewN ?_ _ | refine Gr.grew ?_ _ _ | refine Gr.alloc ?_ _ | refine Gr.drew ?_))) (HN.out.gr (by (try show Gr _ _); repeat (with_reducible first | exact Gr.refl _ | refine Gr.drewN ?_ _ | refine Gr.grew ?_ _ _ | refine Gr.alloc ?_ _ | refine Gr.drew ?_))) hg1 (by decide))
                       have HC2 := Lib.hid (fun b r (h : Blk _ b [.float .f32 r] 65) => Blk.besideI h (HN.out.gr (by (try show Gr _ _); repeat (with_reducible first | exact Gr.refl _ | refine Gr.drewN ?_ _ | refine Gr.grew ?_ _ _ | refine Gr.alloc ?_ _ | refine Gr.drew ?_))) hg1 (by decide))
                       have HNE2 := Lib.hid (show v1.ownBlock ≠ some (wx.heap.size + 2) by
                         rcases hv1 with h | h <;> rw [h]
                         · exact HNE.out
                         · intro he
                           have := HSZ.out
                           simp at he
                           omega)
                       have HN2 := Lib.hid ho1
                       replace G2 := Lib.hid G2
                       clear ho1 hg1 hv1)
                    | (rw [if_pos (by rfl)]
                       refine wp_append_f1 rfl f0 Try.underlying22 fi fz0 fz1 fz2 rfl (HF2.out.gr (by (try show Gr _ _); repeat (with_reducible first | exact Gr.refl _ | refine Gr.drewN ?_ _ | refine Gr.grew ?_ _ _ | refine Gr.alloc ?_ _ | refine Gr.drew ?_))) rfl ?hc HRQ.out ?hn ?hB ?_
                       case hc => (first | (refine Blk.cellv (cs := [.float .f32 zq]) (HC2.out _ _ ?_) 0 rfl; exact (by repeat (with_reducible first | assumption | exact Blk.atNew (by simp) | refine Blk.alloc ?_ _ | refine Blk.grew ?_ _ _ | refine Blk.drewN ?_ _ | refine Blk.drew ?_))) | (refine Blk.cellv (cs := [.float .f32 zq]) (t := 65) ?_ 0 rfl; exact (by repeat (with_reducible first | assumption | exact Blk.atNew (by simp) | refine Blk.alloc ?_ _ | refine Blk.grew ?_ _ _ | refine Blk.drewN ?_ _ | refine Blk.drew ?_))))
                       case hn => omega
                       case hB => (have := G2.out.size; simp; omega)
                       intro v3 w3 ho3 hg3
                       have H43 := Lib.hid (Blk.besideF (H42.out.gr (by (try show Gr _ _); repeat (with_reducible first | exact Gr.refl _ | refine Gr.drewN ?_ _ | refine Gr.grew ?_ _ _ | refine Gr.alloc ?_ _ | refine Gr.drew ?_))) (HF2.out.gr (by (try show Gr _ _); repeat (with_reducible first | exact Gr.refl _ | refine Gr.drewN ?_ _ | refine Gr.grew ?_ _ _ | refine Gr.alloc ?_ _ | refine Gr.drew ?_))) hg3 (by decide))
                       have HN3 := Lib.hid (IOwn.besideF (HN2.out.gr (by (try show Gr _ _); repeat (with_reducible first | exact Gr.refl _ | refine Gr.drewN ?_ _ | refine Gr.grew ?_ _ _ | refine Gr.alloc ?_ _ | refine Gr.drew ?_))) (HF2.out.gr (by (try show Gr _ _); repeat (with_reducible first | exact Gr.refl _ | refine Gr.drewN ?_ _ | refine Gr.grew ?_ _ _ | refine Gr.alloc ?_ _ | refine Gr.drew ?_))) hg3 (by decide))
                       have HF3 := Lib.hid ho3
                       have G3 := Lib.hid (Gr.grownBy (G2.out.trans (by (try show Gr _ _); repeat (with_reducible first | exact Gr.refl _ | refine Gr.drewN ?_ _ | refine Gr.grew ?_ _ _ | refine Gr.alloc ?_ _ | refine Gr.drew ?_))) hg3 (fun p hp => (FOwn.block HF2.out hp).1))
                       clear ho3 hg3))
                  all_goals
                    go_wp2
                    go_roundg (4 - (k + 1))
                    case measure => omega
                    case rel => exact ⟨k + 1, by go_num, by omega, rfl, by rw [EN.out]; exact HN3.out, by rw [ED.out]; exact HF3.out, H43.out, HNE2.out, G3.out⟩
                · have EN := Lib.hid (gN_off (I := I) (cs := cs) (k := k) (by rw [← hz, ← hq]; exact hqI))
                  have ED := Lib.hid (gD_off (I := I) (V := V) (cs := cs) (k := k) (by rw [← hz, ← hq]; exact hqI))
                  have LB := Lib.hid (show Calls Try.prog 114 #[.slice au I.length cu, .int .i64 z] wr fun e w' => ∃ p : Nat, e = .returned (.tuple #[.int .i64 (p : Int), .bool false]) ∧ w' = wr from (I_BinSearch au cu I z wr HIs.out HR.out (by omega)).mono (by
                    rintro e w' ⟨⟨p, rfl, hp⟩, rfl⟩
                    rw [decide_eq_false (by rw [← hq]; exact hqI)]
                    exact ⟨p, rfl, rfl⟩))
                  have HN := Lib.hid ho
                  have HF := Lib.hid hf
                  have H4 := Lib.hid hB
                  have HNE := Lib.hid hne
                  have HG := Lib.hid hg
                  clear ho hf hB hne hg hIs hq hz
                  go_wp2_with fail
                  refine LB.out.mono ?_
                  rintro e u ⟨p, rfl, rfl⟩
                  go_wp2
                  go_roundg (4 - (k + 1))
                  case measure => omega
                  case rel => exact ⟨k + 1, by go_num, by omega, rfl, by rw [EN.out]; exact HN.out, by rw [ED.out]; exact HF.out, H4.out, HNE.out, HG.out⟩
              · obtain rfl : k = 4 := by omega
                obtain ⟨q1, hq1⟩ : ∃ q, q = gIx I (c : Int) := ⟨_, rfl⟩
                obtain ⟨q2, hq2⟩ : ∃ q, q = gIx I ((c : Int) + 1) := ⟨_, rfl⟩
                obtain ⟨q3, hq3⟩ : ∃ q, q = gIx I ((c : Int) + (W' : Int)) := ⟨_, rfl⟩
                obtain ⟨q4, hq4⟩ : ∃ q, q = gIx I ((c : Int) + (W' : Int) + 1) := ⟨_, rfl⟩
                have hQ : gQuad I V W' M c = if (q1 < I.length ∧ q2 < I.length ∧ q3 < I.length ∧ q4 < I.length) ∧ fcmp .leq .f32 (fop .sub .f32 (gMxTo [gZat V q1, gZat V q2, gZat V q3, gZat V q4] 3) (gMnTo [gZat V q1, gZat V q2, gZat V q3, gZat V q4] 3)) M = true then [[(q1 : Int), (q2 : Int), (q4 : Int)], [(q1 : Int), (q4 : Int), (q3 : Int)]] else [] := by
                  rw [hq1, hq2, hq3, hq4]
                  rfl
                have HT := Lib.hid (Ht.out.gr hg)
                have hsz := hg.size
                have EXC := Lib.hid (show x + 1 + W' * y = c + 1 by have := HC.out; omega)
                by_cases hall : q1 < I.length ∧ q2 < I.length ∧ q4 < I.length ∧ q3 < I.length
                · obtain ⟨a1, a2, a4, a3⟩ := hall
                  have h24 : q2 ≠ q4 := fun e => by
                    have e2 := gIx_get (I := I) (c := (c : Int) + 1) (by rw [← hq2]; exact a2)
                    have e4 := gIx_get (I := I) (c := (c : Int) + (W' : Int) + 1) (by rw [← hq4]; exact a4)
                    rw [← hq2] at e2
                    rw [← hq4, ← e] at e4
                    omega
                  have eN : gN I cs 4 = [(q1 : Int), (q2 : Int), (q4 : Int), (q3 : Int)] := by
                    rw [HCS.out, hq1, hq2, hq3, hq4]
                    exact gN_four (by rw [← hq1]; exact a1) (by rw [← hq2]; exact a2) (by rw [← hq4]; exact a4) (by rw [← hq3]; exact a3)
                  have eD : gD I V cs 4 = [gZat V q1, gZat V q2, gZat V q4, gZat V q3] := by
                    rw [HCS.out, hq1, hq2, hq3, hq4]
                    exact gD_four (by rw [← hq1]; exact a1) (by rw [← hq2]; exact a2) (by rw [← hq4]; exact a4) (by rw [← hq3]; exact a3)
                  rw [eN] at ho
                  rw [eD] at hf
                  have hQ2 : gQuad I V W' M c = if fcmp .leq .f32 (fop .sub .f32 (gMxTo [gZat V q1, gZat V q2, gZat V q3, gZat V q4] 3) (gMnTo [gZat V q1, gZat V q2, gZat V q3, gZat V q4] 3)) M = true then [[(q1 : Int), (q2 : Int), (q4 : Int)], [(q1 : Int), (q4 : Int), (q3 : Int)]] else [] := by
                    rw [hQ]; simp only [a1, a2, a3, a4, and_self, true_and]
                  obtain ⟨gn, cN, rfl, -⟩ : ∃ g cap, _ = Value.slice (some ⟨g, 0, none⟩) 4 cap ∧ wx.heap.size ≤ g := IOwn.ptr ho (by simp)
                  obtain ⟨aD, cD, rfl, hfs, -⟩ := hf.sl' 4 rfl
                  have n0 : wr.cell? ⟨gn, 0, none⟩ = some (.int .i64 (q1 : Int)) := IOwn.get ho 0 (by simp)
                  have n1 : wr.cell? ⟨gn, 1, none⟩ = some (.int .i64 (q2 : Int)) := IOwn.get ho 1 (by simp)
                  have n2 : wr.cell? ⟨gn, 2, none⟩ = some (.int .i64 (q4 : Int)) := IOwn.get ho 2 (by simp)
                  have n3 : wr.cell? ⟨gn, 3, none⟩ = some (.int .i64 (q3 : Int)) := IOwn.get ho 3 (by simp)
                  obtain ⟨gV, cV, eV, -⟩ := HO.out.ptr (by omega)
                  cases eV
                  have cel := fun q (hq : q < I.length) => deep_cell (HO.out.gr GG.out) HD.out.1 HD.out.2 hq
                  obtain ⟨-, d1⟩ := cel q1 a1
                  obtain ⟨-, d2⟩ := cel q2 a2
                  obtain ⟨-, d3⟩ := cel q3 a3
                  obtain ⟨-, d4⟩ := cel q4 a4
                  generalize gZat V q1 = z1 at *
                  generalize gZat V q2 = z2 at *
                  generalize gZat V q3 = z3 at *
                  generalize gZat V q4 = z4 at *
                  have HTF := ToldF.four d1 d2 d3 d4
                  have HDM := deep_most d1 d2 d3 d4
                  have LMX := Lib.hid (show Calls Try.prog 115 #[.slice aD 4 cD] wr fun e w' => e = .returned (.float .f32 (gMxTo [z1, z2, z3, z4] 3)) ∧ w' = wr from by
                    have h := I_SlMax aD cD [z1, z2, z4, z3] wr hfs (by simp) (ToldF.four d1 d2 d4 d3) (by simp)
                    rw [gMx_swap HTF]; exact h)
                  have LMN := Lib.hid (show Calls Try.prog 116 #[.slice aD 4 cD] wr fun e w' => e = .returned (.float .f32 (gMnTo [z1, z2, z3, z4] 3)) ∧ w' = wr from by
                    have h := I_SlMin aD cD [z1, z2, z4, z3] wr hfs (by simp) (ToldF.four d1 d2 d4 d3) (by simp)
                    rw [gMn_swap HTF]; exact h)
                  generalize gMxTo [z1, z2, z3, z4] 3 = mx0 at *
                  generalize gMnTo [z1, z2, z3, z4] 3 = mn0 at *
                  have hdx := HDM.1.fe
                  have hdn := HDM.2.fe
                  have HQ := Lib.hid hQ2
                  have H24 := Lib.hid h24
                  clear hQ hQ2 hq1 hq2 hq3 hq4 ho hf hB hne hg hfs cel d1 d2 d3 d4 HTF HDM eN eD HO HU HD HR HCS
                  go_wp2_with fail
                  refine LMX.out.mono ?_
                  rintro e u1 ⟨rfl, rfl⟩
                  go_wp2_with fail
                  refine LMN.out.mono ?_
                  rintro e u2 ⟨rfl, rfl⟩
                  cases hle : fcmp .leq .f32 (fop .sub .f32 mx0 mn0) M
                  · have HQ0 := Lib.hid (show gQuad I V W' M c = [] by rw [HQ.out, hle]; rfl)
                    go_wp2_with (first
      | ((with_reducible apply wpList_fop); (case hw => rfl); (case hop => rfl); (case hx => rfl); (case hy => rfl); (case hA => (first | assumption | exact FE.ofInt _ _ | exact FE.lit (by decide +kernel))); (case hB => (first | assumption | exact FE.ofInt _ _ | exact FE.lit (by decide +kernel))); intro r n hr)
      | ((with_reducible apply wpList_fcmp); (case hw => rfl); (case hop => rfl); (case hx => rfl); (case hy => rfl); (case hA => (first | assumption | exact FE.ofInt _ _ | exact FE.lit (by decide +kernel))); (case hB => (first | assumption | exact FE.ofInt _ _ | exact FE.lit (by decide +kernel))); (case hb => (first | assumption | rfl)))
      | ((with_reducible apply wpList_widen); (case hw => rfl); (case hs => exact Try.underlying65); (case hd => exact Try.underlying147); (case hx => rfl); (case hA => (first | assumption | exact FE.ofInt _ _ | exact FE.lit (by decide +kernel))); intro r n hr)
      | ((with_reducible apply wpList_fneg); (case hw => rfl); (case hx => rfl); (case hA => (first | assumption | exact FE.ofInt _ _ | exact FE.lit (by decide +kernel))); intro r hr))
                    go_roundg (W1 - (x + 1))
                    case measure => omega
                    case rel => exact ⟨x + 1, by go_num, by omega, rfl, by rw [EXC.out, ES.out, HQ0.out, List.append_nil]; exact (HT.out.gr (by (try show Gr _ _); repeat (with_reducible first | exact Gr.refl _ | refine Gr.drewN ?_ _ | refine Gr.grew ?_ _ _ | refine Gr.alloc ?_ _ | refine Gr.drew ?_))).mono (Nat.le_refl _) (by first | omega | (simp; omega)), GG.out.trans (by (try show Gr _ _); repeat (with_reducible first | exact Gr.refl _ | refine Gr.drewN ?_ _ | refine Gr.grew ?_ _ _ | refine Gr.alloc ?_ _ | refine Gr.drew ?_))⟩
                  · have HQ0 := Lib.hid (show gQuad I V W' M c = [[(q1 : Int), (q2 : Int), (q4 : Int)], [(q1 : Int), (q4 : Int), (q3 : Int)]] by rw [HQ.out, hle]; rfl)
                    go_upto_region 21 with (first
      | ((with_reducible apply wpList_fop); (case hw => rfl); (case hop => rfl); (case hx => rfl); (case hy => rfl); (case hA => (first | assumption | exact FE.ofInt _ _ | exact FE.lit (by decide +kernel))); (case hB => (first | assumption | exact FE.ofInt _ _ | exact FE.lit (by decide +kernel))); intro r n hr)
      | ((with_reducible apply wpList_fcmp); (case hw => rfl); (case hop => rfl); (case hx => rfl); (case hy => rfl); (case hA => (first | assumption | exact FE.ofInt _ _ | exact FE.lit (by decide +kernel))); (case hB => (first | assumption | exact FE.ofInt _ _ | exact FE.lit (by decide +kernel))); (case hb => (first | assumption | rfl)))
      | ((with_reducible apply wpList_widen); (case hw => rfl); (case hs => exact Try.underlying65); (case hd => exact Try.underlying147); (case hx => rfl); (case hA => (first | assumption | exact FE.ofInt _ _ | exact FE.lit (by decide +kernel))); intro r n hr)
      | ((with_reducible apply wpList_fneg); (case hw => rfl); (case hx => rfl); (case hA => (first | assumption | exact FE.ofInt _ _ | exact FE.lit (by decide +kernel))); intro r hr))
                    generalize hwz : World.drewN _ _ = wz
                    have gz : Gr u2 wz := by rw [← hwz]; exact (by (try show Gr _ _); repeat (with_reducible first | exact Gr.refl _ | refine Gr.drewN ?_ _ | refine Gr.grew ?_ _ _ | refine Gr.alloc ?_ _ | refine Gr.drew ?_))
                    have GZ := Lib.hid gz
                    have n0 := gz.cell n0
                    have n1 := gz.cell n1
                    have n2 := gz.cell n2
                    have n3 := gz.cell n3
                    have hzs := gz.size
                    have HTZ := Lib.hid (HT.out.gr gz)
                    have GGZ := Lib.hid (GG.out.trans gz)
                    clear hwz gz LMX LMN hle hdx hdn
                    apply region_facts 22 [10, 20, 21] (fun k v w' => (k = 10 → ∃ b, v = hdr3 b ∧ wz.heap.size ≤ b ∧ Blk w' b [.int .i64 (q1 : Int), .int .i64 (q2 : Int), .int .i64 (q4 : Int)] 2) ∧ (k = 20 → ∃ b, v = hdr3 b ∧ wz.heap.size ≤ b ∧ Blk w' b [.int .i64 (q1 : Int), .int .i64 (q4 : Int), .int .i64 (q3 : Int)] 2) ∧ (k = 21 → ∃ b b1 b2, v = .slice (some ⟨b, 0, none⟩) 2 2 ∧ Blk w' b [hdr3 b1, hdr3 b2] 71 ∧ (wz.heap.size ≤ b1 ∧ wz.heap.size ≤ b2) ∧ Blk w' b1 [.int .i64 (q1 : Int), .int .i64 (q2 : Int), .int .i64 (q4 : Int)] 2 ∧ Blk w' b2 [.int .i64 (q1 : Int), .int .i64 (q4 : Int), .int .i64 (q3 : Int)] 2))
                    case hm => kernel_rfl
                    case hB => kernel_rfl
                    case hR => rfl
                    case hP => (intro k hk v w1 w2 hg hv; exact ⟨fun h => (by obtain ⟨b, e, l, h1⟩ := hv.1 h; exact ⟨b, e, l, h1.gr hg⟩), fun h => (by obtain ⟨b, e, l, h1⟩ := hv.2.1 h; exact ⟨b, e, l, h1.gr hg⟩), fun h => (by obtain ⟨b, b1, b2, e, h1, l, h2, h3⟩ := hv.2.2 h; exact ⟨b, b1, b2, e, h1.gr hg, l, h2.gr hg, h3.gr hg⟩)⟩)
                    simp only [List.take_succ_cons, List.take_zero, List.drop_succ_cons, List.drop_zero]
                    repeat (first
                      | ((with_reducible apply wpF_newT (c := #[.int .i64 (q1 : Int), .int .i64 (q2 : Int), .int .i64 (q4 : Int)]) (e := 2) (fun b => .slice (some ⟨b, 0, none⟩) 3 3)); (case hw => rfl); (case hx => (intro w; simp [execOp, go_sem]; done)); (case hF => (intro w' g hse _; exact ⟨fun _ => ⟨_, rfl, g.size, Blk.new w' [_, _, _] _⟩, fun h => absurd h (by decide), fun h => absurd h (by decide)⟩)); (intro b10 hbb10; simp only [Act.put, List.setIfInBounds_toArray, List.set_cons_succ, List.set_cons_zero]))
                      | ((with_reducible apply wpF_newT (c := #[.int .i64 (q1 : Int), .int .i64 (q4 : Int), .int .i64 (q3 : Int)]) (e := 2) (fun b => .slice (some ⟨b, 0, none⟩) 3 3)); (case hw => rfl); (case hx => (intro w; simp [execOp, go_sem]; done)); (case hF => (intro w' g hse _; exact ⟨fun h => absurd h (by decide), fun _ => ⟨_, rfl, g.size, Blk.new w' [_, _, _] _⟩, fun h => absurd h (by decide)⟩)); (intro b20 hbb20; simp only [Act.put, List.setIfInBounds_toArray, List.set_cons_succ, List.set_cons_zero]))
                      | ((with_reducible apply wpF_newT (c := #[.slice (some ⟨b10, 0, none⟩) 3 3, .slice (some ⟨b20, 0, none⟩) 3 3]) (e := 71) (fun b => .slice (some ⟨b, 0, none⟩) 2 2)); (case hw => rfl); (case hx => (intro w; simp [execOp, go_sem]; done)); (case hF => (intro w' g hse _; obtain ⟨c1, e1, l1, k1⟩ := (hse ⟨10, .data⟩ (by simp) rfl (by decide) _ _ rfl rfl).1 rfl; obtain ⟨c2, e2, l2, k2⟩ := (hse ⟨20, .data⟩ (by simp) rfl (by decide) _ _ rfl rfl).2.1 rfl; simp [hdr3] at e1 e2; subst e1 e2; exact ⟨fun h => absurd h (by decide), fun h => absurd h (by decide), fun _ => ⟨_, _, _, rfl, Blk.new w' [_, _] _, ⟨l1, l2⟩, k1.gr ((Gr.refl _).alloc _), k2.gr ((Gr.refl _).alloc _)⟩⟩)); (intro b21 hb21; simp only [Act.put, List.setIfInBounds_toArray, List.set_cons_succ, List.set_cons_zero]))
                      | (apply wpF_skip rfl (by decide); simp only [Act.put, List.setIfInBounds_toArray, List.set_cons_succ, List.set_cons_zero])
                      | (apply wpF_nilCheck rfl (by decide) rfl; simp only [Act.put, List.setIfInBounds_toArray, List.set_cons_succ, List.set_cons_zero])
                      | ((with_reducible apply wpF_fop); (case hw => rfl); (case hT => decide); (case hop => rfl); (case hx => rfl); (case hy => rfl); (case hA => (first | assumption | exact FE.ofInt _ _ | exact FE.lit (by decide +kernel))); (case hB => (first | assumption | exact FE.ofInt _ _ | exact FE.lit (by decide +kernel))); (intro r hr; simp only [Act.put, List.setIfInBounds_toArray, List.set_cons_succ, List.set_cons_zero]))
                      | ((with_reducible apply wpF_fneg); (case hw => rfl); (case hT => decide); (case hx => rfl); (case hA => (first | assumption | exact FE.ofInt _ _ | exact FE.lit (by decide +kernel))); (intro r hr; simp only [Act.put, List.setIfInBounds_toArray, List.set_cons_succ, List.set_cons_zero]))
                      | ((with_reducible apply wpF_fcmp); (case hw => rfl); (case hT => decide); (case hop => rfl); (case hx => rfl); (case hy => rfl); (case hA => (first | assumption | exact FE.ofInt _ _ | exact FE.lit (by decide +kernel))); (case hB => (first | assumption | exact FE.ofInt _ _ | exact FE.lit (by decide +kernel))); (case hb => (first | assumption | rfl)); simp only [Act.put, List.setIfInBounds_toArray, List.set_cons_succ, List.set_cons_zero])
                      | (apply wpF_q rfl (by decide) rfl; intro K hK; go_big_quiet_op; go_big_quiet_on))
                    with_reducible apply wpF_nil
                    intro os m hf
                    obtain ⟨b, b1, b2, e1, k0, l12, k1, k2⟩ := hf.2.2.1.2.2 rfl
                    obtain rfl : b21 = b := by simpa using e1
                    have KG : Gr wz (wz.grew os m) := ⟨os, m, rfl⟩
                    have hne12 : b1 ≠ b2 := fun e => by
                      subst e
                      have h := k1.at_.symm.trans k2.at_
                      simp at h
                      exact H24.out (by omega)
                    have hml := gMesh_len I V W' H' M c
                    have hw1 := Hg.out.size
                    have hwz := GGZ.out.size
                    have hwg := KG.size
                    have l1 := l12.1
                    have l2 := l12.2
                    clear hf e1 l12
                    refine wpList_append_tri rfl rfl i0 Try.underlying81 hi hz0 hz1 hz2 rfl (HTZ.out.gr KG) rfl (k0.cellv 0 rfl) (k0.cellv 1 rfl) k1 k2 (by omega) (by omega) hne12 hw1 (by decide) (by omega) (by omega) ?_
                    intro v2 w2 ht2 hg2
                    have G2 := Lib.hid (Gr.grownBy (GGZ.out.trans KG) hg2 (fun p hp => (TriOwn.block HTZ.out hp).1))
                    obtain ⟨av2, cv2, rfl⟩ := ht2.form
                    have HT2 := Lib.hid ht2
                    clear ht2 hg2 k0 k1 k2 KG
                    go_wp2
                    go_roundg (W1 - (x + 1))
                    case measure => omega
                    case rel => exact ⟨x + 1, by go_num, by omega, rfl, by rw [EXC.out, ES.out, HQ0.out]; have h := HT2.out; first | exact h | (simpa only [List.length_append, List.length_cons, List.length_nil] using h), G2.out⟩
                · have HQ0 := Lib.hid (show gQuad I V W' M c = [] by rw [hQ, if_neg (fun h => hall ⟨h.1.1, h.1.2.1, h.1.2.2.2, h.1.2.2.1⟩)])
                  have eN : (gN I cs 4).length ≠ 4 := by
                    rw [HCS.out]
                    exact gN_short (by rw [← hq1, ← hq2, ← hq3, ← hq4]; exact hall)
                  obtain ⟨aN, cN, rfl⟩ := ho.form
                  generalize (gN I cs 4).length = ln at *
                  have ne4 : ¬ (ln : Int) = 4 := by omega
                  have HG := Lib.hid hg
                  clear hQ hq1 hq2 hq3 hq4 ho hf hB hne hg hall
                  go_wp2
                  go_roundg (W1 - (x + 1))
                  case measure => omega
                  case rel => exact ⟨x + 1, by go_num, by omega, rfl, by rw [EXC.out, ES.out, HQ0.out, List.append_nil]; exact (HT.out.gr (by (try show Gr _ _); repeat (with_reducible first | exact Gr.refl _ | refine Gr.drewN ?_ _ | refine Gr.grew ?_ _ _ | refine Gr.alloc ?_ _ | refine Gr.drew ?_))).mono (Nat.le_refl _) (by first | omega | (simp; omega)), GG.out.trans (by (try show Gr _ _); repeat (with_reducible first | exact Gr.refl _ | refine Gr.drewN ?_ _ | refine Gr.grew ?_ _ _ | refine Gr.alloc ?_ _ | refine Gr.drew ?_))⟩
          · obtain rfl : x = W1 := by omega
            have ES := Lib.hid (show gMesh I V W' H' M (W' * (y + 1)) = gMesh I V W' H' M (x + W' * y) by
              have hx1 : x < W' := by omega
              rw [show W' * (y + 1) = (x + W' * y) + 1 by rw [Nat.mul_succ]; omega]
              exact gMesh_skip (Or.inl (by rw [mod_of hx1]; omega)))
            go_wp2
            go_roundg (H1 - (y + 1))
            case measure => omega
            case rel => exact ⟨y + 1, by go_num, by omega, rfl, by rw [ES.out]; exact (Ht.out.gr (by (try show Gr _ _); repeat (with_reducible first | exact Gr.refl _ | refine Gr.drewN ?_ _ | refine Gr.grew ?_ _ _ | refine Gr.alloc ?_ _ | refine Gr.drew ?_))).mono (Nat.le_refl _) (by simp), Hg.out.trans (by (try show Gr _ _); repeat (with_reducible first | exact Gr.refl _ | refine Gr.drewN ?_ _ | refine Gr.grew ?_ _ _ | refine Gr.alloc ?_ _ | refine Gr.drew ?_))⟩
      · obtain rfl : y = H1 := by omega
        have Ht := Lib.hid ht
        have Hg := Lib.hid hg
        obtain ⟨at', ct, rfl⟩ := ht.form
        clear ht hg
        go_wp2
        refine bodyPost_ret (v := .tuple #[.slice av I.length cv, .slice at' (gMesh I V W' H' M (W' * y)).length ct, .bool true]) (by simp [results, Try.results54, go_sem]) rfl ⟨⟨_, _, rfl, HO.out.gr Hg.out, by rw [← HE.out]; exact Ht.out.mono hs1 (Nat.le_refl _)⟩, G1.out.trans Hg.out⟩
end Go.Proofs.Ytaidkokgafojeaa
