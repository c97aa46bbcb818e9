/- Contracts: pairs of maps; a map of its own; KeepMap. MAXREC -/
import Derived.Test.YtaidkokgafojeaaProg
import Derived.Test.YtaidkokgafojeaaC14
import Derived.ArgAppend
namespace Go.Fx
open Go Go.Soft Go.RowKit
theorem Blk.setG {w w' : World} {b : Nat} {p : Addr} {v : Value} {cs : List Value} {t : TypeId} (h : Blk w b cs t) (g : Gr (w.setCell p v) w') (hp : p.block ≠ b) : Blk w' b cs t := (h.setOther v hp).gr g
theorem gr_of_drew {w w' : World} {n : Nat} (h : w' = w.drewN n) : Gr w w' := by rw [h]; exact gr_drewN w n
theorem Gr.setG {w0 w w' : World} {p : Addr} {v : Value} (h : Gr w0 w) (g : Gr (w.setCell p v) w') (hp : w0.heap.size ≤ p.block) : Gr w0 w' := (h.setCell hp v).trans g
/-- The bits of a slice's numbers. -/
theorem FSl.bits {w : World} {ad : Option Addr} {ys : List Nat} (hy : FSl w ad ys.length ys) (hpos : 0 < ys.length) :
    ∃ b off, ∃ qs : List Nat, ad = some ⟨b, off, none⟩ ∧ FEs qs ys ∧ ∀ (j : Nat) (u : Value), (qs.map (Value.float .f32))[j]? = some u → w.cell? ((⟨b, off, none⟩ : Addr).add j) = some u := by
  obtain ⟨b, off, rfl⟩ := hy.ptr hpos
  have hcs : ∀ j, ∃ r, j < ys.length → w.cell? ⟨b, off + j, none⟩ = some (.float .f32 r) ∧ FE .f32 r (ys.getD j 0) := by
    intro j
    by_cases hj : j < ys.length
    · obtain ⟨r, hr⟩ := hy.get j hj; exact ⟨r, fun _ => hr⟩
    · exact ⟨0, fun h => absurd h hj⟩
  let qs : List Nat := (List.range ys.length).map fun j => (hcs j).choose
  have hq : ∀ j, j < ys.length → w.cell? ⟨b, off + j, none⟩ = some (.float .f32 ((hcs j).choose)) ∧ FE .f32 ((hcs j).choose) (ys.getD j 0) := fun j hj => (hcs j).choose_spec hj
  have hql : qs.length = ys.length := by simp [qs]
  refine ⟨b, off, qs, rfl, ⟨hql, fun j h1 h2 => ?_⟩, ?_⟩
  · have := (hq j h2).2
    simp only [qs, List.getElem_map, List.getElem_range]
    have e2 : ys.getD j 0 = ys[j] := by rw [List.getD_eq_getElem?_getD, List.getElem?_eq_getElem h2]; rfl
    exact e2 ▸ this
  · intro j u hj
    have hj' : j < ys.length := by
      rcases Nat.lt_or_ge j ys.length with h | h
      · exact h
      · rw [List.getElem?_eq_none (by simp [hql]; exact h)] at hj; cases hj
    have e1 : u = .float .f32 ((hcs j).choose) := by
      have hj2 : j < (qs.map (Value.float .f32)).length := by simp [hql]; exact hj'
      rw [List.getElem?_eq_getElem hj2] at hj
      simp only [qs, List.getElem_map, List.getElem_range, Option.some.injEq] at hj
      exact hj.symm
    rw [e1, ← (hq j hj').1]
    by_cases h0 : j = 0
    · subst h0; rfl
    · simp [Addr.add, h0]
/-- 'append(v, s...)', s a slice of floats with one at least. -/
theorem wpList_append_fs {P : Program} {w : World} {ops : Array Oper} {rest : List Oper} {o : Oper} {a : Act} {Q : Exit → Act → World → Prop} (hgd : o.guard = none) {s x : Operand} {t : TypeId}
    (ho : o.op = .call { callee := .builtin .append, args := #[s, x], argTypes := #[t, t] }) {B : Nat} {e : TypeId} (i : TypeInfo) (ht : P.underlying t = some (.slice e)) (hi : P.info? e = some i) (hz : i.zero = some (.float .f32 0)) (hsize : i.size = 1) (hby : i.bytes = 4)
    {v : Value} {xs ys : List Nat} (hs : a.eval s = v) (hown : FOwn w B e v xs) {ad : Option Addr} {c : Nat} (hx : a.eval x = .slice ad ys.length c) (hy : FSl w ad ys.length ys) (hpos : 0 < ys.length) (hn : xs.length + ys.length ≤ 1048576) (hB : B ≤ w.heap.size)
    (h : ∀ v' w', FOwn w' B e v' (xs ++ ys) → w.grownBy w' v.ownBlock → wpList P ops Q rest (a.put o.dst v') w') : wpList P ops Q (o :: rest) a w := by
  obtain ⟨rs, h1, h2⟩ := hown
  have hl := h1.len
  obtain ⟨b, off, qs, rfl, hqe, hcells⟩ := hy.bits hpos
  have hql := hqe.len
  refine wpList_append_own w hgd s x t ho B e i (.float .f32 0) 1 4 ht hi hz hsize hby rfl (by decide) v rs.length (rs.map (Value.float .f32)) hs h2 ⟨b, off, none⟩ ys.length c (qs.map (Value.float .f32)) hx (by simp [hql]) hcells ?_ (by unfold maxLen; omega) (by omega) hB ?_
  · intro u hu
    obtain ⟨r, _, rfl⟩ := List.mem_map.1 hu; rfl
  · intro v' w' h3 h4 _
    refine h v' w' ⟨rs ++ qs, h1.append hqe, ?_⟩ h4
    simpa [hql] using h3
section
variable {P : Program} {ops : Array Oper} {w0 : World} {T : List Nat} {F : Nat → Value → World → Prop} {Q : Act → Prop} {k : Nat} {rest : List Oper} {Ms : List (Option (Value → Prop))} {a : Act} {dst : Option Tmp} {ty : TypeId} {pos : String} {after : Array Edge} {guard : Option (Nat × Bool)}
/-- 'append([]float32{}, s...)' in a drawn region. -/
theorem wpF_appendNew {s x : Operand} {t e : TypeId} (hw : Region.wanted ⟨dst, .call { callee := .builtin .append, args := #[s, x], argTypes := #[t, t] }, ty, pos, after, guard⟩ (yielded ops a.tmps) = true)
    (i : TypeInfo) (ht : P.underlying t = some (.slice e)) (hi : P.info? e = some i) (hz : i.zero = some (.float .f32 0)) (hsize : i.size = 1) (hby : i.bytes = 4)
    {b : Nat} {ad : Option Addr} {c : Nat} {ys : List Nat} (hs : a.eval s = .slice (some ⟨b, 0, none⟩) 0 0) (hx : a.eval x = .slice ad ys.length c) (hy : FSl w0 ad ys.length ys) (hpos : 0 < ys.length) (hn : ys.length ≤ 1048576)
    (hF : ∀ (w : World) (v : Value), FOwn w w0.heap.size e v ys → k ∈ T → F k v w)
    (h : ∀ a' c', wpF P ops w0 T F Q (k + 1) rest Ms (a.put dst (.slice a' ys.length c'))) :
    wpF P ops w0 T F Q k (⟨dst, .call { callee := .builtin .append, args := #[s, x], argTypes := #[t, t] }, ty, pos, after, guard⟩ :: rest) (some (fun v => ∃ a' c', v = .slice a' ys.length c') :: Ms) a := by
  simp only [wpF, Soft2.wpSoft, hw, if_true]
  refine ⟨?_, ⟨_, none, 0, rfl⟩, fun v ⟨a', c', hv⟩ => by subst hv; exact h a' c'⟩
  rintro w ⟨⟨os, m⟩, rfl⟩ _
  have g0 : Gr w0 (w0.grew os m) := ⟨os, m, rfl⟩
  obtain ⟨b', off, qs, rfl, hqe, hcells⟩ := (hy.keep g0.kp).bits hpos
  have hql := hqe.len
  obtain ⟨v', w', hrun, r1, r2⟩ := run_append_arg_grows (P := P) (w0.grew os m) t ty e i (.float .f32 0) 1 4 ht hi hz hsize hby rfl (by decide) ⟨b, 0, none⟩ 0 0 [] rfl (fun j u hj => by simp at hj) ⟨b', off, none⟩ ys.length c (qs.map (Value.float .f32)) (by simp [hql]) hcells (by omega) (by unfold maxLen; omega) (by omega)
  have e1 : (execOp a.eval ⟨dst, .call { callee := .builtin .append, args := #[s, x], argTypes := #[t, t] }, ty, pos, after, guard⟩).run P (w0.grew os m) = .ok (.value v') w' := by
    simp [execOp, resolve, invoke, builtin, hs, hx, hrun, Result.andThen]
  rw [e1]
  have g1 : Gr (w0.grew os m) w' := (Gr.refl _).grownBy r2 (fun k hk => by cases hk)
  have ho : FOwn w' w0.heap.size e v' ys := by
    refine ⟨qs, hqe, own_base ?_ g0.size⟩
    simpa [hql] using r1
  obtain ⟨a', c', hv, -, -⟩ := ho.sl
  refine ⟨?_, g1, hF _ _ ho, a', c', hv⟩
  obtain ⟨os', m', e'⟩ := g0.trans g1
  exact ⟨⟨os', m'⟩, e'⟩
end
end Go.Fx
namespace Go.Proofs.Ytaidkokgafojeaa
open Go.RowKit Go.Fx Go.Soft
def gTwo (a b c d : Int) (n m : Nat) : Bool := gPic a b n && (gPic c d m && ((a == c) && (b == d)))
set_option maxRecDepth 20000 in
set_option maxHeartbeats 1000000 in
theorem S_l05Own (W H : Int) (a : Option Addr) (ca b : Nat) (xs : List Nat) (w : World) (hm : MP w b W H a xs.length ca xs) (hpos : 0 < xs.length) (hn : xs.length ≤ 1048576) :
    Calls Try.prog 135 #[.pointer (some ⟨b, 0, none⟩)] w fun e w' => (∃ v, e = .returned (.agg #[.int .i64 W, .int .i64 H, v]) ∧ FOwn w' w.heap.size 65 v xs) ∧ Gr w w' := by
  obtain ⟨i0, hi, hz0, hz1, hz2⟩ := info_parts info_float32
  obtain ⟨c0, c1, c2, fs⟩ := hm
  have Hs := Lib.hid fs
  clear fs
  go_enter Try.func135, Try.ntmps135
  go_wp2
  apply region_facts 14 [13] (fun _ v w' => FOwn w' (w.heap.size + 1) 65 v xs)
  case hm => kernel_rfl
  case hB => kernel_rfl
  case hR => rfl
  case hP => (intro k hk v w1 w2 hg hv; exact hv.gr hg)
  simp only [List.take_succ_cons, List.take_zero, List.drop_succ_cons, List.drop_zero]
  repeat (first
    | ((with_reducible apply wpF_new (c := #[]) (e := 65) (fun b => .slice (some ⟨b, 0, none⟩) 0 0)); (case hw => rfl); (case hx => (intro w; simp [execOp, go_sem])); (case hF => (intro w b hb hc hk; exact absurd hk (by decide))); (intro b hb; simp only [Act.put, List.setIfInBounds_toArray, List.set_cons_succ, List.set_cons_zero]))
    | ((with_reducible apply wpF_appendNew); (case hw => rfl); (case i => exact i0); (case ht => exact Try.underlying22); (case hi => exact hi); (case hz => exact hz0); (case hsize => exact hz1); (case hby => exact hz2); (case hs => rfl); (case hx => rfl); (case hy => exact Hs.out.keep (by (repeat (with_reducible first | exact Kp.refl _ | exact kp_same | exact kp_app1 | exact kp_app2 | exact kp_app3 | refine Kp.grew ?_ _ _ | refine Kp.drewN ?_ _ | refine Kp.drew ?_ | refine Kp.alloc ?_ _)))); (case hpos => exact hpos); (case hn => exact hn); (case hF => (intro w v ho _; exact ho.base (by simp <;> omega))); (intro a' c'; simp only [Act.put, List.setIfInBounds_toArray, List.set_cons_succ, List.set_cons_zero]))
    | (apply wpF_skip rfl (by decide); simp only [Act.put, List.setIfInBounds_toArray, List.set_cons_succ, List.set_cons_zero])
    | (apply wpF_nilCheck rfl (by decide) rfl; simp only [Act.put, List.setIfInBounds_toArray, List.set_cons_succ, List.set_cons_zero])
    | ((with_reducible apply wpF_fop); (case hw => rfl); (case hT => decide); (case hop => rfl); (case hx => rfl); (case hy => rfl); (case hA => (first | assumption | exact FE.ofInt _ _ | exact FE.lit (by decide +kernel))); (case hB => (first | assumption | exact FE.ofInt _ _ | exact FE.lit (by decide +kernel))); (intro r hr; simp only [Act.put, List.setIfInBounds_toArray, List.set_cons_succ, List.set_cons_zero]))
    | ((with_reducible apply wpF_fneg); (case hw => rfl); (case hT => decide); (case hx => rfl); (case hA => (first | assumption | exact FE.ofInt _ _ | exact FE.lit (by decide +kernel))); (intro r hr; simp only [Act.put, List.setIfInBounds_toArray, List.set_cons_succ, List.set_cons_zero]))
    | ((with_reducible apply wpF_fcmp); (case hw => rfl); (case hT => decide); (case hop => rfl); (case hx => rfl); (case hy => rfl); (case hA => (first | assumption | exact FE.ofInt _ _ | exact FE.lit (by decide +kernel))); (case hB => (first | assumption | exact FE.ofInt _ _ | exact FE.lit (by decide +kernel))); (case hb => (first | assumption | rfl)); simp only [Act.put, List.setIfInBounds_toArray, List.set_cons_succ, List.set_cons_zero])
    | (apply wpF_q rfl (by decide) rfl; intro K hK; go_big_quiet_op; go_big_quiet_on))
  with_reducible apply wpF_nil
  intro os m hf
  have Ho := Lib.hid hf.1
  clear hf
  go_wp2
  exact bodyPost_ret (v := .agg #[.int .i64 W, .int .i64 H, .slice a' xs.length c']) (by simp [results, Try.results135, go_sem]) rfl ⟨⟨_, rfl, (Ho.out.swap (by simp) (by simp)).base (by omega)⟩, (by (try show Gr _ _); repeat (with_reducible first | exact Gr.refl _ | refine Gr.drewN ?_ _ | refine Gr.grew ?_ _ _ | refine Gr.alloc ?_ _ | refine Gr.drew ?_))⟩
def gKeep (least x s : Nat) : Nat := if !gHole x && !fcmp .geq .f32 s least then 3212836864 else x
/-- What stands in the cells: numbers of one map, or of two. -/
def gVals (ok : Bool) (n : Nat) (G : Nat → Nat) : List Nat := if ok then lst n G else []
theorem gVals_length (ok : Bool) (n : Nat) (G : Nat → Nat) : (gVals ok n G).length ≤ n := by unfold gVals; split <;> simp
end Go.Proofs.Ytaidkokgafojeaa
