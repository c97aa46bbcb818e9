/- Contracts: the median, the reference: insertion into a row of its own. MAXREC -/
import Derived.Test.YtomlfdkcgaogcaaProg
import Derived.Test.YtomlfdkcgaogcaaC15
import Derived.Test.YtomlfdkcgaogcaaC98
import Derived.Deep.DeepCutAuto
namespace Go.Fx
open Go Go.Soft Go.RowKit
theorem FSl.bits0 {w : World} {b off n : Nat} {ys : List Nat} (h : FSl w (some ⟨b, off, none⟩) n ys) : ∃ qs, FEs qs ys ∧ ∀ j u, (qs.map (Value.float .f32))[j]? = some u → w.cell? ((⟨b, off, none⟩ : Addr).add j) = some u := by
  cases ys with
  | nil => exact ⟨[], FEs.nil, fun j u hj => by simp at hj⟩
  | cons y ys =>
    obtain rfl := h.len
    obtain ⟨b', off', qs, e, hq, hc⟩ := h.bits (by simp)
    cases e
    exact ⟨qs, hq, hc⟩
/-- 'append(v, s...)', s any slice of floats. -/
theorem wpList_append_any0 {P : Program} {w : World} {ops : Array Oper} {rest : List Oper} {o : Oper} {a : Act} {Q : Exit → Act → World → Prop} (hgd : o.guard = none) {s x : Operand} {t : TypeId}
    (ho : o.op = .call { callee := .builtin .append, args := #[s, x], argTypes := #[t, t] }) {B : Nat} {e : TypeId} (i : TypeInfo) (ht : P.underlying t = some (.slice e)) (hi : P.info? e = some i) (hz : i.zero = some (.float .f32 0)) (hsize : i.size = 1) (hby : i.bytes = 4)
    {v : Value} {xs ys : List Nat} (hs : a.eval s = v) (hown : FOwn w B e v xs) {b off m c : Nat} (hx : a.eval x = .slice (some ⟨b, off, none⟩) m c) (hy : FSl w (some ⟨b, off, none⟩) m ys) (hn : xs.length + ys.length ≤ 1048576) (hB : B ≤ w.heap.size)
    (h : ∀ v' w', FOwn w' B e v' (xs ++ ys) → w.grownBy w' v.ownBlock → wpList P ops Q rest (a.put o.dst v') w') : wpList P ops Q (o :: rest) a w := by
  obtain ⟨rs, h1, h2⟩ := hown
  have hl := h1.len
  have hm := hy.len
  obtain ⟨qs, hqe, hcells⟩ := hy.bits0
  have hql := hqe.len
  refine wpList_append_own w hgd s x t ho B e i (.float .f32 0) 1 4 ht hi hz hsize hby rfl (by decide) v rs.length (rs.map (Value.float .f32)) hs h2 ⟨b, off, none⟩ m c (qs.map (Value.float .f32)) hx (by simp [hql, hm]) hcells ?_ (by unfold maxLen; omega) (by omega) hB ?_
  · intro u hu
    obtain ⟨r, _, rfl⟩ := List.mem_map.1 hu; rfl
  · intro v' w' h3 h4 _
    refine h v' w' ⟨rs ++ qs, h1.append hqe, ?_⟩ h4
    have e1 : (rs ++ qs).length = rs.length + m := by simp [hql, hm]
    rw [e1]
    simpa using h3
section
variable {P : Program} {ops : Array Oper} {w0 : World} {T : List Nat} {F : Nat → Value → World → Prop} {Q : Act → Prop} {k : Nat} {rest : List Oper} {Ms : List (Option (Value → Prop))} {a : Act} {dst : Option Tmp} {ty : TypeId} {pos : String} {after : Array Edge} {guard : Option (Nat × Bool)}
/-- 'append([]float32{}, s...)' in a drawn region, s any slice. -/
theorem wpF_appendAny {s x : Operand} {t e : TypeId} (hw : Region.wanted ⟨dst, .call { callee := .builtin .append, args := #[s, x], argTypes := #[t, t] }, ty, pos, after, guard⟩ (yielded ops a.tmps) = true)
    (i : TypeInfo) (ht : P.underlying t = some (.slice e)) (hi : P.info? e = some i) (hz : i.zero = some (.float .f32 0)) (hsize : i.size = 1) (hby : i.bytes = 4)
    {b0 b off m c : Nat} {ys : List Nat} (hs : a.eval s = .slice (some ⟨b0, 0, none⟩) 0 0) (hb0 : w0.heap.size ≤ b0) (hx : a.eval x = .slice (some ⟨b, off, none⟩) m c) (hy : FSl w0 (some ⟨b, off, none⟩) m ys) (hn : ys.length ≤ 1048576)
    (hS : ∀ os mm, Soft2.seen ops .any T F ⟨dst, .call { callee := .builtin .append, args := #[s, x], argTypes := #[t, t] }, ty, pos, after, guard⟩ a (w0.grew os mm) → Blk (w0.grew os mm) b0 [] e)
    (hF : ∀ (w : World) (v : Value), FOwn w w0.heap.size e v ys → k ∈ T → F k v w)
    (h : ∀ a' c', wpF P ops w0 T F Q (k + 1) rest Ms (a.put dst (.slice a' ys.length c'))) :
    wpF P ops w0 T F Q k (⟨dst, .call { callee := .builtin .append, args := #[s, x], argTypes := #[t, t] }, ty, pos, after, guard⟩ :: rest) (some (fun v => ∃ a' c', v = .slice a' ys.length c') :: Ms) a := by
  simp only [wpF, Soft2.wpSoft, hw, if_true]
  refine ⟨?_, ⟨_, none, 0, rfl⟩, fun v ⟨a', c', hv⟩ => by subst hv; exact h a' c'⟩
  rintro w ⟨⟨os, mm⟩, rfl⟩ hse
  have g0 : Gr w0 (w0.grew os mm) := ⟨os, mm, rfl⟩
  have hblk := hS os mm hse
  by_cases hpos : 0 < ys.length
  · have hm := hy.len
    subst hm
    obtain ⟨b', off', qs, e', hqe, hcells⟩ := (hy.keep g0.kp).bits hpos
    cases e'
    have hql := hqe.len
    obtain ⟨v', w', hrun, r1, r2⟩ := run_append_arg_grows (P := P) (w0.grew os mm) t ty e i (.float .f32 0) 1 4 ht hi hz hsize hby rfl (by decide) ⟨b0, 0, none⟩ 0 0 [] rfl (fun j u hj => by simp at hj) ⟨b, off, none⟩ ys.length c (qs.map (Value.float .f32)) (by simp [hql]) hcells (by omega) (by unfold maxLen; omega) (by omega)
    have e1 : (execOp a.eval ⟨dst, .call { callee := .builtin .append, args := #[s, x], argTypes := #[t, t] }, ty, pos, after, guard⟩).run P (w0.grew os mm) = .ok (.value v') w' := by
      simp [execOp, resolve, invoke, builtin, hs, hx, hrun, Result.andThen]
    rw [e1]
    have g1 : Gr (w0.grew os mm) w' := (Gr.refl _).grownBy r2 (fun k hk => by cases hk)
    have ho : FOwn w' w0.heap.size e v' ys := by
      refine ⟨qs, hqe, own_base ?_ g0.size⟩
      simpa [hql] using r1
    obtain ⟨a', c', hv, -, -⟩ := ho.sl
    refine ⟨?_, g1, hF _ _ ho, a', c', hv⟩
    obtain ⟨os', m', e'⟩ := g0.trans g1
    exact ⟨⟨os', m'⟩, e'⟩
  · obtain rfl : ys = [] := List.eq_nil_of_length_eq_zero (by omega)
    have hm := hy.len
    obtain rfl : m = 0 := hm
    have hrun : (Builtin.append_ #[t, t] ty #[.slice (some ⟨b0, 0, none⟩) 0 0, .slice (some ⟨b, off, none⟩) 0 c]).run P (w0.grew os mm) = .ok (.slice (some ⟨b0, 0, none⟩) 0 0) (w0.grew os mm) := by
      simp [Builtin.append_, run_underlying ht, sizeOf, typeInfo, hi, Builtin.lenOf, Builtin.firstCells, loadCells, loadCellsFrom, storeCells]
    have e1 : (execOp a.eval ⟨dst, .call { callee := .builtin .append, args := #[s, x], argTypes := #[t, t] }, ty, pos, after, guard⟩).run P (w0.grew os mm) = .ok (.value (.slice (some ⟨b0, 0, none⟩) 0 0)) (w0.grew os mm) := by
      simp [execOp, resolve, invoke, builtin, hs, hx, hrun, Result.andThen]
    rw [e1]
    exact ⟨⟨⟨os, mm⟩, rfl⟩, Gr.refl _, hF _ _ (FOwn.empty hblk hb0), some ⟨b0, 0, none⟩, 0, rfl⟩
end
end Go.Fx
namespace Go.Proofs.Ytomlfdkcgaogcaa
open Go.RowKit Go.Fx Go.Soft
/-- Where a number goes in a row: behind the last that is not greater. -/
def gAtF (x : Nat) (out : List Nat) : Nat → Nat
  | 0 => 0
  | j + 1 => if fcmp .gtr .f32 (out.getD j 0) x then gAtF x out j else j + 1
def gIns (x : Nat) (out : List Nat) : List Nat := out.take (gAtF x out out.length) ++ [x] ++ out.drop (gAtF x out out.length)
def gInsTo (L : List Nat) : Nat → List Nat
  | 0 => []
  | k + 1 => gIns (L.getD k 0) (gInsTo L k)
def gMedI (L : List Nat) : Nat := if L.length = 0 then 3212836864 else (gInsTo L L.length).getD (L.length / 2) 0
theorem gAtF_le (x : Nat) (out : List Nat) : ∀ j, gAtF x out j ≤ j
  | 0 => Nat.le_refl _
  | j + 1 => by
    have := gAtF_le x out j
    unfold gAtF
    split <;> omega
theorem gIns_length (x : Nat) (out : List Nat) : (gIns x out).length = out.length + 1 := by
  have := gAtF_le x out out.length
  unfold gIns
  simp
  omega
theorem gInsTo_length (L : List Nat) : ∀ k, (gInsTo L k).length = k
  | 0 => rfl
  | k + 1 => by
    have h := gInsTo_length L k
    show (gIns _ _).length = _
    rw [gIns_length, h]
end Go.Proofs.Ytomlfdkcgaogcaa
