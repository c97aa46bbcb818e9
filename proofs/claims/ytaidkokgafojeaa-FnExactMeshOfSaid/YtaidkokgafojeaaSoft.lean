/- A region that draws its order, some of whose operations give one of many values: one walk in the order of the text. -/
import Derived.StillTail
import Derived.WalkKit
import Derived.BigQuiet
namespace Go.Soft
open Go

section
variable {P : Program} {ops : Array Oper} {md : Region.Mode} {C : World → Prop} {M : Nat → Option (Value → Prop)}

/-- One of the values of S, in a world of the class. -/
def softUpon (P : Program) (C : World → Prop) (S : Value → Prop) : Result Next → Prop
  | .ok (.value u) w' => C w' ∧ S u
  | .ok .skip w' => C w' ∧ S undef
  | .ok (.enter f args) w' => Calls P f args w' (fun e w'' => ∃ v, e = .returned v ∧ C w'' ∧ S v)
  | _ => False
def soft (P : Program) (o : Oper) (a : Act) (C : World → Prop) (S : Value → Prop) : Prop := ∀ w, C w → softUpon P C S ((execOp a.eval o).run P w)

/-- This value, the world as it was. -/
def plainUpon (w : World) (v : Value) : Result Next → Prop
  | .ok (.value u) w' => w' = w ∧ u = v
  | _ => False
def plainAt (P : Program) (o : Oper) (a : Act) (C : World → Prop) (v : Value) : Prop := ∀ w, C w → plainUpon w v ((execOp a.eval o).run P w)

/-- Operations that enter no function. -/
def plain : Op → Bool
  | .move _ | .assign _ | .pick .. | .load .. | .binOp .. | .unOp .. | .convert .. | .fieldAddr .. | .field .. | .indexAddr .. | .index .. | .slice .. | .extract .. => true
  | .call { callee := .builtin b, .. } => match b with | .len | .cap | .min | .max => true | _ => false
  | _ => false

theorem bind_value {s : Sem Value} {w w' : World} {n : Next} (h : (do pure (Next.value (← s)) : Sem Next).run P w = .ok n w') : ∃ u, n = .value u := by
  rw [Sem.run_bind] at h
  cases hs : s.run P w with
  | ok u w1 => rw [hs] at h; simp [Result.andThen] at h; exact ⟨u, h.1.symm⟩
  | halt x w1 => rw [hs] at h; simp [Result.andThen] at h

theorem plain_value {o : Oper} {ρ : Operand → Value} (hp : plain o.op = true) {w w' : World} {n : Next} (h : (execOp ρ o).run P w = .ok n w') : ∃ u, n = .value u := by
  obtain ⟨dst, op, ty, pos, after, guard⟩ := o
  cases op <;> simp only [plain, Bool.false_eq_true] at hp
  case move x => simp [execOp] at h; exact ⟨_, h.1.symm⟩
  case assign x => simp [execOp] at h; exact ⟨_, h.1.symm⟩
  case pick c a b =>
    simp only [execOp] at h
    rw [Sem.run_bind] at h
    cases hs : (asBool (ρ c)).run P w with
    | ok u w1 => rw [hs] at h; simp [Result.andThen] at h; exact ⟨_, h.1.symm⟩
    | halt x w1 => rw [hs] at h; simp [Result.andThen] at h
  case call c =>
    obtain ⟨callee, args, ats⟩ := c
    cases callee with
    | value f => simp at hp
    | invoke r m => simp at hp
    | builtin b =>
      cases b <;> simp only [Bool.false_eq_true] at hp <;> exact bind_value h
  all_goals exact bind_value h

theorem plainAt_of_quiet {o : Oper} {a : Act} {v : Value} (hp : plain o.op = true) (h : ∀ w, C w → o.quietAt P a C w v) : plainAt P o a C v := by
  intro w hw
  have h1 := h w hw
  unfold Oper.quietAt at h1
  cases hr : (execOp a.eval o).run P w with
  | halt x w' => rw [hr] at h1; simp [Oper.quietUpon] at h1
  | ok n w' =>
    obtain ⟨u, rfl⟩ := plain_value hp hr
    rw [hr] at h1
    simpa [Oper.quietUpon, plainUpon] using h1

theorem plainAt_unique {o : Oper} {a : Act} {u v : Value} {w : World} (hw : C w) (h : plainAt P o a C u) (h' : plainAt P o a C v) : u = v := by
  have h1 := h w hw
  have h2 := h' w hw
  unfold plainUpon at h1 h2
  split at h1
  · rename_i hr
    rw [hr] at h2
    rw [← h1.2, ← h2.2]
  · exact h1.elim

/-- Some value is given. -/
theorem soft_some {o : Oper} {a : Act} {S : Value → Prop} {w : World} (hw : C w) (h : soft P o a C S) : ∃ v, S v := by
  have h1 := h w hw
  unfold softUpon at h1
  split at h1
  · exact ⟨_, h1.2⟩
  · exact ⟨_, h1.2⟩
  · obtain ⟨e, w', fr, ⟨v, _, _, hv⟩, _⟩ := h1 []
    exact ⟨v, hv⟩
  · exact h1.elim

/-- Operation number 'i' comes up in state 'a'. -/
def sOp (P : Program) (ops : Array Oper) (C : World → Prop) (M : Nat → Option (Value → Prop)) (i : Nat) (K : Act → Prop) (a : Act) : Prop :=
  match ops[i]? with
  | none => K a
  | some o => if Region.wanted o (yielded ops a.tmps) then
      match M i with
      | none => ∃ v, plainAt P o a C v ∧ K (a.put o.dst v)
      | some S => soft P o a C S ∧ ∀ v, S v → K (a.put o.dst v)
    else K (a.put o.dst undef)

theorem sOp_mono {i : Nat} {a : Act} {K K' : Act → Prop} (h : ∀ a, K a → K' a) (hh : sOp P ops C M i K a) : sOp P ops C M i K' a := by
  unfold sOp at *
  split
  · rename_i ho; simp only [ho] at hh; exact h _ hh
  · rename_i o ho
    simp only [ho] at hh
    split
    · rename_i hw
      simp only [hw, if_true] at hh
      split
      · rename_i hm; simp only [hm] at hh; obtain ⟨v, h1, h2⟩ := hh; exact ⟨v, h1, h _ h2⟩
      · rename_i S hm; simp only [hm] at hh; exact ⟨hh.1, fun v hv => h _ (hh.2 v hv)⟩
    · rename_i hw; simp only [hw] at hh; exact h _ hh

theorem plainAt_put {o : Oper} {a : Act} {v u : Value} {dst : Option Tmp} (hs : ∀ cs b, o.op ≠ .select cs b) (h : ∀ d, dst = some d → d ∉ o.looksAt ops) : plainAt P o (a.put dst u) C v ↔ plainAt P o a C v := by
  unfold plainAt; rw [execOp_put (ops := ops) o hs a dst u h]
theorem soft_put {o : Oper} {a : Act} {S : Value → Prop} {u : Value} {dst : Option Tmp} (hs : ∀ cs b, o.op ≠ .select cs b) (h : ∀ d, dst = some d → d ∉ o.looksAt ops) : soft P o (a.put dst u) C S ↔ soft P o a C S := by
  unfold soft; rw [execOp_put (ops := ops) o hs a dst u h]

/-- Two operations that are apart: their order makes no difference. -/
theorem sOp_comm {i j : Nat} {oi oj : Oper} (hi : ops[i]? = some oi) (hj : ops[j]? = some oj) (hap : oi.apart ops oj = true)
    (hsi : ∀ cs b, oi.op ≠ .select cs b) (hsj : ∀ cs b, oj.op ≠ .select cs b) {w : World} (hw : C w) {K : Act → Prop} {a : Act}
    (h : sOp P ops C M i (fun a' => sOp P ops C M j K a') a) : sOp P ops C M j (fun a' => sOp P ops C M i K a') a := by
  obtain ⟨h1, h2, h3⟩ := Oper.apart_spec hap
  have wj : ∀ (a : Act) v, Region.wanted oj (yielded ops (a.put oi.dst v).tmps) = Region.wanted oj (yielded ops a.tmps) := fun a v => wanted_put oj a oi.dst v h1
  have wi : ∀ (a : Act) v, Region.wanted oi (yielded ops (a.put oj.dst v).tmps) = Region.wanted oi (yielded ops a.tmps) := fun a v => wanted_put oi a oj.dst v h3
  have pj : ∀ {a : Act} {v u : Value}, plainAt P oj (a.put oi.dst u) C v ↔ plainAt P oj a C v := plainAt_put hsj h1
  have pi : ∀ {a : Act} {v u : Value}, plainAt P oi (a.put oj.dst u) C v ↔ plainAt P oi a C v := plainAt_put hsi h3
  have sj : ∀ {a : Act} {S : Value → Prop} {u : Value}, soft P oj (a.put oi.dst u) C S ↔ soft P oj a C S := soft_put hsj h1
  have si : ∀ {a : Act} {S : Value → Prop} {u : Value}, soft P oi (a.put oj.dst u) C S ↔ soft P oi a C S := soft_put hsi h3
  have cm : ∀ (a : Act) (v u : Value), (a.put oi.dst v).put oj.dst u = (a.put oj.dst u).put oi.dst v := fun a v u => Act.put_comm a v u h2
  simp only [sOp, hi, hj] at h ⊢
  simp only [wj] at h
  simp only [wi]
  by_cases hwi : Region.wanted oi (yielded ops a.tmps) = true
  · simp only [hwi, if_true] at h ⊢
    by_cases hwj : Region.wanted oj (yielded ops a.tmps) = true
    · simp only [hwj, if_true] at h ⊢
      cases hmi : M i with
      | none =>
        simp only [hmi] at h ⊢
        obtain ⟨v, hv, h⟩ := h
        cases hmj : M j with
        | none =>
          simp only [hmj] at h ⊢
          obtain ⟨u, hu, h⟩ := h
          exact ⟨u, pj.1 hu, v, pi.2 hv, by rw [← cm]; exact h⟩
        | some S =>
          simp only [hmj] at h ⊢
          exact ⟨sj.1 h.1, fun u hu => ⟨v, pi.2 hv, by rw [← cm]; exact h.2 u hu⟩⟩
      | some T =>
        simp only [hmi] at h ⊢
        obtain ⟨v0, hv0⟩ := soft_some hw h.1
        cases hmj : M j with
        | none =>
          simp only [hmj] at h ⊢
          obtain ⟨u, hu, _⟩ := h.2 v0 hv0
          refine ⟨u, pj.1 hu, si.2 h.1, fun v hv => ?_⟩
          obtain ⟨u', hu', hK⟩ := h.2 v hv
          rw [plainAt_unique hw (pj.1 hu) (pj.1 hu'), ← cm]
          exact hK
        | some S =>
          simp only [hmj] at h ⊢
          exact ⟨sj.1 (h.2 v0 hv0).1, fun u hu => ⟨si.2 h.1, fun v hv => by rw [← cm]; exact (h.2 v hv).2 u hu⟩⟩
    · simp only [hwj] at h ⊢
      cases hmi : M i with
      | none =>
        simp only [hmi] at h ⊢
        obtain ⟨v, hv, h⟩ := h
        exact ⟨v, pi.2 hv, by rw [← cm]; exact h⟩
      | some T =>
        simp only [hmi] at h ⊢
        exact ⟨si.2 h.1, fun v hv => by rw [← cm]; exact h.2 v hv⟩
  · simp only [hwi] at h ⊢
    by_cases hwj : Region.wanted oj (yielded ops a.tmps) = true
    · simp only [hwj, if_true] at h ⊢
      cases hmj : M j with
      | none =>
        simp only [hmj] at h ⊢
        obtain ⟨u, hu, h⟩ := h
        exact ⟨u, pj.1 hu, by simp only [Bool.false_eq_true, if_false]; rw [← cm]; exact h⟩
      | some S =>
        simp only [hmj] at h ⊢
        exact ⟨sj.1 h.1, fun u hu => by simp only [Bool.false_eq_true, if_false]; rw [← cm]; exact h.2 u hu⟩
    · simp only [hwj] at h ⊢
      simp only [Bool.false_eq_true, if_false] at h ⊢
      rw [← cm]; exact h

/-- The operations themselves, in the order of the text; beside each what it may give (none: one value). -/
def wpSoft (P : Program) (ops : Array Oper) (C : World → Prop) (Q : Act → Prop) : List Oper → List (Option (Value → Prop)) → Act → Prop
  | [], _, a => Q a
  | _ :: _, [], _ => False
  | o :: rest, none :: Ms, a => if Region.wanted o (yielded ops a.tmps) then ∃ v, plainAt P o a C v ∧ wpSoft P ops C Q rest Ms (a.put o.dst v) else wpSoft P ops C Q rest Ms (a.put o.dst undef)
  | o :: rest, some S :: Ms, a => if Region.wanted o (yielded ops a.tmps) then soft P o a C S ∧ ∀ v, S v → wpSoft P ops C Q rest Ms (a.put o.dst v) else wpSoft P ops C Q rest Ms (a.put o.dst undef)

theorem Oper.wp_of_plain {o : Oper} {a : Act} {v : Value} {K' : Act → World → Prop} {Q' : Exit → Act → World → Prop} {w : World} (hw : C w) (hh : plainAt P o a C v) (h : K' (a.put o.dst v) w) : o.wp P a w K' Q' := by
  have h3 := hh w hw
  unfold Oper.wp
  unfold plainUpon at h3
  split at h3
  · rename_i u w' hr
    rw [hr, h3.1, h3.2]
    exact h
  · exact h3.elim
theorem Oper.wp_of_soft {o : Oper} {a : Act} {S : Value → Prop} {K' : Act → World → Prop} {Q' : Exit → Act → World → Prop} {w : World} (hw : C w) (hh : soft P o a C S) (h : ∀ v w', C w' → S v → K' (a.put o.dst v) w') : o.wp P a w K' Q' := by
  have h3 := hh w hw
  unfold Oper.wp
  unfold softUpon at h3
  split at h3
  · rename_i u w' hr
    rw [hr]
    exact h _ _ h3.1 h3.2
  · rename_i w' hr
    rw [hr]
    exact h _ _ h3.1 h3.2
  · rename_i f args w' hr
    rw [hr]
    refine h3.mono fun e w'' ⟨v, he, hc, hv⟩ => ?_
    subst he
    exact h _ _ hc hv
  · exact h3.elim

theorem wpOp_of_sOp {i : Nat} {a : Act} {K : Act → Prop} {K' : Act → World → Prop} {Q' : Exit → Act → World → Prop} {w : World} (hC : C w) (h : ∀ a w', C w' → K a → K' a w') (hh : sOp P ops C M i K a) : wpOp P ops Q' i K' a w := by
  unfold sOp at hh
  unfold wpOp
  split
  · rename_i ho; simp only [ho] at hh; exact h _ _ hC hh
  · rename_i o ho
    simp only [ho] at hh
    split
    · rename_i hw
      simp only [hw, if_true] at hh
      split at hh
      · obtain ⟨v, h1, h2⟩ := hh; exact .inl (Oper.wp_of_plain hC h1 (h _ _ hC h2))
      · exact .inl (Oper.wp_of_soft hC hh.1 fun v w' hc hv => h _ _ hc (hh.2 v hv))
    · rename_i hw; simp only [hw] at hh; exact h _ _ hC hh

/-- The head, in whatever order. -/
def headS (P : Program) (md : Region.Mode) (ops : Array Oper) (C : World → Prop) (M : Nat → Option (Value → Prop)) (n : Nat) (L : Array Bool → Act → Prop) : Nat → Array Bool → Act → Prop
  | 0, listed, a => L listed a
  | f + 1, listed, a => Region.ready md ops listed ≠ [] ∧ ∀ i ∈ Region.ready md ops listed, i < n ∧ sOp P ops C M i (headS P md ops C M n L f (listed.setIfInBounds i true)) a

theorem wpAny_of_headS {n g : Nat} {L : Array Bool → Act → Prop} {Q' : Exit → Act → World → Prop} (hL : ∀ listed a w, C w → L listed a → wpAny P md ops Q' g listed a w) :
    ∀ (f : Nat) (listed : Array Bool) (a : Act) (w : World), C w → headS P md ops C M n L f listed a → wpAny P md ops Q' (f + g) listed a w
  | 0, listed, a, w, hw, h => by rw [Nat.zero_add]; exact hL _ _ _ hw h
  | f + 1, listed, a, w, hw, h => by
    rw [show f + 1 + g = (f + g) + 1 by omega]
    exact ⟨fun h0 => absurd h0 h.1, fun i hi => wpOp_of_sOp hw (fun a' w' hw' h' => wpAny_of_headS hL f _ a' w' hw' h') (h.2 i hi).2⟩

theorem headS_first {n i : Nat} {oi : Oper} {L : Array Bool → Act → Prop} {w : World} (hw : C w) (hi : ops[i]? = some oi) (hsel : ∀ (j : Nat) (o : Oper) cs b, ops[j]? = some o → o.op ≠ .select cs b)
    (hs : Region.sinkB md ops n = true) (hc : Region.chainB md ops n = true) (hn : n < ops.size) (hin : i < n)
    (hdone : ∀ listed a, L listed a → ∀ j ∈ Region.ready md ops listed, n ≤ j) :
    ∀ (f : Nat) (listed : Array Bool) (a : Act), HeadInv md ops n listed →
      (∀ j oj, ops[j]? = some oj → j ≠ i → listed.getD j true = false → (∀ e ∈ oj.after, Region.binds md e = true → e.on ≠ i) → oi.apart ops oj = true) →
      i ∈ Region.ready md ops listed → sOp P ops C M i (headS P md ops C M n L f (listed.setIfInBounds i true)) a → headS P md ops C M n L (f + 1) listed a := by
  have any : ∀ {K : Act → Prop} {a : Act}, sOp P ops C M i K a → ∃ a', K a' := by
    intro K a h
    simp only [sOp, hi] at h
    split at h
    · split at h
      · obtain ⟨v, _, h⟩ := h; exact ⟨_, h⟩
      · obtain ⟨v, hv⟩ := soft_some hw h.1; exact ⟨_, h.2 v hv⟩
    · exact ⟨_, h⟩
  intro f
  induction f with
  | zero =>
    intro listed a inv _ hr H
    have hun := (mem_ready.1 hr).1
    refine ⟨fun h => (by rw [h] at hr; cases hr), fun j hj => ?_⟩
    have hjn : j < n := by
      rcases Nat.lt_or_ge j n with h | h
      · exact h
      · exact absurd hj (tail_waits hs hc hn inv _ i rfl hin hun j h)
    refine ⟨hjn, ?_⟩
    by_cases hji : j = i
    · subst hji; exact H
    · obtain ⟨a', h'⟩ := any H
      have := hdone _ _ h' j (ready_mono hj hji)
      omega
  | succ f ih =>
    intro listed a inv hfree hr H
    have hun := (mem_ready.1 hr).1
    refine ⟨fun h => (by rw [h] at hr; cases hr), fun j hj => ?_⟩
    have hjn : j < n := by
      rcases Nat.lt_or_ge j n with h | h
      · exact h
      · exact absurd hj (tail_waits hs hc hn inv _ i rfl hin hun j h)
    refine ⟨hjn, ?_⟩
    by_cases hji : j = i
    · subst hji; exact H
    · obtain ⟨hjun, oj, hoj, hall⟩ := mem_ready.1 hj
      have hnot : ∀ e ∈ oj.after, Region.binds md e = true → e.on ≠ i := fun e he hb heq => by
        have h1 := hall e he hb
        rw [heq, getD_both hun] at h1
        cases h1
      have h1 : sOp P ops C M i (fun a' => sOp P ops C M j (headS P md ops C M n L f ((listed.setIfInBounds i true).setIfInBounds j true)) a') a :=
        sOp_mono (fun a' h' => (h'.2 j (ready_mono hj hji)).2) H
      have h2 := sOp_comm hi hoj (hfree j oj hoj hji hjun hnot) (fun cs b => hsel i oi cs b hi) (fun cs b => hsel j oj cs b hoj) hw h1
      have hfree' : ∀ k ok, ops[k]? = some ok → k ≠ i → (listed.setIfInBounds j true).getD k true = false →
          (∀ e ∈ ok.after, Region.binds md e = true → e.on ≠ i) → oi.apart ops ok = true := fun k ok hk hki hun hno => by
        refine hfree k ok hk hki ?_ hno
        by_cases hjk : j = k
        · subst hjk; exact hjun
        · rw [getD_set_ne true hjk] at hun; exact hun
      refine sOp_mono (fun a' h3 => ih (listed.setIfInBounds j true) a' (inv.set hj hjn) hfree' (ready_mono hr (Ne.symm hji)) ?_) h2
      rw [Array.setIfInBounds_comm _ _ hji]
      exact h3

theorem sOp_of_soft {Q : Act → Prop} {k : Nat} {o : Oper} {l : List Oper} {m : Option (Value → Prop)} {Ms : List (Option (Value → Prop))} {a : Act} (h0 : ops[k]? = some o) (hm : M k = m) (h : wpSoft P ops C Q (o :: l) (m :: Ms) a) :
    sOp P ops C M k (wpSoft P ops C Q l Ms) a := by
  simp only [sOp, h0, hm]
  cases m with
  | none => simpa [wpSoft] using h
  | some S => simpa [wpSoft] using h

theorem headS_lex {n g : Nat} {Lq : Act → Prop} {w : World} (hw : C w) (hsel : Region.noSelect ops = true) (hs : Region.sinkB md ops n = true) (hc : Region.chainB md ops n = true) (hn : n < ops.size) :
    ∀ (l : List Oper) (Ms : List (Option (Value → Prop))) (k : Nat) (listed : Array Bool) (a : Act), (∀ j, j < l.length → l[j]? = ops[k + j]?) → (∀ j, j < l.length → M (k + j) = Ms.getD j none) → k + l.length = n → HeadInv md ops n listed →
    Region.lexHead md ops g l.length k listed = true → wpSoft P ops C Lq l Ms a →
    headS P md ops C M n (fun listed' a' => Region.seqB md ops g n listed' = true ∧ Lq a') l.length listed a
  | [], _, k, listed, a, _, _, hk, _, hB, h => by
    have : k = n := by simpa using hk
    subst this
    exact ⟨by simpa [Region.lexHead] using hB, h⟩
  | o :: l, [], k, listed, a, hl, hM, hk, inv, hB, h => h.elim
  | o :: l, m :: Ms, k, listed, a, hl, hM, hk, inv, hB, h => by
    have h0 : ops[k]? = some o := by simpa using (hl 0 (by simp)).symm
    have hm : M k = m := by simpa using hM 0 (by simp)
    simp only [List.length_cons, Region.lexHead, Bool.and_eq_true] at hB
    obtain ⟨⟨hr, hf⟩, hB'⟩ := hB
    have hkn : k < n := by simp only [List.length_cons] at hk; omega
    have hr' : k ∈ Region.ready md ops listed := by simpa using hr
    refine headS_first hw h0 (Region.noSelect_spec hsel) hs hc hn hkn (fun listed' a' hL => seqB_ready hL.1) l.length listed a inv (Region.free_spec h0 hf) hr' ?_
    refine sOp_mono (fun a' h' => ?_) (sOp_of_soft h0 hm h)
    exact headS_lex hw hsel hs hc hn l Ms (k + 1) _ _ (fun j hj => by have := hl (j + 1) (by simp; omega); simpa [Nat.add_assoc, Nat.add_comm 1 j] using this)
      (fun j hj => by have := hM (j + 1) (by simp; omega); simpa [Nat.add_assoc, Nat.add_comm 1 j] using this) (by simp only [List.length_cons] at hk; omega) (inv.set hr' hkn) hB' h'

/-- **THE REGION**: its first n operations in whatever order, the rest in theirs. -/
theorem wp_region_soft_tail {id : Nat} {Q : Exit → Act → World → Prop} {a : Act} {w : World} {l : List Oper} (n : Nat) {Ms : List (Option (Value → Prop))} (hm : P.follows .mixedOrders = true) (hB : Region.lexTailB .any l.toArray n = true)
    (hC : C { w with drawn := w.drawn + 1 })
    (h : wpSoft P l.toArray C (fun a' => ∀ w', C w' → wpList P l.toArray Q (l.drop n) a' w') (l.take n) Ms a) : (Code.region id l.toArray true).wp P Q a w := by
  simp only [Region.lexTailB, Bool.and_eq_true, decide_eq_true_eq] at hB
  obtain ⟨⟨⟨⟨hsel, hn⟩, hs⟩, hc⟩, hlex⟩ := hB
  have hn' : n < l.length := by simpa using hn
  have htl : (l.take n).length = n := by simp; omega
  have hdl : (l.drop n).length = l.toArray.size - n := by simp
  have inv0 : HeadInv .any l.toArray n (Array.replicate l.toArray.size false) :=
    ⟨by simp, fun j oj _ hl => (by rw [getD_replicate_false] at hl; cases hl), fun t _ ht => getD_in (by simpa using ht) (getD_replicate_false _ _)⟩
  have H := headS_lex (md := .any) (M := fun i => Ms.getD i none) (g := l.toArray.size - n) hC hsel hs hc hn (l.take n) Ms 0 _ a (fun j hj => by
    have hj' : j < n := by rw [htl] at hj; exact hj
    simp [hj']) (fun j _ => by simp) (by simpa using htl) inv0 (by rw [htl]; exact hlex) h
  refine wp_region_any hm ?_
  have := wpAny_of_headS (Q' := Q) (g := l.toArray.size - n) (fun listed a' w' hw' hL => by
    have := wpAny_of_seq (md := .any) (Q' := Q) (l.drop n) n listed a' w' (fun j => by simp [List.getElem?_drop]) (by rw [hdl]; exact hL.1) (hL.2 w' hw')
    rwa [hdl] at this) _ _ _ _ hC H
  rw [htl, show n + (l.toArray.size - n) = l.toArray.size by omega] at this
  exact this

end
end Go.Soft
