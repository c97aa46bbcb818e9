/- As Soft, with facts: what an operation of the head makes may be told of the world in which the tail begins. -/
import Derived.Test.YtaidkokgafojeaaSoft
namespace Go.Soft2
open Go Go.Soft

section
variable {P : Program} {ops : Array Oper} {md : Region.Mode} {C : World → Prop} {R : World → World → Prop} {T : List Nat} {F : Nat → Value → World → Prop} {M : Nat → Option (Value → Prop)}

/-- What is told of the values that the operations T have given. -/
def fact (ops : Array Oper) (T : List Nat) (F : Nat → Value → World → Prop) (k : Nat) (a : Act) (w : World) : Prop :=
  k ∈ T → ∀ o d, ops[k]? = some o → o.dst = some d → F k (a.tmps.getD d undef) w
def seen (ops : Array Oper) (md : Region.Mode) (T : List Nat) (F : Nat → Value → World → Prop) (o : Oper) (a : Act) (w : World) : Prop :=
  ∀ e ∈ o.after, Region.binds md e = true → fact ops T F e.on a w
def softUpon (P : Program) (C : World → Prop) (R : World → World → Prop) (S : Value → Prop) (G : Value → World → Prop) (w0 : World) : Result Next → Prop
  | .ok (.value u) w' => C w' ∧ R w0 w' ∧ G u w' ∧ S u
  | .ok (.enter f args) w' => Calls P f args w' (fun e w'' => ∃ v, e = .returned v ∧ C w'' ∧ R w0 w'' ∧ G v w'' ∧ S v)
  | _ => False
def soft (P : Program) (ops : Array Oper) (md : Region.Mode) (C : World → Prop) (R : World → World → Prop) (T : List Nat) (F : Nat → Value → World → Prop) (i : Nat) (o : Oper) (a : Act) (S : Value → Prop) : Prop :=
  ∀ w, C w → seen ops md T F o a w → softUpon P C R S (fun v w' => i ∈ T → F i v w') w ((execOp a.eval o).run P w)

/-- Operation number 'i' comes up in state 'a'. -/
def sOp (P : Program) (ops : Array Oper) (md : Region.Mode) (C : World → Prop) (R : World → World → Prop) (T : List Nat) (F : Nat → Value → World → Prop) (M : Nat → Option (Value → Prop)) (i : Nat) (K : Act → Prop) (a : Act) : Prop :=
  match ops[i]? with
  | none => K a
  | some o => if Region.wanted o (yielded ops a.tmps) then
      match M i with
      | none => i ∉ T ∧ ∃ v, plainAt P o a C v ∧ K (a.put o.dst v)
      | some S => soft P ops md C R T F i o a S ∧ (∃ v, S v) ∧ ∀ v, S v → K (a.put o.dst v)
    else i ∉ T ∧ K (a.put o.dst undef)

theorem sOp_mono {i : Nat} {a : Act} {K K' : Act → Prop} (h : ∀ a, K a → K' a) (hh : sOp P ops md C R T F M i K a) : sOp P ops md C R T F M i K' a := by
  unfold sOp at *
  split
  · rename_i ho; simp only [ho] at hh; exact h _ hh
  · rename_i o ho
    simp only [ho] at hh
    split
    · rename_i hw
      simp only [hw, if_true] at hh
      split
      · rename_i hm; simp only [hm] at hh; obtain ⟨h0, v, h1, h2⟩ := hh; exact ⟨h0, v, h1, h _ h2⟩
      · rename_i S hm; simp only [hm] at hh; exact ⟨hh.1, hh.2.1, fun v hv => h _ (hh.2.2 v hv)⟩
    · rename_i hw; simp only [hw] at hh; exact ⟨hh.1, h _ hh.2⟩

/-- The slots of the operations T are their own. -/
def lone (ops : Array Oper) (T : List Nat) : Prop := ∀ k ∈ T, ∀ i oi ok d, i ≠ k → ops[i]? = some oi → ops[k]? = some ok → ok.dst = some d → oi.dst ≠ some d
def loneB (ops : Array Oper) (T : List Nat) : Bool :=
  T.all fun k => (List.range ops.size).all fun i => i == k || (match ops[i]?, ops[k]? with
    | some oi, some ok => (match ok.dst with | some d => !(oi.dst == some d) | none => true)
    | _, _ => true)
theorem lone_of {T : List Nat} (h : loneB ops T = true) : lone ops T := by
  intro k hk i oi ok d hik hi hok hd hd'
  have h1 := List.all_eq_true.1 h k hk
  have hlt : i < ops.size := (Array.getElem?_eq_some_iff.1 hi).1
  have h2 := List.all_eq_true.1 h1 i (List.mem_range.2 hlt)
  simp [hi, hok, hd, hd', hik] at h2

theorem getD_put_ne {a : Act} {dst : Option Tmp} {v : Value} {d : Tmp} (h : dst ≠ some d) : (a.put dst v).tmps.getD d undef = a.tmps.getD d undef := by
  cases dst with
  | none => rfl
  | some e =>
    have : e ≠ d := fun h' => h (by rw [h'])
    simp [Act.put, Array.getD_eq_getD_getElem?, Array.getElem?_setIfInBounds, this]
theorem getD_put {a : Act} {v : Value} {d : Tmp} (h : d < a.tmps.size) : (a.put (some d) v).tmps.getD d undef = v := by
  simp [Act.put, Array.getD_eq_getD_getElem?, Array.getElem?_setIfInBounds, h]
theorem size_put {a : Act} {dst : Option Tmp} {v : Value} : (a.put dst v).tmps.size = a.tmps.size := by
  cases dst <;> simp [Act.put]

theorem fact_put (hl : lone ops T) {i k : Nat} {oi : Oper} (hi : ops[i]? = some oi) (hik : k ≠ i) {a : Act} {v : Value} {w : World} : fact ops T F k (a.put oi.dst v) w ↔ fact ops T F k a w := by
  unfold fact
  constructor
  · intro h hk o d ho hd
    have := h hk o d ho hd
    rwa [getD_put_ne (hl k hk i oi o d (Ne.symm hik) hi ho hd)] at this
  · intro h hk o d ho hd
    rw [getD_put_ne (hl k hk i oi o d (Ne.symm hik) hi ho hd)]
    exact h hk o d ho hd
theorem seen_put (hl : lone ops T) {i : Nat} {oi o : Oper} (hi : ops[i]? = some oi) (hn : ∀ e ∈ o.after, Region.binds md e = true → e.on ≠ i) {a : Act} {v : Value} {w : World} : seen ops md T F o (a.put oi.dst v) w ↔ seen ops md T F o a w := by
  unfold seen
  constructor
  · intro h e he hb; exact (fact_put hl hi (hn e he hb)).1 (h e he hb)
  · intro h e he hb; exact (fact_put hl hi (hn e he hb)).2 (h e he hb)
theorem soft_put (hl : lone ops T) {i j : Nat} {oi o : Oper} (hi : ops[i]? = some oi) (hn : ∀ e ∈ o.after, Region.binds md e = true → e.on ≠ i) {a : Act} {S : Value → Prop} {u : Value} (hs : ∀ cs b, o.op ≠ .select cs b) (h : ∀ d, oi.dst = some d → d ∉ o.looksAt ops) :
    soft P ops md C R T F j o (a.put oi.dst u) S ↔ soft P ops md C R T F j o a S := by
  unfold soft
  rw [execOp_put (ops := ops) o hs a oi.dst u h]
  constructor
  · intro h w hw hse; exact h w hw ((seen_put hl hi hn).2 hse)
  · intro h w hw hse; exact h w hw ((seen_put hl hi hn).1 hse)

/-- Two operations that are apart: their order makes no difference. -/
theorem sOp_comm (hl : lone ops T) {i j : Nat} {oi oj : Oper} (hi : ops[i]? = some oi) (hj : ops[j]? = some oj) (hap : oi.apart ops oj = true)
    (hni : ∀ e ∈ oi.after, Region.binds md e = true → e.on ≠ j) (hnj : ∀ e ∈ oj.after, Region.binds md e = true → e.on ≠ i)
    (hsi : ∀ cs b, oi.op ≠ .select cs b) (hsj : ∀ cs b, oj.op ≠ .select cs b) {w : World} (hw : C w) {K : Act → Prop} {a : Act}
    (h : sOp P ops md C R T F M i (fun a' => sOp P ops md C R T F M j K a') a) : sOp P ops md C R T F M j (fun a' => sOp P ops md C R T F M i K a') a := by
  obtain ⟨h1, h2, h3⟩ := Oper.apart_spec hap
  have wj : ∀ (a : Act) v, Region.wanted oj (yielded ops (a.put oi.dst v).tmps) = Region.wanted oj (yielded ops a.tmps) := fun a v => wanted_put oj a oi.dst v h1
  have wi : ∀ (a : Act) v, Region.wanted oi (yielded ops (a.put oj.dst v).tmps) = Region.wanted oi (yielded ops a.tmps) := fun a v => wanted_put oi a oj.dst v h3
  have pj : ∀ {a : Act} {v u : Value}, plainAt P oj (a.put oi.dst u) C v ↔ plainAt P oj a C v := plainAt_put hsj h1
  have pi : ∀ {a : Act} {v u : Value}, plainAt P oi (a.put oj.dst u) C v ↔ plainAt P oi a C v := plainAt_put hsi h3
  have sj : ∀ {a : Act} {S : Value → Prop} {u : Value}, soft P ops md C R T F j oj (a.put oi.dst u) S ↔ soft P ops md C R T F j oj a S := soft_put hl hi hnj hsj h1
  have si : ∀ {a : Act} {S : Value → Prop} {u : Value}, soft P ops md C R T F i oi (a.put oj.dst u) S ↔ soft P ops md C R T F i oi a S := soft_put hl hj hni hsi h3
  have cm : ∀ (a : Act) (v u : Value), (a.put oi.dst v).put oj.dst u = (a.put oj.dst u).put oi.dst v := fun a v u => Act.put_comm a v u h2
  simp only [sOp, hi, hj] at h ⊢
  simp only [wj] at h
  simp only [wi]
  by_cases hwi : Region.wanted oi (yielded ops a.tmps) = true
  · simp only [hwi, if_true] at h ⊢
    by_cases hwj : Region.wanted oj (yielded ops a.tmps) = true
    · simp only [hwj, if_true] at h ⊢
      cases hmi : M i with
      | none =>
        simp only [hmi] at h ⊢
        obtain ⟨hti, v, hv, h⟩ := h
        cases hmj : M j with
        | none =>
          simp only [hmj] at h ⊢
          obtain ⟨htj, u, hu, h⟩ := h
          exact ⟨htj, u, pj.1 hu, hti, v, pi.2 hv, by rw [← cm]; exact h⟩
        | some S =>
          simp only [hmj] at h ⊢
          exact ⟨sj.1 h.1, h.2.1, fun u hu => ⟨hti, v, pi.2 hv, by rw [← cm]; exact h.2.2 u hu⟩⟩
      | some U =>
        simp only [hmi] at h ⊢
        obtain ⟨v0, hv0⟩ := h.2.1
        cases hmj : M j with
        | none =>
          simp only [hmj] at h ⊢
          obtain ⟨htj, u, hu, _⟩ := h.2.2 v0 hv0
          refine ⟨htj, u, pj.1 hu, si.2 h.1, h.2.1, fun v hv => ?_⟩
          obtain ⟨_, u', hu', hK⟩ := h.2.2 v hv
          rw [plainAt_unique hw (pj.1 hu) (pj.1 hu'), ← cm]
          exact hK
        | some S =>
          simp only [hmj] at h ⊢
          exact ⟨sj.1 (h.2.2 v0 hv0).1, (h.2.2 v0 hv0).2.1, fun u hu => ⟨si.2 h.1, h.2.1, fun v hv => by rw [← cm]; exact (h.2.2 v hv).2.2 u hu⟩⟩
    · simp only [hwj] at h ⊢
      cases hmi : M i with
      | none =>
        simp only [hmi] at h ⊢
        obtain ⟨hti, v, hv, h⟩ := h
        simp only [Bool.false_eq_true, if_false] at h ⊢
        exact ⟨h.1, hti, v, pi.2 hv, by rw [← cm]; exact h.2⟩
      | some U =>
        simp only [hmi] at h ⊢
        simp only [Bool.false_eq_true, if_false] at h ⊢
        obtain ⟨v0, hv0⟩ := h.2.1
        exact ⟨(h.2.2 v0 hv0).1, si.2 h.1, h.2.1, fun v hv => by rw [← cm]; exact (h.2.2 v hv).2⟩
  · simp only [hwi] at h ⊢
    simp only [Bool.false_eq_true, if_false] at h ⊢
    by_cases hwj : Region.wanted oj (yielded ops a.tmps) = true
    · simp only [hwj, if_true] at h ⊢
      cases hmj : M j with
      | none =>
        simp only [hmj] at h ⊢
        obtain ⟨hti, htj, u, hu, h⟩ := h
        exact ⟨htj, u, pj.1 hu, hti, by rw [← cm]; exact h⟩
      | some S =>
        simp only [hmj] at h ⊢
        exact ⟨sj.1 h.2.1, h.2.2.1, fun u hu => ⟨h.1, by rw [← cm]; exact h.2.2.2 u hu⟩⟩
    · simp only [hwj] at h ⊢
      simp only [Bool.false_eq_true, if_false] at h ⊢
      exact ⟨h.2.1, h.1, by rw [← cm]; exact h.2.2⟩

/-- The operations themselves, in the order of the text, from number k on; beside each what it may give (none: one value). -/
def wpSoft (P : Program) (ops : Array Oper) (md : Region.Mode) (C : World → Prop) (R : World → World → Prop) (T : List Nat) (F : Nat → Value → World → Prop) (Q : Act → Prop) : Nat → List Oper → List (Option (Value → Prop)) → Act → Prop
  | _, [], _, a => Q a
  | _, _ :: _, [], _ => False
  | k, o :: rest, none :: Ms, a => if Region.wanted o (yielded ops a.tmps) then k ∉ T ∧ ∃ v, plainAt P o a C v ∧ wpSoft P ops md C R T F Q (k + 1) rest Ms (a.put o.dst v) else k ∉ T ∧ wpSoft P ops md C R T F Q (k + 1) rest Ms (a.put o.dst undef)
  | k, o :: rest, some S :: Ms, a => if Region.wanted o (yielded ops a.tmps) then soft P ops md C R T F k o a S ∧ (∃ v, S v) ∧ ∀ v, S v → wpSoft P ops md C R T F Q (k + 1) rest Ms (a.put o.dst v) else k ∉ T ∧ wpSoft P ops md C R T F Q (k + 1) rest Ms (a.put o.dst undef)

/-- The state as the run meets it. -/
structure Good (ops : Array Oper) (C : World → Prop) (T : List Nat) (F : Nat → Value → World → Prop) (listed : Array Bool) (a : Act) (w : World) : Prop where
  cls : C w
  facts : ∀ k, listed.getD k false = true → fact ops T F k a w
  room : ∀ k ∈ T, ∀ o d, ops[k]? = some o → o.dst = some d → d < a.tmps.size

/-- What is told is kept. -/
def keeps (C : World → Prop) (R : World → World → Prop) (T : List Nat) (F : Nat → Value → World → Prop) : Prop := ∀ k ∈ T, ∀ v w w', C w → C w' → R w w' → F k v w → F k v w'

theorem good_put (hl : lone ops T) {i : Nat} {oi : Oper} (hi : ops[i]? = some oi) {listed : Array Bool} {a : Act} {v : Value} {w w' : World} (hG : Good ops C T F listed a w) (hc : C w') (hk : ∀ k, k ≠ i → fact ops T F k a w → fact ops T F k a w') (hv : i ∈ T → F i v w') :
    Good ops C T F (listed.setIfInBounds i true) (a.put oi.dst v) w' := by
  refine ⟨hc, fun k hkl => ?_, fun k hkT o d ho hd => by rw [size_put]; exact hG.room k hkT o d ho hd⟩
  by_cases hki : k = i
  · subst hki
    intro hT o d ho hd
    rw [hi] at ho
    obtain rfl := Option.some.inj ho
    rw [hd, getD_put (hG.room k hT oi d hi hd)]
    exact hv hT
  · rw [getD_set_ne false (fun h => hki h.symm)] at hkl
    exact (fact_put hl hi hki).2 (hk k hki (hG.facts k hkl))

theorem wpOp_of_sOp (hl : lone ops T) (hP : keeps C R T F) {i : Nat} {a : Act} {K : Act → Prop} {K' : Act → World → Prop} {Q' : Exit → Act → World → Prop} {w : World} {listed : Array Bool} (hr : i ∈ Region.ready md ops listed) (hG : Good ops C T F listed a w)
    (h : ∀ a' w', Good ops C T F (listed.setIfInBounds i true) a' w' → K a' → K' a' w') (hh : sOp P ops md C R T F M i K a) : wpOp P ops Q' i K' a w := by
  obtain ⟨hun, oi, hi, hall⟩ := mem_ready.1 hr
  unfold sOp at hh
  unfold wpOp
  simp only [hi] at hh ⊢
  split
  · rename_i hw
    simp only [hw, if_true] at hh
    refine .inl ?_
    split at hh
    · obtain ⟨hT, v, h1, h2⟩ := hh
      exact Oper.wp_of_plain hG.cls h1 (h _ _ (good_put hl hi hG hG.cls (fun _ _ hf => hf) (fun hT' => absurd hT' hT)) h2)
    · rename_i S hm
      obtain ⟨h1, _, h2⟩ := hh
      have h3 := h1 w hG.cls (fun e he hb => hG.facts e.on (hall e he hb))
      unfold Oper.wp
      unfold softUpon at h3
      have kp : ∀ {w'}, C w' → R w w' → ∀ k, k ≠ i → fact ops T F k a w → fact ops T F k a w' := fun hc hR k _ hf hT o d ho hd => hP k hT _ w _ hG.cls hc hR (hf hT o d ho hd)
      split at h3
      · rename_i u w' hrun
        rw [hrun]
        exact h _ _ (good_put hl hi hG h3.1 (kp h3.1 h3.2.1) h3.2.2.1) (h2 _ h3.2.2.2)
      · rename_i f args w' hrun
        rw [hrun]
        refine h3.mono fun e w'' ⟨v, he, hc, hR, hF, hv⟩ => ?_
        subst he
        exact h _ _ (good_put hl hi hG hc (kp hc hR) hF) (h2 _ hv)
      · exact h3.elim
  · rename_i hw
    simp only [hw] at hh
    simp only [Bool.false_eq_true, if_false] at hh
    exact h _ _ (good_put hl hi hG hG.cls (fun _ _ hf => hf) (fun hT' => absurd hT' hh.1)) hh.2

/-- The head, in whatever order. -/
def headS (P : Program) (md : Region.Mode) (ops : Array Oper) (C : World → Prop) (R : World → World → Prop) (T : List Nat) (F : Nat → Value → World → Prop) (M : Nat → Option (Value → Prop)) (n : Nat) (L : Array Bool → Act → Prop) : Nat → Array Bool → Act → Prop
  | 0, listed, a => L listed a
  | f + 1, listed, a => Region.ready md ops listed ≠ [] ∧ ∀ i ∈ Region.ready md ops listed, i < n ∧ sOp P ops md C R T F M i (headS P md ops C R T F M n L f (listed.setIfInBounds i true)) a

theorem wpAny_of_headS (hl : lone ops T) (hP : keeps C R T F) {n g : Nat} {L : Array Bool → Act → Prop} {Q' : Exit → Act → World → Prop} (hL : ∀ listed a w, HeadInv md ops n listed → Good ops C T F listed a w → L listed a → wpAny P md ops Q' g listed a w) :
    ∀ (f : Nat) (listed : Array Bool) (a : Act) (w : World), HeadInv md ops n listed → Good ops C T F listed a w → headS P md ops C R T F M n L f listed a → wpAny P md ops Q' (f + g) listed a w
  | 0, listed, a, w, hv, hw, h => by rw [Nat.zero_add]; exact hL _ _ _ hv hw h
  | f + 1, listed, a, w, hv, hw, h => by
    rw [show f + 1 + g = (f + g) + 1 by omega]
    exact ⟨fun h0 => absurd h0 h.1, fun i hi => wpOp_of_sOp hl hP hi hw (fun a' w' hw' h' => wpAny_of_headS hl hP hL f _ a' w' (hv.set hi (h.2 i hi).1) hw' h') (h.2 i hi).2⟩

theorem headS_first (hl : lone ops T) {n i : Nat} {oi : Oper} {L : Array Bool → Act → Prop} {w : World} (hw : C w) (hi : ops[i]? = some oi) (hsel : ∀ (j : Nat) (o : Oper) cs b, ops[j]? = some o → o.op ≠ .select cs b)
    (hs : Region.sinkB md ops n = true) (hc : Region.chainB md ops n = true) (hn : n < ops.size) (hin : i < n)
    (hdone : ∀ listed a, L listed a → ∀ j ∈ Region.ready md ops listed, n ≤ j) :
    ∀ (f : Nat) (listed : Array Bool) (a : Act), HeadInv md ops n listed →
      (∀ j oj, ops[j]? = some oj → j ≠ i → listed.getD j true = false → (∀ e ∈ oj.after, Region.binds md e = true → e.on ≠ i) → oi.apart ops oj = true) →
      i ∈ Region.ready md ops listed → sOp P ops md C R T F M i (headS P md ops C R T F M n L f (listed.setIfInBounds i true)) a → headS P md ops C R T F M n L (f + 1) listed a := by
  have any : ∀ {K : Act → Prop} {a : Act}, sOp P ops md C R T F M i K a → ∃ a', K a' := by
    intro K a h
    simp only [sOp, hi] at h
    split at h
    · split at h
      · obtain ⟨_, v, _, h⟩ := h; exact ⟨_, h⟩
      · obtain ⟨v, hv⟩ := h.2.1; exact ⟨_, h.2.2 v hv⟩
    · exact ⟨_, h.2⟩
  intro f
  induction f with
  | zero =>
    intro listed a inv _ hr H
    have hun := (mem_ready.1 hr).1
    refine ⟨fun h => (by rw [h] at hr; cases hr), fun j hj => ?_⟩
    have hjn : j < n := by
      rcases Nat.lt_or_ge j n with h | h
      · exact h
      · exact absurd hj (tail_waits hs hc hn inv _ i rfl hin hun j h)
    refine ⟨hjn, ?_⟩
    by_cases hji : j = i
    · subst hji; exact H
    · obtain ⟨a', h'⟩ := any H
      have := hdone _ _ h' j (ready_mono hj hji)
      omega
  | succ f ih =>
    intro listed a inv hfree hr H
    obtain ⟨hun, oi', hoi', halli⟩ := mem_ready.1 hr
    refine ⟨fun h => (by rw [h] at hr; cases hr), fun j hj => ?_⟩
    have hjn : j < n := by
      rcases Nat.lt_or_ge j n with h | h
      · exact h
      · exact absurd hj (tail_waits hs hc hn inv _ i rfl hin hun j h)
    refine ⟨hjn, ?_⟩
    by_cases hji : j = i
    · subst hji; exact H
    · obtain ⟨hjun, oj, hoj, hall⟩ := mem_ready.1 hj
      have hnot : ∀ e ∈ oj.after, Region.binds md e = true → e.on ≠ i := fun e he hb heq => by
        have h1 := hall e he hb
        rw [heq, getD_both hun] at h1
        cases h1
      have hnoti : ∀ e ∈ oi.after, Region.binds md e = true → e.on ≠ j := fun e he hb heq => by
        rw [hi] at hoi'
        obtain rfl := Option.some.inj hoi'
        have h1 := halli e he hb
        rw [heq, getD_both hjun] at h1
        cases h1
      have h1 : sOp P ops md C R T F M i (fun a' => sOp P ops md C R T F M j (headS P md ops C R T F M n L f ((listed.setIfInBounds i true).setIfInBounds j true)) a') a :=
        sOp_mono (fun a' h' => (h'.2 j (ready_mono hj hji)).2) H
      have h2 := sOp_comm hl hi hoj (hfree j oj hoj hji hjun hnot) hnoti hnot (fun cs b => hsel i oi cs b hi) (fun cs b => hsel j oj cs b hoj) hw h1
      have hfree' : ∀ k ok, ops[k]? = some ok → k ≠ i → (listed.setIfInBounds j true).getD k true = false →
          (∀ e ∈ ok.after, Region.binds md e = true → e.on ≠ i) → oi.apart ops ok = true := fun k ok hk hki hun hno => by
        refine hfree k ok hk hki ?_ hno
        by_cases hjk : j = k
        · subst hjk; exact hjun
        · rw [getD_set_ne true hjk] at hun; exact hun
      refine sOp_mono (fun a' h3 => ih (listed.setIfInBounds j true) a' (inv.set hj hjn) hfree' (ready_mono hr (Ne.symm hji)) ?_) h2
      rw [Array.setIfInBounds_comm _ _ hji]
      exact h3

theorem sOp_of_soft {Q : Act → Prop} {k : Nat} {o : Oper} {l : List Oper} {m : Option (Value → Prop)} {Ms : List (Option (Value → Prop))} {a : Act} (h0 : ops[k]? = some o) (hm : M k = m) (h : wpSoft P ops md C R T F Q k (o :: l) (m :: Ms) a) :
    sOp P ops md C R T F M k (wpSoft P ops md C R T F Q (k + 1) l Ms) a := by
  simp only [sOp, h0, hm]
  cases m with
  | none => simpa [wpSoft] using h
  | some S => simpa [wpSoft] using h

theorem headS_lex (hl : lone ops T) {n g : Nat} {Lq : Act → Prop} {w : World} (hw : C w) (hsel : Region.noSelect ops = true) (hs : Region.sinkB md ops n = true) (hc : Region.chainB md ops n = true) (hn : n < ops.size) :
    ∀ (l : List Oper) (Ms : List (Option (Value → Prop))) (k : Nat) (listed : Array Bool) (a : Act), (∀ j, j < l.length → l[j]? = ops[k + j]?) → (∀ j, j < l.length → M (k + j) = Ms.getD j none) → k + l.length = n → HeadInv md ops n listed →
    Region.lexHead md ops g l.length k listed = true → wpSoft P ops md C R T F Lq k l Ms a →
    headS P md ops C R T F M n (fun listed' a' => Region.seqB md ops g n listed' = true ∧ Lq a') l.length listed a
  | [], _, k, listed, a, _, _, hk, _, hB, h => by
    have : k = n := by simpa using hk
    subst this
    exact ⟨by simpa [Region.lexHead] using hB, by simpa [wpSoft] using h⟩
  | o :: l, [], k, listed, a, hl', hM, hk, inv, hB, h => by simp [wpSoft] at h
  | o :: l, m :: Ms, k, listed, a, hl', hM, hk, inv, hB, h => by
    have h0 : ops[k]? = some o := by simpa using (hl' 0 (by simp)).symm
    have hm : M k = m := by simpa using hM 0 (by simp)
    simp only [List.length_cons, Region.lexHead, Bool.and_eq_true] at hB
    obtain ⟨⟨hr, hf⟩, hB'⟩ := hB
    have hkn : k < n := by simp only [List.length_cons] at hk; omega
    have hr' : k ∈ Region.ready md ops listed := by simpa using hr
    refine headS_first hl hw h0 (Region.noSelect_spec hsel) hs hc hn hkn (fun listed' a' hL => seqB_ready hL.1) l.length listed a inv (Region.free_spec h0 hf) hr' ?_
    refine sOp_mono (fun a' h' => ?_) (sOp_of_soft h0 hm h)
    exact headS_lex hl hw hsel hs hc hn l Ms (k + 1) _ _ (fun j hj => by have := hl' (j + 1) (by simp; omega); simpa [Nat.add_assoc, Nat.add_comm 1 j] using this)
      (fun j hj => by have := hM (j + 1) (by simp; omega); simpa [Nat.add_assoc, Nat.add_comm 1 j] using this) (by simp only [List.length_cons] at hk; omega) (inv.set hr' hkn) hB' h'

/-- The facts, all together, of a state. -/
def facts (l : List Oper) (F : Nat → Value → World → Prop) (a : Act) (w : World) : List Nat → Prop
  | [] => True
  | k :: ks => (match (l[k]?).bind (·.dst) with | some d => F k (a.tmps.getD d undef) w | none => True) ∧ facts l F a w ks
theorem facts_of {l : List Oper} {a : Act} {w : World} {listed : Array Bool} (hG : Good l.toArray C T F listed a w) : ∀ ks : List Nat, (∀ k ∈ ks, k ∈ T ∧ listed.getD k false = true) → facts l F a w ks
  | [], _ => trivial
  | k :: ks, h => by
    refine ⟨?_, facts_of hG ks (fun k' hk' => h k' (List.mem_cons_of_mem _ hk'))⟩
    obtain ⟨hT, hL⟩ := h k (List.mem_cons_self ..)
    cases ho : l[k]? with
    | none => simp
    | some o =>
      cases hd : o.dst with
      | none => simp [hd]
      | some d =>
        simp only [Option.bind_some, hd]
        exact hG.facts k hL hT o d (by simpa using ho) hd

def roomB (l : List Oper) (T : List Nat) (N : Nat) : Bool := T.all fun k => match (l[k]?).bind (·.dst) with | some d => decide (d < N) | none => true

/-- **THE REGION**: its first n operations in whatever order, the rest in theirs; of the operations T facts are told. -/
theorem wp_region_facts {id : Nat} {Q : Exit → Act → World → Prop} {a : Act} {w : World} {l : List Oper} (n : Nat) {Ms : List (Option (Value → Prop))} (hm : P.follows .mixedOrders = true) (hB : (Region.lexTailB .any l.toArray n && loneB l.toArray T && T.all fun k => decide (k < n)) = true) (hR : roomB l T a.tmps.size = true)
    (hC : C { w with drawn := w.drawn + 1 }) (hP : keeps C R T F)
    (h : wpSoft P l.toArray .any C R T F (fun a' => ∀ w', C w' → facts l F a' w' T → wpList P l.toArray Q (l.drop n) a' w') 0 (l.take n) Ms a) : (Code.region id l.toArray true).wp P Q a w := by
  simp only [Bool.and_eq_true] at hB
  obtain ⟨⟨hB, hlone⟩, hTn⟩ := hB
  have hl := lone_of hlone
  simp only [Region.lexTailB, Bool.and_eq_true, decide_eq_true_eq] at hB
  obtain ⟨⟨⟨⟨hsel, hn⟩, hs⟩, hc⟩, hlex⟩ := hB
  have hn' : n < l.length := by simpa using hn
  have htl : (l.take n).length = n := by simp; omega
  have hdl : (l.drop n).length = l.toArray.size - n := by simp
  have inv0 : HeadInv .any l.toArray n (Array.replicate l.toArray.size false) :=
    ⟨by simp, fun j oj _ hl => (by rw [getD_replicate_false] at hl; cases hl), fun t _ ht => getD_in (by simpa using ht) (getD_replicate_false _ _)⟩
  have H := headS_lex (md := .any) (M := fun i => Ms.getD i none) (g := l.toArray.size - n) hl hC hsel hs hc hn (l.take n) Ms 0 _ a (fun j hj => by
    have hj' : j < n := by rw [htl] at hj; exact hj
    simp [hj']) (fun j _ => by simp) (by simpa using htl) inv0 (by rw [htl]; exact hlex) h
  refine wp_region_any hm ?_
  have hG0 : Good l.toArray C T F (Array.replicate l.toArray.size false) a { w with drawn := w.drawn + 1 } := by
    refine ⟨hC, fun k hk => (by rw [getD_replicate_false] at hk; cases hk), fun k hkT o d ho hd => ?_⟩
    have h1 := List.all_eq_true.1 hR k hkT
    have ho' : l[k]? = some o := by simpa using ho
    simpa [ho', hd] using h1
  have := wpAny_of_headS (Q' := Q) (g := l.toArray.size - n) hl hP (fun listed a' w' hv' hw' hL => by
    have hdone : ∀ k, k < n → listed.getD k false = true := by
      intro k hk
      cases hf : listed.getD k true with
      | true =>
        have hks : k < listed.size := by rw [hv'.size]; omega
        cases hff : listed.getD k false with
        | true => rfl
        | false => rw [getD_in hks hff] at hf; cases hf
      | false =>
        have h1 := tail_waits hs hc hn hv' _ k rfl hk hf n (Nat.le_refl _)
        have h2 : Region.ready .any l.toArray listed = [n] := by
          have h3 := hL.1
          rw [show l.toArray.size - n = (l.toArray.size - n - 1) + 1 by omega] at h3
          simp only [Region.seqB, Bool.and_eq_true, decide_eq_true_eq] at h3
          exact h3.1
        rw [h2] at h1
        simp at h1
    have hfacts : facts l F a' w' T := facts_of hw' T (fun k hk => ⟨hk, hdone k (by simpa using List.all_eq_true.1 hTn k hk)⟩)
    have := wpAny_of_seq (md := .any) (Q' := Q) (l.drop n) n listed a' w' (fun j => by simp [List.getElem?_drop]) (by rw [hdl]; exact hL.1) (hL.2 w' hw'.cls hfacts)
    rwa [hdl] at this) _ _ _ _ inv0 hG0 H
  rw [htl, show n + (l.toArray.size - n) = l.toArray.size by omega] at this
  exact this
end
end Go.Soft2
