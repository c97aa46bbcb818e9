/- Floats up to the bits of a NaN: plain laws, and the walk's laws. -/
import Derived.WalkKit
import Derived.WalkLawsBesides
import Derived.Deep.Draws
import Derived.Laws.FloatArith
namespace Go.Fx
open Go

/-- The canonical NaN. -/
def qn : FloatKind → Nat
  | .f32 => 0x7fc00000
  | .f64 => 0x7ff8000000000000
def isN (k : FloatKind) (x : Nat) : Bool := (k.format.read x).isNaN
/-- The number without the bits of a NaN. -/
def cz (k : FloatKind) (x : Nat) : Nat := if isN k x then qn k else x
theorem isN_qn (k : FloatKind) : isN k (qn k) = true := by cases k <;> decide +kernel
theorem isN_cz (k : FloatKind) (x : Nat) : isN k (cz k x) = isN k x := by
  unfold cz; split
  · rename_i h; rw [h, isN_qn]
  · rfl
theorem cz_cz (k : FloatKind) (x : Nat) : cz k (cz k x) = cz k x := by
  rw [cz, isN_cz]; split
  · rename_i h; simp [cz, h]
  · rfl
theorem cz_nan {k : FloatKind} {x : Nat} (h : isN k x = true) : cz k x = qn k := by simp [cz, h]
theorem cz_num {k : FloatKind} {x : Nat} (h : isN k x = false) : cz k x = x := by simp [cz, h]
theorem cz_qn (k : FloatKind) : cz k (qn k) = qn k := cz_nan (isN_qn k)

theorem isNaN_read {k : FloatKind} {x : Nat} (h : isN k x = true) : ∃ s t, k.format.read x = .nan s t := by
  unfold isN at h
  cases hr : k.format.read x with
  | nan s t => exact ⟨s, t, rfl⟩
  | number s m e => rw [hr] at h; exact absurd h (by simp [Ieee.Datum.isNaN])
  | infinity s => rw [hr] at h; exact absurd h (by simp [Ieee.Datum.isNaN])

theorem sum_nan_left (s : Bool) (t : Nat) (d : Ieee.Datum) : (Ieee.Datum.nan s t).sum d = none := by cases d <;> rfl
theorem sum_nan_right (s : Bool) (t : Nat) (d : Ieee.Datum) : d.sum (Ieee.Datum.nan s t) = none := by cases d <;> rfl
theorem product_nan_left (s : Bool) (t : Nat) (d : Ieee.Datum) : (Ieee.Datum.nan s t).product d = none := by cases d <;> rfl
theorem product_nan_right (s : Bool) (t : Nat) (d : Ieee.Datum) : d.product (Ieee.Datum.nan s t) = none := by cases d <;> rfl
theorem quotient_nan_left (n : Nat) (s : Bool) (t : Nat) (d : Ieee.Datum) : (Ieee.Datum.nan s t).quotient n d = none := by cases d <;> rfl
theorem quotient_nan_right (n : Nat) (s : Bool) (t : Nat) (d : Ieee.Datum) : d.quotient n (Ieee.Datum.nan s t) = none := by cases d <;> rfl

theorem floatBits_nan_left {op : BinOp} {k : FloatKind} {x y : Nat} (h : isN k x = true) : floatBits op k x y = none := by
  obtain ⟨s, t, h⟩ := isNaN_read h
  cases op <;> simp [floatBits, Ieee.Format.add, Ieee.Format.sub, Ieee.Format.mul, Ieee.Format.div, h, sum_nan_left, product_nan_left, quotient_nan_left]
theorem floatBits_nan_right {op : BinOp} {k : FloatKind} {x y : Nat} (h : isN k y = true) : floatBits op k x y = none := by
  obtain ⟨s, t, h⟩ := isNaN_read h
  cases op <;> simp [floatBits, Ieee.Format.add, Ieee.Format.sub, Ieee.Format.mul, Ieee.Format.div, h, sum_nan_right, product_nan_right, quotient_nan_right, Ieee.Datum.opposite]
theorem floatBits_cz (op : BinOp) (k : FloatKind) (x y : Nat) : floatBits op k (cz k x) (cz k y) = floatBits op k x y := by
  cases hx : isN k x
  · rw [cz_num hx]
    cases hy : isN k y
    · rw [cz_num hy]
    · rw [floatBits_nan_right hy, floatBits_nan_right (by rw [isN_cz, hy])]
  · rw [floatBits_nan_left hx, floatBits_nan_left (by rw [isN_cz, hx])]

/-- The four operations; a NaN is the canonical one. -/
def fop (op : BinOp) (k : FloatKind) (x y : Nat) : Nat := cz k ((floatBits op k x y).getD (qn k))
theorem fop_cz (op : BinOp) (k : FloatKind) (x y : Nat) : fop op k (cz k x) (cz k y) = fop op k x y := by unfold fop; rw [floatBits_cz]
theorem cz_fop (op : BinOp) (k : FloatKind) (x y : Nat) : cz k (fop op k x y) = fop op k x y := cz_cz _ _

/-- What a NaN that is drawn is: a NaN. -/
theorem isN_draw32 (t : Nat) : isN .f32 ((t % 2) * 2 ^ 31 + 0x7f800000 + 1 + (t / 2) % (2 ^ 23 - 1)) = true := by
  have h1 : (t / 2) % (2 ^ 23 - 1) < 2 ^ 23 - 1 := Nat.mod_lt _ (by decide)
  have h2 : t % 2 < 2 := Nat.mod_lt _ (by decide)
  generalize (t / 2) % (2 ^ 23 - 1) = m at *
  generalize t % 2 = s at *
  have hs : Ieee.single.signWeight = 2147483648 := by decide
  have hb : Ieee.single.binade = 8388608 := by decide
  have hi : Ieee.single.infRung = 2139095040 := by decide
  have e : (s * 2 ^ 31 + 0x7f800000 + 1 + m) % 2147483648 = 2139095041 + m := by omega
  show (Ieee.single.read _).isNaN = true
  unfold Ieee.Format.read
  simp only [hs, hb, hi, e]
  rw [if_neg (by omega), if_neg (by omega), if_neg (by omega)]
  rfl
theorem isN_draw64 (t : Nat) : isN .f64 ((t % 2) * 2 ^ 63 + 0x7ff0000000000000 + 1 + (t / 2) % (2 ^ 52 - 1)) = true := by
  have h1 : (t / 2) % (2 ^ 52 - 1) < 2 ^ 52 - 1 := Nat.mod_lt _ (by decide)
  have h2 : t % 2 < 2 := Nat.mod_lt _ (by decide)
  generalize (t / 2) % (2 ^ 52 - 1) = m at *
  generalize t % 2 = s at *
  have hs : Ieee.double.signWeight = 9223372036854775808 := by decide +kernel
  have hb : Ieee.double.binade = 4503599627370496 := by decide +kernel
  have hi : Ieee.double.infRung = 9218868437227405312 := by decide +kernel
  have e : (s * 2 ^ 63 + 0x7ff0000000000000 + 1 + m) % 9223372036854775808 = 9218868437227405313 + m := by omega
  show (Ieee.double.read _).isNaN = true
  unfold Ieee.Format.read
  simp only [hs, hb, hi, e]
  rw [if_neg (by omega), if_neg (by omega), if_neg (by omega)]
  rfl
theorem isN_nanBits (k : FloatKind) (x y t : Nat) : isN k ((Question.nanBits k x y).cut t) = true := by
  cases k
  · exact isN_draw32 t
  · exact isN_draw64 t
theorem isN_nanConv (k : FloatKind) (x t : Nat) : isN k ((Question.nanConv k x).cut t) = true := by
  cases k
  · exact isN_draw32 t
  · exact isN_draw64 t

theorem lt_nanBits (k : FloatKind) (x y t : Nat) : (Question.nanBits k x y).cut t < 2 ^ k.format.width := by
  cases k
  · show (t % 2) * 2 ^ 31 + 0x7f800000 + 1 + (t / 2) % (2 ^ 23 - 1) < 2 ^ 32
    have h1 : (t / 2) % (2 ^ 23 - 1) < 2 ^ 23 - 1 := Nat.mod_lt _ (by decide)
    omega
  · show (t % 2) * 2 ^ 63 + 0x7ff0000000000000 + 1 + (t / 2) % (2 ^ 52 - 1) < 2 ^ 64
    have h1 : (t / 2) % (2 ^ 52 - 1) < 2 ^ 52 - 1 := Nat.mod_lt _ (by decide)
    omega
theorem lt_nanConv (k : FloatKind) (x t : Nat) : (Question.nanConv k x).cut t < 2 ^ k.format.width := by
  have := lt_nanBits k x x t
  cases k <;> exact this

/-- 'r' are bits of the number 'e', which is canonical. -/
structure FE (k : FloatKind) (r e : Nat) : Prop where
  cz : cz k r = e
  lt : r < 2 ^ k.format.width
theorem FE.canon {k : FloatKind} {r e : Nat} (h : FE k r e) : Fx.cz k e = e := by rw [← h.cz, cz_cz]
theorem FE.self {k : FloatKind} {r : Nat} (h : r < 2 ^ k.format.width) : FE k r (Fx.cz k r) := ⟨rfl, h⟩
theorem FE.wf {k : FloatKind} {r : Nat} (h : (Lit.float k r).wf = true) : FE k r (Fx.cz k r) := ⟨rfl, by cases k <;> (simp [Lit.wf] at h; exact h)⟩
/-- A constant that is no NaN. -/
theorem FE.lit {k : FloatKind} {r : Nat} (h : (decide (r < 2 ^ k.format.width) && !isN k r) = true) : FE k r r := by
  simp only [Bool.and_eq_true, decide_eq_true_eq, Bool.not_eq_true'] at h
  exact ⟨cz_num h.2, h.1⟩

def arith : BinOp → Bool
  | .add | .sub | .mul | .quo => true
  | _ => false
/-- '+', '-', '*', '/' on two floats: some bits, after some draws. -/
theorem run_fop {P : Program} (w : World) (op : BinOp) (hop : arith op = true) (t : TypeId) (k : FloatKind) (x y A B : Nat) (hA : FE k x A) (hB : FE k y B) :
    ∃ r n, (binOp op t (.float k x) (.float k y)).run P w = .ok (.float k r) (w.drewN n) ∧ FE k r (fop op k A B) := by
  rw [← hA.cz, ← hB.cz, fop_cz]
  cases h : floatBits op k x y with
  | some r =>
    refine ⟨r, 0, run_float_arith w op t k x y r h, ?_, ?_⟩
    · rw [fop, h]; rfl
    · have := floatBits_wf h
      cases k <;> (simp [Lit.wf] at this; exact this)
  | none =>
    refine ⟨(Question.nanBits k x y).cut (w.tape w.drawn (Question.nanBits k x y)), 1, ?_, ?_, ?_⟩
    · unfold floatBits at h
      cases op <;> simp only [arith, Bool.false_eq_true] at hop
      all_goals
        simp [binOp, Op.floatArith, h, choose, Question.forced, World.drewN]
        rfl
    · rw [fop, h, cz_nan (isN_nanBits k x y _)]
      exact (cz_qn k).symm
    · exact lt_nanBits k x y _

theorem eqGuard_float {P : Program} (w : World) (op : BinOp) (t : TypeId) (x y : Operand) (k : FloatKind) (p q : Nat) :
    (eqGuard op t x y (.float k p) (.float k q)).run P w = .ok () w := by
  cases op <;> simp [eqGuard]

section
variable {P : Program} {ops : Array Oper} {Q : Exit → Act → World → Prop} {rest : List Oper} {a : Act} {w : World} {dst : Option Tmp} {op : BinOp} {t t' ty : TypeId} {x y : Operand} {pos : String} {after : Array Edge}
theorem wpList_fop {guard : Option (Nat × Bool)}
    (hw : Region.wanted ⟨dst, .binOp op t x y t', ty, pos, after, guard⟩ (yielded ops a.tmps) = true) (hop : arith op = true) {k : FloatKind} {p q A B : Nat} (hx : a.eval x = .float k p) (hy : a.eval y = .float k q) (hA : FE k p A) (hB : FE k q B)
    (h : ∀ r n, FE k r (fop op k A B) → wpList P ops Q rest (a.put dst (.float k r)) (w.drewN n)) :
    wpList P ops Q (⟨dst, .binOp op t x y t', ty, pos, after, guard⟩ :: rest) a w := by
  refine wpList_step fun K hK => ?_
  rw [if_pos hw]
  obtain ⟨r, n, hr, he⟩ := run_fop (P := P) w op hop t k p q A B hA hB
  have := h r n he
  simp [Oper.wp, execOp, hx, hy, eqGuard_float, hr, Oper.upon]
  exact hK _ _ this

/-- The six comparisons. -/
def fcmp (op : BinOp) (k : FloatKind) (x y : Nat) : Bool :=
  let c := k.format.order x y
  match op with
  | .eql => c == some .eq
  | .neq => c != some .eq
  | .lss => c == some .lt
  | .leq => c == some .lt || c == some .eq
  | .gtr => c == some .gt
  | _ => c == some .gt || c == some .eq
def isCmp : BinOp → Bool
  | .eql | .neq | .lss | .leq | .gtr | .geq => true
  | _ => false
theorem order_nan_left {k : FloatKind} {x y : Nat} (h : isN k x = true) : k.format.order x y = none := by
  obtain ⟨s, t, h⟩ := isNaN_read h
  rw [Ieee.Format.order, h]; cases k.format.read y <;> rfl
theorem order_nan_right {k : FloatKind} {x y : Nat} (h : isN k y = true) : k.format.order x y = none := by
  obtain ⟨s, t, h⟩ := isNaN_read h
  rw [Ieee.Format.order, h]; cases k.format.read x <;> rfl
theorem order_cz (k : FloatKind) (x y : Nat) : k.format.order (cz k x) (cz k y) = k.format.order x y := by
  cases hx : isN k x
  · rw [cz_num hx]
    cases hy : isN k y
    · rw [cz_num hy]
    · rw [order_nan_right hy, order_nan_right (by rw [isN_cz, hy])]
  · rw [order_nan_left hx, order_nan_left (by rw [isN_cz, hx])]
theorem fcmp_cz (op : BinOp) (k : FloatKind) (x y : Nat) : fcmp op k (cz k x) (cz k y) = fcmp op k x y := by
  unfold fcmp; rw [order_cz]
theorem compare_self (x : Int) : compare x x = .eq := by simp
theorem order_self {k : FloatKind} {x : Nat} (h : isN k x = false) : k.format.order x x = some .eq := by
  unfold isN at h
  unfold Ieee.Format.order
  cases hr : k.format.read x with
  | nan s t => rw [hr] at h; simp [Ieee.Datum.isNaN] at h
  | infinity s => simp [Ieee.Datum.order]
  | number s m e => simp [Ieee.Datum.order]
theorem fcmp_neq_self {k : FloatKind} {x : Nat} (h : isN k x = false) : fcmp .neq k x x = false := by simp [fcmp, order_self h]
theorem fcmp_eql_self {k : FloatKind} {x : Nat} (h : isN k x = false) : fcmp .eql k x x = true := by simp [fcmp, order_self h]
theorem fcmp_neq_nan {k : FloatKind} {x : Nat} (h : isN k x = true) : fcmp .neq k x x = true := by simp [fcmp, order_nan_left h]
theorem run_fcmp {P : Program} (w : World) (op : BinOp) (hop : isCmp op = true) (t : TypeId) (k : FloatKind) (x y A B : Nat) (hA : FE k x A) (hB : FE k y B) :
    (binOp op t (.float k x) (.float k y)).run P w = .ok (.bool (fcmp op k A B)) w := by
  rw [← hA.cz, ← hB.cz, fcmp_cz]
  cases op <;> simp only [isCmp, Bool.false_eq_true] at hop <;> simp [binOp, Op.floatCmp, fcmp]
theorem wpList_fcmp {guard : Option (Nat × Bool)}
    (hw : Region.wanted ⟨dst, .binOp op t x y t', ty, pos, after, guard⟩ (yielded ops a.tmps) = true) (hop : isCmp op = true) {k : FloatKind} {p q A B : Nat} {b : Bool} (hx : a.eval x = .float k p) (hy : a.eval y = .float k q) (hA : FE k p A) (hB : FE k q B) (hb : fcmp op k A B = b)
    (h : wpList P ops Q rest (a.put dst (.bool b)) w) :
    wpList P ops Q (⟨dst, .binOp op t x y t', ty, pos, after, guard⟩ :: rest) a w := by
  refine wpList_step fun K hK => ?_
  rw [if_pos hw]
  have hr := run_fcmp (P := P) w op hop t k p q A B hA hB
  simp [Oper.wp, execOp, hx, hy, eqGuard_float, hr, Oper.upon, hb]
  exact hK _ _ h
end

/-! ### Conversions -/
theorem single_read_number {p : Nat} {s : Bool} {m : Nat} {e : Int} (h : Ieee.single.read p = .number s m e) : m < 2 ^ 24 ∧ -149 ≤ e ∧ e ≤ 104 := by
  have hs : Ieee.single.signWeight = 2147483648 := by decide
  have hb : Ieee.single.binade = 8388608 := by decide
  have hi : Ieee.single.infRung = 2139095040 := by decide
  have hl : Ieee.single.leastPlace = -149 := by decide
  unfold Ieee.Format.read at h
  simp only [hs, hb, hi, hl] at h
  generalize p % 2147483648 = r at h
  split at h
  · cases h; omega
  · split at h
    · cases h; omega
    · split at h <;> cases h

theorem cut_zero (way : Ieee.Toward) (neg : Bool) (n : Nat) : way.cut neg n 0 = n := by
  unfold Ieee.Toward.cut
  have h1 : (1 <<< min 0 (n.log2 + 2)) = 1 := by simp
  rw [h1]
  cases way <;> simp [Nat.mod_one]

theorem read_word_finite {f : Ieee.Format} {neg : Bool} {r : Nat} (h : r < f.infRung) : (f.read (f.word neg r)).isInfinity = false ∧ (f.read (f.word neg r)).isNaN = false := by
  have h1 := f.infRung_lt
  have e : f.word neg r % f.signWeight = r := by
    unfold Ieee.Format.word
    split
    · rw [Nat.add_mod_left, Nat.mod_eq_of_lt (by omega)]
    · rw [Nat.mod_eq_of_lt (by omega)]
  unfold Ieee.Format.read
  simp only [e]
  split
  · exact ⟨rfl, rfl⟩
  · exact ⟨rfl, rfl⟩

theorem widen_fits {p : Nat} {s : Bool} {m : Nat} {e : Int} (h : Ieee.single.read p = .number s m e) :
    ∃ r, r < Ieee.double.infRung ∧ Ieee.double.write (.number s m e) = Ieee.double.word s r := by
  obtain ⟨hm, he1, he2⟩ := single_read_number h
  have hb : Ieee.double.binade = 4503599627370496 := by decide +kernel
  have hi : Ieee.double.infRung = 9218868437227405312 := by decide +kernel
  have hl : Ieee.double.leastPlace = -1074 := by decide +kernel
  have hf : Ieee.double.fractionBits = 52 := rfl
  show ∃ r, _ ∧ Ieee.double.nearest s m e = _
  unfold Ieee.Format.nearest
  by_cases h0 : m = 0
  · rw [if_pos h0]
    exact ⟨0, by rw [hi]; omega, rfl⟩
  · rw [if_neg h0]
    have hL : m.log2 < 24 := (Nat.log2_lt h0).2 hm
    have hup : m < 2 ^ (m.log2 + 1) := Nat.lt_log2_self
    generalize m.log2 = L at *
    simp only [hl, hf]
    have e1 : max (e + (L : Int) - ((52 : Nat) : Int)) (-1074) = e + L - 52 := by omega
    rw [e1]
    have e2 : ((e + (L : Int) - 52) - e).toNat = 0 := by omega
    have e3 : (e - (e + (L : Int) - 52)).toNat = 52 - L := by omega
    rw [e2, e3, cut_zero, Nat.shiftLeft_eq]
    have hk : m * 2 ^ (52 - L) < 2 ^ 53 := by
      have : 2 ^ (L + 1) * 2 ^ (52 - L) = 2 ^ 53 := by rw [← Nat.pow_add]; congr 1; omega
      rw [← this]
      exact Nat.mul_lt_mul_of_pos_right hup (Nat.two_pow_pos _)
    generalize m * 2 ^ (52 - L) = K at *
    have e4 : (e + (L : Int) - 52 - -1074).toNat ≤ 1149 := by omega
    generalize (e + (L : Int) - 52 - -1074).toNat = T at *
    have h6 : T * Ieee.double.binade + K < Ieee.double.infRung := by rw [hb, hi]; omega
    exact ⟨T * Ieee.double.binade + K, h6, by rw [Nat.min_eq_left (Nat.le_of_lt h6)]⟩

/-- A float32 as a float64; a NaN is the canonical one. -/
def widen (x : Nat) : Nat := cz .f64 ((floatToFloatBits .f32 x .f64).getD (qn .f64))
theorem widen_num {p : Nat} {s : Bool} {m : Nat} {e : Int} (h : Ieee.single.read p = .number s m e) : floatToFloatBits .f32 p .f64 = some (Ieee.double.write (.number s m e)) := by
  obtain ⟨r, hr, hw⟩ := widen_fits h
  have hd : FloatKind.decode .f32 p = .number s m e := h
  have he : FloatKind.encode .f64 (.number s m e) = Ieee.double.word s r := hw
  have h2 : FloatKind.decode .f64 (Ieee.double.word s r) = Ieee.double.read (Ieee.double.word s r) := rfl
  unfold floatToFloatBits
  rw [if_neg (by decide), hd]
  simp only [he, h2, (read_word_finite hr).1]
  rw [hw]; rfl
theorem run_widen {P : Program} (w : World) (src dst : TypeId) (hs : P.underlying src = some (.float .f32)) (hd : P.underlying dst = some (.float .f64)) (x A : Nat) (hA : FE .f32 x A) :
    ∃ r n, (convert src dst (.float .f32 x)).run P w = .ok (.float .f64 r) (w.drewN n) ∧ FE .f64 r (widen A) := by
  cases hr : Ieee.single.read x with
  | nan s t =>
    have hn : isN .f32 x = true := by unfold isN; show (Ieee.single.read x).isNaN = true; rw [hr]; rfl
    have hAq : A = qn .f32 := by rw [← hA.cz, cz_nan hn]
    refine ⟨(Question.nanConv .f64 x).cut (w.tape w.drawn (Question.nanConv .f64 x)), 1, ?_, ?_, lt_nanConv _ _ _⟩
    · have hd' : FloatKind.decode .f32 x = .nan s t := hr
      simp [convert, run_underlying hs, run_underlying hd, Conv.floatToFloat, hd', choose, Question.forced, World.drewN]
      rfl
    · rw [cz_nan (isN_nanConv .f64 x _), hAq]
      decide +kernel
  | infinity s =>
    have hn : isN .f32 x = false := by unfold isN; show (Ieee.single.read x).isNaN = false; rw [hr]; rfl
    have hAx : A = x := by rw [← hA.cz, cz_num hn]
    have hb : floatToFloatBits .f32 x .f64 = some (Ieee.double.write (.infinity s)) := by
      have hd' : FloatKind.decode .f32 x = .infinity s := hr
      unfold floatToFloatBits; rw [if_neg (by decide), hd']; rfl
    refine ⟨_, 0, run_convert_float_float w src dst .f32 .f64 x _ (by rw [hs]; rfl) hd hb, ?_, ?_⟩
    · rw [hAx, widen, hb]; rfl
    · have := floatToFloatBits_wf (by have := hA.lt; simp [Lit.wf]; exact this) hb
      simp [Lit.wf] at this; exact this
  | number s m e =>
    have hn : isN .f32 x = false := by unfold isN; show (Ieee.single.read x).isNaN = false; rw [hr]; rfl
    have hAx : A = x := by rw [← hA.cz, cz_num hn]
    have hb := widen_num hr
    refine ⟨_, 0, run_convert_float_float w src dst .f32 .f64 x _ (by rw [hs]; rfl) hd hb, ?_, ?_⟩
    · rw [hAx, widen, hb]; rfl
    · have := floatToFloatBits_wf (by have := hA.lt; simp [Lit.wf]; exact this) hb
      simp [Lit.wf] at this; exact this

/-- '-x'; a NaN is the canonical one. -/
def fneg (k : FloatKind) (x : Nat) : Nat := cz k (Op.negFloat k x)
theorem xor_two_pow (x n : Nat) : (x ^^^ 2 ^ n) % 2 ^ n = x % 2 ^ n := by
  apply Nat.eq_of_testBit_eq
  intro i
  simp only [Nat.testBit_mod_two_pow, Nat.testBit_xor, Nat.testBit_two_pow]
  by_cases h : i < n
  · have : ¬ n = i := by omega
    simp [h, this]
  · simp [h]
theorem isN_neg (k : FloatKind) (x : Nat) : isN k (Op.negFloat k x) = isN k x := by
  unfold isN Op.negFloat Ieee.Format.read
  have e : (x ^^^ 2 ^ (k.format.exponentBits + k.format.fractionBits)) % k.format.signWeight = x % k.format.signWeight := xor_two_pow _ _
  simp only [e]
  split
  · rfl
  · split
    · rfl
    · split <;> rfl
theorem fneg_cz (k : FloatKind) (x : Nat) : fneg k (cz k x) = fneg k x := by
  unfold fneg
  cases h : isN k x
  · rw [cz_num h]
  · rw [cz_nan (by rw [isN_neg, isN_cz, h]), cz_nan (by rw [isN_neg, h])]
theorem neg_lt {k : FloatKind} {x : Nat} (h : x < 2 ^ k.format.width) : Op.negFloat k x < 2 ^ k.format.width := by
  unfold Op.negFloat
  refine Nat.xor_lt_two_pow h ?_
  refine Nat.pow_lt_pow_right (by omega) ?_
  unfold Ieee.Format.width; omega
theorem FE.neg {k : FloatKind} {r e : Nat} (h : FE k r e) : FE k (Op.negFloat k r) (fneg k e) := ⟨by rw [← h.cz, fneg_cz]; rfl, neg_lt h.lt⟩

theorem isN_nearest (f : Ieee.Format) (s : Bool) (m : Nat) (e : Int) : (f.read (f.nearest s m e)).isNaN = false := by
  have hle : ∀ r, r ≤ f.infRung → (f.read (f.word s r)).isNaN = false := by
    intro r hr
    rcases Nat.lt_or_ge r f.infRung with h | h
    · exact (read_word_finite h).2
    · have : r = f.infRung := by omega
      subst this
      have h1 := f.infRung_lt
      have e : f.word s f.infRung % f.signWeight = f.infRung := by
        unfold Ieee.Format.word
        split
        · rw [Nat.add_mod_left, Nat.mod_eq_of_lt (by omega)]
        · rw [Nat.mod_eq_of_lt (by omega)]
      unfold Ieee.Format.read
      simp only [e]
      split
      · rfl
      · rw [if_neg (by omega)]; simp [Ieee.Datum.isNaN]
  unfold Ieee.Format.nearest
  split
  · exact hle 0 (Nat.zero_le _)
  · exact hle _ (Nat.min_le_right ..)
theorem isN_ofInt (k : FloatKind) (n : Int) : isN k (floatOfInt k n) = false := isN_nearest k.format (n < 0) n.natAbs 0
/-- An int as a float. -/
theorem FE.ofInt (k : FloatKind) (n : Int) : FE k (floatOfInt k n) (floatOfInt k n) := by
  refine ⟨cz_num (isN_ofInt k n), ?_⟩
  have := floatOfInt_wf k n
  cases k <;> (simp [Lit.wf] at this; exact this)

section
variable {P : Program} {ops : Array Oper} {Q : Exit → Act → World → Prop} {rest : List Oper} {a : Act} {w : World} {dst : Option Tmp} {t t' ty : TypeId} {x : Operand} {pos : String} {after : Array Edge} {guard : Option (Nat × Bool)}
theorem wpList_widen (hw : Region.wanted ⟨dst, .convert t t' x, ty, pos, after, guard⟩ (yielded ops a.tmps) = true) {p A : Nat} (hs : P.underlying t = some (.float .f32)) (hd : P.underlying t' = some (.float .f64)) (hx : a.eval x = .float .f32 p) (hA : FE .f32 p A)
    (h : ∀ r n, FE .f64 r (widen A) → wpList P ops Q rest (a.put dst (.float .f64 r)) (w.drewN n)) :
    wpList P ops Q (⟨dst, .convert t t' x, ty, pos, after, guard⟩ :: rest) a w := by
  refine wpList_step fun K hK => ?_
  rw [if_pos hw]
  obtain ⟨r, n, hr, he⟩ := run_widen (P := P) w t t' hs hd p A hA
  have := h r n he
  simp [Oper.wp, execOp, hx, hr, Oper.upon]
  exact hK _ _ this
theorem wpList_fneg (hw : Region.wanted ⟨dst, .unOp .neg t x, ty, pos, after, guard⟩ (yielded ops a.tmps) = true) {k : FloatKind} {p A : Nat} (hx : a.eval x = .float k p) (hA : FE k p A)
    (h : ∀ r, FE k r (fneg k A) → wpList P ops Q rest (a.put dst (.float k r)) w) :
    wpList P ops Q (⟨dst, .unOp .neg t x, ty, pos, after, guard⟩ :: rest) a w := by
  refine wpList_step fun K hK => ?_
  rw [if_pos hw]
  have := h _ hA.neg
  simp [Oper.wp, execOp, hx, Op.unary, Oper.upon]
  exact hK _ _ this
end
attribute [irreducible] fop fcmp widen fneg
end Go.Fx
