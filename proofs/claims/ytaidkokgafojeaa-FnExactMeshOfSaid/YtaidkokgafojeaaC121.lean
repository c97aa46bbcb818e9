/- Contracts: the greatest and the least of some floats. MAXREC -/
import Derived.Test.YtaidkokgafojeaaProg
import Derived.Test.YtaidkokgafojeaaC120
import Derived.Deep.LoopGhost
namespace Go.Fx
open Go Go.Soft Go.RowKit
theorem FE.num' {r x : Nat} (h : FE .f32 r x) (hn : isN .f32 x = false) : r = x := by
  have h1 := h.cz
  have h2 : isN .f32 r = false := by rw [← isN_cz, h1]; exact hn
  rw [← h1, cz_num h2]
/-- The greater, the less of two. -/
def gMx (x y : Nat) : Nat := if fkey x < fkey y then y else x
def gMn (x y : Nat) : Nat := if fkey y < fkey x then y else x
/-- Numbers that are no NaN, and told apart by their places. -/
structure ToldF (L : List Nat) : Prop where
  num : ∀ i, i < L.length → isN .f32 (L.getD i 0) = false
  inj : ∀ i j, i < L.length → j < L.length → fkey (L.getD i 0) = fkey (L.getD j 0) → L.getD i 0 = L.getD j 0
def gMxTo (L : List Nat) : Nat → Nat
  | 0 => L.getD 0 0
  | k + 1 => gMx (gMxTo L k) (L.getD (k + 1) 0)
def gMnTo (L : List Nat) : Nat → Nat
  | 0 => L.getD 0 0
  | k + 1 => gMn (gMnTo L k) (L.getD (k + 1) 0)
theorem gMxTo_in (L : List Nat) : ∀ k, k < L.length → ∃ j, j < L.length ∧ gMxTo L k = L.getD j 0
  | 0, h => ⟨0, h, rfl⟩
  | k + 1, h => by
    obtain ⟨j, hj, e⟩ := gMxTo_in L k (by omega)
    show ∃ j, j < L.length ∧ gMx _ _ = _
    unfold gMx
    split
    · exact ⟨k + 1, h, rfl⟩
    · exact ⟨j, hj, e⟩
theorem gMnTo_in (L : List Nat) : ∀ k, k < L.length → ∃ j, j < L.length ∧ gMnTo L k = L.getD j 0
  | 0, h => ⟨0, h, rfl⟩
  | k + 1, h => by
    obtain ⟨j, hj, e⟩ := gMnTo_in L k (by omega)
    show ∃ j, j < L.length ∧ gMn _ _ = _
    unfold gMn
    split
    · exact ⟨k + 1, h, rfl⟩
    · exact ⟨j, hj, e⟩
theorem run_max_f {P : Program} {x y : Nat} (hx : isN .f32 x = false) (hy : isN .f32 y = false) (h : fkey x = fkey y → x = y) (ts : Array TypeId) (t : TypeId) (w : World) : (Builtin.max_ ts t #[.float .f32 x, .float .f32 y]).run P w = .ok (.float .f32 (gMx x y)) w := by
  have ho : FloatKind.f32.format.order x y = some (compare (fkey x) (fkey y)) := order_key hx hy
  unfold gMx
  rcases Int.lt_trichotomy (fkey x) (fkey y) with h1 | h1 | h1
  · rw [Int.compare_eq_lt.2 h1] at ho
    simp [Builtin.max_, Builtin.max2, ho, h1]
  · have e := h h1
    subst e
    rw [Int.compare_eq_eq.2 rfl] at ho
    simp [Builtin.max_, Builtin.max2, ho]
  · rw [Int.compare_eq_gt.2 h1] at ho
    have h2 : ¬ fkey x < fkey y := by omega
    simp [Builtin.max_, Builtin.max2, ho, h2]
theorem run_min_f {P : Program} {x y : Nat} (hx : isN .f32 x = false) (hy : isN .f32 y = false) (h : fkey x = fkey y → x = y) (ts : Array TypeId) (t : TypeId) (w : World) : (Builtin.min_ ts t #[.float .f32 x, .float .f32 y]).run P w = .ok (.float .f32 (gMn x y)) w := by
  have ho : FloatKind.f32.format.order x y = some (compare (fkey x) (fkey y)) := order_key hx hy
  unfold gMn
  rcases Int.lt_trichotomy (fkey x) (fkey y) with h1 | h1 | h1
  · rw [Int.compare_eq_lt.2 h1] at ho
    have h2 : ¬ fkey y < fkey x := by omega
    simp [Builtin.min_, Builtin.min2, ho, h2]
  · have e := h h1
    subst e
    rw [Int.compare_eq_eq.2 rfl] at ho
    simp [Builtin.min_, Builtin.min2, ho]
  · rw [Int.compare_eq_gt.2 h1] at ho
    simp [Builtin.min_, Builtin.min2, ho, h1]
end Go.Fx
namespace Go.Proofs.Ytaidkokgafojeaa
open Go.RowKit Go.Fx Go.Soft
set_option maxRecDepth 20000 in
set_option maxHeartbeats 4000000 in
theorem I_SlMax (a : Option Addr) (c : Nat) (L : List Nat) (w : World) (hs : FSl w a L.length L) (hpos : 0 < L.length) (ht : ToldF L) (hn : L.length ≤ 4096) :
    Calls Try.prog 115 #[.slice a L.length c] w fun e w' => e = .returned (.float .f32 (gMxTo L (L.length - 1))) ∧ w' = w := by
  have HS := Lib.hid hs
  have HT := Lib.hid ht
  obtain ⟨n, hnn⟩ : ∃ n, n = L.length := ⟨_, rfl⟩
  obtain ⟨R, hR⟩ : ∃ R, R = gMxTo L (n - 1) := ⟨_, rfl⟩
  obtain ⟨b, off, rfl⟩ := hs.ptr hpos
  have c0 : w.cell? ⟨b, off, none⟩ = some (.float .f32 (gMxTo L 0)) := by
    obtain ⟨r, hc, hr⟩ := hs.get 0 hpos
    rw [hr.num' (ht.num 0 hpos)] at hc
    exact hc
  rw [← hnn] at hn hpos ⊢
  rw [← hR]
  have HR := Lib.hid hR
  have HN := Lib.hid hnn
  have hn1 : ¬ (n : Int) < 1 := by omega
  clear hs ht hnn hR
  go_enter Try.func115, Try.ntmps115
  go_wp2
  go_loopg [3, 4] n (fun g1 s t wr => ∃ i : Nat, s = .float .f32 (gMxTo L i) ∧ t = .int .i64 ((i + 1 : Nat) : Int) ∧ i < n ∧ g1 = n - i ∧ wr = w)
  case atStart => exact ⟨0, rfl, rfl, hpos, by omega, rfl⟩
  case round =>
    obtain ⟨i, rfl, rfl, hi, rfl, rfl⟩ := hrel
    obtain ⟨i1, hi1⟩ : ∃ i1, i1 = i + 1 := ⟨_, rfl⟩
    have eST := Lib.hid (show gMxTo L (i + 1) = gMx (gMxTo L i) (L.getD (i + 1) 0) from rfl)
    obtain ⟨j, hj, hjm⟩ := gMxTo_in L i (by have := HN.out; omega)
    rw [← hi1] at eST ⊢
    by_cases hin : i1 < n
    · have hin' : i1 < L.length := by have := HN.out; omega
      obtain ⟨r, ci, hr⟩ := HS.out.get i1 hin'
      have er := hr.num' (HT.out.num i1 hin')
      rw [er] at ci
      have hmx := run_max_f (P := Try.prog) (x := gMxTo L i) (y := L.getD i1 0) (by rw [hjm]; exact HT.out.num j hj) (HT.out.num i1 hin') (by rw [hjm]; exact HT.out.inj j i1 hj hin')
      have ki : (i1 : Int) < (n : Int) := by omega
      have wi : IntKind.i64.wrap ((i1 : Int) + 1) = (i1 : Int) + 1 := IntWalk.i64_in _ (by omega)
      have HI1 := Lib.hid hi1
      generalize gMxTo L i = m at *
      generalize L.getD i1 0 = z at *
      generalize hmz : gMx m z = mz at *
      have EZ := Lib.hid (show gMxTo L i1 = mz from eST.out)
      clear eST er hr hj hjm hin' hi1 c0 hmz
      go_wp2
      go_roundg (n - i1)
      case measure => have := HI1.out; omega
      case rel => exact ⟨i1, by rw [EZ.out], by first | rfl | go_num, hin, rfl, rfl⟩
    · have ER := Lib.hid (show R = gMxTo L i by rw [HR.out, show n - 1 = i by omega])
      have HI1 := Lib.hid hi1
      clear eST hj hjm hi1 c0
      go_wp2
      go_ret
      exact ⟨by rw [ER.out]; rfl, rfl⟩
set_option maxRecDepth 20000 in
set_option maxHeartbeats 4000000 in
theorem I_SlMin (a : Option Addr) (c : Nat) (L : List Nat) (w : World) (hs : FSl w a L.length L) (hpos : 0 < L.length) (ht : ToldF L) (hn : L.length ≤ 4096) :
    Calls Try.prog 116 #[.slice a L.length c] w fun e w' => e = .returned (.float .f32 (gMnTo L (L.length - 1))) ∧ w' = w := by
  have HS := Lib.hid hs
  have HT := Lib.hid ht
  obtain ⟨n, hnn⟩ : ∃ n, n = L.length := ⟨_, rfl⟩
  obtain ⟨R, hR⟩ : ∃ R, R = gMnTo L (n - 1) := ⟨_, rfl⟩
  obtain ⟨b, off, rfl⟩ := hs.ptr hpos
  have c0 : w.cell? ⟨b, off, none⟩ = some (.float .f32 (gMnTo L 0)) := by
    obtain ⟨r, hc, hr⟩ := hs.get 0 hpos
    rw [hr.num' (ht.num 0 hpos)] at hc
    exact hc
  rw [← hnn] at hn hpos ⊢
  rw [← hR]
  have HR := Lib.hid hR
  have HN := Lib.hid hnn
  have hn1 : ¬ (n : Int) < 1 := by omega
  clear hs ht hnn hR
  go_enter Try.func116, Try.ntmps116
  go_wp2
  go_loopg [3, 4] n (fun g1 s t wr => ∃ i : Nat, s = .float .f32 (gMnTo L i) ∧ t = .int .i64 ((i + 1 : Nat) : Int) ∧ i < n ∧ g1 = n - i ∧ wr = w)
  case atStart => exact ⟨0, rfl, rfl, hpos, by omega, rfl⟩
  case round =>
    obtain ⟨i, rfl, rfl, hi, rfl, rfl⟩ := hrel
    obtain ⟨i1, hi1⟩ : ∃ i1, i1 = i + 1 := ⟨_, rfl⟩
    have eST := Lib.hid (show gMnTo L (i + 1) = gMn (gMnTo L i) (L.getD (i + 1) 0) from rfl)
    obtain ⟨j, hj, hjm⟩ := gMnTo_in L i (by have := HN.out; omega)
    rw [← hi1] at eST ⊢
    by_cases hin : i1 < n
    · have hin' : i1 < L.length := by have := HN.out; omega
      obtain ⟨r, ci, hr⟩ := HS.out.get i1 hin'
      have er := hr.num' (HT.out.num i1 hin')
      rw [er] at ci
      have hmx := run_min_f (P := Try.prog) (x := gMnTo L i) (y := L.getD i1 0) (by rw [hjm]; exact HT.out.num j hj) (HT.out.num i1 hin') (by rw [hjm]; exact HT.out.inj j i1 hj hin')
      have ki : (i1 : Int) < (n : Int) := by omega
      have wi : IntKind.i64.wrap ((i1 : Int) + 1) = (i1 : Int) + 1 := IntWalk.i64_in _ (by omega)
      have HI1 := Lib.hid hi1
      generalize gMnTo L i = m at *
      generalize L.getD i1 0 = z at *
      generalize hmz : gMn m z = mz at *
      have EZ := Lib.hid (show gMnTo L i1 = mz from eST.out)
      clear eST er hr hj hjm hin' hi1 c0 hmz
      go_wp2
      go_roundg (n - i1)
      case measure => have := HI1.out; omega
      case rel => exact ⟨i1, by rw [EZ.out], by first | rfl | go_num, hin, rfl, rfl⟩
    · have ER := Lib.hid (show R = gMnTo L i by rw [HR.out, show n - 1 = i by omega])
      have HI1 := Lib.hid hi1
      clear eST hj hjm hi1 c0
      go_wp2
      go_ret
      exact ⟨by rw [ER.out]; rfl, rfl⟩
end Go.Proofs.Ytaidkokgafojeaa
