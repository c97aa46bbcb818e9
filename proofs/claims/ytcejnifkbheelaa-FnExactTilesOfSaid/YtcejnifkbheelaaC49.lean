/- Contracts: tiles of a picture. MAXREC -/
import Derived.Test.YtcejnifkbheelaaProg
import Derived.Test.YtcejnifkbheelaaC7
import Derived.Test.YtcejnifkbheelaaC48
import Derived.Test.YtcejnifkbheelaaC3
namespace Go.Proofs.Ytcejnifkbheelaa
open Go.RowKit Go.Fx Go.Soft
/-- The k-th worker's rows, where they begin; how many tiles, and the tiles. -/
def gTlN (q r k : Nat) : Nat := if k < r then q + 1 else q
def gTlFrom (q r : Nat) : Nat → Nat
  | 0 => 0
  | k + 1 => gTlFrom q r k + gTlN q r k
def gTc (q r : Nat) : Nat → Nat
  | 0 => 0
  | k + 1 => if 0 < gTlN q r k then gTc q r k + 1 else gTc q r k
def gTl (q r : Nat) : Nat → List Int
  | 0 => []
  | k + 1 => if 0 < gTlN q r k then gTl q r k ++ [(gTlFrom q r k : Int), (gTlN q r k : Int)] else gTl q r k
theorem gTlN_le (q r k : Nat) : gTlN q r k ≤ q + 1 := by unfold gTlN; split <;> omega
theorem gTlFrom_le (q r : Nat) : ∀ k, gTlFrom q r k ≤ k * (q + 1)
  | 0 => Nat.zero_le _
  | k + 1 => by
    have := gTlFrom_le q r k
    have := gTlN_le q r k
    rw [gTlFrom, Nat.add_mul]; omega
theorem gTc_le (q r : Nat) : ∀ k, gTc q r k ≤ k
  | 0 => Nat.zero_le _
  | k + 1 => by
    have := gTc_le q r k
    rw [gTc]; split <;> omega
theorem gTl_add (q r k c : Nat) (h : gTlN q r k = c) (hc : 0 < c) : gTl q r (k + 1) = gTl q r k ++ [(gTlFrom q r k : Int), (c : Int)] := by
  subst h; rw [gTl, if_pos hc]
theorem gTc_add (q r k c : Nat) (h : gTlN q r k = c) (hc : 0 < c) : gTc q r (k + 1) = gTc q r k + 1 := by
  subst h; rw [gTc, if_pos hc]
theorem gTlFrom_succ (q r k c : Nat) (h : gTlN q r k = c) : gTlFrom q r (k + 1) = gTlFrom q r k + c := by
  subst h; rfl
theorem gTl_skip (r k : Nat) (h : ¬ k < r) : gTl 0 r (k + 1) = gTl 0 r k := by simp [gTl, gTlN, h]
theorem gTc_skip (r k : Nat) (h : ¬ k < r) : gTc 0 r (k + 1) = gTc 0 r k := by simp [gTc, gTlN, h]
def gTok (h m : Int) : Bool := gIn h 1 24 && gIn m 1 8
def gTnt (h m : Int) : Nat := if gTok h m then gTc (h / m).toNat (h % m).toNat m.toNat else 0
def gTL (h m : Int) : List Int := if gTok h m then gTl (h / m).toNat (h % m).toNat m.toNat else []
theorem gTnt_le (h m : Int) : gTnt h m ≤ 8 := by
  unfold gTnt
  split
  · rename_i hk
    have := gTc_le (h / m).toNat (h % m).toNat m.toNat
    have h2 : gIn m 1 8 = true := by unfold gTok at hk; simp at hk; exact hk.2
    have := gIn_true h2
    omega
  · omega
theorem info_tile : (Try.prog.info? 95).map (fun i => (i.zero, i.size, i.bytes)) = some (some (.agg #[.int .i64 0, .int .i64 0]), 2, 16) := by kernel_rfl
set_option maxRecDepth 20000 in
set_option maxHeartbeats 8000000 in
theorem I_TilesOf (h m : Int) (w : World) :
    Calls Try.prog 16 #[.int .i64 h, .int .i64 m] w (PostT w (gTok h m) (gTnt h m) (gTL h m)) := by
  unfold gTnt gTL
  cases h1 : gIn h 1 24
  · have e : gTok h m = false := by simp [gTok, h1]
    rw [e]
    go_enter Try.func16, Try.ntmps16
    go_wp2_with (first
      | (go_at_call 71; with_reducible refine (I_in _ _ _ _).mono ?_; rintro e w' ⟨rfl, hw⟩; subst w'; (try rw [h1])))
    exact bodyPost_ret (v := .tuple #[.slice none 0 0, .bool false]) (by simp [results, Try.results16, go_sem]) rfl ⟨⟨_, rfl, TOwn.nil _ _ _⟩, (by (try show Gr _ _); repeat (with_reducible first | exact Gr.refl _ | refine Gr.drewN ?_ _ | refine Gr.grew ?_ _ _ | refine Gr.alloc ?_ _ | refine Gr.drew ?_))⟩
  cases h2 : gIn m 1 8
  · have e : gTok h m = false := by simp [gTok, h2]
    rw [e]
    go_enter Try.func16, Try.ntmps16
    go_wp2_with (first
      | (go_at_call 71; with_reducible refine (I_in _ _ _ _).mono ?_; rintro e w' ⟨rfl, hw⟩; subst w'; (first | rw [h1] | rw [h2])))
    exact bodyPost_ret (v := .tuple #[.slice none 0 0, .bool false]) (by simp [results, Try.results16, go_sem]) rfl ⟨⟨_, rfl, TOwn.nil _ _ _⟩, (by (try show Gr _ _); repeat (with_reducible first | exact Gr.refl _ | refine Gr.drewN ?_ _ | refine Gr.grew ?_ _ _ | refine Gr.alloc ?_ _ | refine Gr.drew ?_))⟩
  have e : gTok h m = true := by simp [gTok, h1, h2]
  rw [e]
  simp only [if_true]
  have b1 := gIn_true h1
  have b2 := gIn_true h2
  obtain ⟨h, rfl⟩ : ∃ n : Nat, h = n := ⟨h.toNat, by omega⟩
  obtain ⟨m, rfl⟩ : ∃ n : Nat, m = n := ⟨m.toNat, by omega⟩
  obtain ⟨i0, hi, hz0, hz1, hz2⟩ := info_parts info_tile
  have hm0 : (m : Int) ≠ 0 := by omega
  obtain ⟨q, hq⟩ : ∃ q : Nat, (h : Int) / (m : Int) = q := ⟨h / m, by simp⟩
  obtain ⟨r, hr⟩ : ∃ r : Nat, (h : Int) % (m : Int) = r := ⟨h % m, by simp⟩
  have hq24 : q ≤ 24 := by
    have : (h : Int) / (m : Int) ≤ h := Int.ediv_le_self _ (by omega)
    omega
  have hr8 : r ≤ 24 := by
    have := Int.emod_lt_of_pos (h : Int) (show (0 : Int) < m by omega)
    omega
  rw [hq, hr]
  simp only [Int.toNat_natCast]
  go_enter Try.func16, Try.ntmps16
  go_wp2_with (first
      | (go_at_call 71; with_reducible refine (I_in _ _ _ _).mono ?_; rintro e w' ⟨rfl, hw⟩; subst w'; (first | rw [h1] | rw [h2])))
  clear h1 h2 e

  go_wp2
  go_loopw [6, 7, 20] (fun s f i wr => ∃ k : Nat, k ≤ m ∧ i = .int .i64 k ∧ f = .int .i64 (gTlFrom q r k) ∧ TOwn wr w.heap.size 95 s (gTc q r k) (gTl q r k) ∧ Gr w wr) (fun _ _ i _ => m - (intOf i).toNat)
  case atStart => exact ⟨0, Nat.zero_le _, rfl, rfl, TOwn.empty (Blk.atNew (by simp)) (by first | omega | (simp <;> omega)), (by (try show Gr _ _); repeat (with_reducible first | exact Gr.refl _ | refine Gr.drewN ?_ _ | refine Gr.grew ?_ _ _ | refine Gr.alloc ?_ _ | refine Gr.drew ?_))⟩
  case round =>
    obtain ⟨k, hkm, rfl, rfl, ho, hg⟩ := hrel
    have Ho := Lib.hid ho
    have Hg := Lib.hid hg
    clear ho hg
    by_cases hlt : k < m
    · have hfb := gTlFrom_le q r k
      have hcb := gTc_le q r k
      have hkq : k * (q + 1) ≤ 8 * 25 := Nat.mul_le_mul (by omega) (by omega)
      generalize hfe : gTlFrom q r k = fr at *
      by_cases hr : k < r
      · have hS := gTl_add q r k (q + 1) (by simp [gTlN, hr]) (by omega)
        have hC := gTc_add q r k (q + 1) (by simp [gTlN, hr]) (by omega)
        have hF := gTlFrom_succ q r k (q + 1) (by simp [gTlN, hr])
        rw [hfe] at hS hF
        have HS := Lib.hid hS
        have HC := Lib.hid hC
        have HF := Lib.hid hF
        clear hS hC hF hfe
        go_wp2_with (first
      | (apply wpList_append_t (hgd := rfl) (ho := rfl) (i := i0) (ht := Try.underlying22) (hi := hi) (hz := hz0) (hsize := hz1) (hby := hz2); (case hown => exact Ho.out.gr (by repeat (with_reducible first | assumption | exact Gr.refl _ | refine Gr.alloc ?_ _ | refine Gr.grew ?_ _ _ | refine Gr.drewN ?_ _ | refine Gr.drew ?_))); (case hs => rfl); (case hx => rfl); (case hcell => exact (Blk.atNew (by simp)).cellv 0 rfl); (case hcell2 => exact (Blk.atNew (by simp)).cellv 1 rfl); (case hn => omega); (case hB => exact Gr.size (Hg.out.trans (by repeat (with_reducible first | assumption | exact Gr.refl _ | refine Gr.alloc ?_ _ | refine Gr.grew ?_ _ _ | refine Gr.drewN ?_ _ | refine Gr.drew ?_)))); intro v1 w1 ho1 hg1; have HG1 := Lib.hid (Gr.grownBy (Hg.out.trans (by repeat (with_reducible first | assumption | exact Gr.refl _ | refine Gr.alloc ?_ _ | refine Gr.grew ?_ _ _ | refine Gr.drewN ?_ _ | refine Gr.drew ?_))) hg1 (fun k hk => (TOwn.block Ho.out hk).1)); have HO1 := Lib.hid ho1; clear hg1 ho1))
        go_roundw
        case rel => exact ⟨k + 1, by omega, by go_num, by rw [HF.out]; go_num, by rw [HC.out, HS.out]; exact HO1.out, HG1.out⟩
        case measure => simp [intOf]; omega
      · by_cases hq0 : 0 < q
        · have hS := gTl_add q r k q (by simp [gTlN, hr]) (by omega)
          have hC := gTc_add q r k q (by simp [gTlN, hr]) (by omega)
          have hF := gTlFrom_succ q r k q (by simp [gTlN, hr])
          rw [hfe] at hS hF
          have HS := Lib.hid hS
          have HC := Lib.hid hC
          have HF := Lib.hid hF
          clear hS hC hF hfe
          go_wp2_with (first
      | (apply wpList_append_t (hgd := rfl) (ho := rfl) (i := i0) (ht := Try.underlying22) (hi := hi) (hz := hz0) (hsize := hz1) (hby := hz2); (case hown => exact Ho.out.gr (by repeat (with_reducible first | assumption | exact Gr.refl _ | refine Gr.alloc ?_ _ | refine Gr.grew ?_ _ _ | refine Gr.drewN ?_ _ | refine Gr.drew ?_))); (case hs => rfl); (case hx => rfl); (case hcell => exact (Blk.atNew (by simp)).cellv 0 rfl); (case hcell2 => exact (Blk.atNew (by simp)).cellv 1 rfl); (case hn => omega); (case hB => exact Gr.size (Hg.out.trans (by repeat (with_reducible first | assumption | exact Gr.refl _ | refine Gr.alloc ?_ _ | refine Gr.grew ?_ _ _ | refine Gr.drewN ?_ _ | refine Gr.drew ?_)))); intro v1 w1 ho1 hg1; have HG1 := Lib.hid (Gr.grownBy (Hg.out.trans (by repeat (with_reducible first | assumption | exact Gr.refl _ | refine Gr.alloc ?_ _ | refine Gr.grew ?_ _ _ | refine Gr.drewN ?_ _ | refine Gr.drew ?_))) hg1 (fun k hk => (TOwn.block Ho.out hk).1)); have HO1 := Lib.hid ho1; clear hg1 ho1))
          go_roundw
          case rel => exact ⟨k + 1, by omega, by go_num, by rw [HF.out]; go_num, by rw [HC.out, HS.out]; exact HO1.out, HG1.out⟩
          case measure => simp [intOf]; omega
        · obtain rfl : q = 0 := by omega
          have HS := Lib.hid (gTl_skip r k (by omega))
          have HC := Lib.hid (gTc_skip r k (by omega))
          have hF := gTlFrom_succ 0 r k 0 (by simp [gTlN, hr])
          rw [hfe] at hF
          have HF := Lib.hid hF
          clear hF hfe
          go_wp2
          go_roundw
          case rel => exact ⟨k + 1, by omega, by go_num, by rw [HF.out]; go_num, by rw [HC.out, HS.out]; exact Ho.out, Hg.out⟩
          case measure => simp [intOf]; omega
    · obtain rfl : k = m := by omega
      go_wp2
      exact bodyPost_ret (v := .tuple #[u6, .bool true]) (by simp [results, Try.results16, go_sem]) rfl ⟨⟨_, rfl, Ho.out⟩, Hg.out.trans (by (try show Gr _ _); repeat (with_reducible first | exact Gr.refl _ | refine Gr.drewN ?_ _ | refine Gr.grew ?_ _ _ | refine Gr.alloc ?_ _ | refine Gr.drew ?_))⟩
set_option maxRecDepth 20000 in
set_option maxHeartbeats 400000 in
theorem S_l07Workers (n : Int) (w : World) : Calls Try.prog 69 #[.int .i64 n] w fun e w' => e = .returned (.bool (gIn n 1 8)) ∧ w' = w := by
  go_enter Try.func69, Try.ntmps69
  go_wp2_with (first
      | (go_at_call 68; with_reducible refine (S_l00In _ _ _ _).mono ?_; rintro e w' ⟨rfl, hw⟩; subst w'))
  exact bodyPost_ret (v := .bool (gIn n 1 8)) (by simp [results, Try.results69, go_sem]) rfl ⟨rfl, rfl⟩
set_option maxRecDepth 20000 in
set_option maxHeartbeats 8000000 in
theorem S_l07Tiles (h m q r : Nat) (w : World) (hh : h ≤ 24) (hm : 0 < m) (hm8 : m ≤ 8) (hq : (h : Int) / (m : Int) = q) (hr : (h : Int) % (m : Int) = r) (hq24 : q ≤ 24) (hr8 : r ≤ 24) :
    Calls Try.prog 70 #[.int .i64 h, .int .i64 m] w fun e w' => (∃ v, e = .returned v ∧ TOwn w' w.heap.size 95 v (gTc q r m) (gTl q r m)) ∧ Gr w w' := by
  obtain ⟨i0, hi, hz0, hz1, hz2⟩ := info_parts info_tile
  have hm0 : (m : Int) ≠ 0 := by omega
  go_enter Try.func70, Try.ntmps70

  go_wp2
  go_loopw [5, 6, 7] (fun s f i wr => ∃ k : Nat, k ≤ m ∧ i = .int .i64 k ∧ f = .int .i64 (gTlFrom q r k) ∧ TOwn wr w.heap.size 95 s (gTc q r k) (gTl q r k) ∧ Gr w wr) (fun _ _ i _ => m - (intOf i).toNat)
  case atStart => exact ⟨0, Nat.zero_le _, rfl, rfl, TOwn.empty (Blk.atNew (by simp)) (by first | omega | (simp <;> omega)), (by (try show Gr _ _); repeat (with_reducible first | exact Gr.refl _ | refine Gr.drewN ?_ _ | refine Gr.grew ?_ _ _ | refine Gr.alloc ?_ _ | refine Gr.drew ?_))⟩
  case round =>
    obtain ⟨k, hkm, rfl, rfl, ho, hg⟩ := hrel
    have Ho := Lib.hid ho
    have Hg := Lib.hid hg
    clear ho hg
    by_cases hlt : k < m
    · have hfb := gTlFrom_le q r k
      have hcb := gTc_le q r k
      have hkq : k * (q + 1) ≤ 8 * 25 := Nat.mul_le_mul (by omega) (by omega)
      generalize hfe : gTlFrom q r k = fr at *
      by_cases hr : k < r
      · have hS := gTl_add q r k (q + 1) (by simp [gTlN, hr]) (by omega)
        have hC := gTc_add q r k (q + 1) (by simp [gTlN, hr]) (by omega)
        have hF := gTlFrom_succ q r k (q + 1) (by simp [gTlN, hr])
        rw [hfe] at hS hF
        have HS := Lib.hid hS
        have HC := Lib.hid hC
        have HF := Lib.hid hF
        clear hS hC hF hfe
        go_wp2_with (first
      | (apply wpList_append_t (hgd := rfl) (ho := rfl) (i := i0) (ht := Try.underlying22) (hi := hi) (hz := hz0) (hsize := hz1) (hby := hz2); (case hown => exact Ho.out.gr (by repeat (with_reducible first | assumption | exact Gr.refl _ | refine Gr.alloc ?_ _ | refine Gr.grew ?_ _ _ | refine Gr.drewN ?_ _ | refine Gr.drew ?_))); (case hs => rfl); (case hx => rfl); (case hcell => exact (Blk.atNew (by simp)).cellv 0 rfl); (case hcell2 => exact (Blk.atNew (by simp)).cellv 1 rfl); (case hn => omega); (case hB => exact Gr.size (Hg.out.trans (by repeat (with_reducible first | assumption | exact Gr.refl _ | refine Gr.alloc ?_ _ | refine Gr.grew ?_ _ _ | refine Gr.drewN ?_ _ | refine Gr.drew ?_)))); intro v1 w1 ho1 hg1; have HG1 := Lib.hid (Gr.grownBy (Hg.out.trans (by repeat (with_reducible first | assumption | exact Gr.refl _ | refine Gr.alloc ?_ _ | refine Gr.grew ?_ _ _ | refine Gr.drewN ?_ _ | refine Gr.drew ?_))) hg1 (fun k hk => (TOwn.block Ho.out hk).1)); have HO1 := Lib.hid ho1; clear hg1 ho1))
        go_roundw
        case rel => exact ⟨k + 1, by omega, by go_num, by rw [HF.out]; go_num, by rw [HC.out, HS.out]; exact HO1.out, HG1.out⟩
        case measure => simp [intOf]; omega
      · by_cases hq0 : 0 < q
        · have hS := gTl_add q r k q (by simp [gTlN, hr]) (by omega)
          have hC := gTc_add q r k q (by simp [gTlN, hr]) (by omega)
          have hF := gTlFrom_succ q r k q (by simp [gTlN, hr])
          rw [hfe] at hS hF
          have HS := Lib.hid hS
          have HC := Lib.hid hC
          have HF := Lib.hid hF
          clear hS hC hF hfe
          go_wp2_with (first
      | (apply wpList_append_t (hgd := rfl) (ho := rfl) (i := i0) (ht := Try.underlying22) (hi := hi) (hz := hz0) (hsize := hz1) (hby := hz2); (case hown => exact Ho.out.gr (by repeat (with_reducible first | assumption | exact Gr.refl _ | refine Gr.alloc ?_ _ | refine Gr.grew ?_ _ _ | refine Gr.drewN ?_ _ | refine Gr.drew ?_))); (case hs => rfl); (case hx => rfl); (case hcell => exact (Blk.atNew (by simp)).cellv 0 rfl); (case hcell2 => exact (Blk.atNew (by simp)).cellv 1 rfl); (case hn => omega); (case hB => exact Gr.size (Hg.out.trans (by repeat (with_reducible first | assumption | exact Gr.refl _ | refine Gr.alloc ?_ _ | refine Gr.grew ?_ _ _ | refine Gr.drewN ?_ _ | refine Gr.drew ?_)))); intro v1 w1 ho1 hg1; have HG1 := Lib.hid (Gr.grownBy (Hg.out.trans (by repeat (with_reducible first | assumption | exact Gr.refl _ | refine Gr.alloc ?_ _ | refine Gr.grew ?_ _ _ | refine Gr.drewN ?_ _ | refine Gr.drew ?_))) hg1 (fun k hk => (TOwn.block Ho.out hk).1)); have HO1 := Lib.hid ho1; clear hg1 ho1))
          go_roundw
          case rel => exact ⟨k + 1, by omega, by go_num, by rw [HF.out]; go_num, by rw [HC.out, HS.out]; exact HO1.out, HG1.out⟩
          case measure => simp [intOf]; omega
        · obtain rfl : q = 0 := by omega
          have HS := Lib.hid (gTl_skip r k (by omega))
          have HC := Lib.hid (gTc_skip r k (by omega))
          have hF := gTlFrom_succ 0 r k 0 (by simp [gTlN, hr])
          rw [hfe] at hF
          have HF := Lib.hid hF
          clear hF hfe
          go_wp2
          go_roundw
          case rel => exact ⟨k + 1, by omega, by go_num, by rw [HF.out]; go_num, by rw [HC.out, HS.out]; exact Ho.out, Hg.out⟩
          case measure => simp [intOf]; omega
    · obtain rfl : k = m := by omega
      go_wp2
      exact bodyPost_ret (v := u5) (by simp [results, Try.results70, go_sem]) rfl ⟨⟨_, rfl, Ho.out⟩, Hg.out.trans (by (try show Gr _ _); repeat (with_reducible first | exact Gr.refl _ | refine Gr.drewN ?_ _ | refine Gr.grew ?_ _ _ | refine Gr.alloc ?_ _ | refine Gr.drew ?_))⟩
set_option maxRecDepth 20000 in
set_option maxHeartbeats 2000000 in
theorem S_TilesOf (h m : Int) (w : World) :
    Calls Try.prog 15 #[.int .i64 h, .int .i64 m] w (PostT w (gTok h m) (gTnt h m) (gTL h m)) := by
  unfold gTnt gTL
  cases h1 : gIn h 1 24
  · have e : gTok h m = false := by simp [gTok, h1]
    rw [e]
    go_enter Try.func15, Try.ntmps15
    go_wp2_with (first
      | (go_at_call 68; with_reducible refine (S_l00In _ _ _ _).mono ?_; rintro e w' ⟨rfl, hw⟩; subst w'; rw [h1]))
    exact bodyPost_ret (v := .tuple #[.slice none 0 0, .bool false]) (by simp [results, Try.results15, go_sem]) rfl ⟨⟨_, rfl, TOwn.nil _ _ _⟩, (by (try show Gr _ _); repeat (with_reducible first | exact Gr.refl _ | refine Gr.drewN ?_ _ | refine Gr.grew ?_ _ _ | refine Gr.alloc ?_ _ | refine Gr.drew ?_))⟩
  cases h2 : gIn m 1 8
  · have e : gTok h m = false := by simp [gTok, h2]
    rw [e]
    go_enter Try.func15, Try.ntmps15
    go_wp2_with (first
      | (go_at_call 68; with_reducible refine (S_l00In _ _ _ _).mono ?_; rintro e w' ⟨rfl, hw⟩; subst w'; rw [h1])
      | (go_at_call 69; with_reducible refine (S_l07Workers _ _).mono ?_; rintro e w' ⟨rfl, hw⟩; subst w'; rw [h2]))
    exact bodyPost_ret (v := .tuple #[.slice none 0 0, .bool false]) (by simp [results, Try.results15, go_sem]) rfl ⟨⟨_, rfl, TOwn.nil _ _ _⟩, (by (try show Gr _ _); repeat (with_reducible first | exact Gr.refl _ | refine Gr.drewN ?_ _ | refine Gr.grew ?_ _ _ | refine Gr.alloc ?_ _ | refine Gr.drew ?_))⟩
  have e : gTok h m = true := by simp [gTok, h1, h2]
  rw [e]
  simp only [if_true]
  have b1 := gIn_true h1
  have b2 := gIn_true h2
  obtain ⟨h, rfl⟩ : ∃ n : Nat, h = n := ⟨h.toNat, by omega⟩
  obtain ⟨m, rfl⟩ : ∃ n : Nat, m = n := ⟨m.toNat, by omega⟩
  obtain ⟨q, hq⟩ : ∃ q : Nat, (h : Int) / (m : Int) = q := ⟨h / m, by simp⟩
  obtain ⟨r, hr⟩ : ∃ r : Nat, (h : Int) % (m : Int) = r := ⟨h % m, by simp⟩
  have hq24 : q ≤ 24 := by
    have : (h : Int) / (m : Int) ≤ h := Int.ediv_le_self _ (by omega)
    omega
  have hr8 : r ≤ 24 := by
    have := Int.emod_lt_of_pos (h : Int) (show (0 : Int) < m by omega)
    omega
  have T := Lib.hid (fun w => S_l07Tiles h m q r w (by omega) (by omega) (by omega) hq hr hq24 hr8)
  rw [hq, hr]
  simp only [Int.toNat_natCast]
  clear hq hr
  go_enter Try.func15, Try.ntmps15
  go_wp2_with (first
      | (go_at_call 68; with_reducible refine (S_l00In _ _ _ _).mono ?_; rintro e w' ⟨rfl, hw⟩; subst w'; rw [h1])
      | (go_at_call 69; with_reducible refine (S_l07Workers _ _).mono ?_; rintro e w' ⟨rfl, hw⟩; subst w'; rw [h2])
      | (go_at_call 70; refine (T.out _).mono ?_; rintro e w' ⟨⟨v, rfl, ho⟩, hg⟩; have Ho := Lib.hid ho; have Hg := Lib.hid hg; clear ho hg))
  exact bodyPost_ret (v := .tuple #[v, .bool true]) (by simp [results, Try.results15, go_sem]) rfl ⟨⟨_, rfl, Ho.out⟩, Hg.out.trans (by (try show Gr _ _); repeat (with_reducible first | exact Gr.refl _ | refine Gr.drewN ?_ _ | refine Gr.grew ?_ _ _ | refine Gr.alloc ?_ _ | refine Gr.drew ?_))⟩
end Go.Proofs.Ytcejnifkbheelaa
