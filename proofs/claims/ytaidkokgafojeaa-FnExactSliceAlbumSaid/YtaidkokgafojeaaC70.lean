/- Contracts: SliceAlbum. MAXREC -/
import Derived.Test.YtaidkokgafojeaaProg
import Derived.Test.YtaidkokgafojeaaC7
import Derived.Test.YtaidkokgafojeaaC58
import Derived.Test.YtaidkokgafojeaaC64
import Derived.Test.YtaidkokgafojeaaC69
import Derived.Deep.DeepCutAuto
namespace Go.Proofs.Ytaidkokgafojeaa
open Go.RowKit Go.Fx Go.Soft
def gSliceOk (ps : List Pic) (f c : Int) : Bool := gAlb ps && (gIn f 0 ps.length && gIn c 0 (ps.length - f))
/-- What a function that hands back an album leaves. -/
def PostA (w : World) (ok : Bool) (L : List Pic) (e : Ending) (w' : World) : Prop :=
  (∃ v, e = .returned (.tuple #[.agg #[v], .bool ok]) ∧ PIn w' w.heap.size w'.heap.size 35 65 v L) ∧ Gr w w'
theorem PIn.nil (w : World) (lo hi : Nat) : PIn w lo hi 35 65 (.slice none 0 0) [] := ⟨[], ⟨World.ownsRow_nil _ _ _ _, fun k hk => by simp [Value.ownBlock] at hk⟩, PRow.zero _ _ _ _ _ _⟩
theorem gAlb_pos {ps : List Pic} {n : Nat} (hl : ps.length = n) (h : gAlb ps = true) : ∀ i, i < n → 0 < (pAt ps i).gs.length ∧ (pAt ps i).gs.length ≤ 1048576 := by
  intro i hi
  unfold gAlb at h
  rw [Bool.and_eq_true] at h
  have hp := gAlls_at h.2 (i := i) (by omega)
  obtain ⟨w, q, -, -, -, -, h1, h2, h3, h4⟩ := gPic_nat (show gPic _ _ _ = true from hp)
  exact ⟨by rw [h3]; exact Nat.mul_pos h1 h2, by omega⟩
theorem PSl.part' {w : World} {a : Option Addr} {F C : Nat} {ps : List Pic} (h : PSl w a ps) (hl : F + C ≤ ps.length) : PSl w (a.map fun x => x.add (F * 3)) (gSome ps F C) := by
  by_cases hC : C = 0
  · subst hC; intro i hi; rw [gSome_length] at hi; omega
  · obtain ⟨bl, off, rfl⟩ := h.ptr (by omega)
    have h' := PSl.part (F := F) (C := C) h hl
    rw [show (some (⟨bl, off, none⟩ : Addr)).map (fun x => x.add (F * 3)) = some ⟨bl, off + F * 3, none⟩ by
      by_cases h0 : F = 0
      · subst h0; rfl
      · simp [Addr.add, show ¬ F * 3 = 0 by omega]]
    exact h'
theorem PSl.some0 {w : World} {a : Option Addr} {F C : Nat} {ps : List Pic} (h : C = 0) : PSl w a (gSome ps F C) := by
  intro i hi
  rw [gSome_length] at hi
  omega
theorem PIn_out {w w1 : World} {b : Nat} {v u x : Value} {L : List Pic} (h : PIn w1 (w.heap.size + 2) w1.heap.size 35 65 v L) (hB : Blk w1 b [x] 50) : PIn (w1.setCell ⟨b, 0, none⟩ u) w.heap.size (w1.setCell ⟨b, 0, none⟩ u).heap.size 35 65 v L := by
  obtain ⟨cs, h1, h2⟩ := h
  exact (PIn_set (n := 0) (u := u) h1.own h2 hB).base (by omega) (by simp [World.setCell])
set_option maxRecDepth 20000 in
set_option maxHeartbeats 2000000 in
theorem S_SliceAlbum (a : Option Addr) (n cap : Nat) (ps : List Pic) (f c : Int) (w : World) (hs : PSl w a ps) (hl : ps.length = n) (hn : n ≤ 1048576) :
    Calls Try.prog 34 #[.agg #[.slice a n cap], .int .i64 f, .int .i64 c] w (PostA w (gSliceOk ps f c) (if gSliceOk ps f c then gSome ps f.toNat c.toNat else [])) := by
  have A1 := Lib.hid (fun w1 b0 (g : Gr w w1) c0 => S_l07Album b0 a n cap ps w1 c0 (hs.keep g.kp) hl hn)
  have Hs := Lib.hid hs
  have Hl := Lib.hid hl
  unfold gSliceOk
  rw [hl]
  clear hs hl
  cases h0 : gAlb ps
  · rw [h0] at A1
    go_enter Try.func34, Try.ntmps34
    go_wp2_with (first
      | (go_at_call 74; with_reducible refine (A1.out _ w.heap.size (by (try show Gr _ _); repeat (with_reducible first | exact Gr.refl _ | refine Gr.drewN ?_ _ | refine Gr.grew ?_ _ _ | refine Gr.alloc ?_ _ | refine Gr.drew ?_)) (by first | (simp (maxDischargeDepth := 12) [go_sem]; done) | (simp (maxDischargeDepth := 12) [go_sem, *]; done))).mono ?_; rintro e w' ⟨rfl, q, rfl⟩))
    exact bodyPost_ret (v := .tuple #[.agg #[.slice none 0 0], .bool false]) (by simp [results, Try.results34, go_sem]) rfl ⟨⟨_, rfl, PIn.nil _ _ _⟩, (by (try show Gr _ _); repeat (with_reducible first | exact Gr.refl _ | refine Gr.drewN ?_ _ | refine Gr.grew ?_ _ _ | refine Gr.alloc ?_ _ | refine Gr.drew ?_))⟩
  rw [h0] at A1
  cases h1 : gIn f 0 n
  · go_enter Try.func34, Try.ntmps34
    go_wp2_with (first
      | (go_at_call 74; with_reducible refine (A1.out _ w.heap.size (by (try show Gr _ _); repeat (with_reducible first | exact Gr.refl _ | refine Gr.drewN ?_ _ | refine Gr.grew ?_ _ _ | refine Gr.alloc ?_ _ | refine Gr.drew ?_)) (by first | (simp (maxDischargeDepth := 12) [go_sem]; done) | (simp (maxDischargeDepth := 12) [go_sem, *]; done))).mono ?_; rintro e w' ⟨rfl, q, rfl⟩)
      | (go_at_call 82; with_reducible refine (S_l00In _ _ _ _).mono ?_; rintro e w' ⟨rfl, rfl⟩; rw [h1]))
    exact bodyPost_ret (v := .tuple #[.agg #[.slice none 0 0], .bool false]) (by simp [results, Try.results34, go_sem]) rfl ⟨⟨_, rfl, PIn.nil _ _ _⟩, (by (try show Gr _ _); repeat (with_reducible first | exact Gr.refl _ | refine Gr.drewN ?_ _ | refine Gr.grew ?_ _ _ | refine Gr.alloc ?_ _ | refine Gr.drew ?_))⟩
  obtain ⟨f0, f1⟩ := gIn_true h1
  cases h2 : gIn c 0 (n - f)
  · go_enter Try.func34, Try.ntmps34
    go_wp2_with (first
      | (go_at_call 74; with_reducible refine (A1.out _ w.heap.size (by (try show Gr _ _); repeat (with_reducible first | exact Gr.refl _ | refine Gr.drewN ?_ _ | refine Gr.grew ?_ _ _ | refine Gr.alloc ?_ _ | refine Gr.drew ?_)) (by first | (simp (maxDischargeDepth := 12) [go_sem]; done) | (simp (maxDischargeDepth := 12) [go_sem, *]; done))).mono ?_; rintro e w' ⟨rfl, q, rfl⟩)
      | (go_at_call 82; with_reducible refine (S_l00In _ _ _ _).mono ?_; rintro e w' ⟨rfl, rfl⟩; first | rw [h1] | rw [h2]))
    exact bodyPost_ret (v := .tuple #[.agg #[.slice none 0 0], .bool false]) (by simp [results, Try.results34, go_sem]) rfl ⟨⟨_, rfl, PIn.nil _ _ _⟩, (by (try show Gr _ _); repeat (with_reducible first | exact Gr.refl _ | refine Gr.drewN ?_ _ | refine Gr.grew ?_ _ _ | refine Gr.alloc ?_ _ | refine Gr.drew ?_))⟩
  obtain ⟨c0, c1⟩ := gIn_true h2
  obtain ⟨F, rfl⟩ := Int.eq_ofNat_of_zero_le f0
  obtain ⟨C, rfl⟩ := Int.eq_ofNat_of_zero_le c0
  simp only [Bool.and_self, if_true, Int.toNat_natCast]
  have LS := Lib.hid (fun w1 (g : Gr w w1) x0 => S_l07Some w.heap.size F C n cap a ps w1 x0 (Hs.out.keep g.kp) Hl.out hn (by omega) (gAlb_pos Hl.out h0))
  go_enter Try.func34, Try.ntmps34
  go_wp2_with (first | (go_at_call 74; with_reducible refine (A1.out _ w.heap.size (by (try show Gr _ _); repeat (with_reducible first | exact Gr.refl _ | refine Gr.drewN ?_ _ | refine Gr.grew ?_ _ _ | refine Gr.alloc ?_ _ | refine Gr.drew ?_)) (by first | (simp (maxDischargeDepth := 12) [go_sem]; done) | (simp (maxDischargeDepth := 12) [go_sem, *]; done))).mono ?_; rintro e w' ⟨rfl, q, rfl⟩) | (go_at_call 82; with_reducible refine (S_l00In _ _ _ _).mono ?_; rintro e w' ⟨rfl, rfl⟩; first | rw [h1] | rw [h2]))
  refine (LS.out _ (by (try show Gr _ _); repeat (with_reducible first | exact Gr.refl _ | refine Gr.drewN ?_ _ | refine Gr.grew ?_ _ _ | refine Gr.alloc ?_ _ | refine Gr.drew ?_)) (by first | (simp (maxDischargeDepth := 12) [go_sem]; done) | (simp (maxDischargeDepth := 12) [go_sem, *]; done))).mono ?_
  rintro e w1 ⟨⟨v, rfl, hp⟩, g⟩
  obtain ⟨a1, c1', rfl, -⟩ := hp.sl
  have B1 := (show Blk _ (w.heap.size + 1) [.slice none 0 0] 50 from (by repeat (with_reducible first | assumption | exact Blk.atNew (by simp) | refine Blk.alloc ?_ _ | refine Blk.grew ?_ _ _ | refine Blk.drewN ?_ _ | refine Blk.drew ?_))).gr g
  have q0 := B1.cellv 0
  have z0 := B1.frozen 0
  have Hp := Lib.hid (PIn_out (w := w) (u := .slice a1 (gSome ps F C).length c1') (hp.base (by simp) (Nat.le_refl _)) B1)
  have G := Lib.hid (show Gr w w1 from Gr.trans (by (try show Gr _ _); repeat (with_reducible first | exact Gr.refl _ | refine Gr.drewN ?_ _ | refine Gr.grew ?_ _ _ | refine Gr.alloc ?_ _ | refine Gr.drew ?_)) g)
  clear hp g B1 LS A1
  go_wp2
  refine bodyPost_ret (v := .tuple #[.agg #[.slice a1 (gSome ps F C).length c1'], .bool true]) (by simp [results, Try.results34, go_sem, *]) rfl ⟨⟨_, rfl, Hp.out⟩, G.out.setCell (by simp) _⟩
set_option maxRecDepth 20000 in
set_option maxHeartbeats 2000000 in
theorem I_SliceAlbum (a : Option Addr) (n cap : Nat) (ps : List Pic) (f c : Int) (w : World) (hs : PSl w a ps) (hl : ps.length = n) (hn : n ≤ 1048576) (hc : n ≤ cap) (hm : ∀ i, i < n → (pAt ps i).gs.length ≤ maxLen) :
    Calls Try.prog 35 #[.agg #[.slice a n cap], .int .i64 f, .int .i64 c] w (PostA w (gSliceOk ps f c) (if gSliceOk ps f c then gSome ps f.toNat c.toNat else [])) := by
  have A1 := Lib.hid (fun w1 (g : Gr w w1) => I_ValidAlbum a n cap ps w1 (hs.keep g.kp) hl hn hm)
  have Hs := Lib.hid hs
  have Hl := Lib.hid hl
  obtain ⟨OK, hOK⟩ : ∃ OK, OK = gSliceOk ps f c := ⟨_, rfl⟩
  rw [← hOK]
  obtain ⟨RL, hRL⟩ : ∃ RL, RL = if OK = true then gSome ps f.toNat c.toNat else [] := ⟨_, rfl⟩
  rw [← hRL]
  unfold gSliceOk at hOK
  rw [hl] at hOK
  have HOK := Lib.hid hOK
  have HRL := Lib.hid hRL
  clear hs hl hm hOK hRL
  cases h0 : gAlb ps
  · obtain rfl : OK = false := by rw [HOK.out, h0]; rfl
    obtain rfl : RL = [] := HRL.out
    rw [h0] at A1
    go_enter Try.func35, Try.ntmps35
    go_wp2_with fail
    refine (A1.out _ (by (try show Gr _ _); repeat (with_reducible first | exact Gr.refl _ | refine Gr.drewN ?_ _ | refine Gr.grew ?_ _ _ | refine Gr.alloc ?_ _ | refine Gr.drew ?_))).mono ?_
    rintro e w1 ⟨rfl, g⟩
    have B1 := (show Blk _ (w.heap.size + 1) [.slice none 0 0] 50 from (by repeat (with_reducible first | assumption | exact Blk.atNew (by simp) | refine Blk.alloc ?_ _ | refine Blk.grew ?_ _ _ | refine Blk.drewN ?_ _ | refine Blk.drew ?_))).gr g
    have q0 := B1.cellv 0
    have z0 := B1.frozen 0
    have G := Lib.hid (show Gr w w1 from Gr.trans (by (try show Gr _ _); repeat (with_reducible first | exact Gr.refl _ | refine Gr.drewN ?_ _ | refine Gr.grew ?_ _ _ | refine Gr.alloc ?_ _ | refine Gr.drew ?_)) g)
    clear g B1 A1
    go_wp2
    exact bodyPost_ret (v := .tuple #[.agg #[.slice none 0 0], .bool false]) (by simp [results, Try.results35, go_sem, *]) rfl ⟨⟨_, rfl, PIn.nil _ _ _⟩, G.out.setCell (by simp) _⟩
  rw [h0] at A1
  go_enter Try.func35, Try.ntmps35
  go_wp2_with fail
  refine (A1.out _ (by (try show Gr _ _); repeat (with_reducible first | exact Gr.refl _ | refine Gr.drewN ?_ _ | refine Gr.grew ?_ _ _ | refine Gr.alloc ?_ _ | refine Gr.drew ?_))).mono ?_
  rintro e w1 ⟨rfl, g⟩
  have B0 := (show Blk _ w.heap.size [.slice a n cap] 50 from (by repeat (with_reducible first | assumption | exact Blk.atNew (by simp) | refine Blk.alloc ?_ _ | refine Blk.grew ?_ _ _ | refine Blk.drewN ?_ _ | refine Blk.drew ?_))).gr g
  have B1 := (show Blk _ (w.heap.size + 1) [.slice none 0 0] 50 from (by repeat (with_reducible first | assumption | exact Blk.atNew (by simp) | refine Blk.alloc ?_ _ | refine Blk.grew ?_ _ _ | refine Blk.drewN ?_ _ | refine Blk.drew ?_))).gr g
  have p0 := B0.cellv 0
  have q0 := B1.cellv 0
  have z0 := B1.frozen 0
  have hlt := B1.lt
  have HB1 := Lib.hid B1
  have G := Lib.hid (show Gr w w1 from Gr.trans (by (try show Gr _ _); repeat (with_reducible first | exact Gr.refl _ | refine Gr.drewN ?_ _ | refine Gr.grew ?_ _ _ | refine Gr.alloc ?_ _ | refine Gr.drew ?_)) g)
  clear g B0 B1 A1
  cases h1 : gIn f 0 n
  · obtain rfl : OK = false := by rw [HOK.out, h0, h1]; rfl
    obtain rfl : RL = [] := HRL.out
    go_wp2_with (first
      | (go_at_call 84; with_reducible refine (I_in _ _ _ _).mono ?_; rintro e w' ⟨rfl, rfl⟩; rw [h1]))
    exact bodyPost_ret (v := .tuple #[.agg #[.slice none 0 0], .bool false]) (by simp [results, Try.results35, go_sem, *]) rfl ⟨⟨_, rfl, PIn.nil _ _ _⟩, G.out.setCell (by simp) _⟩
  obtain ⟨f0, f1⟩ := gIn_true h1
  cases h2 : gIn c 0 (n - f)
  · obtain rfl : OK = false := by rw [HOK.out, h0, h1, h2]; rfl
    obtain rfl : RL = [] := HRL.out
    go_wp2_with (first
      | (go_at_call 84; with_reducible refine (I_in _ _ _ _).mono ?_; rintro e w' ⟨rfl, rfl⟩; first | rw [h1] | rw [h2]))
    exact bodyPost_ret (v := .tuple #[.agg #[.slice none 0 0], .bool false]) (by simp [results, Try.results35, go_sem, *]) rfl ⟨⟨_, rfl, PIn.nil _ _ _⟩, G.out.setCell (by simp) _⟩
  obtain ⟨c0, c1⟩ := gIn_true h2
  obtain ⟨F, rfl⟩ := Int.eq_ofNat_of_zero_le f0
  obtain ⟨C, rfl⟩ := Int.eq_ofNat_of_zero_le c0
  obtain rfl : OK = true := by rw [HOK.out, h0, h1, h2]; rfl
  obtain rfl : RL = gSome ps F C := by rw [HRL.out, if_pos rfl, Int.toNat_natCast, Int.toNat_natCast]
  have hFC : F + C ≤ n := by omega
  have HPS := Lib.hid (gAlb_pos Hl.out h0)
  have HQ := Lib.hid (show ∀ i, i < C → 0 < (pAt (gSome ps F C) i).gs.length ∧ (pAt (gSome ps F C) i).gs.length ≤ 1048576 from fun i hi => by rw [gSome_at ps F hi]; exact HPS.out (F + i) (by omega))
  clear HOK HRL h0 HPS
  go_wp2_with (first | (go_at_call 84; with_reducible refine (I_in _ _ _ _).mono ?_; rintro e w' ⟨rfl, rfl⟩; first | rw [h1] | rw [h2]))
  all_goals
    have HS' : PSl w' _ ps := Hs.out.keep G.out.kp
    refine (I_cloneAlbum C _ _ (gSome ps F C) _ (by first | exact PSl.part' HS' (by rw [Hl.out]; exact hFC) | exact PSl.some0 (by omega)) (gSome_length ps F C) (by omega) HQ.out).mono ?_
    rintro e w2 ⟨⟨v, rfl, hp⟩, g⟩
    obtain ⟨a1, c1', rfl, -⟩ := hp.sl
    have B1 := HB1.out.gr g
    have r0 := B1.cellv 0
    have y0 := B1.frozen 0
    have Hp := Lib.hid (PIn_out (w := w) (u := .slice a1 (gSome ps F C).length c1') (hp.base (by omega) (Nat.le_refl _)) B1)
    have G2 := Lib.hid (G.out.trans g)
    clear hp g B1 HB1 q0 z0 p0
    go_wp2
    refine bodyPost_ret (v := .tuple #[.agg #[.slice a1 (gSome ps F C).length c1'], .bool true]) (by simp [results, Try.results35, go_sem, *]) rfl ⟨⟨_, rfl, Hp.out⟩, G2.out.setCell (by simp) _⟩
end Go.Proofs.Ytaidkokgafojeaa
