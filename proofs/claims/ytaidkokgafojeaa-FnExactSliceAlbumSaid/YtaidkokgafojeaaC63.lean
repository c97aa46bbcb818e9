/- Contracts: rows of pictures that are measured, copied, compared. MAXREC -/
import Derived.Test.YtaidkokgafojeaaProg
import Derived.Test.YtaidkokgafojeaaPs
import Derived.Test.YtaidkokgafojeaaLp
import Derived.Deep.DeepCutAuto
import Derived.Deep.RegionHeld3
namespace Go.Proofs.Ytaidkokgafojeaa
open Go.RowKit Go.Fx Go.Soft
/-- What is left of a measure behind a row of pictures. -/
def gSzP (ps : List Pic) (left : Int) : Int := if (ps.length : Int) + (pSum ps ps.length : Int) ≤ left then left - ps.length - pSum ps ps.length else -1
set_option maxRecDepth 20000 in
set_option maxHeartbeats 2000000 in
theorem L_szPictureS (a : Option Addr) (n cap : Nat) (ps : List Pic) (left : Int) (w : World) (hs : PSl w a ps) (hl : ps.length = n) (h1 : left ≤ 1048576) (h0 : 0 ≤ left) (hn : n ≤ maxLen) :
    Calls Try.prog 73 #[.slice a n cap, .int .i64 left] w fun e w' => e = .returned (.int .i64 (gSzP ps left)) ∧ Gr w w' := by
  obtain ⟨R, hR⟩ : ∃ R, R = gSzP ps left := ⟨_, rfl⟩
  rw [← hR]
  unfold gSzP at hR
  rw [hl] at hR
  have HR := Lib.hid hR
  have Hs := Lib.hid hs
  have Hl := Lib.hid hl
  clear hR hs hl
  unfold maxLen at hn
  by_cases hbig : left < (n : Int)
  · obtain rfl : R = -1 := by rw [HR.out, if_neg (by omega)]
    go_enter Try.func73, Try.ntmps73
    go_wp2
    go_ret
    exact ⟨rfl, (by (try show Gr _ _); repeat (with_reducible first | exact Gr.refl _ | refine Gr.drewN ?_ _ | refine Gr.grew ?_ _ _ | refine Gr.alloc ?_ _ | refine Gr.drew ?_))⟩
  · go_enter Try.func73, Try.ntmps73
    go_wp2
    go_loopw [1, 5] (fun t i wr => ∃ k : Nat, k ≤ n ∧ i = .int .i64 k ∧ (pSum ps k : Int) ≤ left - n ∧ t = .int .i64 (left - n - pSum ps k) ∧ Gr w wr) (fun _ i _ => n - (intOf i).toNat)
    case atStart => exact ⟨0, Nat.zero_le _, rfl, by simp only [pSum]; omega, by simp [pSum], Gr.refl w⟩
    case round =>
      obtain ⟨k, hk, rfl, hsum, rfl, hg⟩ := hrel
      by_cases hlt : k < n
      · obtain ⟨bl, off, rfl⟩ := Hs.out.ptr (by rw [Hl.out]; omega)
        obtain ⟨ga, gc, c0, c1, c2, -, hm⟩ := (Hs.out.keep hg.kp).get (i := k) (by rw [Hl.out]; exact hlt)
        have HS := Lib.hid (show pSum ps (k + 1) = pSum ps k + (pAt ps k).gs.length from rfl)
        have HM := Lib.hid (show (pAt ps k).gs.length ≤ pSum ps n from pSum_le hlt)
        have HM2 := Lib.hid (show pSum ps (k + 1) ≤ pSum ps n by have := pSum_mono ps (k + 1) (n - (k + 1)); rwa [show k + 1 + (n - (k + 1)) = n by omega] at this)
        generalize (pAt ps k).gs.length = q at *
        have Hg := Lib.hid hg
        clear hg
        by_cases hq : (q : Int) ≤ left - n - pSum ps k
        · go_wp2_with (first
      | (go_at_call 18; with_reducible refine (L_szPicture_ok _ _ _ _ _ q _ (left - n - pSum ps k) _ rfl rfl (by omega) hq).mono ?_; rintro e w' ⟨rfl, os, m, rfl⟩))
          go_roundw
          case rel => exact ⟨k + 1, by omega, by go_num, by rw [HS.out]; omega, by rw [HS.out]; go_num, Hg.out.trans (by (try show Gr _ _); repeat (with_reducible first | exact Gr.refl _ | refine Gr.drewN ?_ _ | refine Gr.grew ?_ _ _ | refine Gr.alloc ?_ _ | refine Gr.drew ?_))⟩
          case measure => simp [intOf]; omega
        · obtain rfl : R = -1 := by
            have := HM2.out; have := HS.out
            rw [HR.out, if_neg (by omega)]
          go_wp2_with (first
      | (go_at_call 18; with_reducible refine (L_szPicture_no _ _ _ _ _ q _ (left - n - pSum ps k) _ rfl rfl (by omega) (by omega) (by omega) hm).mono ?_; rintro e w' ⟨rfl, os, m, rfl⟩))
          go_ret
          exact ⟨rfl, Hg.out.trans (by (try show Gr _ _); repeat (with_reducible first | exact Gr.refl _ | refine Gr.drewN ?_ _ | refine Gr.grew ?_ _ _ | refine Gr.alloc ?_ _ | refine Gr.drew ?_))⟩
      · obtain rfl : k = n := by omega
        have Hg := Lib.hid hg
        have HR2 := Lib.hid (show R = left - (k : Int) - pSum ps k by rw [HR.out, if_pos (by omega)])
        clear hg
        go_wp2
        go_ret
        exact ⟨congrArg (fun z => Ending.returned (.int .i64 z)) HR2.out.symm, Hg.out⟩
set_option maxRecDepth 20000 in
set_option maxHeartbeats 1000000 in
theorem L_szAlbum (a : Option Addr) (n cap : Nat) (ps : List Pic) (left : Int) (w : World) (hs : PSl w a ps) (hl : ps.length = n) (h1 : left ≤ 1048576) (h0 : 0 ≤ left) (hn : n ≤ maxLen) :
    Calls Try.prog 27 #[.agg #[.slice a n cap], .int .i64 left] w fun e w' => e = .returned (.int .i64 (gSzP ps left)) ∧ Gr w w' := by
  have LS := Lib.hid (fun w1 (g : Gr w w1) => L_szPictureS a n cap ps left w1 (hs.keep g.kp) hl h1 h0 hn)
  have hR : gSzP ps left < 0 → gSzP ps left = -1 := by unfold gSzP; split <;> omega
  have hR2 : gSzP ps left ≤ left := by unfold gSzP; split <;> omega
  generalize gSzP ps left = R at *
  clear hs
  by_cases hneg : R < 0
  · obtain rfl := hR hneg
    go_enter Try.func27, Try.ntmps27
    go_wp2_with fail
    refine (LS.out _ (by (try show Gr _ _); repeat (with_reducible first | exact Gr.refl _ | refine Gr.drewN ?_ _ | refine Gr.grew ?_ _ _ | refine Gr.alloc ?_ _ | refine Gr.drew ?_))).mono ?_
    rintro e w1 ⟨rfl, g⟩
    have G := Lib.hid (show Gr w w1 from Gr.trans (by (try show Gr _ _); repeat (with_reducible first | exact Gr.refl _ | refine Gr.drewN ?_ _ | refine Gr.grew ?_ _ _ | refine Gr.alloc ?_ _ | refine Gr.drew ?_)) g)
    clear g LS
    go_wp2
    go_ret
    exact ⟨rfl, G.out⟩
  · go_enter Try.func27, Try.ntmps27
    go_wp2_with fail
    refine (LS.out _ (by (try show Gr _ _); repeat (with_reducible first | exact Gr.refl _ | refine Gr.drewN ?_ _ | refine Gr.grew ?_ _ _ | refine Gr.alloc ?_ _ | refine Gr.drew ?_))).mono ?_
    rintro e w1 ⟨rfl, g⟩
    have G := Lib.hid (show Gr w w1 from Gr.trans (by (try show Gr _ _); repeat (with_reducible first | exact Gr.refl _ | refine Gr.drewN ?_ _ | refine Gr.grew ?_ _ _ | refine Gr.alloc ?_ _ | refine Gr.drew ?_)) g)
    clear g LS
    go_wp2
    go_ret
    exact ⟨rfl, G.out⟩
theorem L_szAlbum_ok (a : Option Addr) (n cap : Nat) (ps : List Pic) (left : Int) (w : World) (hs : PSl w a ps) (hl : ps.length = n) (h1 : left ≤ 1048576) (h2 : ((n + pSum ps n : Nat) : Int) ≤ left) :
    Calls Try.prog 27 #[.agg #[.slice a n cap], .int .i64 left] w fun e w' => e = .returned (.int .i64 (left - ((n + pSum ps n : Nat) : Int))) ∧ Gr w w' := by
  have h := L_szAlbum a n cap ps left w hs hl h1 (by omega) (by unfold maxLen; omega)
  rw [show gSzP ps left = left - ((n + pSum ps n : Nat) : Int) by unfold gSzP; rw [hl, if_pos (by omega)]; omega] at h
  exact h
theorem L_szAlbum_no (a : Option Addr) (n cap : Nat) (ps : List Pic) (left : Int) (w : World) (hs : PSl w a ps) (hl : ps.length = n) (h1 : left ≤ 1048576) (h0 : 0 ≤ left) (h2 : left < ((n + pSum ps n : Nat) : Int)) (hn : n ≤ maxLen) :
    Calls Try.prog 27 #[.agg #[.slice a n cap], .int .i64 left] w fun e w' => e = .returned (.int .i64 (-1)) ∧ Gr w w' := by
  have h := L_szAlbum a n cap ps left w hs hl h1 h0 hn
  rw [show gSzP ps left = -1 by unfold gSzP; rw [hl, if_neg (by omega)]] at h
  exact h
theorem info_picture : (Try.prog.info? 35).map (fun i => (i.zero, i.size, i.bytes)) = some (some (.agg #[.int .i64 0, .int .i64 0, .slice none 0 0]), 3, 40) := by kernel_rfl
theorem run_make_pics (n : Nat) (hn : n ≤ 1048576) (w : World) : (Instr.makeSlice 48 (.int .i64 (n : Int)) (.int .i64 (n : Int))).run Try.prog w = .ok (.slice (some ⟨w.heap.size, 0, none⟩) n n) (w.alloc (.cells (madeCells #[.int .i64 0, .int .i64 0, .slice none 0 0] (n * 3)) 35)) := by
  obtain ⟨i0, hi, hz0, hz1, hz2⟩ := info_parts info_picture
  have h := run_make (P := Try.prog) w 48 35 i0 _ Try.underlying48 hi hz0 .i64 .i64 (n : Int) (n : Int) (by omega) (Int.le_refl _) (by rw [hz2]; omega) (by omega)
  rw [hz1, Int.toNat_natCast] at h
  exact h
set_option maxRecDepth 20000 in
set_option maxHeartbeats 4000000 in
theorem L_toPictureS (a : Option Addr) (n cap : Nat) (ps : List Pic) (w : World) (hs : PSl w a ps) (hl : ps.length = n) (hn : n ≤ 1048576) (hm : ∀ i, i < n → (pAt ps i).gs.length ≤ 1048576) :
    Calls Try.prog 75 #[.slice a n cap] w fun e w' => (∃ v, e = .returned v ∧ PIn w' w.heap.size w'.heap.size 35 65 v ps) ∧ Gr w w' := by
  have Hs := Lib.hid hs
  have Hl := Lib.hid hl
  have Hm := Lib.hid hm
  clear hs hl hm
  have hcm := run_make_pics n hn
  obtain ⟨gg, hgg⟩ : ∃ gg, gg = w.heap.size := ⟨_, rfl⟩
  have HGG := Lib.hid hgg
  have IO := Lib.hid (show (w.alloc (.cells (madeCells #[.int .i64 0, .int .i64 0, .slice none 0 0] (n * 3)) 35)).ownsRow w.heap.size 35 3 (.slice (some ⟨gg, 0, none⟩) n n) n (madeCells #[.int .i64 0, .int .i64 0, .slice none 0 0] (n * 3)).toList by
    rw [hgg]; exact World.ownsRow_lit w _ n (Nat.le_refl _) (by unfold maxLen; omega) (size_madeCells _ _))
  go_enter Try.func75, Try.ntmps75
  go_wp2_with (simp only [hcm])
  rw [← hgg]
  clear hgg
  go_loopw [4] (fun i wr => ∃ k : Nat, k ≤ n ∧ i = .int .i64 k ∧ gg < wr.heap.size ∧ (∃ cs, wr.ownsRow w.heap.size 35 3 (.slice (some ⟨gg, 0, none⟩) n n) n cs ∧ PRow wr w.heap.size wr.heap.size 65 cs ps k) ∧ Gr w wr) (fun i _ => n - (intOf i).toNat)
  case atStart => exact ⟨0, Nat.zero_le _, rfl, by simp [HGG.out], ⟨_, IO.out, PRow.zero _ _ _ _ _ _⟩, (by (try show Gr _ _); repeat (with_reducible first | exact Gr.refl _ | refine Gr.drewN ?_ _ | refine Gr.grew ?_ _ _ | refine Gr.alloc ?_ _ | refine Gr.drew ?_))⟩
  case round =>
    clear IO hcm
    obtain ⟨k, hk, rfl, hgl, ⟨cs, ho, hp⟩, hg⟩ := hrel
    by_cases hlt : k < n
    · obtain ⟨bl, off, rfl⟩ := Hs.out.ptr (by rw [Hl.out]; omega)
      obtain ⟨ga, gc, c0, c1, c2, f1, -⟩ := (Hs.out.keep hg.kp).get (i := k) (by rw [Hl.out]; exact hlt)
      have hm := Hm.out k hlt
      have hcl : cs.length = n * 3 := ho.1
      have d0 := World.ownsRow.cellAt ho (k * 3) (by omega)
      have d1 := World.ownsRow.cellAt ho (k * 3 + 1) (by omega)
      have d2 := World.ownsRow.cellAt ho (k * 3 + 2) (by omega)
      rw [List.getElem?_eq_getElem (by omega)] at d0 d1 d2
      generalize cs[k * 3] = y0 at d0
      generalize cs[k * 3 + 1] = y1 at d1
      generalize cs[k * 3 + 2] = y2 at d2
      have z0 := World.ownsRow.frozenAt ho (k * 3)
      have z1 := World.ownsRow.frozenAt ho (k * 3 + 1)
      have z2 := World.ownsRow.frozenAt ho (k * 3 + 2)
      obtain ⟨W, hW⟩ : ∃ W, W = (pAt ps k).wide := ⟨_, rfl⟩
      obtain ⟨H, hH⟩ : ∃ H, H = (pAt ps k).high := ⟨_, rfl⟩
      obtain ⟨L, hL⟩ : ∃ L, L = (pAt ps k).gs := ⟨_, rfl⟩
      have HW := Lib.hid hW
      have HH := Lib.hid hH
      have HL := Lib.hid hL
      rw [← hW] at c0
      rw [← hH] at c1
      rw [← hL] at c2 f1 hm
      have Hg := Lib.hid hg
      have Ho := Lib.hid ho
      have Hp := Lib.hid hp
      have F1 := Lib.hid f1
      have Hcl := Lib.hid hcl
      clear hg ho hp f1 hW hH hL hcl
      go_wp2_with fail
      refine (L_toPicture W H _ _ _ L _ (F1.out.keep (by (repeat (with_reducible first | exact Kp.refl _ | exact kp_same | exact kp_app1 | exact kp_app2 | exact kp_app3 | refine Kp.grew ?_ _ _ | refine Kp.drewN ?_ _ | refine Kp.drew ?_ | refine Kp.alloc ?_ _)))) hm).mono ?_
      rintro e w1 ⟨⟨v, rfl, ho1⟩, g1⟩
      replace g1 : Gr wr w1 := Gr.trans (by (try show Gr _ _); repeat (with_reducible first | exact Gr.refl _ | refine Gr.drewN ?_ _ | refine Gr.grew ?_ _ _ | refine Gr.alloc ?_ _ | refine Gr.drew ?_)) g1
      have fin := ho1.fin
      obtain ⟨a1, c1', rfl, -, -⟩ := ho1.sl
      have e0 := g1.cell d0
      have e1 := g1.cell d1
      have e2 := g1.cell d2
      have ow := own_gr Ho.out g1
      have y0' := World.ownsRow.frozenAt ow (k * 3)
      have y1' := World.ownsRow.frozenAt ow (k * 3 + 1)
      have y2' := World.ownsRow.frozenAt ow (k * 3 + 2)
      have Fin := Lib.hid fin
      have Ow := Lib.hid ow
      have G1 := Lib.hid g1
      clear ho1 fin ow g1 d0 d1 d2 z0 z1 z2 c0 c1 c2
      go_wp2
      go_roundw
      case rel =>
        have o1 := (World.ownsRow.stored Ow.out (k * 3) (.int .i64 W)).1
        have o2 := (World.ownsRow.stored o1 (k * 3 + 1) (.int .i64 H)).1
        have o3 := (World.ownsRow.stored o2 (k * 3 + 2) (.slice a1 L.length c1')).1
        have hlo : wr.heap.size ≤ w1.heap.size := G1.out.size
        have hw : w.heap.size ≤ gg := by have := HGG.out; omega
        have hsz : ((((w1.setCell ⟨gg, k * 3, none⟩ (.int .i64 W)).setCell ⟨gg, k * 3 + 1, none⟩ (.int .i64 H)).setCell ⟨gg, k * 3 + 2, none⟩ (.slice a1 L.length c1')).heap.size) = w1.heap.size := by simp [World.setCell]
        refine ⟨k + 1, by omega, by go_num, by rw [hsz]; omega, ⟨_, o3, ?_⟩, ?_⟩
        · rw [hsz]
          have P1 : PRow w1 w.heap.size wr.heap.size 65 cs ps k := Hp.out.gr G1.out (Nat.le_refl _)
          have q0 := ownsRow_okb (t := 65) Ow.out (by decide)
          have q1 := ownsRow_okb (t := 65) o1 (by decide)
          have q2 := ownsRow_okb (t := 65) o2 (by decide)
          have P2 := P1.imp (Nat.le_refl _) (Nat.le_refl _) (fun _ _ _ _ _ _ f => ((f.setOk (i := k * 3) (u := .int .i64 W) q0).setOk (i := k * 3 + 1) (u := .int .i64 H) q1).setOk (i := k * 3 + 2) (u := .slice a1 L.length c1') q2)
          have F2 := ((Fin.out.setOk (i := k * 3) (u := .int .i64 W) q0).setOk (i := k * 3 + 1) (u := .int .i64 H) q1).setOk (i := k * 3 + 2) (u := .slice a1 L.length c1') q2
          obtain rfl := HL.out
          obtain rfl := HW.out
          obtain rfl := HH.out
          exact P2.step (hi' := w1.heap.size) (by rw [Hcl.out]; omega) F2 (Gr.size Hg.out) (Nat.le_refl _) hlo (Nat.le_refl _)
        · exact (((Hg.out.trans G1.out).setCell (p := ⟨gg, k * 3, none⟩) hw _).setCell (p := ⟨gg, k * 3 + 1, none⟩) hw _).setCell (p := ⟨gg, k * 3 + 2, none⟩) hw _
      case measure => simp [intOf]; omega
    · obtain rfl : k = n := by omega
      have Hg := Lib.hid hg
      have Ho := Lib.hid ho
      have Hp := Lib.hid hp
      clear hg ho hp
      go_wp2
      go_ret
      exact ⟨⟨_, rfl, cs, ⟨by rw [Hl.out]; exact Ho.out, fun b hb => by simp [Value.ownBlock] at hb; omega⟩, by rw [Hl.out]; exact Hp.out⟩, Hg.out⟩
set_option maxRecDepth 20000 in
set_option maxHeartbeats 2000000 in
theorem L_eqPictureS (a b : Option Addr) (n ca cb : Nat) (ps : List Pic) (w : World) (hs : PSl w a ps) (ht : PSl w b ps) (hl : ps.length = n) (hn : n ≤ 1048576) :
    Calls Try.prog 78 #[.slice a n ca, .slice b n cb] w fun e w' => e = .returned (.bool true) ∧ Gr w w' := by
  have Hs := Lib.hid hs
  have Ht := Lib.hid ht
  have Hl := Lib.hid hl
  clear hs ht hl
  go_enter Try.func78, Try.ntmps78
  go_wp2
  go_loopw [5] (fun i wr => ∃ k : Nat, k ≤ n ∧ i = .int .i64 k ∧ Gr w wr) (fun i _ => n - (intOf i).toNat)
  case atStart => exact ⟨0, Nat.zero_le _, rfl, Gr.refl w⟩
  case round =>
    obtain ⟨k, hk, rfl, hg⟩ := hrel
    by_cases hlt : k < n
    · obtain ⟨bl, off, rfl⟩ := Hs.out.ptr (by rw [Hl.out]; omega)
      obtain ⟨bl', off', rfl⟩ := Ht.out.ptr (by rw [Hl.out]; omega)
      obtain ⟨ga, gc, c0, c1, c2, f1, hm⟩ := (Hs.out.keep hg.kp).get (i := k) (by rw [Hl.out]; exact hlt)
      obtain ⟨gb, gd, d0, d1, d2, f2, -⟩ := (Ht.out.keep hg.kp).get (i := k) (by rw [Hl.out]; exact hlt)
      generalize (pAt ps k).wide = W at *
      generalize (pAt ps k).high = H at *
      generalize (pAt ps k).gs = L at *
      have Hg := Lib.hid hg
      have F1 := Lib.hid f1
      have F2 := Lib.hid f2
      clear hg f1 f2
      go_wp2
      go_region_held3 (fun w' => w'.cell? ⟨bl, off + k * 3, none⟩ = some (.int .i64 W) ∧ w'.cell? ⟨bl, off + k * 3 + 1, none⟩ = some (.int .i64 H) ∧ w'.cell? ⟨bl, off + k * 3 + 2, none⟩ = some (.slice ga L.length gc) ∧ w'.cell? ⟨bl', off' + k * 3, none⟩ = some (.int .i64 W) ∧ w'.cell? ⟨bl', off' + k * 3 + 1, none⟩ = some (.int .i64 H) ∧ w'.cell? ⟨bl', off' + k * 3 + 2, none⟩ = some (.slice gb L.length gd))
      (first | (simp (maxDischargeDepth := 12) [go_sem]; done) | (simp (maxDischargeDepth := 12) [go_sem, *]; done)) (first
      | (go_at_call 22; with_reducible refine (L_eqPicture W H _ _ _ _ _ _ L _ (F1.out.keep (by (repeat (with_reducible first | exact Kp.refl _ | exact kp_same | exact kp_app1 | exact kp_app2 | exact kp_app3 | refine Kp.grew ?_ _ _ | refine Kp.drewN ?_ _ | refine Kp.drew ?_ | refine Kp.alloc ?_ _)))) (F2.out.keep (by (repeat (with_reducible first | exact Kp.refl _ | exact kp_same | exact kp_app1 | exact kp_app2 | exact kp_app3 | refine Kp.grew ?_ _ _ | refine Kp.drewN ?_ _ | refine Kp.drew ?_ | refine Kp.alloc ?_ _)))) hm).mono ?_; rintro e w' ⟨rfl, os, m, rfl⟩))
      go_wp2
      go_roundw
      case rel => exact ⟨k + 1, by omega, by go_num, Hg.out.trans (by (try show Gr _ _); repeat (with_reducible first | exact Gr.refl _ | refine Gr.drewN ?_ _ | refine Gr.grew ?_ _ _ | refine Gr.alloc ?_ _ | refine Gr.drew ?_))⟩
      case measure => simp [intOf]; omega
    · obtain rfl : k = n := by omega
      have Hg := Lib.hid hg
      clear hg
      go_wp2
      go_ret
      exact ⟨rfl, Hg.out⟩
set_option maxRecDepth 20000 in
set_option maxHeartbeats 1000000 in
theorem L_toAlbum (a : Option Addr) (n cap : Nat) (ps : List Pic) (w : World) (hs : PSl w a ps) (hl : ps.length = n) (hn : n ≤ 1048576) (hm : ∀ i, i < n → (pAt ps i).gs.length ≤ 1048576) :
    Calls Try.prog 29 #[.agg #[.slice a n cap]] w fun e w' => (∃ v, e = .returned (.agg #[v]) ∧ PIn w' w.heap.size w'.heap.size 35 65 v ps) ∧ Gr w w' := by
  have LS := Lib.hid (fun w1 (g : Gr w w1) => L_toPictureS a n cap ps w1 (hs.keep g.kp) hl hn hm)
  have Hl := Lib.hid hl
  clear hs hm hl
  go_enter Try.func29, Try.ntmps29
  go_wp2_with fail
  refine (LS.out _ (by (try show Gr _ _); repeat (with_reducible first | exact Gr.refl _ | refine Gr.drewN ?_ _ | refine Gr.grew ?_ _ _ | refine Gr.alloc ?_ _ | refine Gr.drew ?_))).mono ?_
  rintro e w1 ⟨⟨v, rfl, hp⟩, os, m, rfl⟩
  obtain ⟨a1, c1, rfl, -⟩ := hp.sl
  have Hp := Lib.hid hp
  clear hp LS
  go_wp2
  refine bodyPost_ret (v := .agg #[.slice a1 ps.length c1]) (by simp [results, Try.results29, go_sem]) rfl ⟨⟨_, rfl, ?_⟩, (by (try show Gr _ _); repeat (with_reducible first | exact Gr.refl _ | refine Gr.drewN ?_ _ | refine Gr.grew ?_ _ _ | refine Gr.alloc ?_ _ | refine Gr.drew ?_))⟩
  exact (Hp.out.swap (Nat.le_refl _) (by simp)).base (by simp; omega) (by simp)
set_option maxRecDepth 20000 in
set_option maxHeartbeats 1000000 in
theorem L_eqAlbum (a b : Option Addr) (n ca cb : Nat) (ps : List Pic) (w : World) (hs : PSl w a ps) (ht : PSl w b ps) (hl : ps.length = n) (hn : n ≤ 1048576) :
    Calls Try.prog 31 #[.agg #[.slice a n ca], .agg #[.slice b n cb]] w fun e w' => e = .returned (.bool true) ∧ Gr w w' := by
  have LS := Lib.hid (fun w1 (g : Gr w w1) => L_eqPictureS a b n ca cb ps w1 (hs.keep g.kp) (ht.keep g.kp) hl hn)
  clear hs ht
  go_enter Try.func31, Try.ntmps31
  go_wp2_with fail
  refine (LS.out _ (by (try show Gr _ _); repeat (with_reducible first | exact Gr.refl _ | refine Gr.drewN ?_ _ | refine Gr.grew ?_ _ _ | refine Gr.alloc ?_ _ | refine Gr.drew ?_))).mono ?_
  rintro e w1 ⟨rfl, g⟩
  have G := Lib.hid (show Gr w w1 from Gr.trans (by (try show Gr _ _); repeat (with_reducible first | exact Gr.refl _ | refine Gr.drewN ?_ _ | refine Gr.grew ?_ _ _ | refine Gr.alloc ?_ _ | refine Gr.drew ?_)) g)
  clear g LS
  go_wp2
  go_ret
  exact ⟨rfl, G.out⟩
end Go.Proofs.Ytaidkokgafojeaa
