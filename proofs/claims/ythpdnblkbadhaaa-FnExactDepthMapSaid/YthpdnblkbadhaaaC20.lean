/- Contracts: maps of depths. MAXREC -/
import Derived.Test.YthpdnblkbadhaaaProg
import Derived.Test.YthpdnblkbadhaaaC15
namespace Go.Proofs.Ythpdnblkbadhaaa
open Go.RowKit Go.Fx Go.Soft
def gDep (F B d : Nat) : Nat := (gFar F B d).getD 3212836864
set_option maxRecDepth 20000 in
set_option maxHeartbeats 1000000 in
theorem I_DepthMap_1 (W H x y b1 b2 ca f b F B : Nat) (a : Option Addr) (xs : List Nat) (w : World) (m1 : MP w b2 W H a xs.length ca xs) (hf : FE .f32 f F) (hb : FE .f32 b B)
    (c0 : w.cell? ⟨b1, 0, none⟩ = some (.float .f32 f)) (c1 : w.cell? ⟨b1, 1, none⟩ = some (.float .f32 b))
    (hW : W ≤ 24) (hH : H ≤ 24) (hx : x < W) (hy : y < H) (hn : xs.length = W * H) :
    Calls Try.prog 117 #[.int .i64 x, .int .i64 y, .pointer (some ⟨b1, 0, none⟩), .pointer (some ⟨b2, 0, none⟩)] w fun e w' => (∃ r, e = .returned (.float .f32 r) ∧ FE .f32 r (gDep F B (xs.getD (x + W * y) 0))) ∧ Gr w w' := by
  have M1 := Lib.hid m1
  have Hn := Lib.hid hn
  clear m1 hn
  cases hF : gFar F B (xs.getD (x + W * y) 0)
  all_goals
    have eG := Lib.hid (show gDep F B (xs.getD (x + W * y) 0) = _ by unfold gDep; simp only [hF, Option.getD_none, Option.getD_some]; rfl)
    go_enter Try.func117, Try.ntmps117
    go_wp2_with (first
      | (go_at_call 84; with_reducible refine (I_Map_at W H x y b2 _ _ xs _ M1.out hW hH hx hy Hn.out).mono ?_; rintro e w' ⟨r, rfl, hr, n, rfl⟩)
      | (go_at_call 118; refine (I_Camera_far f b _ F B _ b1 0 _ hf hb (by assumption) (by simp [go_sem, c0]) (by simp [go_sem, c1])).mono ?_; rintro e w' ⟨⟨z, rfl, hz⟩, n, rfl⟩; rw [hF] at hz ⊢))
    go_ret
    exact ⟨⟨_, rfl, by rw [eG.out]; first | assumption | exact FE.lit (by decide +kernel)⟩, (by (try show Gr _ _); repeat (with_reducible first | exact Gr.refl _ | refine Gr.drewN ?_ _ | refine Gr.grew ?_ _ _ | refine Gr.alloc ?_ _ | refine Gr.drew ?_))⟩
set_option maxRecDepth 20000 in
set_option maxHeartbeats 2000000 in
theorem S_DepthMap (f b mx my F B X Y : Nat) (W H : Int) (a : Option Addr) (ca : Nat) (xs : List Nat) (w : World) (hf : FE .f32 f F) (hb : FE .f32 b B) (hx : FE .f32 mx X) (hy : FE .f32 my Y) (fx : FSl w a xs.length xs) (hn : xs.length ≤ 1048576) :
    Calls Try.prog 53 #[.agg #[.float .f32 f, .float .f32 b, .float .f32 mx, .float .f32 my], .agg #[.int .i64 W, .int .i64 H, .slice a xs.length ca]] w
      (PostP w (gW (gCam F B X Y && gPic W H xs.length) W) (gW (gCam F B X Y && gPic W H xs.length) H) (gCam F B X Y && gPic W H xs.length) (gVals (gCam F B X Y && gPic W H xs.length) xs.length (fun i => gDep F B (xs.getD i 0)))) := by
  obtain ⟨i0, hi, hz0, hz1, hz2⟩ := info_parts info_float32
  have hn' : xs.length ≤ maxLen := by unfold maxLen; omega
  have Fx := Lib.hid fx
  clear fx
  cases hC : gCam F B X Y
  · go_enter Try.func53, Try.ntmps53
    go_wp2_with (first
      | (go_at_call 72; with_reducible refine (S_l06Is _ _ _ _ _ _ _ _ _ _ _ hf hb hx hy (by first | (simp (maxDischargeDepth := 12) [go_sem]; done) | (simp (maxDischargeDepth := 12) [go_sem, *]; done)) (by first | (simp (maxDischargeDepth := 12) [go_sem]; done) | (simp (maxDischargeDepth := 12) [go_sem, *]; done)) (by first | (simp (maxDischargeDepth := 12) [go_sem]; done) | (simp (maxDischargeDepth := 12) [go_sem, *]; done)) (by first | (simp (maxDischargeDepth := 12) [go_sem]; done) | (simp (maxDischargeDepth := 12) [go_sem, *]; done))).mono ?_; rintro e w' ⟨rfl, n, rfl⟩; rw [hC]))
    exact bodyPost_ret (v := .tuple #[.agg #[.int .i64 0, .int .i64 0, .slice none 0 0], .bool false]) (by simp [results, Try.results53, go_sem]) rfl ⟨⟨_, rfl, FOwn.nil _ _ _⟩, (by (try show Gr _ _); repeat (with_reducible first | exact Gr.refl _ | refine Gr.drewN ?_ _ | refine Gr.grew ?_ _ _ | refine Gr.alloc ?_ _ | refine Gr.drew ?_))⟩
  cases hP : gPic W H xs.length
  · go_enter Try.func53, Try.ntmps53
    go_wp2_with (first
      | (go_at_call 72; with_reducible refine (S_l06Is _ _ _ _ _ _ _ _ _ _ _ hf hb hx hy (by first | (simp (maxDischargeDepth := 12) [go_sem]; done) | (simp (maxDischargeDepth := 12) [go_sem, *]; done)) (by first | (simp (maxDischargeDepth := 12) [go_sem]; done) | (simp (maxDischargeDepth := 12) [go_sem, *]; done)) (by first | (simp (maxDischargeDepth := 12) [go_sem]; done) | (simp (maxDischargeDepth := 12) [go_sem, *]; done)) (by first | (simp (maxDischargeDepth := 12) [go_sem]; done) | (simp (maxDischargeDepth := 12) [go_sem, *]; done))).mono ?_; rintro e w' ⟨rfl, n, rfl⟩; rw [hC])
      | (go_at_call 80; with_reducible refine (S_l03IsMap W H a _ ca _ _ _ hn' (by first | (simp (maxDischargeDepth := 12) [go_sem]; done) | (simp (maxDischargeDepth := 12) [go_sem, *]; done)) (by first | (simp (maxDischargeDepth := 12) [go_sem]; done) | (simp (maxDischargeDepth := 12) [go_sem, *]; done)) (by first | (simp (maxDischargeDepth := 12) [go_sem]; done) | (simp (maxDischargeDepth := 12) [go_sem, *]; done))).mono ?_; rintro e w' ⟨rfl, n, rfl⟩; rw [hP]))
    exact bodyPost_ret (v := .tuple #[.agg #[.int .i64 0, .int .i64 0, .slice none 0 0], .bool false]) (by simp [results, Try.results53, go_sem]) rfl ⟨⟨_, rfl, FOwn.nil _ _ _⟩, (by (try show Gr _ _); repeat (with_reducible first | exact Gr.refl _ | refine Gr.drewN ?_ _ | refine Gr.grew ?_ _ _ | refine Gr.alloc ?_ _ | refine Gr.drew ?_))⟩
  · obtain ⟨s1, s2, s3, s4, s5, s6⟩ := gSize_true (gPic_true hP).1
    have hp1 := (gPic_true hP).2
    obtain ⟨bx, ox, rfl⟩ := Fx.out.ptr (by omega)
    clear s5 s6 hp1
    go_enter Try.func53, Try.ntmps53
    go_wp2_with (first
      | (go_at_call 72; with_reducible refine (S_l06Is _ _ _ _ _ _ _ _ _ _ _ hf hb hx hy (by first | (simp (maxDischargeDepth := 12) [go_sem]; done) | (simp (maxDischargeDepth := 12) [go_sem, *]; done)) (by first | (simp (maxDischargeDepth := 12) [go_sem]; done) | (simp (maxDischargeDepth := 12) [go_sem, *]; done)) (by first | (simp (maxDischargeDepth := 12) [go_sem]; done) | (simp (maxDischargeDepth := 12) [go_sem, *]; done)) (by first | (simp (maxDischargeDepth := 12) [go_sem]; done) | (simp (maxDischargeDepth := 12) [go_sem, *]; done))).mono ?_; rintro e w' ⟨rfl, n, rfl⟩; rw [hC])
      | (go_at_call 80; with_reducible refine (S_l03IsMap W H (some ⟨bx, ox, none⟩) _ ca _ _ _ hn' (by first | (simp (maxDischargeDepth := 12) [go_sem]; done) | (simp (maxDischargeDepth := 12) [go_sem, *]; done)) (by first | (simp (maxDischargeDepth := 12) [go_sem]; done) | (simp (maxDischargeDepth := 12) [go_sem, *]; done)) (by first | (simp (maxDischargeDepth := 12) [go_sem]; done) | (simp (maxDischargeDepth := 12) [go_sem, *]; done))).mono ?_; rintro e w' ⟨rfl, n, rfl⟩; rw [hP]))
    go_loopw [7] (fun i wr => ∃ k : Nat, k ≤ xs.length ∧ i = .int .i64 k ∧ ∃ v, Blk wr w.heap.size [.float .f32 f, .float .f32 b, .float .f32 mx, .float .f32 my] 46 ∧ Blk wr (w.heap.size + 1) [.int .i64 W, .int .i64 H, .slice (some ⟨bx, ox, none⟩) xs.length ca] 43 ∧ Blk wr (w.heap.size + 2) [.int .i64 0, .int .i64 0, .slice none 0 0] 43 ∧ Blk wr (w.heap.size + 4) [.int .i64 W, .int .i64 H, v] 43 ∧ FOwn wr (w.heap.size + 3) 37 v (lst k (fun i => gDep F B (xs.getD i 0))) ∧ Gr w wr) (fun i _ => xs.length - (intOf i).toNat)
    case atStart => exact ⟨0, Nat.zero_le _, rfl, _, (by repeat (with_reducible first | assumption | exact Blk.atNew (by simp) | refine Blk.alloc ?_ _ | refine Blk.grew ?_ _ _ | refine Blk.drewN ?_ _ | refine Blk.drew ?_)), (by repeat (with_reducible first | assumption | exact Blk.atNew (by simp) | refine Blk.alloc ?_ _ | refine Blk.grew ?_ _ _ | refine Blk.drewN ?_ _ | refine Blk.drew ?_)), (by repeat (with_reducible first | assumption | exact Blk.atNew (by simp) | refine Blk.alloc ?_ _ | refine Blk.grew ?_ _ _ | refine Blk.drewN ?_ _ | refine Blk.drew ?_)), (by repeat (with_reducible first | assumption | exact Blk.atNew (by simp) | refine Blk.alloc ?_ _ | refine Blk.grew ?_ _ _ | refine Blk.drewN ?_ _ | refine Blk.drew ?_)), FOwn.empty (by repeat (with_reducible first | assumption | exact Blk.atNew (by simp) | refine Blk.alloc ?_ _ | refine Blk.grew ?_ _ _ | refine Blk.drewN ?_ _ | refine Blk.drew ?_)) (by omega), (by (try show Gr _ _); repeat (with_reducible first | exact Gr.refl _ | refine Gr.drewN ?_ _ | refine Gr.grew ?_ _ _ | refine Gr.alloc ?_ _ | refine Gr.drew ?_))⟩
    case round =>
      obtain ⟨k, hk, rfl, v, hb0, hb1, hb2, hb4, ho, hg⟩ := hrel
      have Hl : Hid (w.heap.size + 3 ≤ (w.heap.size + 4) + 1) := by simp [Hid]
      by_cases hlt : k < xs.length
      · obtain ⟨rx, hcx, hrx⟩ := (Fx.out.keep hg.kp).get k hlt
        have d0 := hb0.cellv 0
        have d1 := hb0.cellv 1
        have m2 := hb1.cellv 2
        have p2 := hb4.cellv 2
        have Hb := Lib.hid hb4
        have B0 := Lib.hid hb0
        have B1 := Lib.hid hb1
        have B2 := Lib.hid hb2
        have Ho := Lib.hid ho
        have Hg := Lib.hid hg
        clear hb0 hb1 hb2 hb4 ho hg
        cases hF : gFar F B (xs.getD k 0)
        all_goals
          have eG := Lib.hid (show gDep F B (xs.getD k 0) = _ by unfold gDep; simp only [hF, Option.getD_none, Option.getD_some]; rfl)
          go_wp2_with (first
            | (go_at_call 116; refine (S_l06Depth f b rx F B (xs.getD k 0) _ 0 _ hf hb hrx (by simp [go_sem, d0]) (by simp [go_sem, d1])).mono ?_; rintro e w' ⟨⟨z, rfl, hz⟩, n, rfl⟩; rw [hF] at hz ⊢)
            | (refine wpList_append_f rfl rfl i0 Try.underlying22 hi hz0 hz1 hz2 rfl (Ho.out.gr (by (try show Gr _ _); repeat (with_reducible first | exact Gr.refl _ | refine Gr.drewN ?_ _ | refine Gr.grew ?_ _ _ | refine Gr.alloc ?_ _ | refine Gr.drew ?_))) rfl ((Blk.atNew rfl).cellv 0 rfl) (by first | assumption | exact FE.lit (by decide +kernel)) (by simp <;> omega) (by have := Hb.out.lt; have := Hl.out; simp <;> omega) ?_
               intro v1 w1 ho1 hg1
               obtain ⟨a1, c1, rfl, -, -⟩ := ho1.sl' (k + 1) (by simp)
               obtain ⟨hb1, P, ho2⟩ := pushed_step (i := 2) (u := .slice a1 (k + 1) c1) Hb.out Ho.out (by (try show Gr _ _); repeat (with_reducible first | exact Gr.refl _ | refine Gr.drewN ?_ _ | refine Gr.grew ?_ _ _ | refine Gr.alloc ?_ _ | refine Gr.drew ?_)) hg1 ho1 (by decide)
               have q2 := hb1.cellv 2
               have z2 := hb1.frozen 2
               have Hb2 := Lib.hid hb1
               have Ho2 := Lib.hid ho2
               have HP := Lib.hid P
               clear hg1 hb1 ho1 ho2 P))
          go_roundw
          case rel => exact ⟨k + 1, by omega, by go_num, _, HP.out.blk B0.out (by omega) (by omega), HP.out.blk B1.out (by omega) (by omega), HP.out.blk B2.out (by omega) (by omega), Hb2.out.set _, by rw [← lst_succ, eG.out]; exact Ho2.out, HP.out.gr Hg.out (by omega) (by omega)⟩
          case measure => simp [intOf]; omega
      · obtain rfl : k = xs.length := by omega
        have p0 := hb4.cellv 0
        have p1 := hb4.cellv 1
        have p2 := hb4.cellv 2
        have q0 := hb2.cellv 0
        have q1 := hb2.cellv 1
        have q2 := hb2.cellv 2
        have z0 := hb2.frozen 0
        have z1 := hb2.frozen 1
        have z2 := hb2.frozen 2
        have m2 := hb1.cellv 2
        obtain ⟨a1, c1, rfl, -, -⟩ := ho.sl' xs.length (by simp)
        have Ho := Lib.hid ho
        have Hg := Lib.hid hg
        clear hb0 hb1 hb2 hb4 ho hg
        go_wp2
        refine bodyPost_ret (v := .tuple #[.agg #[.int .i64 W, .int .i64 H, .slice a1 xs.length c1], .bool true]) (by simp [results, Try.results53, go_sem, *]) rfl ⟨⟨_, rfl, ?_⟩, ?_⟩
        · have h := Ho.out
          show FOwn _ _ _ _ (lst xs.length _)
          exact FOwn.base (B := w.heap.size + 3) (by repeat (with_reducible first | assumption | refine FOwn.setOther ?_ _ (by simp <;> omega))) (by omega)
        · have h := Hg.out
          exact (by repeat (with_reducible first | assumption | refine Gr.setCell ?_ (by simp <;> omega) _))
theorem tells_DepthMap (W H b1 b2 ca f b F B : Nat) (a : Option Addr) (xs : List Nat) (w : World) (m1 : MP w b2 W H a xs.length ca xs) (hf : FE .f32 f F) (hb : FE .f32 b B)
    (c0 : w.cell? ⟨b1, 0, none⟩ = some (.float .f32 f)) (c1 : w.cell? ⟨b1, 1, none⟩ = some (.float .f32 b)) (hW : W ≤ 24) (hH : H ≤ 24) (hn : xs.length = W * H) :
    Tells w 117 #[.pointer (some ⟨b1, 0, none⟩), .pointer (some ⟨b2, 0, none⟩)] W H (fun x y => gDep F B (xs.getD (x + W * y) 0)) :=
  ⟨Try.call117, fun x y hx hy w1 g => I_DepthMap_1 W H x y b1 b2 ca f b F B a xs w1 (m1.gr g) hf hb (g.cell c0) (g.cell c1) hW hH hx hy hn⟩
set_option maxRecDepth 20000 in
set_option maxHeartbeats 800000 in
theorem I_DepthMap (f b mx my F B X Y : Nat) (W H : Int) (a : Option Addr) (ca : Nat) (xs : List Nat) (w : World) (hf : FE .f32 f F) (hb : FE .f32 b B) (hx : FE .f32 mx X) (hy : FE .f32 my Y) (fx : FSl w a xs.length xs) (hn : xs.length ≤ 1048576) :
    Calls Try.prog 54 #[.agg #[.float .f32 f, .float .f32 b, .float .f32 mx, .float .f32 my], .agg #[.int .i64 W, .int .i64 H, .slice a xs.length ca]] w
      (PostP w (gW (gCam F B X Y && gPic W H xs.length) W) (gW (gCam F B X Y && gPic W H xs.length) H) (gCam F B X Y && gPic W H xs.length) (gVals (gCam F B X Y && gPic W H xs.length) xs.length (fun i => gDep F B (xs.getD i 0)))) := by
  have hn' : xs.length ≤ maxLen := by unfold maxLen; omega
  have Fx := Lib.hid fx
  clear fx
  cases hC : gCam F B X Y
  · go_enter Try.func54, Try.ntmps54
    go_wp2_with (first
      | (go_at_call 75; with_reducible refine (I_ValidCamera _ _ _ _ _ _ _ _ _ hf hb hx hy).mono ?_; rintro e w' ⟨rfl, os, m, rfl⟩; rw [hC]))
    exact bodyPost_ret (v := .tuple #[.agg #[.int .i64 0, .int .i64 0, .slice none 0 0], .bool false]) (by simp [results, Try.results54, go_sem]) rfl ⟨⟨_, rfl, FOwn.nil _ _ _⟩, (by (try show Gr _ _); repeat (with_reducible first | exact Gr.refl _ | refine Gr.drewN ?_ _ | refine Gr.grew ?_ _ _ | refine Gr.alloc ?_ _ | refine Gr.drew ?_))⟩
  · simp only [Bool.true_and]
    have EG : (if gPic W H xs.length then grid W.toNat (fun x y => gDep F B (xs.getD (x + W.toNat * y) 0)) xs.length else []) = gVals (gPic W H xs.length) xs.length (fun i => gDep F B (xs.getD i 0)) := by
      unfold gVals
      split
      · exact lst_congr fun i _ => by simp only [Nat.mod_add_div]
      · rfl
    obtain ⟨L, hL⟩ : ∃ L, L = gVals (gPic W H xs.length) xs.length (fun i => gDep F B (xs.getD i 0)) := ⟨_, rfl⟩
    have HR := Lib.hid (fun (u : World) (b1 b2 : Nat) (m1 : MP u b2 W H a xs.length ca xs) (c0 : u.cell? ⟨b1, 0, none⟩ = some (.float .f32 f)) (c1 : u.cell? ⟨b1, 1, none⟩ = some (.float .f32 b)) =>
      I_remap W H a ca xs 117 #[.pointer (some ⟨b1, 0, none⟩), .pointer (some ⟨b2, 0, none⟩)] (fun x y => gDep F B (xs.getD (x + W.toNat * y) 0)) u m1.fs hn'
        (fun W' H' h1 h2 _ h3 _ h4 e1 => by
          subst h1 h2
          rw [Int.toNat_natCast]
          exact tells_DepthMap W' H' b1 b2 ca f b F B a xs u m1 hf hb c0 c1 h3 h4 e1))
    rw [EG, ← hL] at HR
    rw [← hL]
    clear hL EG
    cases hP : gPic W H xs.length
    all_goals
      rw [hP] at HR
      go_enter Try.func54, Try.ntmps54
      go_wp2_with fail
      refine (I_ValidCamera _ _ _ _ _ _ _ _ _ hf hb hx hy).mono ?_
      rintro e u0 ⟨rfl, g⟩
      rw [hC]
      have k : Gr w u0 := Gr.trans (by (try show Gr _ _); repeat (with_reducible first | exact Gr.refl _ | refine Gr.drewN ?_ _ | refine Gr.grew ?_ _ _ | refine Gr.alloc ?_ _ | refine Gr.drew ?_)) g
      have B0 := Lib.hid (Blk.gr (show Blk _ w.heap.size [.float .f32 f, .float .f32 b, .float .f32 mx, .float .f32 my] 46 from (by repeat (with_reducible first | assumption | exact Blk.atNew (by simp) | refine Blk.alloc ?_ _ | refine Blk.grew ?_ _ _ | refine Blk.drewN ?_ _ | refine Blk.drew ?_))) g)
      have B1 := Lib.hid (Blk.gr (show Blk _ (w.heap.size + 1) [.int .i64 W, .int .i64 H, .slice a xs.length ca] 43 from (by repeat (with_reducible first | assumption | exact Blk.atNew (by simp) | refine Blk.alloc ?_ _ | refine Blk.grew ?_ _ _ | refine Blk.drewN ?_ _ | refine Blk.drew ?_))) g)
      have B6 := Lib.hid (Blk.gr (show Blk _ (w.heap.size + 2) [.int .i64 0, .int .i64 0, .slice none 0 0] 43 from (by repeat (with_reducible first | assumption | exact Blk.atNew (by simp) | refine Blk.alloc ?_ _ | refine Blk.grew ?_ _ _ | refine Blk.drewN ?_ _ | refine Blk.drew ?_))) g)
      have G := Lib.hid k
      clear g k
      have p0 := B1.out.cellv 0
      have p1 := B1.out.cellv 1
      have p2 := B1.out.cellv 2
      go_wp2_with fail
      refine (HR.out u0 _ _ ⟨B1.out.cellv 0, B1.out.cellv 1, B1.out.cellv 2, Fx.out.keep G.out.kp⟩ (B0.out.cellv 0) (B0.out.cellv 1)).mono ?_
      rintro e u1 ⟨⟨v0, rfl, ho⟩, g⟩
      obtain ⟨a1, c1, rfl, -, -⟩ := ho.sl
      have Hb := Lib.hid B6.out.lt
      replace B6 := Lib.hid (B6.out.gr g)
      have Ho := Lib.hid ho
      have G1 := Lib.hid (G.out.trans g)
      have G0 := Lib.hid G.out.size
      clear ho g p0 p1 p2
      have q0 := B6.out.cellv 0
      have q1 := B6.out.cellv 1
      have q2 := B6.out.cellv 2
      have z0 := B6.out.frozen 0
      have z1 := B6.out.frozen 1
      have z2 := B6.out.frozen 2
      go_wp2
      refine bodyPost_ret (v := .tuple #[.agg #[.int .i64 _, .int .i64 _, .slice a1 _ c1], .bool _]) (by simp [results, Try.results54, go_sem, *]; rfl) rfl ⟨⟨_, rfl, ?_⟩, ?_⟩
      · have h := Ho.out
        have hb := Hb.out
        have h0 := G0.out
        exact FOwn.base (B := u0.heap.size) (by repeat (with_reducible first | assumption | refine FOwn.setOther ?_ _ (by simp <;> omega))) h0
      · have h := G1.out
        exact (by repeat (with_reducible first | assumption | refine Gr.setCell ?_ (by simp <;> omega) _))
end Go.Proofs.Ythpdnblkbadhaaa
