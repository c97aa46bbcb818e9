/- Contracts: maps of planes. MAXREC -/
import Derived.Test.YthpdnblkbadhaaaProg
import Derived.Test.YthpdnblkbadhaaaC15
namespace Go.Proofs.Ythpdnblkbadhaaa
open Go.RowKit Go.Fx Go.Soft
/-- What a plane tells of a cell. -/
def gPlaneZ (F B X Y P Q R x y : Nat) : Nat :=
  fop .quo .f32 (fop .mul .f32 (fop .sub .f32 (fop .sub .f32 F (fop .mul .f32 P (fop .sub .f32 (floatOfInt .f32 (x : Int)) X))) (fop .mul .f32 Q (fop .sub .f32 (floatOfInt .f32 (y : Int)) Y))) B) R
def gPlane (F B X Y P Q R x y : Nat) : Nat := if gPlus (gPlaneZ F B X Y P Q R x y) then gPlaneZ F B X Y P Q R x y else 3212836864
def gPlaneAt (F B X Y P Q R : Nat) (U : Int) (i : Nat) : Nat := gPlane F B X Y P Q R (i % U.toNat) (i / U.toNat)
set_option maxRecDepth 20000 in
set_option maxHeartbeats 1000000 in
theorem I_PlaneMap_1 (x y b1 b2 f b mx my p q r F B X Y P Q R : Nat) (w : World) (hf : FE .f32 f F) (hb : FE .f32 b B) (hmx : FE .f32 mx X) (hmy : FE .f32 my Y) (hp : FE .f32 p P) (hq : FE .f32 q Q) (hr : FE .f32 r R)
    (c0 : w.cell? ⟨b1, 0, none⟩ = some (.float .f32 f)) (c1 : w.cell? ⟨b1, 1, none⟩ = some (.float .f32 b)) (c2 : w.cell? ⟨b1, 2, none⟩ = some (.float .f32 mx)) (c3 : w.cell? ⟨b1, 3, none⟩ = some (.float .f32 my))
    (d0 : w.cell? ⟨b2, 0, none⟩ = some (.float .f32 p)) (d1 : w.cell? ⟨b2, 1, none⟩ = some (.float .f32 q)) (d2 : w.cell? ⟨b2, 2, none⟩ = some (.float .f32 r)) :
    Calls Try.prog 78 #[.int .i64 x, .int .i64 y, .pointer (some ⟨b1, 0, none⟩), .pointer (some ⟨b2, 0, none⟩)] w fun e w' => (∃ r, e = .returned (.float .f32 r) ∧ FE .f32 r (gPlane F B X Y P Q R x y)) ∧ Gr w w' := by
  have fx := FE.ofInt .f32 (x : Int)
  have fy := FE.ofInt .f32 (y : Int)
  cases hP : gPlus (gPlaneZ F B X Y P Q R x y)
  all_goals
    have eG := Lib.hid (show gPlane F B X Y P Q R x y = _ by unfold gPlane; simp only [hP, if_true]; rfl)
    unfold gPlaneZ at hP
    go_enter Try.func78, Try.ntmps78
    go_wp2_with (first
      | (go_at_call 79; with_reducible refine (I_plus _ _ _ (by assumption)).mono ?_; rintro e w' ⟨rfl, n, rfl⟩; rw [hP])
      | ((with_reducible apply wpList_fop); (case hw => rfl); (case hop => rfl); (case hx => rfl); (case hy => rfl); (case hA => (first | assumption | exact FE.ofInt _ _ | exact FE.lit (by decide +kernel))); (case hB => (first | assumption | exact FE.ofInt _ _ | exact FE.lit (by decide +kernel))); intro r n hr)
      | ((with_reducible apply wpList_fcmp); (case hw => rfl); (case hop => rfl); (case hx => rfl); (case hy => rfl); (case hA => (first | assumption | exact FE.ofInt _ _ | exact FE.lit (by decide +kernel))); (case hB => (first | assumption | exact FE.ofInt _ _ | exact FE.lit (by decide +kernel))); (case hb => (first | assumption | rfl)))
      | ((with_reducible apply wpList_widen); (case hw => rfl); (case hs => exact Try.underlying37); (case hd => exact Try.underlying63); (case hx => rfl); (case hA => (first | assumption | exact FE.ofInt _ _ | exact FE.lit (by decide +kernel))); intro r n hr)
      | ((with_reducible apply wpList_fneg); (case hw => rfl); (case hx => rfl); (case hA => (first | assumption | exact FE.ofInt _ _ | exact FE.lit (by decide +kernel))); intro r hr))
    go_ret
    exact ⟨⟨_, rfl, by rw [eG.out]; first | assumption | exact FE.lit (by decide +kernel)⟩, (by (try show Gr _ _); repeat (with_reducible first | exact Gr.refl _ | refine Gr.drewN ?_ _ | refine Gr.grew ?_ _ _ | refine Gr.alloc ?_ _ | refine Gr.drew ?_))⟩
theorem FOwn_zero {w : World} {B : Nat} {e : TypeId} (h : Blk w B [] e) : FOwn w B e (.slice (some ⟨B, 0, none⟩) 0 0) [] := FOwn.empty h (Nat.le_refl _)
set_option maxRecDepth 20000 in
set_option maxHeartbeats 2000000 in
theorem S_PlaneMap (f b mx my p q r F B X Y P Q R : Nat) (U V : Int) (w : World) (hf : FE .f32 f F) (hb : FE .f32 b B) (hmx : FE .f32 mx X) (hmy : FE .f32 my Y) (hp : FE .f32 p P) (hq : FE .f32 q Q) (hr : FE .f32 r R) :
    Calls Try.prog 23 #[.agg #[.float .f32 f, .float .f32 b, .float .f32 mx, .float .f32 my], .agg #[.float .f32 p, .float .f32 q, .float .f32 r], .int .i64 U, .int .i64 V] w
      (PostP w (gW (gCam F B X Y && gSize U V) U) (gW (gCam F B X Y && gSize U V) V) (gCam F B X Y && gSize U V) (gVals (gCam F B X Y && gSize U V) (U * V).toNat (gPlaneAt F B X Y P Q R U))) := by
  obtain ⟨i0, hi, hz0, hz1, hz2⟩ := info_parts info_float32
  cases hC : gCam F B X Y
  · go_enter Try.func23, Try.ntmps23
    go_wp2_with (first
      | (go_at_call 72; with_reducible refine (S_l06Is _ _ _ _ _ _ _ _ _ _ _ hf hb hmx hmy (by first | (simp (maxDischargeDepth := 12) [go_sem]; done) | (simp (maxDischargeDepth := 12) [go_sem, *]; done)) (by first | (simp (maxDischargeDepth := 12) [go_sem]; done) | (simp (maxDischargeDepth := 12) [go_sem, *]; done)) (by first | (simp (maxDischargeDepth := 12) [go_sem]; done) | (simp (maxDischargeDepth := 12) [go_sem, *]; done)) (by first | (simp (maxDischargeDepth := 12) [go_sem]; done) | (simp (maxDischargeDepth := 12) [go_sem, *]; done))).mono ?_; rintro e w' ⟨rfl, n, rfl⟩; rw [hC]))
    exact bodyPost_ret (v := .tuple #[.agg #[.int .i64 0, .int .i64 0, .slice none 0 0], .bool false]) (by simp [results, Try.results23, go_sem]) rfl ⟨⟨_, rfl, FOwn.nil _ _ _⟩, (by (try show Gr _ _); repeat (with_reducible first | exact Gr.refl _ | refine Gr.drewN ?_ _ | refine Gr.grew ?_ _ _ | refine Gr.alloc ?_ _ | refine Gr.drew ?_))⟩
  cases hS : gSize U V
  · go_enter Try.func23, Try.ntmps23
    go_wp2_with (first
      | (go_at_call 72; with_reducible refine (S_l06Is _ _ _ _ _ _ _ _ _ _ _ hf hb hmx hmy (by first | (simp (maxDischargeDepth := 12) [go_sem]; done) | (simp (maxDischargeDepth := 12) [go_sem, *]; done)) (by first | (simp (maxDischargeDepth := 12) [go_sem]; done) | (simp (maxDischargeDepth := 12) [go_sem, *]; done)) (by first | (simp (maxDischargeDepth := 12) [go_sem]; done) | (simp (maxDischargeDepth := 12) [go_sem, *]; done)) (by first | (simp (maxDischargeDepth := 12) [go_sem]; done) | (simp (maxDischargeDepth := 12) [go_sem, *]; done))).mono ?_; rintro e w' ⟨rfl, n, rfl⟩; rw [hC])
      | (go_at_call 73; with_reducible refine (S_l02Size _ _ _).mono ?_; rintro e w' ⟨rfl, rfl⟩; rw [hS]))
    exact bodyPost_ret (v := .tuple #[.agg #[.int .i64 0, .int .i64 0, .slice none 0 0], .bool false]) (by simp [results, Try.results23, go_sem]) rfl ⟨⟨_, rfl, FOwn.nil _ _ _⟩, (by (try show Gr _ _); repeat (with_reducible first | exact Gr.refl _ | refine Gr.drewN ?_ _ | refine Gr.grew ?_ _ _ | refine Gr.alloc ?_ _ | refine Gr.drew ?_))⟩
  · obtain ⟨s1, s2, s3, s4, s5, s6⟩ := gSize_true hS
    obtain ⟨U, rfl⟩ := Int.eq_ofNat_of_zero_le (show 0 ≤ U by omega)
    obtain ⟨V, rfl⟩ := Int.eq_ofNat_of_zero_le (show 0 ≤ V by omega)
    have h24 : U * V ≤ 576 := Nat.mul_le_mul (show U ≤ 24 by omega) (show V ≤ 24 by omega)
    have eN : ((U : Int) * (V : Int)).toNat = U * V := by rw [← Int.natCast_mul]; exact Int.toNat_natCast _
    have EG : Hid (lst (U * V) (gPlaneAt F B X Y P Q R U) = grid U (gPlane F B X Y P Q R) (U * V)) := by
      exact lst_congr fun i _ => by simp [gPlaneAt]
    rw [eN]
    clear s5 s6 eN
    go_enter Try.func23, Try.ntmps23
    go_wp2_with (first
      | (go_at_call 72; with_reducible refine (S_l06Is _ _ _ _ _ _ _ _ _ _ _ hf hb hmx hmy (by first | (simp (maxDischargeDepth := 12) [go_sem]; done) | (simp (maxDischargeDepth := 12) [go_sem, *]; done)) (by first | (simp (maxDischargeDepth := 12) [go_sem]; done) | (simp (maxDischargeDepth := 12) [go_sem, *]; done)) (by first | (simp (maxDischargeDepth := 12) [go_sem]; done) | (simp (maxDischargeDepth := 12) [go_sem, *]; done)) (by first | (simp (maxDischargeDepth := 12) [go_sem]; done) | (simp (maxDischargeDepth := 12) [go_sem, *]; done))).mono ?_; rintro e w' ⟨rfl, n, rfl⟩; rw [hC])
      | (go_at_call 73; with_reducible refine (S_l02Size _ _ _).mono ?_; rintro e w' ⟨rfl, rfl⟩; rw [hS]))
    go_loopw [11] (fun i wr => ∃ y : Nat, y ≤ V ∧ i = .int .i64 y ∧ ∃ v, Blk wr w.heap.size [.float .f32 f, .float .f32 b, .float .f32 mx, .float .f32 my] 46 ∧ Blk wr (w.heap.size + 1) [.float .f32 p, .float .f32 q, .float .f32 r] 48 ∧ Blk wr (w.heap.size + 2) [.int .i64 0, .int .i64 0, .slice none 0 0] 43 ∧ Blk wr (w.heap.size + 4) [.int .i64 U, .int .i64 V, v] 43 ∧ FOwn wr (w.heap.size + 3) 37 v (grid U (gPlane F B X Y P Q R) (0 + U * y)) ∧ Gr w wr) (fun i _ => V - (intOf i).toNat)
    case atStart => exact ⟨0, Nat.zero_le _, rfl, _, (by repeat (with_reducible first | assumption | exact Blk.atNew (by simp) | refine Blk.alloc ?_ _ | refine Blk.grew ?_ _ _ | refine Blk.drewN ?_ _ | refine Blk.drew ?_)), (by repeat (with_reducible first | assumption | exact Blk.atNew (by simp) | refine Blk.alloc ?_ _ | refine Blk.grew ?_ _ _ | refine Blk.drewN ?_ _ | refine Blk.drew ?_)), (by repeat (with_reducible first | assumption | exact Blk.atNew (by simp) | refine Blk.alloc ?_ _ | refine Blk.grew ?_ _ _ | refine Blk.drewN ?_ _ | refine Blk.drew ?_)), (by repeat (with_reducible first | assumption | exact Blk.atNew (by simp) | refine Blk.alloc ?_ _ | refine Blk.grew ?_ _ _ | refine Blk.drewN ?_ _ | refine Blk.drew ?_)), FOwn.empty (by repeat (with_reducible first | assumption | exact Blk.atNew (by simp) | refine Blk.alloc ?_ _ | refine Blk.grew ?_ _ _ | refine Blk.drewN ?_ _ | refine Blk.drew ?_)) (by omega), (by (try show Gr _ _); repeat (with_reducible first | exact Gr.refl _ | refine Gr.drewN ?_ _ | refine Gr.grew ?_ _ _ | refine Gr.alloc ?_ _ | refine Gr.drew ?_))⟩
    case round =>
      obtain ⟨y, hy, rfl, v, hb0, hb1, hb2, hb4, ho, hg⟩ := hrel
      have Hl : Hid (w.heap.size + 3 ≤ (w.heap.size + 4) + 1) := by simp [Hid]
      by_cases hlt : y < V
      · have Hb := Lib.hid hb4
        have B0 := Lib.hid hb0
        have B1 := Lib.hid hb1
        have B2 := Lib.hid hb2
        have Ho := Lib.hid ho
        have Hg := Lib.hid hg
        clear hb0 hb1 hb2 hb4 ho hg
        go_wp2
        go_loopw [12] (fun i wx => ∃ x : Nat, x ≤ U ∧ i = .int .i64 x ∧ ∃ v, Blk wx w.heap.size [.float .f32 f, .float .f32 b, .float .f32 mx, .float .f32 my] 46 ∧ Blk wx (w.heap.size + 1) [.float .f32 p, .float .f32 q, .float .f32 r] 48 ∧ Blk wx (w.heap.size + 2) [.int .i64 0, .int .i64 0, .slice none 0 0] 43 ∧ Blk wx (w.heap.size + 4) [.int .i64 U, .int .i64 V, v] 43 ∧ FOwn wx (w.heap.size + 3) 37 v (grid U (gPlane F B X Y P Q R) (x + U * y)) ∧ Gr w wx) (fun i _ => U - (intOf i).toNat)
        case atStart => exact ⟨0, Nat.zero_le _, rfl, v, B0.out, B1.out, B2.out, Hb.out, Ho.out, Hg.out⟩
        case round =>
          clear Hb B0 B1 B2 Ho Hg
          rename_i wr0
          obtain ⟨x, hx, rfl, v, hb0, hb1, hb2, hb4, ho, hg⟩ := hrel
          by_cases hxt : x < U
          · have hl := cell_lt hxt hlt
            have d0 := hb0.cellv 0
            have d1 := hb0.cellv 1
            have d2 := hb0.cellv 2
            have d3 := hb0.cellv 3
            have f0 := hb1.cellv 0
            have f1 := hb1.cellv 1
            have f2 := hb1.cellv 2
            have p2 := hb4.cellv 2
            have Hb := Lib.hid hb4
            have B0 := Lib.hid hb0
            have B1 := Lib.hid hb1
            have B2 := Lib.hid hb2
            have Ho := Lib.hid ho
            have Hg := Lib.hid hg
            clear hb0 hb1 hb2 hb4 ho hg
            have fx := FE.ofInt .f32 (x : Int)
            have fy := FE.ofInt .f32 (y : Int)
            cases hP : gPlus (gPlaneZ F B X Y P Q R x y)
            all_goals
              have eG := Lib.hid (show gPlane F B X Y P Q R x y = _ by unfold gPlane; simp only [hP, if_true]; rfl)
              unfold gPlaneZ at hP
              go_wp2_with (first
                | (go_at_call 74; with_reducible refine (S_l06Above _ _ _ (by assumption)).mono ?_; rintro e w' ⟨rfl, n, rfl⟩; rw [hP])
                    | ((with_reducible apply wpList_fop); (case hw => rfl); (case hop => rfl); (case hx => rfl); (case hy => rfl); (case hA => (first | assumption | exact FE.ofInt _ _ | exact FE.lit (by decide +kernel))); (case hB => (first | assumption | exact FE.ofInt _ _ | exact FE.lit (by decide +kernel))); intro r n hr)
                    | ((with_reducible apply wpList_fcmp); (case hw => rfl); (case hop => rfl); (case hx => rfl); (case hy => rfl); (case hA => (first | assumption | exact FE.ofInt _ _ | exact FE.lit (by decide +kernel))); (case hB => (first | assumption | exact FE.ofInt _ _ | exact FE.lit (by decide +kernel))); (case hb => (first | assumption | rfl)))
                    | ((with_reducible apply wpList_widen); (case hw => rfl); (case hs => exact Try.underlying37); (case hd => exact Try.underlying63); (case hx => rfl); (case hA => (first | assumption | exact FE.ofInt _ _ | exact FE.lit (by decide +kernel))); intro r n hr)
                    | ((with_reducible apply wpList_fneg); (case hw => rfl); (case hx => rfl); (case hA => (first | assumption | exact FE.ofInt _ _ | exact FE.lit (by decide +kernel))); intro r hr)
                | (refine wpList_append_f rfl rfl i0 Try.underlying22 hi hz0 hz1 hz2 rfl (Ho.out.gr (by (try show Gr _ _); repeat (with_reducible first | exact Gr.refl _ | refine Gr.drewN ?_ _ | refine Gr.grew ?_ _ _ | refine Gr.alloc ?_ _ | refine Gr.drew ?_))) rfl ((Blk.atNew rfl).cellv 0 rfl) (by first | assumption | exact FE.lit (by decide +kernel)) (by simp <;> omega) (by have := Hb.out.lt; have := Hl.out; simp <;> omega) ?_
                   intro v1 w1 ho1 hg1
                   obtain ⟨a1, c1, rfl, -, -⟩ := ho1.sl' (x + U * y + 1) (by simp)
                   obtain ⟨hb1, P, ho2⟩ := pushed_step (i := 2) (u := .slice a1 (x + U * y + 1) c1) Hb.out Ho.out (by (try show Gr _ _); repeat (with_reducible first | exact Gr.refl _ | refine Gr.drewN ?_ _ | refine Gr.grew ?_ _ _ | refine Gr.alloc ?_ _ | refine Gr.drew ?_)) hg1 ho1 (by decide)
                   have q2 := hb1.cellv 2
                   have z2 := hb1.frozen 2
                   have Hb2 := Lib.hid hb1
                   have Ho2 := Lib.hid ho2
                   have HP := Lib.hid P
                   clear hg1 hb1 ho1 ho2 P))
              go_roundw
              case rel => exact ⟨x + 1, by omega, by go_num, _, HP.out.blk B0.out (by omega) (by omega), HP.out.blk B1.out (by omega) (by omega), HP.out.blk B2.out (by omega) (by omega), Hb2.out.set _, by rw [← grid_succ hxt, eG.out]; exact Ho2.out, HP.out.gr Hg.out (by omega) (by omega)⟩
              case measure => simp [intOf]; omega
          · obtain rfl : x = U := by omega
            have Hb := Lib.hid hb4
            have B0 := Lib.hid hb0
            have B1 := Lib.hid hb1
            have B2 := Lib.hid hb2
            have Ho := Lib.hid ho
            have Hg := Lib.hid hg
            clear hb0 hb1 hb2 hb4 ho hg
            go_wp2
            go_roundw
            case rel => exact ⟨y + 1, by omega, by go_num, v, B0.out, B1.out, B2.out, Hb.out, by rw [← grid_row]; exact Ho.out, Hg.out⟩
            case measure => simp [intOf]; omega
      · obtain rfl : y = V := by omega
        have p0 := hb4.cellv 0
        have p1 := hb4.cellv 1
        have p2 := hb4.cellv 2
        have q0 := hb2.cellv 0
        have q1 := hb2.cellv 1
        have q2 := hb2.cellv 2
        have z0 := hb2.frozen 0
        have z1 := hb2.frozen 1
        have z2 := hb2.frozen 2
        rw [Nat.zero_add] at ho
        obtain ⟨a1, c1, rfl, -, -⟩ := ho.sl' (U * y) (by simp)
        have Ho := Lib.hid ho
        have Hg := Lib.hid hg
        clear hb0 hb1 hb2 hb4 ho hg
        go_wp2
        refine bodyPost_ret (v := .tuple #[.agg #[.int .i64 U, .int .i64 y, .slice a1 (U * y) c1], .bool true]) (by simp [results, Try.results23, go_sem, *]) rfl ⟨⟨_, rfl, ?_⟩, ?_⟩
        · have h := Ho.out
          rw [← EG.out] at h
          show FOwn _ _ _ _ (lst (U * y) _)
          exact FOwn.base (B := w.heap.size + 3) (by repeat (with_reducible first | assumption | refine FOwn.setOther ?_ _ (by simp <;> omega))) (by omega)
        · have h := Hg.out
          exact (by repeat (with_reducible first | assumption | refine Gr.setCell ?_ (by simp <;> omega) _))
theorem tells_PlaneMap (U V b1 b2 f b mx my p q r F B X Y P Q R : Nat) (w : World) (hf : FE .f32 f F) (hb : FE .f32 b B) (hmx : FE .f32 mx X) (hmy : FE .f32 my Y) (hp : FE .f32 p P) (hq : FE .f32 q Q) (hr : FE .f32 r R)
    (hB0 : Blk w b1 [.float .f32 f, .float .f32 b, .float .f32 mx, .float .f32 my] 46) (hB1 : Blk w b2 [.float .f32 p, .float .f32 q, .float .f32 r] 48) :
    Tells w 78 #[.pointer (some ⟨b1, 0, none⟩), .pointer (some ⟨b2, 0, none⟩)] U V (gPlane F B X Y P Q R) :=
  ⟨Try.call78, fun x y hx hy w1 g => I_PlaneMap_1 x y b1 b2 f b mx my p q r F B X Y P Q R w1 hf hb hmx hmy hp hq hr ((hB0.gr g).cellv 0) ((hB0.gr g).cellv 1) ((hB0.gr g).cellv 2) ((hB0.gr g).cellv 3) ((hB1.gr g).cellv 0) ((hB1.gr g).cellv 1) ((hB1.gr g).cellv 2)⟩
set_option maxRecDepth 20000 in
set_option maxHeartbeats 800000 in
theorem I_PlaneMap (f b mx my p q r F B X Y P Q R : Nat) (U V : Int) (w : World) (hf : FE .f32 f F) (hb : FE .f32 b B) (hmx : FE .f32 mx X) (hmy : FE .f32 my Y) (hp : FE .f32 p P) (hq : FE .f32 q Q) (hr : FE .f32 r R) :
    Calls Try.prog 26 #[.agg #[.float .f32 f, .float .f32 b, .float .f32 mx, .float .f32 my], .agg #[.float .f32 p, .float .f32 q, .float .f32 r], .int .i64 U, .int .i64 V] w
      (PostP w (gW (gCam F B X Y && gSize U V) U) (gW (gCam F B X Y && gSize U V) V) (gCam F B X Y && gSize U V) (gVals (gCam F B X Y && gSize U V) ((U * V).toNat) (gPlaneAt F B X Y P Q R U))) := by
  cases hT : gCam F B X Y && gSize U V
  · cases hC : gCam F B X Y
    · go_enter Try.func26, Try.ntmps26
      go_wp2_with (first
      | (go_at_call 75; with_reducible refine (I_ValidCamera _ _ _ _ _ _ _ _ _ hf hb hmx hmy).mono ?_; rintro e w' ⟨rfl, os, m, rfl⟩; rw [hC]))
      exact bodyPost_ret (v := .tuple #[.agg #[.int .i64 0, .int .i64 0, .slice none 0 0], .bool false]) (by simp [results, Try.results26, go_sem]) rfl ⟨⟨_, rfl, FOwn.nil _ _ _⟩, (by (try show Gr _ _); repeat (with_reducible first | exact Gr.refl _ | refine Gr.drewN ?_ _ | refine Gr.grew ?_ _ _ | refine Gr.alloc ?_ _ | refine Gr.drew ?_))⟩
    · have hS : gSize U V = false := by rw [hC] at hT; simpa using hT
      go_enter Try.func26, Try.ntmps26
      go_wp2_with (first
      | (go_at_call 75; with_reducible refine (I_ValidCamera _ _ _ _ _ _ _ _ _ hf hb hmx hmy).mono ?_; rintro e w' ⟨rfl, os, m, rfl⟩; rw [hC])
      | (go_at_call 76; with_reducible refine (I_sizeOk _ _ _).mono ?_; rintro e w' ⟨rfl, rfl⟩; rw [hS]))
      exact bodyPost_ret (v := .tuple #[.agg #[.int .i64 0, .int .i64 0, .slice none 0 0], .bool false]) (by simp [results, Try.results26, go_sem]) rfl ⟨⟨_, rfl, FOwn.nil _ _ _⟩, (by (try show Gr _ _); repeat (with_reducible first | exact Gr.refl _ | refine Gr.drewN ?_ _ | refine Gr.grew ?_ _ _ | refine Gr.alloc ?_ _ | refine Gr.drew ?_))⟩
  · obtain ⟨hC, hS⟩ : gCam F B X Y = true ∧ gSize U V = true := by simpa using hT
    obtain ⟨t1, t2, t3, t4, t5, t6⟩ := gSize_true hS
    obtain ⟨U, rfl⟩ := Int.eq_ofNat_of_zero_le (show 0 ≤ U by omega)
    obtain ⟨V, rfl⟩ := Int.eq_ofNat_of_zero_le (show 0 ≤ V by omega)
    have eN : ((U : Int) * (V : Int)).toNat = U * V := by rw [← Int.natCast_mul]; exact Int.toNat_natCast _
    have HS := Lib.hid hS
    have HC := Lib.hid hC
    rw [eN]
    clear eN t5 t6 hS hC hT
    have EG : Hid (grid U (gPlane F B X Y P Q R) (U * V) = lst (U * V) (gPlaneAt F B X Y P Q R U)) := by
      exact lst_congr fun i _ => by simp [gPlaneAt]
    go_enter Try.func26, Try.ntmps26
    go_wp2_with fail
    refine (I_ValidCamera _ _ _ _ _ _ _ _ _ hf hb hmx hmy).mono ?_
    rintro e u0 ⟨rfl, g⟩
    have k : Gr w u0 := Gr.trans (by (try show Gr _ _); repeat (with_reducible first | exact Gr.refl _ | refine Gr.drewN ?_ _ | refine Gr.grew ?_ _ _ | refine Gr.alloc ?_ _ | refine Gr.drew ?_)) g
    rw [HC.out]
    have B0 := Lib.hid (Blk.gr (show Blk _ (w.heap.size) [.float .f32 f, .float .f32 b, .float .f32 mx, .float .f32 my] 46 from (by repeat (with_reducible first | assumption | exact Blk.atNew (by simp) | refine Blk.alloc ?_ _ | refine Blk.grew ?_ _ _ | refine Blk.drewN ?_ _ | refine Blk.drew ?_))) g)
    have B1 := Lib.hid (Blk.gr (show Blk _ (w.heap.size + 1) [.float .f32 p, .float .f32 q, .float .f32 r] 48 from (by repeat (with_reducible first | assumption | exact Blk.atNew (by simp) | refine Blk.alloc ?_ _ | refine Blk.grew ?_ _ _ | refine Blk.drewN ?_ _ | refine Blk.drew ?_))) g)
    have B2 := Lib.hid (Blk.gr (show Blk _ (w.heap.size + 1 + 1) [.int .i64 0, .int .i64 0, .slice none 0 0] 43 from (by repeat (with_reducible first | assumption | exact Blk.atNew (by simp) | refine Blk.alloc ?_ _ | refine Blk.grew ?_ _ _ | refine Blk.drewN ?_ _ | refine Blk.drew ?_))) g)
    have G := Lib.hid k
    clear g k
    have p0_0 := B0.out.cellv 0
    have p0_1 := B0.out.cellv 1
    have p0_2 := B0.out.cellv 2
    have p0_3 := B0.out.cellv 3
    have p1_0 := B1.out.cellv 0
    have p1_1 := B1.out.cellv 1
    have p1_2 := B1.out.cellv 2
    go_wp2_with ((go_at_call 76; with_reducible refine (I_sizeOk _ _ _).mono ?_; rintro e w' ⟨rfl, hw⟩; (obtain rfl := hw.symm; rw [HS.out])))
    refine (I_mapOf U V (gPlane F B X Y P Q R) 78 _ u0 (tells_PlaneMap U V _ _ f b mx my p q r F B X Y P Q R u0 hf hb hmx hmy hp hq hr B0.out B1.out) (by omega) (by omega) (by omega) (by omega)).mono ?_
    rintro e un ⟨⟨v0, rfl, ho⟩, g⟩
    rw [EG.out] at ho
    obtain ⟨a1, c1, rfl, -, -⟩ := ho.sl' (U * V) (by simp)
    have Hb := Lib.hid B2.out.lt
    replace B2 := Lib.hid (B2.out.gr g)
    have Ho := Lib.hid ho
    have G1 := Lib.hid (G.out.trans g)
    have G0 := Lib.hid G.out.size
    clear ho g p0_0 p0_1 p0_2 p0_3 p1_0 p1_1 p1_2
    have q0 := B2.out.cellv 0
    have q1 := B2.out.cellv 1
    have q2 := B2.out.cellv 2
    have z0 := B2.out.frozen 0
    have z1 := B2.out.frozen 1
    have z2 := B2.out.frozen 2
    go_wp2
    refine bodyPost_ret (v := .tuple #[.agg #[.int .i64 U, .int .i64 V, .slice a1 (U * V) c1], .bool true]) (by simp [results, Try.results26, go_sem, gW, *]) rfl ⟨⟨_, rfl, ?_⟩, ?_⟩
    · have h := Ho.out
      have hb := Hb.out
      have h0 := G0.out
      show FOwn _ _ _ _ (lst (U * V) _)
      exact FOwn.base (B := u0.heap.size) (by repeat (with_reducible first | assumption | refine FOwn.setOther ?_ _ (by simp <;> omega))) h0
    · have h := G1.out
      exact (by repeat (with_reducible first | assumption | refine Gr.setCell ?_ (by simp <;> omega) _))
end Go.Proofs.Ythpdnblkbadhaaa
