/- Contracts: the bytes of a picture. MAXREC -/
import Derived.Test.YtcejnifkbheelaaProg
import Derived.Test.YtcejnifkbheelaaC8
import Derived.Test.YtcejnifkbheelaaC14
import Derived.Test.YtcejnifkbheelaaC3
import Derived.Test.YtcejnifkbheelaaBs
import Derived.Test.YtcejnifkbheelaaBy
import Derived.Laws.Externs
import Derived.Deep.DeepCutAuto
namespace Go.Fx
open Go Go.Soft Go.RowKit
theorem FE.numF {k : FloatKind} {r e : Nat} (h : FE k r e) (hn : isN k e = false) : r = e := by
  have h1 := h.cz
  cases hr : isN k r
  · rw [cz_num hr] at h1; exact h1
  · rw [← h1, isN_cz, hr] at hn; cases hn
theorem toIntVal8 {y : Nat} {n : Nat} (h : (Ieee.double.read y).toInt .zero = some (n : Int)) (h2 : n ≤ 255) : floatToIntVal .f64 y .u8 = some (n : Int) := by
  unfold floatToIntVal
  have hd : FloatKind.f64.decode y = Ieee.double.read y := rfl
  rw [hd, h]
  have a : IntKind.u8.min = 0 := by decide
  have b : IntKind.u8.max = 255 := by decide
  simp only [a, b]
  rw [if_pos (by omega)]
def gBytes (xs : List Nat) : List Int := xs.map gByteOf
theorem gBytes_succ {xs : List Nat} {k : Nat} (h : k < xs.length) : gBytes (xs.take k) ++ [gByteOf (xs.getD k 0)] = gBytes (xs.take (k + 1)) := by
  unfold gBytes
  rw [List.take_succ_eq_append_getElem h, List.map_append, List.getD_eq_getElem?_getD, List.getElem?_eq_getElem h]
  rfl
theorem gBytes_length (xs : List Nat) : (gBytes xs).length = xs.length := by simp [gBytes]
theorem byteOf_0 {X : Nat} (h : fcmp .gtr .f32 X 0 = false) : gByteOf X = 0 := by unfold gByteOf; rw [h]; rfl
theorem byteOf_1 {X : Nat} (h : fcmp .gtr .f32 X 0 = true) (h2 : fcmp .gtr .f32 X 1065353216 = true) : gByteOf X = 255 := by unfold gByteOf; rw [h, h2]; rfl
theorem byteOf_2 {X : Nat} {n : Nat} (h : fcmp .gtr .f32 X 0 = true) (h2 : fcmp .gtr .f32 X 1065353216 = false) (h3 : (Ieee.double.read (flo (byteF X))).toInt .zero = some (n : Int)) : gByteOf X = (n : Int) := by
  unfold gByteOf f2i; rw [h, h2, h3]; rfl
end Go.Fx
namespace Go.Proofs.Ytcejnifkbheelaa
open Go.RowKit Go.Fx Go.Soft
theorem gPic_576 {W H : Int} {n : Nat} (h : gPic W H n = true) : n ≤ 576 := by
  unfold gPic at h
  rw [Bool.and_eq_true] at h
  obtain ⟨hS, h2⟩ := h
  obtain ⟨s1, s2, s3, s4, s5, s6⟩ := gSize_true hS
  simp at h2
  omega
theorem call_flo {y : Nat} (hy : isN .f64 y = false) (w : World) : (callFunc 134 #[.float .f64 y]).run Try.prog w = .ok (.value (.float .f64 (flo y))) w := by
  rw [run_callFunc_extern Try.func134 (e := Extern.MathFloor.toIntegral "math.archFloor" .down) (by kernel_rfl) (by kernel_rfl) (by kernel_rfl) (by kernel_rfl)]
  have hd : FloatKind.f64.decode y = Ieee.double.read y := rfl
  unfold isN at hy
  have hy' : (Ieee.double.read y).isNaN = false := hy
  have e : (Extern.MathFloor.toIntegral "math.archFloor" .down #[.float .f64 y]) = pure (.float .f64 (flo y)) := by
    show (match Ieee.double.read y with
      | .nan s t => _
      | d => (pure (Value.float .f64 (FloatKind.f64.encode (d.integral .down))) : Sem Value)) = pure (Value.float .f64 (flo y))
    unfold flo
    cases hr : Ieee.double.read y with
    | nan s t => rw [hr] at hy'; simp [Ieee.Datum.isNaN] at hy'
    | infinity s => rfl
    | number s m e => rfl
  rw [e]
  rfl
set_option maxRecDepth 20000 in
set_option maxHeartbeats 400000 in
theorem f_Floor (y Y : Nat) (w : World) (hy : FE .f64 y Y) (hN : isN .f64 Y = false) :
    Calls Try.prog 93 #[.float .f64 y] w fun e w' => e = .returned (.float .f64 (flo Y)) ∧ w' = w := by
  obtain rfl := FE.numF hy hN
  have c1 := fun (w : World) => call_flo hN w
  go_enter Try.func93, Try.ntmps93
  go_wp2_with (simp only [c1])
  go_ret
  exact ⟨rfl, rfl⟩
theorem conv_u8 {Y n : Nat} (h1 : (Ieee.double.read Y).toInt .zero = some (n : Int)) (h2 : n ≤ 255) (w : World) : (convert 100 5 (.float .f64 Y)).run Try.prog w = .ok (.int .u8 n) w :=
  run_convert_float_int (P := Try.prog) w 100 5 .f64 .u8 _ n (by rw [Try.underlying100]; rfl) Try.underlying5 (toIntVal8 h1 h2)
theorem FEk : FE .f64 4643176031446892544 4643176031446892544 := FE.lit (by decide +kernel)
theorem FEh : FE .f64 4602678819172646912 4602678819172646912 := FE.lit (by decide +kernel)
theorem FE1b : FE .f32 1065353216 1065353216 := FE.lit (by decide +kernel)
set_option maxRecDepth 20000 in
set_option maxHeartbeats 1000000 in
theorem I_byteOf (x X : Nat) (w : World) (hx : FE .f32 x X) :
    Calls Try.prog 94 #[.float .f32 x] w fun e w' => e = .returned (.int .u8 (gByteOf X)) ∧ ∃ n, w' = w.drewN n := by
  have z0 := FE0
  have z1 := FE1b
  have zk := FEk
  have zh := FEh
  cases h0 : fcmp .gtr .f32 X 0
  · rw [byteOf_0 h0]
    go_enter Try.func94, Try.ntmps94
    go_wp2_with (first
      | ((with_reducible apply wpList_fop); (case hw => rfl); (case hop => rfl); (case hx => rfl); (case hy => rfl); (case hA => (first | assumption | exact FE.ofInt _ _ | exact FE.lit (by decide +kernel))); (case hB => (first | assumption | exact FE.ofInt _ _ | exact FE.lit (by decide +kernel))); intro r n hr)
      | ((with_reducible apply wpList_fcmp); (case hw => rfl); (case hop => rfl); (case hx => rfl); (case hy => rfl); (case hA => (first | assumption | exact FE.ofInt _ _ | exact FE.lit (by decide +kernel))); (case hB => (first | assumption | exact FE.ofInt _ _ | exact FE.lit (by decide +kernel))); (case hb => (first | assumption | rfl)))
      | ((with_reducible apply wpList_widen); (case hw => rfl); (case hs => exact Try.underlying77); (case hd => exact Try.underlying100); (case hx => rfl); (case hA => (first | assumption | exact FE.ofInt _ _ | exact FE.lit (by decide +kernel))); intro r n hr)
      | ((with_reducible apply wpList_fneg); (case hw => rfl); (case hx => rfl); (case hA => (first | assumption | exact FE.ofInt _ _ | exact FE.lit (by decide +kernel))); intro r hr))
    go_ret
    exact ⟨rfl, (by first | exact ⟨0, rfl⟩ | exact ⟨_, rfl⟩)⟩
  · cases h1 : fcmp .gtr .f32 X 1065353216
    · obtain ⟨hT, hF, n, hn, hn2⟩ := byte_of h0 h1
      rw [byteOf_2 h0 h1 hn]
      have cv := fun w => conv_u8 hn hn2 w
      unfold byteF at hT cv
      clear hn hn2 hF
      go_enter Try.func94, Try.ntmps94
      go_wp2_with (first
      | ((with_reducible apply wpList_widen); (case hw => rfl); (case hs => exact Try.underlying77); (case hd => exact Try.underlying100); (case hx => rfl); (case hA => assumption); intro r n hr)
      | (go_at_call 93; with_reducible refine (f_Floor _ _ _ (by assumption) hT).mono ?_; rintro e w' ⟨rfl, hw⟩; subst w')
      | (simp only [cv])
      | ((with_reducible apply wpList_fop); (case hw => rfl); (case hop => rfl); (case hx => rfl); (case hy => rfl); (case hA => (first | assumption | exact FE.ofInt _ _ | exact FE.lit (by decide +kernel))); (case hB => (first | assumption | exact FE.ofInt _ _ | exact FE.lit (by decide +kernel))); intro r n hr)
      | ((with_reducible apply wpList_fcmp); (case hw => rfl); (case hop => rfl); (case hx => rfl); (case hy => rfl); (case hA => (first | assumption | exact FE.ofInt _ _ | exact FE.lit (by decide +kernel))); (case hB => (first | assumption | exact FE.ofInt _ _ | exact FE.lit (by decide +kernel))); (case hb => (first | assumption | rfl)))
      | ((with_reducible apply wpList_widen); (case hw => rfl); (case hs => exact Try.underlying77); (case hd => exact Try.underlying100); (case hx => rfl); (case hA => (first | assumption | exact FE.ofInt _ _ | exact FE.lit (by decide +kernel))); intro r n hr)
      | ((with_reducible apply wpList_fneg); (case hw => rfl); (case hx => rfl); (case hA => (first | assumption | exact FE.ofInt _ _ | exact FE.lit (by decide +kernel))); intro r hr))
      go_ret
      exact ⟨rfl, (by first | exact ⟨0, rfl⟩ | exact ⟨_, rfl⟩)⟩
    · rw [byteOf_1 h0 h1]
      go_enter Try.func94, Try.ntmps94
      go_wp2_with (first
      | ((with_reducible apply wpList_fop); (case hw => rfl); (case hop => rfl); (case hx => rfl); (case hy => rfl); (case hA => (first | assumption | exact FE.ofInt _ _ | exact FE.lit (by decide +kernel))); (case hB => (first | assumption | exact FE.ofInt _ _ | exact FE.lit (by decide +kernel))); intro r n hr)
      | ((with_reducible apply wpList_fcmp); (case hw => rfl); (case hop => rfl); (case hx => rfl); (case hy => rfl); (case hA => (first | assumption | exact FE.ofInt _ _ | exact FE.lit (by decide +kernel))); (case hB => (first | assumption | exact FE.ofInt _ _ | exact FE.lit (by decide +kernel))); (case hb => (first | assumption | rfl)))
      | ((with_reducible apply wpList_widen); (case hw => rfl); (case hs => exact Try.underlying77); (case hd => exact Try.underlying100); (case hx => rfl); (case hA => (first | assumption | exact FE.ofInt _ _ | exact FE.lit (by decide +kernel))); intro r n hr)
      | ((with_reducible apply wpList_fneg); (case hw => rfl); (case hx => rfl); (case hA => (first | assumption | exact FE.ofInt _ _ | exact FE.lit (by decide +kernel))); intro r hr))
      go_ret
      exact ⟨rfl, (by first | exact ⟨0, rfl⟩ | exact ⟨_, rfl⟩)⟩
theorem info_uint8 : (Try.prog.info? 5).map (fun i => (i.zero, i.size, i.bytes)) = some (some (.int .u8 0), 1, 1) := by kernel_rfl
set_option maxRecDepth 20000 in
set_option maxHeartbeats 4000000 in
theorem I_GreyBytes (W H : Int) (a : Option Addr) (ca : Nat) (xs : List Nat) (w : World) (fx : FSl w a xs.length xs) (hn : xs.length ≤ 1048576) :
    Calls Try.prog 45 #[.agg #[.int .i64 W, .int .i64 H, .slice a xs.length ca]] w
      fun e w' => e = .returned (.tuple #[.string (if gPic W H xs.length then strOfNums (gBytes xs) else ByteArray.empty), .bool (gPic W H xs.length)]) ∧ Gr w w' := by
  have hn' : xs.length ≤ maxLen := by unfold maxLen; omega
  have Fx := Lib.hid fx
  clear fx
  cases hT : gPic W H xs.length
  · go_enter Try.func45, Try.ntmps45
    go_wp2_with (first
      | (go_at_call 89; with_reducible refine (I_ValidPicture W H a _ ca _ hn').mono ?_; rintro e w' ⟨rfl, os, m, rfl⟩; rw [hT]))
    exact bodyPost_ret (v := .tuple #[.string ByteArray.empty, .bool false]) (by simp [results, Try.results45, go_sem] <;> rfl) rfl ⟨rfl, (by (try show Gr _ _); repeat (with_reducible first | exact Gr.refl _ | refine Gr.drewN ?_ _ | refine Gr.grew ?_ _ _ | refine Gr.alloc ?_ _ | refine Gr.drew ?_))⟩
  have h576 := gPic_576 hT
  obtain ⟨i0, hi, hz0, hz1, hz2⟩ := info_parts info_uint8
  go_enter Try.func45, Try.ntmps45
  go_wp2_with (first
      | (go_at_call 89; with_reducible refine (I_ValidPicture W H a _ ca _ hn').mono ?_; rintro e w' ⟨rfl, os, m, rfl⟩; rw [hT]))
  clear hT
  go_loopw [4, 14] (fun s i wr => ∃ k : Nat, k ≤ xs.length ∧ i = .int .i64 k ∧ BOwn wr w.heap.size 5 s (gBytes (xs.take k)) ∧ Gr w wr) (fun _ i _ => xs.length - (intOf i).toNat)
  case atStart => exact ⟨0, Nat.zero_le _, rfl, BOwn.empty (Blk.atNew (by simp)) (by first | omega | (simp <;> omega)), (by (try show Gr _ _); repeat (with_reducible first | exact Gr.refl _ | refine Gr.drewN ?_ _ | refine Gr.grew ?_ _ _ | refine Gr.alloc ?_ _ | refine Gr.drew ?_))⟩
  case round =>
    obtain ⟨k, hk, rfl, ho, hg⟩ := hrel
    by_cases hlt : k < xs.length
    · obtain ⟨bx, ox, rfl⟩ := Fx.out.ptr (by omega)
      obtain ⟨p, hc, hp⟩ := (Fx.out.keep hg.kp).get k hlt
      have EG := Lib.hid (gBytes_succ hlt)
      have Ho := Lib.hid ho
      have Hg := Lib.hid hg
      clear ho hg
      have HL := gBytes_length (xs.take k)
      rw [List.length_take] at HL
      generalize xs.getD k 0 = X at *
      generalize gBytes (xs.take k) = L at *
      go_wp2_with (first
      | (go_at_call 94; with_reducible refine (I_byteOf _ _ _ (by assumption)).mono ?_; rintro e w' ⟨rfl, n, rfl⟩)
      | (apply wpList_append_b (hgd := rfl) (ho := rfl) (i := i0) (ht := Try.underlying107) (hi := hi) (hz := hz0) (hsize := hz1) (hby := hz2); (case hown => exact Ho.out.gr (by repeat (with_reducible first | assumption | exact Gr.refl _ | refine Gr.alloc ?_ _ | refine Gr.grew ?_ _ _ | refine Gr.drewN ?_ _ | refine Gr.drew ?_))); (case hs => rfl); (case hx => rfl); (case hcell => exact (Blk.atNew (by simp)).cellv 0 rfl); (case hn => omega); (case hB => exact Gr.size (Hg.out.trans (by repeat (with_reducible first | assumption | exact Gr.refl _ | refine Gr.alloc ?_ _ | refine Gr.grew ?_ _ _ | refine Gr.drewN ?_ _ | refine Gr.drew ?_)))); intro v1 w1 ho1 hg1; have HG1 := Lib.hid (Gr.grownBy (Hg.out.trans (by repeat (with_reducible first | assumption | exact Gr.refl _ | refine Gr.alloc ?_ _ | refine Gr.grew ?_ _ _ | refine Gr.drewN ?_ _ | refine Gr.drew ?_))) hg1 (fun k hk => (BOwn.block Ho.out hk).1)); have HO1 := Lib.hid ho1; clear hg1 ho1))
      go_roundw
      case rel => exact ⟨k + 1, by omega, by go_num, by rw [← EG.out]; exact HO1.out, HG1.out⟩
      case measure => simp [intOf]; omega
    · obtain rfl : k = xs.length := by omega
      rw [List.take_length] at ho
      have hcv := ho.conv (P := Try.prog) 107 9 Try.underlying107 Try.underlying5 Try.underlying9
      have Hg := Lib.hid hg
      clear ho hg
      go_wp2_with (simp only [hcv])
      exact bodyPost_ret (v := .tuple #[.string (strOfNums (gBytes xs)), .bool true]) (by simp [results, Try.results45, go_sem]) rfl ⟨rfl, Hg.out.trans (by (try show Gr _ _); repeat (with_reducible first | exact Gr.refl _ | refine Gr.drewN ?_ _ | refine Gr.grew ?_ _ _ | refine Gr.alloc ?_ _ | refine Gr.drew ?_))⟩
set_option maxRecDepth 20000 in
set_option maxHeartbeats 4000000 in
theorem S_GreyBytes (W H : Int) (a : Option Addr) (ca : Nat) (xs : List Nat) (w : World) (fx : FSl w a xs.length xs) (hn : xs.length ≤ 1048576) :
    Calls Try.prog 44 #[.agg #[.int .i64 W, .int .i64 H, .slice a xs.length ca]] w
      fun e w' => e = .returned (.tuple #[.string (if gPic W H xs.length then strOfNums (gBytes xs) else ByteArray.empty), .bool (gPic W H xs.length)]) ∧ Gr w w' := by
  have hn' : xs.length ≤ maxLen := by unfold maxLen; omega
  have Fx := Lib.hid fx
  clear fx
  cases hT : gPic W H xs.length
  · go_enter Try.func44, Try.ntmps44
    go_wp2_with (first
      | (go_at_call 87; with_reducible refine (S_l02Is W H a _ ca _ _ _ hn' (by first | (simp (maxDischargeDepth := 12) [go_sem]; done) | (simp (maxDischargeDepth := 12) [go_sem, *]; done)) (by first | (simp (maxDischargeDepth := 12) [go_sem]; done) | (simp (maxDischargeDepth := 12) [go_sem, *]; done)) (by first | (simp (maxDischargeDepth := 12) [go_sem]; done) | (simp (maxDischargeDepth := 12) [go_sem, *]; done))).mono ?_; rintro e w' ⟨rfl, n, rfl⟩; rw [hT]))
    exact bodyPost_ret (v := .tuple #[.string ByteArray.empty, .bool false]) (by simp [results, Try.results44, go_sem] <;> rfl) rfl ⟨rfl, (by (try show Gr _ _); repeat (with_reducible first | exact Gr.refl _ | refine Gr.drewN ?_ _ | refine Gr.grew ?_ _ _ | refine Gr.alloc ?_ _ | refine Gr.drew ?_))⟩
  have h576 := gPic_576 hT
  obtain ⟨i0, hi, hz0, hz1, hz2⟩ := info_parts info_uint8
  have z0 := FE0
  have z1 := FE1b
  have zk := FEk
  have zh := FEh
  go_enter Try.func44, Try.ntmps44
  go_wp2_with (first
      | (go_at_call 87; with_reducible refine (S_l02Is W H a _ ca _ _ _ hn' (by first | (simp (maxDischargeDepth := 12) [go_sem]; done) | (simp (maxDischargeDepth := 12) [go_sem, *]; done)) (by first | (simp (maxDischargeDepth := 12) [go_sem]; done) | (simp (maxDischargeDepth := 12) [go_sem, *]; done)) (by first | (simp (maxDischargeDepth := 12) [go_sem]; done) | (simp (maxDischargeDepth := 12) [go_sem, *]; done))).mono ?_; rintro e w' ⟨rfl, n, rfl⟩; rw [hT]))
  clear hT
  go_loopw [4, 5] (fun s i wr => ∃ k : Nat, k ≤ xs.length ∧ i = .int .i64 k ∧ BOwn wr (w.heap.size + 1) 5 s (gBytes (xs.take k)) ∧ Blk wr w.heap.size [.int .i64 W, .int .i64 H, .slice a xs.length ca] 51 ∧ Gr w wr) (fun _ i _ => xs.length - (intOf i).toNat)
  case atStart => exact ⟨0, Nat.zero_le _, rfl, BOwn.empty (Blk.atNew (by simp)) (by first | omega | (simp <;> omega)), (by repeat (with_reducible first | assumption | exact Blk.atNew (by simp) | refine Blk.alloc ?_ _ | refine Blk.grew ?_ _ _ | refine Blk.drewN ?_ _ | refine Blk.drew ?_)), (by (try show Gr _ _); repeat (with_reducible first | exact Gr.refl _ | refine Gr.drewN ?_ _ | refine Gr.grew ?_ _ _ | refine Gr.alloc ?_ _ | refine Gr.drew ?_))⟩
  case round =>
    obtain ⟨k, hk, rfl, ho, hB, hg⟩ := hrel
    have hb2 := hB.cellv 2
    have HS := hB.lt
    by_cases hlt : k < xs.length
    · obtain ⟨bx, ox, rfl⟩ := Fx.out.ptr (by omega)
      obtain ⟨p, hc, hp⟩ := (Fx.out.keep hg.kp).get k hlt
      have EG := Lib.hid (gBytes_succ hlt)
      have Ho := Lib.hid ho
      have Hg := Lib.hid hg
      have HB := Lib.hid hB
      clear ho hg hB
      have HL := gBytes_length (xs.take k)
      rw [List.length_take] at HL
      generalize xs.getD k 0 = X at *
      generalize gBytes (xs.take k) = L at *
      cases h0 : fcmp .gtr .f32 X 0
      · rw [byteOf_0 h0] at EG
        go_wp2_with (first
      | (apply wpList_append_b (hgd := rfl) (ho := rfl) (i := i0) (ht := Try.underlying107) (hi := hi) (hz := hz0) (hsize := hz1) (hby := hz2); (case hown => exact Ho.out.gr (by repeat (with_reducible first | assumption | exact Gr.refl _ | refine Gr.alloc ?_ _ | refine Gr.grew ?_ _ _ | refine Gr.drewN ?_ _ | refine Gr.drew ?_))); (case hs => rfl); (case hx => rfl); (case hcell => exact (Blk.atNew (by simp)).cellv 0 rfl); (case hn => omega); (case hB => exact Nat.le_trans (show w.heap.size + 1 ≤ wr.heap.size from HS) (Gr.size ((by repeat (with_reducible first | assumption | exact Gr.refl _ | refine Gr.alloc ?_ _ | refine Gr.grew ?_ _ _ | refine Gr.drewN ?_ _ | refine Gr.drew ?_)) : Gr wr _))); intro v1 w1 ho1 hg1; have HG1 := Lib.hid (Gr.grownBy (Hg.out.trans (by repeat (with_reducible first | assumption | exact Gr.refl _ | refine Gr.alloc ?_ _ | refine Gr.grew ?_ _ _ | refine Gr.drewN ?_ _ | refine Gr.drew ?_))) hg1 (fun k hk => Nat.le_of_succ_le (BOwn.block Ho.out hk).1)); have HO1 := Lib.hid ho1; have HB1 := Lib.hid (Blk.grown (HB.out.gr (by repeat (with_reducible first | assumption | exact Gr.refl _ | refine Gr.alloc ?_ _ | refine Gr.grew ?_ _ _ | refine Gr.drewN ?_ _ | refine Gr.drew ?_))) hg1 (fun hk => by have := (BOwn.block Ho.out hk).1; omega)); clear hg1 ho1)
      | ((with_reducible apply wpList_fop); (case hw => rfl); (case hop => rfl); (case hx => rfl); (case hy => rfl); (case hA => (first | assumption | exact FE.ofInt _ _ | exact FE.lit (by decide +kernel))); (case hB => (first | assumption | exact FE.ofInt _ _ | exact FE.lit (by decide +kernel))); intro r n hr)
      | ((with_reducible apply wpList_fcmp); (case hw => rfl); (case hop => rfl); (case hx => rfl); (case hy => rfl); (case hA => (first | assumption | exact FE.ofInt _ _ | exact FE.lit (by decide +kernel))); (case hB => (first | assumption | exact FE.ofInt _ _ | exact FE.lit (by decide +kernel))); (case hb => (first | assumption | rfl)))
      | ((with_reducible apply wpList_widen); (case hw => rfl); (case hs => exact Try.underlying77); (case hd => exact Try.underlying100); (case hx => rfl); (case hA => (first | assumption | exact FE.ofInt _ _ | exact FE.lit (by decide +kernel))); intro r n hr)
      | ((with_reducible apply wpList_fneg); (case hw => rfl); (case hx => rfl); (case hA => (first | assumption | exact FE.ofInt _ _ | exact FE.lit (by decide +kernel))); intro r hr))
        go_roundw
        case rel => exact ⟨k + 1, by omega, by go_num, by rw [← EG.out]; exact HO1.out, HB1.out, HG1.out⟩
        case measure => simp [intOf]; omega
      · cases h1 : fcmp .gtr .f32 X 1065353216
        · obtain ⟨hT, hF, n, hn3, hn2⟩ := byte_of h0 h1
          rw [byteOf_2 h0 h1 hn3] at EG
          have cv := fun w => conv_u8 hn3 hn2 w
          unfold byteF at hT cv
          clear hn3 hn2 hF
          go_wp2_with (first
      | ((with_reducible apply wpList_widen); (case hw => rfl); (case hs => exact Try.underlying77); (case hd => exact Try.underlying100); (case hx => rfl); (case hA => assumption); intro r n hr)
      | (go_at_call 93; with_reducible refine (f_Floor _ _ _ (by assumption) hT).mono ?_; rintro e w' ⟨rfl, hw⟩; subst w')
      | (simp only [cv])
      | (apply wpList_append_b (hgd := rfl) (ho := rfl) (i := i0) (ht := Try.underlying107) (hi := hi) (hz := hz0) (hsize := hz1) (hby := hz2); (case hown => exact Ho.out.gr (by repeat (with_reducible first | assumption | exact Gr.refl _ | refine Gr.alloc ?_ _ | refine Gr.grew ?_ _ _ | refine Gr.drewN ?_ _ | refine Gr.drew ?_))); (case hs => rfl); (case hx => rfl); (case hcell => exact (Blk.atNew (by simp)).cellv 0 rfl); (case hn => omega); (case hB => exact Nat.le_trans (show w.heap.size + 1 ≤ wr.heap.size from HS) (Gr.size ((by repeat (with_reducible first | assumption | exact Gr.refl _ | refine Gr.alloc ?_ _ | refine Gr.grew ?_ _ _ | refine Gr.drewN ?_ _ | refine Gr.drew ?_)) : Gr wr _))); intro v1 w1 ho1 hg1; have HG1 := Lib.hid (Gr.grownBy (Hg.out.trans (by repeat (with_reducible first | assumption | exact Gr.refl _ | refine Gr.alloc ?_ _ | refine Gr.grew ?_ _ _ | refine Gr.drewN ?_ _ | refine Gr.drew ?_))) hg1 (fun k hk => Nat.le_of_succ_le (BOwn.block Ho.out hk).1)); have HO1 := Lib.hid ho1; have HB1 := Lib.hid (Blk.grown (HB.out.gr (by repeat (with_reducible first | assumption | exact Gr.refl _ | refine Gr.alloc ?_ _ | refine Gr.grew ?_ _ _ | refine Gr.drewN ?_ _ | refine Gr.drew ?_))) hg1 (fun hk => by have := (BOwn.block Ho.out hk).1; omega)); clear hg1 ho1)
      | ((with_reducible apply wpList_fop); (case hw => rfl); (case hop => rfl); (case hx => rfl); (case hy => rfl); (case hA => (first | assumption | exact FE.ofInt _ _ | exact FE.lit (by decide +kernel))); (case hB => (first | assumption | exact FE.ofInt _ _ | exact FE.lit (by decide +kernel))); intro r n hr)
      | ((with_reducible apply wpList_fcmp); (case hw => rfl); (case hop => rfl); (case hx => rfl); (case hy => rfl); (case hA => (first | assumption | exact FE.ofInt _ _ | exact FE.lit (by decide +kernel))); (case hB => (first | assumption | exact FE.ofInt _ _ | exact FE.lit (by decide +kernel))); (case hb => (first | assumption | rfl)))
      | ((with_reducible apply wpList_widen); (case hw => rfl); (case hs => exact Try.underlying77); (case hd => exact Try.underlying100); (case hx => rfl); (case hA => (first | assumption | exact FE.ofInt _ _ | exact FE.lit (by decide +kernel))); intro r n hr)
      | ((with_reducible apply wpList_fneg); (case hw => rfl); (case hx => rfl); (case hA => (first | assumption | exact FE.ofInt _ _ | exact FE.lit (by decide +kernel))); intro r hr))
          go_roundw
          case rel => exact ⟨k + 1, by omega, by go_num, by rw [← EG.out]; exact HO1.out, HB1.out, HG1.out⟩
          case measure => simp [intOf]; omega
        · rw [byteOf_1 h0 h1] at EG
          go_wp2_with (first
      | (apply wpList_append_b (hgd := rfl) (ho := rfl) (i := i0) (ht := Try.underlying107) (hi := hi) (hz := hz0) (hsize := hz1) (hby := hz2); (case hown => exact Ho.out.gr (by repeat (with_reducible first | assumption | exact Gr.refl _ | refine Gr.alloc ?_ _ | refine Gr.grew ?_ _ _ | refine Gr.drewN ?_ _ | refine Gr.drew ?_))); (case hs => rfl); (case hx => rfl); (case hcell => exact (Blk.atNew (by simp)).cellv 0 rfl); (case hn => omega); (case hB => exact Nat.le_trans (show w.heap.size + 1 ≤ wr.heap.size from HS) (Gr.size ((by repeat (with_reducible first | assumption | exact Gr.refl _ | refine Gr.alloc ?_ _ | refine Gr.grew ?_ _ _ | refine Gr.drewN ?_ _ | refine Gr.drew ?_)) : Gr wr _))); intro v1 w1 ho1 hg1; have HG1 := Lib.hid (Gr.grownBy (Hg.out.trans (by repeat (with_reducible first | assumption | exact Gr.refl _ | refine Gr.alloc ?_ _ | refine Gr.grew ?_ _ _ | refine Gr.drewN ?_ _ | refine Gr.drew ?_))) hg1 (fun k hk => Nat.le_of_succ_le (BOwn.block Ho.out hk).1)); have HO1 := Lib.hid ho1; have HB1 := Lib.hid (Blk.grown (HB.out.gr (by repeat (with_reducible first | assumption | exact Gr.refl _ | refine Gr.alloc ?_ _ | refine Gr.grew ?_ _ _ | refine Gr.drewN ?_ _ | refine Gr.drew ?_))) hg1 (fun hk => by have := (BOwn.block Ho.out hk).1; omega)); clear hg1 ho1)
      | ((with_reducible apply wpList_fop); (case hw => rfl); (case hop => rfl); (case hx => rfl); (case hy => rfl); (case hA => (first | assumption | exact FE.ofInt _ _ | exact FE.lit (by decide +kernel))); (case hB => (first | assumption | exact FE.ofInt _ _ | exact FE.lit (by decide +kernel))); intro r n hr)
      | ((with_reducible apply wpList_fcmp); (case hw => rfl); (case hop => rfl); (case hx => rfl); (case hy => rfl); (case hA => (first | assumption | exact FE.ofInt _ _ | exact FE.lit (by decide +kernel))); (case hB => (first | assumption | exact FE.ofInt _ _ | exact FE.lit (by decide +kernel))); (case hb => (first | assumption | rfl)))
      | ((with_reducible apply wpList_widen); (case hw => rfl); (case hs => exact Try.underlying77); (case hd => exact Try.underlying100); (case hx => rfl); (case hA => (first | assumption | exact FE.ofInt _ _ | exact FE.lit (by decide +kernel))); intro r n hr)
      | ((with_reducible apply wpList_fneg); (case hw => rfl); (case hx => rfl); (case hA => (first | assumption | exact FE.ofInt _ _ | exact FE.lit (by decide +kernel))); intro r hr))
          go_roundw
          case rel => exact ⟨k + 1, by omega, by go_num, by rw [← EG.out]; exact HO1.out, HB1.out, HG1.out⟩
          case measure => simp [intOf]; omega
    · obtain rfl : k = xs.length := by omega
      rw [List.take_length] at ho
      have hcv := ho.conv (P := Try.prog) 107 9 Try.underlying107 Try.underlying5 Try.underlying9
      have Hg := Lib.hid hg
      clear ho hg hB
      go_wp2_with (simp only [hcv])
      exact bodyPost_ret (v := .tuple #[.string (strOfNums (gBytes xs)), .bool true]) (by simp [results, Try.results44, go_sem]) rfl ⟨rfl, Hg.out.trans (by (try show Gr _ _); repeat (with_reducible first | exact Gr.refl _ | refine Gr.drewN ?_ _ | refine Gr.grew ?_ _ _ | refine Gr.alloc ?_ _ | refine Gr.drew ?_))⟩
end Go.Proofs.Ytcejnifkbheelaa
