/- Contracts: maps. MAXREC -/
import Derived.Test.YtaidkokgafojeaaProg
import Derived.Test.YtaidkokgafojeaaC13
import Derived.Test.YtaidkokgafojeaaC9
import Derived.Test.YtaidkokgafojeaaLw
import Derived.IntWalk
namespace Go.Fx
open Go Go.Soft Go.RowKit
/-- A map or a picture in a box. -/
structure MP (w : World) (b : Nat) (wd hg : Int) (a : Option Addr) (n cap : Nat) (xs : List Nat) : Prop where
  c0 : w.cell? ⟨b, 0, none⟩ = some (.int .i64 wd)
  c1 : w.cell? ⟨b, 1, none⟩ = some (.int .i64 hg)
  c2 : w.cell? ⟨b, 2, none⟩ = some (.slice a n cap)
  fs : FSl w a n xs
theorem MP.gr {w w' : World} {b : Nat} {wd hg : Int} {a : Option Addr} {n cap : Nat} {xs : List Nat} (h : MP w b wd hg a n cap xs) (g : Gr w w') : MP w' b wd hg a n cap xs :=
  ⟨g.cell h.c0, g.cell h.c1, g.cell h.c2, h.fs.keep g.kp⟩
theorem gr_drewN (w : World) (n : Nat) : Gr w (w.drewN n) := (Gr.refl w).drewN n
theorem wrap_cell {W x y : Nat} (hx : x < 24) (hW : W ≤ 24) (hy : y ≤ 24) : IntKind.i64.wrap ((W : Int) * y) = (W : Int) * y ∧ IntKind.i64.wrap ((x : Int) + (W : Int) * y) = ((x + W * y : Nat) : Int) := by
  have h : W * y ≤ 576 := Nat.mul_le_mul hW hy
  have e : (x : Int) + (W : Int) * y = ((x + W * y : Nat) : Int) := by simp
  refine ⟨IntWalk.i64_in _ (by have : ((W * y : Nat) : Int) = (W : Int) * y := by simp
                               omega), ?_⟩
  rw [e]; exact IntWalk.i64_in _ (by omega)
end Go.Fx
namespace Go.Proofs.Ytaidkokgafojeaa
open Go.RowKit Go.Fx Go.Soft
def gHole (x : Nat) : Bool := !fcmp .geq .f32 x 0
set_option maxRecDepth 20000 in
set_option maxHeartbeats 400000 in
theorem I_isHole (x X : Nat) (w : World) (hx : FE .f32 x X) :
    Calls Try.prog 100 #[.float .f32 x] w fun e w' => e = .returned (.bool (gHole X)) ∧ ∃ n, w' = w.drewN n := by
  go_enter Try.func100, Try.ntmps100
  go_wp2_with (first
      | ((with_reducible apply wpList_fop); (case hw => rfl); (case hop => rfl); (case hx => rfl); (case hy => rfl); (case hA => (first | assumption | exact FE.ofInt _ _ | exact FE.lit (by decide +kernel))); (case hB => (first | assumption | exact FE.ofInt _ _ | exact FE.lit (by decide +kernel))); intro r n hr)
      | ((with_reducible apply wpList_fcmp); (case hw => rfl); (case hop => rfl); (case hx => rfl); (case hy => rfl); (case hA => (first | assumption | exact FE.ofInt _ _ | exact FE.lit (by decide +kernel))); (case hB => (first | assumption | exact FE.ofInt _ _ | exact FE.lit (by decide +kernel))); (case hb => (first | assumption | rfl)))
      | ((with_reducible apply wpList_widen); (case hw => rfl); (case hs => exact Try.underlying65); (case hd => exact Try.underlying147); (case hx => rfl); (case hA => (first | assumption | exact FE.ofInt _ _ | exact FE.lit (by decide +kernel))); intro r n hr)
      | ((with_reducible apply wpList_fneg); (case hw => rfl); (case hx => rfl); (case hA => (first | assumption | exact FE.ofInt _ _ | exact FE.lit (by decide +kernel))); intro r hr))
  go_ret
  exact ⟨rfl, (by first | exact ⟨0, rfl⟩ | exact ⟨_, rfl⟩)⟩
set_option maxRecDepth 20000 in
set_option maxHeartbeats 400000 in
theorem I_noHole (x X : Nat) (w : World) (hx : FE .f32 x X) :
    Calls Try.prog 139 #[.float .f32 x] w fun e w' => e = .returned (.bool (!gHole X)) ∧ ∃ n, w' = w.drewN n := by
  go_enter Try.func139, Try.ntmps139
  go_wp2_with (first
      | (go_at_call 100; with_reducible refine (I_isHole _ _ _ hx).mono ?_; rintro e w' ⟨rfl, n, rfl⟩)
      | ((with_reducible apply wpList_fop); (case hw => rfl); (case hop => rfl); (case hx => rfl); (case hy => rfl); (case hA => (first | assumption | exact FE.ofInt _ _ | exact FE.lit (by decide +kernel))); (case hB => (first | assumption | exact FE.ofInt _ _ | exact FE.lit (by decide +kernel))); intro r n hr)
      | ((with_reducible apply wpList_fcmp); (case hw => rfl); (case hop => rfl); (case hx => rfl); (case hy => rfl); (case hA => (first | assumption | exact FE.ofInt _ _ | exact FE.lit (by decide +kernel))); (case hB => (first | assumption | exact FE.ofInt _ _ | exact FE.lit (by decide +kernel))); (case hb => (first | assumption | rfl)))
      | ((with_reducible apply wpList_widen); (case hw => rfl); (case hs => exact Try.underlying65); (case hd => exact Try.underlying147); (case hx => rfl); (case hA => (first | assumption | exact FE.ofInt _ _ | exact FE.lit (by decide +kernel))); intro r n hr)
      | ((with_reducible apply wpList_fneg); (case hw => rfl); (case hx => rfl); (case hA => (first | assumption | exact FE.ofInt _ _ | exact FE.lit (by decide +kernel))); intro r hr))
  go_ret
  exact ⟨rfl, (by first | exact ⟨0, rfl⟩ | exact ⟨_, rfl⟩)⟩
set_option maxRecDepth 20000 in
set_option maxHeartbeats 400000 in
theorem S_l05Hole (x X : Nat) (w : World) (hx : FE .f32 x X) :
    Calls Try.prog 94 #[.float .f32 x] w fun e w' => e = .returned (.bool (gHole X)) ∧ ∃ n, w' = w.drewN n := by
  go_enter Try.func94, Try.ntmps94
  go_wp2_with (first
      | ((with_reducible apply wpList_fop); (case hw => rfl); (case hop => rfl); (case hx => rfl); (case hy => rfl); (case hA => (first | assumption | exact FE.ofInt _ _ | exact FE.lit (by decide +kernel))); (case hB => (first | assumption | exact FE.ofInt _ _ | exact FE.lit (by decide +kernel))); intro r n hr)
      | ((with_reducible apply wpList_fcmp); (case hw => rfl); (case hop => rfl); (case hx => rfl); (case hy => rfl); (case hA => (first | assumption | exact FE.ofInt _ _ | exact FE.lit (by decide +kernel))); (case hB => (first | assumption | exact FE.ofInt _ _ | exact FE.lit (by decide +kernel))); (case hb => (first | assumption | rfl)))
      | ((with_reducible apply wpList_widen); (case hw => rfl); (case hs => exact Try.underlying65); (case hd => exact Try.underlying147); (case hx => rfl); (case hA => (first | assumption | exact FE.ofInt _ _ | exact FE.lit (by decide +kernel))); intro r n hr)
      | ((with_reducible apply wpList_fneg); (case hw => rfl); (case hx => rfl); (case hA => (first | assumption | exact FE.ofInt _ _ | exact FE.lit (by decide +kernel))); intro r hr))
  go_ret
  exact ⟨rfl, (by first | exact ⟨0, rfl⟩ | exact ⟨_, rfl⟩)⟩
set_option maxRecDepth 20000 in
set_option maxHeartbeats 400000 in
theorem I_ValidMap (wd hg : Int) (a : Option Addr) (k cap : Nat) (w : World) (hk : k ≤ maxLen) :
    Calls Try.prog 90 #[.agg #[.int .i64 wd, .int .i64 hg, .slice a k cap]] w fun e w' => e = .returned (.bool (gPic wd hg k)) ∧ ∃ os m, w' = w.grew os m := by
  unfold maxLen at hk
  cases hS : gSize wd hg
  · go_enter Try.func90, Try.ntmps90
    go_wp2_with (first
      | (go_at_call 60; with_reducible refine (I_sizeOk _ _ _).mono ?_; rintro e w' ⟨rfl, rfl⟩))
    go_ret
    exact ⟨by simp [gPic, *], (by (try show Gr _ _); repeat (with_reducible first | exact Gr.refl _ | refine Gr.drewN ?_ _ | refine Gr.grew ?_ _ _ | refine Gr.alloc ?_ _ | refine Gr.drew ?_))⟩
  · obtain ⟨s1, s2, s3, s4, s5, s6⟩ := gSize_true hS
    have H : Hid (gPic wd hg k = ((k : Int) == wd * hg)) := by simp [gPic, hS, Hid]
    go_enter Try.func90, Try.ntmps90
    go_wp2_with (first
      | (go_at_call 60; with_reducible refine (I_sizeOk _ _ _).mono ?_; rintro e w' ⟨rfl, rfl⟩))
    go_ret
    exact ⟨by simp [H.out], (by (try show Gr _ _); repeat (with_reducible first | exact Gr.refl _ | refine Gr.drewN ?_ _ | refine Gr.grew ?_ _ _ | refine Gr.alloc ?_ _ | refine Gr.drew ?_))⟩
set_option maxRecDepth 20000 in
set_option maxHeartbeats 400000 in
theorem S_l03IsMap (wd hg : Int) (a : Option Addr) (k cap bl of : Nat) (w : World) (hk : k ≤ maxLen)
    (c0 : w.cell? ⟨bl, of, none⟩ = some (.int .i64 wd)) (c1 : w.cell? ⟨bl, of + 1, none⟩ = some (.int .i64 hg)) (c2 : w.cell? ⟨bl, of + 2, none⟩ = some (.slice a k cap)) :
    Calls Try.prog 88 #[.pointer (some ⟨bl, of, none⟩)] w fun e w' => e = .returned (.bool (gPic wd hg k)) ∧ ∃ n, w' = w.drewN n := by
  unfold maxLen at hk
  cases hS : gSize wd hg
  · go_enter Try.func88, Try.ntmps88
    go_wp2
    apply region_drew 26
    case hm => kernel_rfl
    case hB => kernel_rfl
    simp only [List.take_succ_cons, List.take_zero, List.drop_succ_cons, List.drop_zero]
    repeat (first
      | ((with_reducible apply wpSoft_calleq (f := 58)); (case hw => rfl); (case hc => exact Try.call58); (case hv => ((conv => lhs; simp [Act.eval]); try rfl)); (case hS => (rintro _ ⟨m, rfl⟩; with_reducible refine (S_l02Size _ _ _).mono ?_; rintro e w' ⟨rfl, rfl⟩; exact ⟨rfl, ⟨_, rfl⟩⟩)); (simp only [Act.put, List.setIfInBounds_toArray, List.set_cons_succ, List.set_cons_zero]; try simp only [*]))
      | (apply wpSoft_skip rfl; simp only [Act.put, List.setIfInBounds_toArray, List.set_cons_succ, List.set_cons_zero])
      | (apply wpSoft_nilCheck rfl rfl; simp only [Act.put, List.setIfInBounds_toArray, List.set_cons_succ, List.set_cons_zero])
      | ((with_reducible apply wpSoft_fop); (case hw => rfl); (case hD => exact closed_drew); (case hop => rfl); (case hx => rfl); (case hy => rfl); (case hA => (first | assumption | exact FE.ofInt _ _ | exact FE.lit (by decide +kernel))); (case hB => (first | assumption | exact FE.ofInt _ _ | exact FE.lit (by decide +kernel))); (intro r hr; simp only [Act.put, List.setIfInBounds_toArray, List.set_cons_succ, List.set_cons_zero]))

      | ((with_reducible apply wpSoft_widen); (case hw => rfl); (case hD => exact closed_drew); (case hs => exact Try.underlying65); (case hd => exact Try.underlying147); (case hx => rfl); (case hA => (first | assumption | exact FE.ofInt _ _ | exact FE.lit (by decide +kernel))); (intro r hr; simp only [Act.put, List.setIfInBounds_toArray, List.set_cons_succ, List.set_cons_zero]))
      | ((with_reducible apply wpSoft_fneg); (case hw => rfl); (case hx => rfl); (case hA => (first | assumption | exact FE.ofInt _ _ | exact FE.lit (by decide +kernel))); (intro r hr; simp only [Act.put, List.setIfInBounds_toArray, List.set_cons_succ, List.set_cons_zero]))
      | ((with_reducible apply wpSoft_fcmp); (case hw => rfl); (case hop => rfl); (case hx => rfl); (case hy => rfl); (case hA => (first | assumption | exact FE.ofInt _ _ | exact FE.lit (by decide +kernel))); (case hB => (first | assumption | exact FE.ofInt _ _ | exact FE.lit (by decide +kernel))); (case hb => (first | assumption | rfl)); simp only [Act.put, List.setIfInBounds_toArray, List.set_cons_succ, List.set_cons_zero])
      | (apply wpSoft_q rfl rfl; intro K hK; go_big_quiet_op; go_big_quiet_on))
    with_reducible apply wpSoft_nil
    intro m
    go_wp2
    go_ret
    exact ⟨by simp [gPic, *], (by first | exact ⟨0, rfl⟩ | exact ⟨_, rfl⟩)⟩
  · obtain ⟨s1, s2, s3, s4, s5, s6⟩ := gSize_true hS
    have H : Hid (gPic wd hg k = ((k : Int) == wd * hg)) := by simp [gPic, hS, Hid]
    go_enter Try.func88, Try.ntmps88
    go_wp2
    apply region_drew 26
    case hm => kernel_rfl
    case hB => kernel_rfl
    simp only [List.take_succ_cons, List.take_zero, List.drop_succ_cons, List.drop_zero]
    repeat (first
      | ((with_reducible apply wpSoft_calleq (f := 58)); (case hw => rfl); (case hc => exact Try.call58); (case hv => ((conv => lhs; simp [Act.eval]); try rfl)); (case hS => (rintro _ ⟨m, rfl⟩; with_reducible refine (S_l02Size _ _ _).mono ?_; rintro e w' ⟨rfl, rfl⟩; exact ⟨rfl, ⟨_, rfl⟩⟩)); (simp only [Act.put, List.setIfInBounds_toArray, List.set_cons_succ, List.set_cons_zero]; try simp only [*]))
      | (apply wpSoft_skip rfl; simp only [Act.put, List.setIfInBounds_toArray, List.set_cons_succ, List.set_cons_zero])
      | (apply wpSoft_nilCheck rfl rfl; simp only [Act.put, List.setIfInBounds_toArray, List.set_cons_succ, List.set_cons_zero])
      | ((with_reducible apply wpSoft_fop); (case hw => rfl); (case hD => exact closed_drew); (case hop => rfl); (case hx => rfl); (case hy => rfl); (case hA => (first | assumption | exact FE.ofInt _ _ | exact FE.lit (by decide +kernel))); (case hB => (first | assumption | exact FE.ofInt _ _ | exact FE.lit (by decide +kernel))); (intro r hr; simp only [Act.put, List.setIfInBounds_toArray, List.set_cons_succ, List.set_cons_zero]))

      | ((with_reducible apply wpSoft_widen); (case hw => rfl); (case hD => exact closed_drew); (case hs => exact Try.underlying65); (case hd => exact Try.underlying147); (case hx => rfl); (case hA => (first | assumption | exact FE.ofInt _ _ | exact FE.lit (by decide +kernel))); (intro r hr; simp only [Act.put, List.setIfInBounds_toArray, List.set_cons_succ, List.set_cons_zero]))
      | ((with_reducible apply wpSoft_fneg); (case hw => rfl); (case hx => rfl); (case hA => (first | assumption | exact FE.ofInt _ _ | exact FE.lit (by decide +kernel))); (intro r hr; simp only [Act.put, List.setIfInBounds_toArray, List.set_cons_succ, List.set_cons_zero]))
      | ((with_reducible apply wpSoft_fcmp); (case hw => rfl); (case hop => rfl); (case hx => rfl); (case hy => rfl); (case hA => (first | assumption | exact FE.ofInt _ _ | exact FE.lit (by decide +kernel))); (case hB => (first | assumption | exact FE.ofInt _ _ | exact FE.lit (by decide +kernel))); (case hb => (first | assumption | rfl)); simp only [Act.put, List.setIfInBounds_toArray, List.set_cons_succ, List.set_cons_zero])
      | (apply wpSoft_q rfl rfl; intro K hK; go_big_quiet_op; go_big_quiet_on))
    with_reducible apply wpSoft_nil
    intro m
    go_wp2
    go_ret
    exact ⟨by simp [H.out], (by first | exact ⟨0, rfl⟩ | exact ⟨_, rfl⟩)⟩
set_option maxRecDepth 20000 in
set_option maxHeartbeats 1000000 in
theorem I_Map_at (W H x y b : Nat) (a : Option Addr) (cap : Nat) (xs : List Nat) (w : World) (hm : MP w b W H a xs.length cap xs) (hW : W ≤ 24) (hH : H ≤ 24) (hx : x < W) (hy : y < H) (hn : xs.length = W * H) :
    Calls Try.prog 101 #[.pointer (some ⟨b, 0, none⟩), .int .i64 x, .int .i64 y] w fun e w' => ∃ r, e = .returned (.float .f32 r) ∧ FE .f32 r (xs.getD (x + W * y) 0) ∧ ∃ n, w' = w.drewN n := by
  obtain ⟨e1, e2⟩ := wrap_cell (W := W) (x := x) (y := y) (by omega) hW (by omega)
  have hl : x + W * y < xs.length := by rw [hn]; exact cell_lt hx hy
  have h24 : W * H ≤ 576 := Nat.mul_le_mul hW hH
  have c0 := hm.c0
  have c2 := hm.c2
  obtain ⟨b', off, rfl⟩ := hm.fs.ptr (by omega)
  obtain ⟨r, hc, hr⟩ := hm.fs.get (x + W * y) hl
  clear hm
  go_enter Try.func101, Try.ntmps101
  go_wp2
  apply region_drew 14
  case hm => kernel_rfl
  case hB => kernel_rfl
  simp only [List.take_succ_cons, List.take_zero, List.drop_succ_cons, List.drop_zero]
  repeat (first
    | (apply wpSoft_skip rfl; simp only [Act.put, List.setIfInBounds_toArray, List.set_cons_succ, List.set_cons_zero])
    | (apply wpSoft_nilCheck rfl rfl; simp only [Act.put, List.setIfInBounds_toArray, List.set_cons_succ, List.set_cons_zero])
    | ((with_reducible apply wpSoft_fop); (case hw => rfl); (case hD => exact closed_drew); (case hop => rfl); (case hx => rfl); (case hy => rfl); (case hA => (first | assumption | exact FE.ofInt _ _ | exact FE.lit (by decide +kernel))); (case hB => (first | assumption | exact FE.ofInt _ _ | exact FE.lit (by decide +kernel))); (intro r hr; simp only [Act.put, List.setIfInBounds_toArray, List.set_cons_succ, List.set_cons_zero]))

    | ((with_reducible apply wpSoft_widen); (case hw => rfl); (case hD => exact closed_drew); (case hs => exact Try.underlying65); (case hd => exact Try.underlying147); (case hx => rfl); (case hA => (first | assumption | exact FE.ofInt _ _ | exact FE.lit (by decide +kernel))); (intro r hr; simp only [Act.put, List.setIfInBounds_toArray, List.set_cons_succ, List.set_cons_zero]))
    | ((with_reducible apply wpSoft_fneg); (case hw => rfl); (case hx => rfl); (case hA => (first | assumption | exact FE.ofInt _ _ | exact FE.lit (by decide +kernel))); (intro r hr; simp only [Act.put, List.setIfInBounds_toArray, List.set_cons_succ, List.set_cons_zero]))
    | ((with_reducible apply wpSoft_fcmp); (case hw => rfl); (case hop => rfl); (case hx => rfl); (case hy => rfl); (case hA => (first | assumption | exact FE.ofInt _ _ | exact FE.lit (by decide +kernel))); (case hB => (first | assumption | exact FE.ofInt _ _ | exact FE.lit (by decide +kernel))); (case hb => (first | assumption | rfl)); simp only [Act.put, List.setIfInBounds_toArray, List.set_cons_succ, List.set_cons_zero])
    | (apply wpSoft_q rfl rfl; intro K hK; go_big_quiet_op; go_big_quiet_on))
  with_reducible apply wpSoft_nil
  intro m
  go_wp2
  go_ret
  exact ⟨_, rfl, hr, (by first | exact ⟨0, rfl⟩ | exact ⟨_, rfl⟩)⟩
def gHas (W H x y : Int) : Bool := gIn x 0 (W - 1) && gIn y 0 (H - 1)
set_option maxRecDepth 20000 in
set_option maxHeartbeats 1000000 in
theorem I_Map_has (W H : Nat) (x y : Int) (b cap : Nat) (a : Option Addr) (xs : List Nat) (w : World) (hm : MP w b W H a xs.length cap xs) (hW : W ≤ 24) (hH : H ≤ 24) :
    Calls Try.prog 141 #[.pointer (some ⟨b, 0, none⟩), .int .i64 x, .int .i64 y] w fun e w' => e = .returned (.bool (gHas W H x y)) ∧ ∃ n, w' = w.drewN n := by
  have e1 : IntKind.i64.wrap ((W : Int) - 1) = (W : Int) - 1 := IntWalk.i64_in _ (by omega)
  have e2 : IntKind.i64.wrap ((H : Int) - 1) = (H : Int) - 1 := IntWalk.i64_in _ (by omega)
  have c0 := hm.c0
  have c1 := hm.c1
  clear hm
  cases h1 : gIn x 0 ((W : Int) - 1)
  all_goals
    go_enter Try.func141, Try.ntmps141
    go_wp2_with (first
      | (go_at_call 84; with_reducible refine (I_in _ _ _ _).mono ?_; rintro e w' ⟨rfl, rfl⟩))
    go_ret
    exact ⟨by simp [gHas, h1], (by first | exact ⟨0, rfl⟩ | exact ⟨_, rfl⟩)⟩
/-- What 'remap' leaves. -/
def gW (ok : Bool) (wd : Int) : Int := if ok then wd else 0
set_option maxRecDepth 20000 in
set_option maxHeartbeats 4000000 in
theorem I_remap (wd hg : Int) (a : Option Addr) (cap : Nat) (xs : List Nat) (f : FuncId) (cs : Array Value) (V : Nat → Nat → Nat) (w : World) (hs : FSl w a xs.length xs) (hk : xs.length ≤ maxLen)
    (hf : ∀ W H : Nat, wd = W → hg = H → 1 ≤ W → W ≤ 24 → 1 ≤ H → H ≤ 24 → xs.length = W * H → Tells w f cs W H V) :
    Calls Try.prog 98 #[.agg #[.int .i64 wd, .int .i64 hg, .slice a xs.length cap], .func (.func f) #[] cs] w
      (PostP w (gW (gPic wd hg xs.length) wd) (gW (gPic wd hg xs.length) hg) (gPic wd hg xs.length) (if gPic wd hg xs.length then grid wd.toNat V xs.length else [])) := by
  cases hP : gPic wd hg xs.length
  · clear hf
    go_enter Try.func98, Try.ntmps98
    go_wp2_with (first
      | (go_at_call 90; with_reducible refine (I_ValidMap _ _ _ _ _ _ hk).mono ?_; rintro e w' ⟨rfl, os, m, rfl⟩; rw [hP]))
    exact bodyPost_ret (v := .tuple #[.agg #[.int .i64 0, .int .i64 0, .slice none 0 0], .bool false]) (by simp [results, Try.results98, go_sem]) rfl ⟨⟨_, rfl, FOwn.nil _ _ _⟩, (by (try show Gr _ _); repeat (with_reducible first | exact Gr.refl _ | refine Gr.drewN ?_ _ | refine Gr.grew ?_ _ _ | refine Gr.alloc ?_ _ | refine Gr.drew ?_))⟩
  · obtain ⟨hS, hn⟩ := gPic_true hP
    obtain ⟨s1, s2, s3, s4, s5, s6⟩ := gSize_true hS
    obtain ⟨W, rfl⟩ := Int.eq_ofNat_of_zero_le (show 0 ≤ wd by omega)
    obtain ⟨H, rfl⟩ := Int.eq_ofNat_of_zero_le (show 0 ≤ hg by omega)
    have hl : xs.length = W * H := by exact_mod_cast hn
    have Hf := Lib.hid (hf W H rfl rfl (by omega) (by omega) (by omega) (by omega) hl)
    have Hl := Lib.hid hl
    clear hf hs hn hl
    go_enter Try.func98, Try.ntmps98
    go_wp2_with (first
      | (go_at_call 90; with_reducible refine (I_ValidMap _ _ _ _ _ _ hk).mono ?_; rintro e w' ⟨rfl, os, m, rfl⟩; rw [hP])
      | (go_at_call 137; refine (I_mapOf W H V f cs _ (Hf.out.gr (by (try show Gr _ _); repeat (with_reducible first | exact Gr.refl _ | refine Gr.drewN ?_ _ | refine Gr.grew ?_ _ _ | refine Gr.alloc ?_ _ | refine Gr.drew ?_))) (by omega) (by omega) (by omega) (by omega)).mono ?_; rintro e w1 ⟨⟨v0, rfl, ho0⟩, os0, m0, rfl⟩; obtain ⟨a0, c0, rfl, -, -⟩ := ho0.sl' (W * H) (by simp); have Ho0 := Lib.hid ho0; clear ho0))
    refine bodyPost_ret (v := .tuple #[.agg #[.int .i64 W, .int .i64 H, .slice a0 (W * H) c0], .bool true]) (by simp [results, Try.results98, go_sem]) rfl ⟨⟨_, rfl, ?_⟩, (by (try show Gr _ _); repeat (with_reducible first | exact Gr.refl _ | refine Gr.drewN ?_ _ | refine Gr.grew ?_ _ _ | refine Gr.alloc ?_ _ | refine Gr.drew ?_))⟩
    have h0 := Ho0.out
    simp only [grew_grew] at h0
    have h := (h0.swap (w' := (w.alloc (.cells #[.int .i64 W, .int .i64 H, .slice a xs.length cap] 24)).alloc (.cells #[.int .i64 W, .int .i64 H, .slice a0 (W * H) c0] 24)) (m' := m0) (by simp <;> omega) (by simp)).base (B' := w.heap.size) (by simp <;> omega)
    simpa [Hl.out] using h
theorem I_remap_ok (W H : Nat) (a : Option Addr) (cap : Nat) (xs : List Nat) (f : FuncId) (cs : Array Value) (V : Nat → Nat → Nat) (w : World) (hs : FSl w a xs.length xs) (hk : xs.length ≤ maxLen) (hP : gPic W H xs.length = true) (T : Tells w f cs W H V) :
    Calls Try.prog 98 #[.agg #[.int .i64 W, .int .i64 H, .slice a xs.length cap], .func (.func f) #[] cs] w (PostP w W H true (grid W V xs.length)) := by
  have h := I_remap W H a cap xs f cs V w hs hk (fun W' H' h1 h2 _ _ _ _ _ => by
    obtain rfl : W = W' := by exact_mod_cast h1
    obtain rfl : H = H' := by exact_mod_cast h2
    exact T)
  rw [hP] at h
  simpa [gW] using h
end Go.Proofs.Ytaidkokgafojeaa
