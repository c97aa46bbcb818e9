/- Contracts: margins, and what is trusted, walked. MAXREC -/
import Derived.Test.YtldeeijfipiafaaProg
import Derived.Test.YtldeeijfipiafaaC35
import Derived.Test.YtldeeijfipiafaaC27
import Derived.Laws.Externs
namespace Go.Proofs.Ytldeeijfipiafaa
open Go.RowKit Go.Fx Go.Soft
theorem call_f64from (n : Int) (w : World) : (callFunc 175 #[.int .u64 n]).run Try.prog w = .ok (.value (.float .f64 n.toNat)) w := by
  rw [run_callFunc_extern Try.func175 (e := Extern.MathFloatBits.float64frombits) (by kernel_rfl) (by kernel_rfl) (by kernel_rfl) (by kernel_rfl)]
  rfl
set_option maxRecDepth 20000 in
set_option maxHeartbeats 400000 in
theorem M_Inf (w : World) : Calls Try.prog 147 #[.int .i64 1] w fun e w' => e = .returned (.float .f64 9218868437227405312) ∧ w' = w := by
  have c := call_f64from
  go_enter Try.func147, Try.ntmps147
  go_wp2_with (simp only [c])
  go_ret
  exact ⟨rfl, rfl⟩
set_option maxRecDepth 20000 in
set_option maxHeartbeats 400000 in
theorem I_inf (w : World) : Calls Try.prog 149 #[] w fun e w' => e = .returned (.float .f32 2139095040) ∧ ∃ n, w' = w.drewN n := by
  have c3 := fun (w : World) => run_convert_float_float (P := Try.prog) w 84 42 .f64 .f32 9218868437227405312 2139095040 (by rw [Try.underlying84]; rfl) Try.underlying42 (by decide +kernel)
  go_enter Try.func149, Try.ntmps149
  go_wp2_with (first | (go_at_call 147; refine (M_Inf _).mono ?_; rintro e w' ⟨rfl, rfl⟩) | simp only [c3])
  go_ret
  exact ⟨rfl, (by with_reducible first | exact ⟨_, rfl⟩ | exact ⟨_, World.drewN_drewN _ _ _⟩ | exact drew_self _)⟩
set_option maxRecDepth 20000 in
set_option maxHeartbeats 400000 in
theorem S_l03Infinity (w : World) : Calls Try.prog 83 #[] w fun e w' => e = .returned (.float .f32 2139095040) ∧ ∃ n, w' = w.drewN n := by
  have c3 := fun (w : World) => run_convert_float_float (P := Try.prog) w 84 42 .f64 .f32 9218868437227405312 2139095040 (by rw [Try.underlying84]; rfl) Try.underlying42 (by decide +kernel)
  go_enter Try.func83, Try.ntmps83
  go_wp2_with (first | (go_at_call 147; refine (M_Inf _).mono ?_; rintro e w' ⟨rfl, rfl⟩) | simp only [c3])
  go_ret
  exact ⟨rfl, (by with_reducible first | exact ⟨_, rfl⟩ | exact ⟨_, World.drewN_drewN _ _ _⟩ | exact drew_self _)⟩
set_option maxRecDepth 20000 in
set_option maxHeartbeats 400000 in
theorem I_isNumber2 (x X : Nat) (w : World) (hx : FE .f32 x X) :
    Calls Try.prog 89 #[.float .f32 x] w fun e w' => e = .returned (.bool (!gNaN X)) ∧ ∃ n, w' = w.drewN n := by
  go_enter Try.func89, Try.ntmps89
  go_wp2_with (first
      | (go_at_call 91; with_reducible refine (I_isNaN _ _ _ hx).mono ?_; rintro e w' ⟨rfl, n, rfl⟩)
      | ((with_reducible apply wpList_fop); (case hw => rfl); (case hop => rfl); (case hx => rfl); (case hy => rfl); (case hA => (first | assumption | exact FE.ofInt _ _ | exact FE.lit (by decide +kernel))); (case hB => (first | assumption | exact FE.ofInt _ _ | exact FE.lit (by decide +kernel))); intro r n hr)
      | ((with_reducible apply wpList_fcmp); (case hw => rfl); (case hop => rfl); (case hx => rfl); (case hy => rfl); (case hA => (first | assumption | exact FE.ofInt _ _ | exact FE.lit (by decide +kernel))); (case hB => (first | assumption | exact FE.ofInt _ _ | exact FE.lit (by decide +kernel))); (case hb => (first | assumption | rfl)))
      | ((with_reducible apply wpList_widen); (case hw => rfl); (case hs => exact Try.underlying42); (case hd => exact Try.underlying84); (case hx => rfl); (case hA => (first | assumption | exact FE.ofInt _ _ | exact FE.lit (by decide +kernel))); intro r n hr)
      | ((with_reducible apply wpList_fneg); (case hw => rfl); (case hx => rfl); (case hA => (first | assumption | exact FE.ofInt _ _ | exact FE.lit (by decide +kernel))); intro r hr))
  go_ret
  exact ⟨rfl, (by with_reducible first | exact ⟨_, rfl⟩ | exact ⟨_, World.drewN_drewN _ _ _⟩ | exact drew_self _)⟩
set_option maxRecDepth 20000 in
set_option maxHeartbeats 400000 in
theorem I_least (a : Option Addr) (cap : Nat) (xs : List Nat) (g : Int) (w : World) (hs : FSl w a xs.length xs) (h1 : -1 ≤ g) (h2 : g < xs.length) :
    Calls Try.prog 90 #[.slice a xs.length cap, .int .i64 g] w fun e w' => ∃ r, e = .returned (.float .f32 r) ∧ FE .f32 r (gLeast (fun j => xs.getD j 0) g) ∧ ∃ n, w' = w.drewN n := by
  rcases (show g = -1 ∨ 0 ≤ g by omega) with rfl | h0
  · go_enter Try.func90, Try.ntmps90
    go_wp2_with (first
      | (go_at_call 149; refine (I_inf _).mono ?_; rintro e w' ⟨rfl, n, rfl⟩))
    go_ret
    exact ⟨_, rfl, FE.lit (by decide +kernel), (by with_reducible first | exact ⟨_, rfl⟩ | exact ⟨_, World.drewN_drewN _ _ _⟩ | exact drew_self _)⟩
  · obtain ⟨d, rfl⟩ := Int.eq_ofNat_of_zero_le h0
    have eG := Lib.hid (show gLeast (fun j => xs.getD j 0) (d : Int) = xs.getD d 0 by unfold gLeast; rw [if_neg (by omega), Int.toNat_natCast])
    obtain ⟨bx, ox, rfl⟩ := hs.ptr (by omega)
    obtain ⟨r, hc, hr⟩ := hs.get d (by omega)
    clear hs
    go_enter Try.func90, Try.ntmps90
    go_wp2
    go_ret
    exact ⟨_, rfl, by rw [eG.out]; exact hr, (by with_reducible first | exact ⟨_, rfl⟩ | exact ⟨_, World.drewN_drewN _ _ _⟩ | exact drew_self _)⟩
set_option maxRecDepth 20000 in
set_option maxHeartbeats 1000000 in
theorem I_margin (a : Option Addr) (cap : Nat) (xs : List Nat) (w : World) (hs : FSl w a xs.length xs) (hn : xs.length ≤ 1048576) :
    Calls Try.prog 87 #[.slice a xs.length cap] w fun e w' => ∃ r, e = .returned (.float .f32 r) ∧ FE .f32 r (gMarg (fun j => xs.getD j 0) xs.length) ∧ ∃ n, w' = w.drewN n := by
  have W2 := Lib.hid (fun (but g : Int) (hg : gWin (fun j => xs.getD j 0) but xs.length = g) (u : World) (hu : ∃ n, u = w.drewN n) => (by have h := I_winner a cap xs but u (by obtain ⟨n, rfl⟩ := hu; exact hs.drewN n) hn; rw [hg] at h; exact h : Calls Try.prog 78 #[.slice a xs.length cap, .int .i64 but] u fun e w' => e = .returned (.int .i64 g) ∧ ∃ n, w' = u.drewN n))
  rcases gMarg_ways (fun j => xs.getD j 0) xs.length with ⟨h1, hM⟩ | ⟨f, hf, h1, h2, hM⟩ | ⟨f, s, hf, hsl, h1, h2, hM⟩
  · have HM := Lib.hid hM
    clear hM hs
    go_enter Try.func87, Try.ntmps87
    go_wp2_with (first
      | (go_at_call 78; with_reducible refine (W2.out _ _ h1 _ (by with_reducible first | exact ⟨_, rfl⟩ | exact drew_self _)).mono ?_; rintro e w' ⟨rfl, n, rfl⟩)
      | (go_at_call 149; refine (I_inf _).mono ?_; rintro e w' ⟨rfl, n, rfl⟩))
    go_ret
    exact ⟨_, rfl, by rw [HM.out]; exact FE.lit (by decide +kernel), (by with_reducible first | exact ⟨_, rfl⟩ | exact ⟨_, World.drewN_drewN _ _ _⟩ | exact drew_self _)⟩
  · have HM := Lib.hid hM
    clear hM hs
    go_enter Try.func87, Try.ntmps87
    go_wp2_with (first
      | (go_at_call 78; with_reducible refine (W2.out _ _ h1 _ (by with_reducible first | exact ⟨_, rfl⟩ | exact drew_self _)).mono ?_; rintro e w' ⟨rfl, n, rfl⟩)
      | (go_at_call 78; with_reducible refine (W2.out _ _ h2 _ (by with_reducible first | exact ⟨_, rfl⟩ | exact drew_self _)).mono ?_; rintro e w' ⟨rfl, n, rfl⟩)
      | (go_at_call 149; refine (I_inf _).mono ?_; rintro e w' ⟨rfl, n, rfl⟩))
    go_ret
    exact ⟨_, rfl, by rw [HM.out]; exact FE.lit (by decide +kernel), (by with_reducible first | exact ⟨_, rfl⟩ | exact ⟨_, World.drewN_drewN _ _ _⟩ | exact drew_self _)⟩
  · have HM := Lib.hid (show gMarg _ _ = fop .sub .f32 (xs.getD s 0) (xs.getD f 0) from hM)
    obtain ⟨bx, ox, rfl⟩ := hs.ptr (by omega)
    obtain ⟨rf, hcf, hff⟩ := hs.get f hf
    obtain ⟨rs, hcs, hfs⟩ := hs.get s hsl
    clear hM hs
    generalize xs.getD f 0 = vf at *
    generalize xs.getD s 0 = vs at *
    go_enter Try.func87, Try.ntmps87
    go_wp2_with (first
      | (go_at_call 78; with_reducible refine (W2.out _ _ h1 _ (by with_reducible first | exact ⟨_, rfl⟩ | exact drew_self _)).mono ?_; rintro e w' ⟨rfl, n, rfl⟩)
      | (go_at_call 78; with_reducible refine (W2.out _ _ h2 _ (by with_reducible first | exact ⟨_, rfl⟩ | exact drew_self _)).mono ?_; rintro e w' ⟨rfl, n, rfl⟩))
    apply region_drew 9
    case hm => kernel_rfl
    case hB => kernel_rfl
    simp only [List.take_succ_cons, List.take_zero, List.drop_succ_cons, List.drop_zero]
    repeat (first
      | (apply wpSoft_skip rfl; simp only [Act.put, List.setIfInBounds_toArray, List.set_cons_succ, List.set_cons_zero])
      | (apply wpSoft_nilCheck rfl rfl; simp only [Act.put, List.setIfInBounds_toArray, List.set_cons_succ, List.set_cons_zero])
      | ((with_reducible apply wpSoft_fop); (case hw => rfl); (case hD => exact closed_drew); (case hop => rfl); (case hx => rfl); (case hy => rfl); (case hA => (first | assumption | exact FE.ofInt _ _ | exact FE.lit (by decide +kernel))); (case hB => (first | assumption | exact FE.ofInt _ _ | exact FE.lit (by decide +kernel))); (intro r hr; simp only [Act.put, List.setIfInBounds_toArray, List.set_cons_succ, List.set_cons_zero]))

      | ((with_reducible apply wpSoft_widen); (case hw => rfl); (case hD => exact closed_drew); (case hs => exact Try.underlying42); (case hd => exact Try.underlying84); (case hx => rfl); (case hA => (first | assumption | exact FE.ofInt _ _ | exact FE.lit (by decide +kernel))); (intro r hr; simp only [Act.put, List.setIfInBounds_toArray, List.set_cons_succ, List.set_cons_zero]))
      | ((with_reducible apply wpSoft_fneg); (case hw => rfl); (case hx => rfl); (case hA => (first | assumption | exact FE.ofInt _ _ | exact FE.lit (by decide +kernel))); (intro r hr; simp only [Act.put, List.setIfInBounds_toArray, List.set_cons_succ, List.set_cons_zero]))
      | ((with_reducible apply wpSoft_fcmp); (case hw => rfl); (case hop => rfl); (case hx => rfl); (case hy => rfl); (case hA => (first | assumption | exact FE.ofInt _ _ | exact FE.lit (by decide +kernel))); (case hB => (first | assumption | exact FE.ofInt _ _ | exact FE.lit (by decide +kernel))); (case hb => (first | assumption | rfl)); simp only [Act.put, List.setIfInBounds_toArray, List.set_cons_succ, List.set_cons_zero])
      | (apply wpSoft_q rfl rfl; intro K hK; go_big_quiet_op; go_big_quiet_on))
    with_reducible apply wpSoft_nil
    intro m
    go_wp2
    go_ret
    exact ⟨_, rfl, by rw [HM.out]; assumption, (by with_reducible first | exact ⟨_, rfl⟩ | exact ⟨_, World.drewN_drewN _ _ _⟩ | exact drew_self _)⟩
set_option maxRecDepth 20000 in
set_option maxHeartbeats 1000000 in
theorem I_TrustOf_1 (a : Option Addr) (cap : Nat) (xs : List Nat) (w : World) (hs : FSl w a xs.length xs) (h1 : 1 ≤ xs.length) (hn : xs.length ≤ 1048576) :
    Calls Try.prog 86 #[.slice a xs.length cap] w fun e w' => ∃ r, e = .returned (.float .f32 r) ∧ FE .f32 r (gTrust (fun j => xs.getD j 0) xs.length) ∧ ∃ n, w' = w.drewN n := by
  have r := gWin_range (fun j => xs.getD j 0) (-1) xs.length
  have W2 := Lib.hid (fun (u : World) (hu : ∃ n, u = w.drewN n) => I_winner a cap xs (-1) u (by obtain ⟨n, rfl⟩ := hu; exact hs.drewN n) hn)
  have L2 := Lib.hid (fun (u : World) (hu : ∃ n, u = w.drewN n) => I_least a cap xs (gWin (fun j => xs.getD j 0) (-1) xs.length) u (by obtain ⟨n, rfl⟩ := hu; exact hs.drewN n) r.1 r.2)
  have M2 := Lib.hid (I_margin a cap xs w hs hn)
  have eI := gMarg_inf (fun j => xs.getD j 0) xs.length
  have hq := gTrust_ways (fun j => xs.getD j 0) xs.length
  have eS : gShare (fun j => xs.getD j 0) xs.length = fop .quo .f32 (gMarg (fun j => xs.getD j 0) xs.length) (fop .add .f32 (gMarg (fun j => xs.getD j 0) xs.length) (gLeast (fun j => xs.getD j 0) (gWin (fun j => xs.getD j 0) (-1) xs.length))) := rfl
  rw [eS] at hq
  clear hs r eS
  generalize gTrust (fun j => xs.getD j 0) xs.length = T at *
  generalize gLeast (fun j => xs.getD j 0) (gWin (fun j => xs.getD j 0) (-1) xs.length) = E at *
  generalize gMarg (fun j => xs.getD j 0) xs.length = M at *
  generalize gWin (fun j => xs.getD j 0) (-1) xs.length = g at *
  have h5 : (gFin M = false ∧ gNaN M = false ∧ T = 1065353216) ∨ ((gFin M = true ∨ (gFin M = false ∧ gNaN M = true)) ∧ ((gNaN (fop .quo .f32 M (fop .add .f32 M E)) = true ∧ T = 0) ∨ (gNaN (fop .quo .f32 M (fop .add .f32 M E)) = false ∧ T = fop .quo .f32 M (fop .add .f32 M E)))) := by
    rw [← eI] at hq
    rcases hq with ⟨h, hT⟩ | ⟨h, h2, hT⟩ | ⟨h, h2, hT⟩ <;> revert h <;> cases gFin M <;> cases gNaN M <;> simp_all
  clear hq eI
  rcases h5 with ⟨t1, t2, hT⟩ | ⟨t1 | ⟨t1, t2⟩, ⟨t3, hT⟩ | ⟨t3, hT⟩⟩
  all_goals
    have HT := Lib.hid hT
    clear hT
    go_enter Try.func86, Try.ntmps86
    go_wp2_with (first
      | (go_at_call 87; with_reducible refine M2.out.mono ?_; rintro e w' ⟨r1, rfl, hr1, n, rfl⟩)
      | (go_at_call 88; with_reducible refine (I_IsFinite _ _ _ (by assumption)).mono ?_; rintro e w' ⟨rfl, n, rfl⟩; rw [t1])
      | (go_at_call 89; refine (I_isNumber2 _ _ _ (by assumption)).mono ?_; rintro e w' ⟨rfl, n, rfl⟩; rw [t2])
      | (go_at_call 78; with_reducible refine (W2.out _ (by with_reducible first | exact ⟨_, rfl⟩ | exact drew_self _)).mono ?_; rintro e w' ⟨rfl, n, rfl⟩)
      | (go_at_call 90; with_reducible refine (L2.out _ (by with_reducible first | exact ⟨_, rfl⟩ | exact drew_self _)).mono ?_; rintro e w' ⟨r2, rfl, hr2, n, rfl⟩)
      | (go_at_call 91; with_reducible refine (I_isNaN _ _ _ (by assumption)).mono ?_; rintro e w' ⟨rfl, n, rfl⟩; rw [t3])
      | ((with_reducible apply wpList_fop); (case hw => rfl); (case hop => rfl); (case hx => rfl); (case hy => rfl); (case hA => (first | assumption | exact FE.ofInt _ _ | exact FE.lit (by decide +kernel))); (case hB => (first | assumption | exact FE.ofInt _ _ | exact FE.lit (by decide +kernel))); intro r n hr)
      | ((with_reducible apply wpList_fcmp); (case hw => rfl); (case hop => rfl); (case hx => rfl); (case hy => rfl); (case hA => (first | assumption | exact FE.ofInt _ _ | exact FE.lit (by decide +kernel))); (case hB => (first | assumption | exact FE.ofInt _ _ | exact FE.lit (by decide +kernel))); (case hb => (first | assumption | rfl)))
      | ((with_reducible apply wpList_widen); (case hw => rfl); (case hs => exact Try.underlying42); (case hd => exact Try.underlying84); (case hx => rfl); (case hA => (first | assumption | exact FE.ofInt _ _ | exact FE.lit (by decide +kernel))); intro r n hr)
      | ((with_reducible apply wpList_fneg); (case hw => rfl); (case hx => rfl); (case hA => (first | assumption | exact FE.ofInt _ _ | exact FE.lit (by decide +kernel))); intro r hr))
    go_ret
    exact ⟨_, rfl, by rw [HT.out]; first | assumption | exact FE.lit (by decide +kernel), (by with_reducible first | exact ⟨_, rfl⟩ | exact ⟨_, World.drewN_drewN _ _ _⟩ | exact drew_self _)⟩
set_option maxRecDepth 20000 in
set_option maxHeartbeats 2000000 in
theorem S_l03Margin (W H D i b : Nat) (a : Option Addr) (cap : Nat) (xs : List Nat) (w : World) (hm : MV w b W H D a xs.length cap xs) (hD0 : 1 ≤ D) (hD : D ≤ 8) (hi : i < W * H) (hn : xs.length = W * H * D) (hn2 : xs.length ≤ 2048) :
    Calls Try.prog 82 #[.pointer (some ⟨b, 0, none⟩), .int .i64 i] w fun e w' => ∃ r, e = .returned (.float .f32 r) ∧ FE .f32 r (gMarg (fun j => xs.getD (i * D + j) 0) D) ∧ ∃ n, w' = w.drewN n := by
  have W2 := Lib.hid (fun (but g : Int) (hg : gWin (fun j => xs.getD (i * D + j) 0) but D = g) (u : World) (hu : ∃ n, u = w.drewN n) => (by have h := S_l03Winner W H D i b a cap xs but u (by obtain ⟨n, rfl⟩ := hu; exact hm.gr (gr_drewN w n)) hD0 hD hi hn hn2; rw [hg] at h; exact h : Calls Try.prog 84 #[.pointer (some ⟨b, 0, none⟩), .int .i64 i, .int .i64 but] u fun e w' => e = .returned (.int .i64 g) ∧ ∃ n, w' = u.drewN n))
  have hR : i * D + D ≤ xs.length := by
    have : (i + 1) * D ≤ W * H * D := Nat.mul_le_mul_right D hi
    rw [Nat.add_mul, Nat.one_mul] at this
    omega
  have e4 : IntKind.i64.wrap ((i : Int) * (D : Int)) = ((i * D : Nat) : Int) := by rw [← Int.natCast_mul]; exact IntWalk.i64_in _ (by omega)
  have c2 := hm.c2
  have c3 := hm.c3
  obtain ⟨bx, ox, rfl⟩ := hm.fs.ptr (by omega)
  have Hs := Lib.hid hm.fs
  have hq := gMarg_ways (fun j => xs.getD (i * D + j) 0) D
  clear hm hn hi
  generalize i * D = L at *
  generalize gMarg (fun j => xs.getD (L + j) 0) D = M at *
  rcases hq with ⟨h1, hM⟩ | ⟨f, hf, h1, h2, hM⟩ | ⟨f, s, hf, hsl, h1, h2, hM⟩
  · have HM := Lib.hid hM
    clear hM
    go_enter Try.func82, Try.ntmps82
    go_wp2_with (first
      | (go_at_call 84; with_reducible refine (W2.out _ _ h1 _ (by with_reducible first | exact ⟨_, rfl⟩ | exact drew_self _)).mono ?_; rintro e w' ⟨rfl, n, rfl⟩)
      | (go_at_call 83; refine (S_l03Infinity _).mono ?_; rintro e w' ⟨rfl, n, rfl⟩))
    go_ret
    exact ⟨_, rfl, by rw [HM.out]; exact FE.lit (by decide +kernel), (by with_reducible first | exact ⟨_, rfl⟩ | exact ⟨_, World.drewN_drewN _ _ _⟩ | exact drew_self _)⟩
  · have HM := Lib.hid hM
    clear hM
    go_enter Try.func82, Try.ntmps82
    go_wp2_with (first
      | (go_at_call 84; with_reducible refine (W2.out _ _ h1 _ (by with_reducible first | exact ⟨_, rfl⟩ | exact drew_self _)).mono ?_; rintro e w' ⟨rfl, n, rfl⟩)
      | (go_at_call 84; with_reducible refine (W2.out _ _ h2 _ (by with_reducible first | exact ⟨_, rfl⟩ | exact drew_self _)).mono ?_; rintro e w' ⟨rfl, n, rfl⟩)
      | (go_at_call 83; refine (S_l03Infinity _).mono ?_; rintro e w' ⟨rfl, n, rfl⟩))
    go_ret
    exact ⟨_, rfl, by rw [HM.out]; exact FE.lit (by decide +kernel), (by with_reducible first | exact ⟨_, rfl⟩ | exact ⟨_, World.drewN_drewN _ _ _⟩ | exact drew_self _)⟩
  · have HM := Lib.hid (show M = fop .sub .f32 (xs.getD (L + s) 0) (xs.getD (L + f) 0) from hM)
    obtain ⟨rf, hcf, hff⟩ := Hs.out.get (L + f) (by omega)
    obtain ⟨rs, hcs, hfs⟩ := Hs.out.get (L + s) (by omega)
    clear hM
    generalize xs.getD (L + f) 0 = vf at *
    generalize xs.getD (L + s) 0 = vs at *
    go_enter Try.func82, Try.ntmps82
    go_wp2_with (first
      | (go_at_call 84; with_reducible refine (W2.out _ _ h1 _ (by with_reducible first | exact ⟨_, rfl⟩ | exact drew_self _)).mono ?_; rintro e w' ⟨rfl, n, rfl⟩)
      | (go_at_call 84; with_reducible refine (W2.out _ _ h2 _ (by with_reducible first | exact ⟨_, rfl⟩ | exact drew_self _)).mono ?_; rintro e w' ⟨rfl, n, rfl⟩))
    apply region_drew 29
    case hm => kernel_rfl
    case hB => kernel_rfl
    simp only [List.take_succ_cons, List.take_zero, List.drop_succ_cons, List.drop_zero]
    repeat (first
      | (apply wpSoft_skip rfl; simp only [Act.put, List.setIfInBounds_toArray, List.set_cons_succ, List.set_cons_zero])
      | (apply wpSoft_nilCheck rfl rfl; simp only [Act.put, List.setIfInBounds_toArray, List.set_cons_succ, List.set_cons_zero])
      | ((with_reducible apply wpSoft_fop); (case hw => rfl); (case hD => exact closed_drew); (case hop => rfl); (case hx => rfl); (case hy => rfl); (case hA => (first | assumption | exact FE.ofInt _ _ | exact FE.lit (by decide +kernel))); (case hB => (first | assumption | exact FE.ofInt _ _ | exact FE.lit (by decide +kernel))); (intro r hr; simp only [Act.put, List.setIfInBounds_toArray, List.set_cons_succ, List.set_cons_zero]))

      | ((with_reducible apply wpSoft_widen); (case hw => rfl); (case hD => exact closed_drew); (case hs => exact Try.underlying42); (case hd => exact Try.underlying84); (case hx => rfl); (case hA => (first | assumption | exact FE.ofInt _ _ | exact FE.lit (by decide +kernel))); (intro r hr; simp only [Act.put, List.setIfInBounds_toArray, List.set_cons_succ, List.set_cons_zero]))
      | ((with_reducible apply wpSoft_fneg); (case hw => rfl); (case hx => rfl); (case hA => (first | assumption | exact FE.ofInt _ _ | exact FE.lit (by decide +kernel))); (intro r hr; simp only [Act.put, List.setIfInBounds_toArray, List.set_cons_succ, List.set_cons_zero]))
      | ((with_reducible apply wpSoft_fcmp); (case hw => rfl); (case hop => rfl); (case hx => rfl); (case hy => rfl); (case hA => (first | assumption | exact FE.ofInt _ _ | exact FE.lit (by decide +kernel))); (case hB => (first | assumption | exact FE.ofInt _ _ | exact FE.lit (by decide +kernel))); (case hb => (first | assumption | rfl)); simp only [Act.put, List.setIfInBounds_toArray, List.set_cons_succ, List.set_cons_zero])
      | (apply wpSoft_q rfl rfl; intro K hK; go_big_quiet_op; go_big_quiet_on))
    with_reducible apply wpSoft_nil
    intro m
    go_wp2
    go_ret
    exact ⟨_, rfl, by rw [HM.out]; assumption, (by with_reducible first | exact ⟨_, rfl⟩ | exact ⟨_, World.drewN_drewN _ _ _⟩ | exact drew_self _)⟩
end Go.Proofs.Ytldeeijfipiafaa
