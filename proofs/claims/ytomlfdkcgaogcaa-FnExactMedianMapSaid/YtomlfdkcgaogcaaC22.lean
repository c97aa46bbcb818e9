/- Contracts: rows of a picture. MAXREC -/
import Derived.Test.YtomlfdkcgaogcaaProg
import Derived.Test.YtomlfdkcgaogcaaC19
import Derived.Test.YtomlfdkcgaogcaaC13
import Derived.Test.YtomlfdkcgaogcaaC9
namespace Go.Proofs.Ytomlfdkcgaogcaa
open Go.RowKit Go.Fx Go.Soft
set_option maxRecDepth 20000 in
set_option maxHeartbeats 1000000 in
theorem I_Picture_about (W H b : Nat) (x y : Int) (a : Option Addr) (cap : Nat) (xs : List Nat) (w : World) (hm : MP w b W H a xs.length cap xs) (hW0 : 1 ≤ W) (hH0 : 1 ≤ H) (hW : W ≤ 24) (hH : H ≤ 24) (hn : xs.length = W * H) :
    Calls Try.prog 106 #[.pointer (some ⟨b, 0, none⟩), .int .i64 x, .int .i64 y] w fun e w' => ∃ r, e = .returned (.float .f32 r) ∧ FE .f32 r (xs.getD (clampN x W + W * clampN y H) 0) ∧ ∃ n, w' = w.drewN n := by
  have hu := clampN_lt (n := x) hW0
  have hv := clampN_lt (n := y) hH0
  have C1 := Lib.hid (fun w => I_clamp x W w hW0 (by omega))
  have C2 := Lib.hid (fun w => I_clamp y H w hH0 (by omega))
  generalize clampN x W = u at *
  generalize clampN y H = v at *
  obtain ⟨e1, e2⟩ := wrap_cell (W := W) (x := u) (y := v) (by omega) hW (by omega)
  have hl : u + W * v < xs.length := by rw [hn]; exact cell_lt hu hv
  have h24 : W * H ≤ 576 := Nat.mul_le_mul hW hH
  have c0 := hm.c0
  have c1 := hm.c1
  have c2 := hm.c2
  obtain ⟨b', off, rfl⟩ := hm.fs.ptr (by omega)
  obtain ⟨r, hc, hr⟩ := hm.fs.get (u + W * v) hl
  clear hm
  go_enter Try.func106, Try.ntmps106
  go_wp2
  apply region_drew 24
  case hm => kernel_rfl
  case hB => kernel_rfl
  simp only [List.take_succ_cons, List.take_zero, List.drop_succ_cons, List.drop_zero]
  repeat (first
    | ((with_reducible apply wpSoft_calleq (f := 110)); (case hw => rfl); (case hc => exact Try.call110); (case hv => ((conv => lhs; simp [Act.eval]); try rfl)); (case hS => (rintro _ ⟨m, rfl⟩; with_reducible refine (C1.out _).mono ?_; rintro e w' ⟨rfl, rfl⟩; exact ⟨rfl, _, rfl⟩)); (simp only [Act.put, List.setIfInBounds_toArray, List.set_cons_succ, List.set_cons_zero]))
    | ((with_reducible apply wpSoft_calleq (f := 110)); (case hw => rfl); (case hc => exact Try.call110); (case hv => ((conv => lhs; simp [Act.eval]); try rfl)); (case hS => (rintro _ ⟨m, rfl⟩; with_reducible refine (C2.out _).mono ?_; rintro e w' ⟨rfl, rfl⟩; exact ⟨rfl, _, rfl⟩)); (simp only [Act.put, List.setIfInBounds_toArray, List.set_cons_succ, List.set_cons_zero]))
    | (apply wpSoft_skip rfl; simp only [Act.put, List.setIfInBounds_toArray, List.set_cons_succ, List.set_cons_zero])
    | (apply wpSoft_nilCheck rfl rfl; simp only [Act.put, List.setIfInBounds_toArray, List.set_cons_succ, List.set_cons_zero])
    | ((with_reducible apply wpSoft_fop); (case hw => rfl); (case hD => exact closed_drew); (case hop => rfl); (case hx => rfl); (case hy => rfl); (case hA => (first | assumption | exact FE.ofInt _ _ | exact FE.lit (by decide +kernel))); (case hB => (first | assumption | exact FE.ofInt _ _ | exact FE.lit (by decide +kernel))); (intro r hr; simp only [Act.put, List.setIfInBounds_toArray, List.set_cons_succ, List.set_cons_zero]))

    | ((with_reducible apply wpSoft_widen); (case hw => rfl); (case hD => exact closed_drew); (case hs => exact Try.underlying25); (case hd => exact Try.underlying61); (case hx => rfl); (case hA => (first | assumption | exact FE.ofInt _ _ | exact FE.lit (by decide +kernel))); (intro r hr; simp only [Act.put, List.setIfInBounds_toArray, List.set_cons_succ, List.set_cons_zero]))
    | ((with_reducible apply wpSoft_fneg); (case hw => rfl); (case hx => rfl); (case hA => (first | assumption | exact FE.ofInt _ _ | exact FE.lit (by decide +kernel))); (intro r hr; simp only [Act.put, List.setIfInBounds_toArray, List.set_cons_succ, List.set_cons_zero]))
    | ((with_reducible apply wpSoft_fcmp); (case hw => rfl); (case hop => rfl); (case hx => rfl); (case hy => rfl); (case hA => (first | assumption | exact FE.ofInt _ _ | exact FE.lit (by decide +kernel))); (case hB => (first | assumption | exact FE.ofInt _ _ | exact FE.lit (by decide +kernel))); (case hb => (first | assumption | rfl)); simp only [Act.put, List.setIfInBounds_toArray, List.set_cons_succ, List.set_cons_zero])
    | (apply wpSoft_q rfl rfl; intro K hK; go_big_quiet_op; go_big_quiet_on))
  with_reducible apply wpSoft_nil
  intro m
  go_wp2
  go_ret
  exact ⟨_, rfl, hr, (by first | exact ⟨0, rfl⟩ | exact ⟨_, rfl⟩)⟩
def gRows (xs : List Nat) (W f : Int) (i : Nat) : Nat := xs.getD ((W * f).toNat + i) 0
end Go.Proofs.Ytomlfdkcgaogcaa
