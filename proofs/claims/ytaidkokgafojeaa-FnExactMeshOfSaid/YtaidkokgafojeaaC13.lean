/- Contracts: pictures out of bytes. MAXREC -/
import Derived.Test.YtaidkokgafojeaaProg
import Derived.Test.YtaidkokgafojeaaC12
namespace Go.Proofs.Ytaidkokgafojeaa
open Go.RowKit Go.Fx Go.Soft
set_option maxRecDepth 20000 in
set_option maxHeartbeats 1000000 in
theorem I_mapOf (W H : Nat) (V : Nat → Nat → Nat) (f : FuncId) (cs : Array Value) (w : World) (hf : Tells w f cs W H V) (hW : W ≤ 24) (hH : H ≤ 24) (hW0 : 1 ≤ W) (hH0 : 1 ≤ H) :
    Calls Try.prog 137 #[.int .i64 W, .int .i64 H, .func (.func f) #[] cs] w fun e w' => (∃ v, e = .returned (.agg #[.int .i64 W, .int .i64 H, v]) ∧ FOwn w' w.heap.size 65 v (grid W V (W * H))) ∧ Gr w w' := by
  have Hf := Lib.hid hf
  clear hf
  go_enter Try.func137, Try.ntmps137
  go_wp2_with (go_at_call 127; refine (I_made W H V f cs _ (Hf.out.gr (by (try show Gr _ _); repeat (with_reducible first | exact Gr.refl _ | refine Gr.drewN ?_ _ | refine Gr.grew ?_ _ _ | refine Gr.alloc ?_ _ | refine Gr.drew ?_))) hW hH hW0 hH0).mono ?_; rintro e w1 ⟨⟨v, rfl, ho⟩, os, m, rfl⟩; obtain ⟨a1, c1, rfl, -, -⟩ := ho.sl' (W * H) (by simp); have Ho := Lib.hid ho; clear ho)
  exact bodyPost_ret (v := .agg #[.int .i64 W, .int .i64 H, .slice a1 (W * H) c1]) (by simp [results, Try.results137, go_sem, *]) rfl ⟨⟨_, rfl, (Ho.out.swap (by simp) (by simp)).base (by simp)⟩, (by (try show Gr _ _); repeat (with_reducible first | exact Gr.refl _ | refine Gr.drewN ?_ _ | refine Gr.grew ?_ _ _ | refine Gr.alloc ?_ _ | refine Gr.drew ?_))⟩
/-- The grey of a byte. -/
def gGrey (s : ByteArray) (i : Nat) : Nat := if h : i < s.size then fop .quo .f32 (floatOfInt .f32 ((s[i]'h).toNat : Int)) 1132396544 else 0
theorem gGrey_eq {s : ByteArray} {i : Nat} (h : i < s.size) : gGrey s i = fop .quo .f32 (floatOfInt .f32 ((s[i]'h).toNat : Int)) 1132396544 := by simp only [gGrey, dif_pos h]
def gGreyOk (s : ByteArray) (W H : Int) : Bool := gSize W H && decide ((s.size : Int) = W * H)
def gGreys (s : ByteArray) (W H : Int) : List Nat := if gGreyOk s W H then lst s.size (gGrey s) else []
end Go.Proofs.Ytaidkokgafojeaa
