/- Contracts: pictures that are stored. MAXREC -/
import Derived.Test.YtaidkokgafojeaaProg
import Derived.Test.YtaidkokgafojeaaC8
import Derived.Test.YtaidkokgafojeaaC12
import Derived.Test.YtaidkokgafojeaaC56
import Derived.Lib.SlBytesConst
import Derived.ArgAppend
import Derived.Deep.DeepCutAuto
namespace Go.Fx
open Go Go.Soft Go.RowKit
/-- The bytes of the first k greys. -/
def gSto (L0 : List Int) (xs : List Nat) : Nat → List Int
  | 0 => L0
  | k + 1 => gSto L0 xs k ++ gBo (gBits (xs.getD k 0)) 4
def gStore (W H : Nat) (xs : List Nat) : List Int := gSto [69, 89, 69, 49, W, H] xs xs.length
theorem gSto_length (L0 : List Int) (xs : List Nat) : ∀ k, (gSto L0 xs k).length = L0.length + 4 * k
  | 0 => rfl
  | k + 1 => by rw [gSto, List.length_append, gSto_length L0 xs k, gBo_length]; omega
theorem gBo4 (n : Nat) : gBo n 4 = [((n % 256 : Nat) : Int), ((n / 256 % 256 : Nat) : Int), ((n / 65536 % 256 : Nat) : Int), ((n / 16777216 % 256 : Nat) : Int)] := by
  simp [gBo]
theorem wpSoft_sadd {P : Program} {ops : Array Oper} {C : World → Prop} {Q : Act → Prop} {rest : List Oper} {Ms : List (Option (Value → Prop))} {a : Act} {dst : Option Tmp} {t t' ty : TypeId} {x y : Operand} {pos : String} {after : Array Edge} {guard : Option (Nat × Bool)}
    (hw : Region.wanted ⟨dst, .binOp .add t x y t', ty, pos, after, guard⟩ (yielded ops a.tmps) = true) {p q : ByteArray} (hx : a.eval x = .string p) (hy : a.eval y = .string q) (hl : p.size + q.size ≤ 9223372036854775807)
    (h : wpSoft P ops C Q rest Ms (a.put dst (.string (p ++ q)))) : wpSoft P ops C Q (⟨dst, .binOp .add t x y t', ty, pos, after, guard⟩ :: rest) (none :: Ms) a := by
  simp only [wpSoft, hw, if_true]
  refine ⟨_, fun w hC => ?_, h⟩
  have e : (execOp a.eval ⟨dst, .binOp .add t x y t', ty, pos, after, guard⟩).run P w = .ok (.value (.string (p ++ q))) w := by
    have hr : (binOp .add t (.string p) (.string q)).run P w = .ok (.string (p ++ q)) w := run_string_add_sum w p q hl
    simp [execOp, hx, hy, eqGuard_add, hr]
  rw [e]; exact ⟨rfl, rfl⟩
theorem i64_and255 (n : Int) : bits .and .i64 n 255 = n % 256 := by
  have h255 : (BitVec.ofInt 64 255).toNat = 2 ^ 8 - 1 := by decide
  have key : (BitVec.ofInt 64 n &&& BitVec.ofInt 64 255).toNat = (n % ((2 ^ 64 : Nat) : Int)).toNat % 2 ^ 8 := by
    rw [BitVec.toNat_and, BitVec.toNat_ofInt, h255, Nat.and_two_pow_sub_one_eq_mod]
  show IntKind.i64.wrap ((BitVec.ofInt 64 n &&& BitVec.ofInt 64 255).toNat : Nat) = n % 256
  rw [key, IntKind.wrap_i64]
  omega
theorem gBo4_and (B : Nat) : [bits .and .i64 (B : Int) 255 % 256, bits .and .i64 ((B : Int) / 256) 255 % 256, bits .and .i64 ((B : Int) / 65536) 255 % 256, bits .and .i64 ((B : Int) / 16777216) 255 % 256] = gBo B 4 := by
  rw [gBo4]
  simp only [i64_and255]
  congr 1
  · omega
  congr 1
  · omega
  congr 1
  · omega
  congr 1
  omega
theorem BOwn.block4 {w : World} {lo g : Nat} {e : TypeId} {a b c d : Int} (h : Blk w g [.int .u8 a, .int .u8 b, .int .u8 c, .int .u8 d] e) (hl : lo ≤ g) : BOwn w lo e (.slice (some ⟨g, 0, none⟩) 4 4) [a, b, c, d] :=
  ⟨rfl, .inr ⟨g, 4, #[.int .u8 a, .int .u8 b, .int .u8 c, .int .u8 d], rfl, hl, h.at_, Nat.le_refl _, by unfold maxLen; decide, rfl, rfl⟩⟩
end Go.Fx
namespace Go.Proofs.Ytaidkokgafojeaa
open Go.RowKit Go.Fx Go.Soft
set_option maxRecDepth 20000 in
set_option maxHeartbeats 4000000 in
theorem S_l07Store (W H : Nat) (b ca : Nat) (a : Option Addr) (xs : List Nat) (w : World) (c0 : w.cell? ⟨b, 0, none⟩ = some (.int .i64 W)) (c1 : w.cell? ⟨b, 1, none⟩ = some (.int .i64 H)) (c2 : w.cell? ⟨b, 2, none⟩ = some (.slice a xs.length ca)) (fx : FSl w a xs.length xs) (hW : W ≤ 24) (hH : H ≤ 24) (hn : xs.length ≤ 576) :
    Calls Try.prog 67 #[.pointer (some ⟨b, 0, none⟩)] w fun e w' => e = .returned (.string (strOfNums (gStore W H xs))) ∧ Gr w w' := by
  obtain ⟨i0, hi, hz0, hz1, hz2⟩ := info_parts info_uint8
  have Fx := Lib.hid fx
  clear fx
  have kc := fun (w : World) (C : Array Value) (n c : Nat) => Lib.run_convert_bytes_const (P := Try.prog) w 144 5 C n c Try.underlying144 Try.underlying5
  go_enter Try.func67, Try.ntmps67
  go_wp2
  clear kc
  apply region_facts 12 [11] (fun _ v w' => ∃ b, v = .slice (some ⟨b, 0, none⟩) 2 2 ∧ Blk w' b [.int .u8 W, .int .u8 H] 5)
  case hm => kernel_rfl
  case hB => kernel_rfl
  case hR => rfl
  case hP => (intro k hk v w1 w2 hg hv; obtain ⟨b, hv, hB⟩ := hv; exact ⟨b, hv, hB.gr hg⟩)
  simp only [List.take_succ_cons, List.take_zero, List.drop_succ_cons, List.drop_zero]
  repeat (first
    | ((with_reducible apply wpF_new (c := #[.int .u8 W, .int .u8 H]) (e := 5) (fun b => .slice (some ⟨b, 0, none⟩) 2 2)); (case hw => rfl); (case hx => (intro w; simp [execOp, go_sem])); (case hF => (intro w b hb hc _; exact ⟨b, rfl, ⟨hc⟩⟩)); (intro b hb; simp only [Act.put, List.setIfInBounds_toArray, List.set_cons_succ, List.set_cons_zero]))
    | (apply wpF_skip rfl (by decide); simp only [Act.put, List.setIfInBounds_toArray, List.set_cons_succ, List.set_cons_zero])
    | (apply wpF_nilCheck rfl (by decide) rfl; simp only [Act.put, List.setIfInBounds_toArray, List.set_cons_succ, List.set_cons_zero])
    | ((with_reducible apply wpF_fop); (case hw => rfl); (case hT => decide); (case hop => rfl); (case hx => rfl); (case hy => rfl); (case hA => (first | assumption | exact FE.ofInt _ _ | exact FE.lit (by decide +kernel))); (case hB => (first | assumption | exact FE.ofInt _ _ | exact FE.lit (by decide +kernel))); (intro r hr; simp only [Act.put, List.setIfInBounds_toArray, List.set_cons_succ, List.set_cons_zero]))
    | ((with_reducible apply wpF_fneg); (case hw => rfl); (case hT => decide); (case hx => rfl); (case hA => (first | assumption | exact FE.ofInt _ _ | exact FE.lit (by decide +kernel))); (intro r hr; simp only [Act.put, List.setIfInBounds_toArray, List.set_cons_succ, List.set_cons_zero]))
    | ((with_reducible apply wpF_fcmp); (case hw => rfl); (case hT => decide); (case hop => rfl); (case hx => rfl); (case hy => rfl); (case hA => (first | assumption | exact FE.ofInt _ _ | exact FE.lit (by decide +kernel))); (case hB => (first | assumption | exact FE.ofInt _ _ | exact FE.lit (by decide +kernel))); (case hb => (first | assumption | rfl)); simp only [Act.put, List.setIfInBounds_toArray, List.set_cons_succ, List.set_cons_zero])
    | (apply wpF_q rfl (by decide) rfl; intro K hK; go_big_quiet_op; go_big_quiet_on))
  with_reducible apply wpF_nil
  intro os m hf
  obtain ⟨b', hb', hB'⟩ := hf.1
  obtain rfl : b' = _ := by simpa using hb'.symm
  have d0 := hB'.cellv 0
  have d1 := hB'.cellv 1
  have hM : ∀ (j : Nat) (u : Value), [Value.int .u8 69, .int .u8 89, .int .u8 69, .int .u8 49][j]? = some u → ((w.alloc (.cells #[.int .u8 69, .int .u8 89, .int .u8 69, .int .u8 49] 5 (4, 5))).grew os m).cell? ⟨w.heap.size, j, none⟩ = some u := by
    intro j u hj
    have e : (w.alloc (.cells #[.int .u8 69, .int .u8 89, .int .u8 69, .int .u8 49] 5 (4, 5))).cell? ⟨w.heap.size, j, none⟩ = some u := by
      rw [World.cell?_alloc_mark]; simpa using hj
    rw [cell?_grew _ _ _ (by rw [e]; rfl)]; exact e
  have G := Lib.hid (show Gr w ((w.alloc (.cells #[.int .u8 69, .int .u8 89, .int .u8 69, .int .u8 49] 5 (4, 5))).grew os m) from (by (try show Gr _ _); repeat (with_reducible first | exact Gr.refl _ | refine Gr.drewN ?_ _ | refine Gr.grew ?_ _ _ | refine Gr.alloc ?_ _ | refine Gr.drew ?_)))
  clear hf hb' hB'
  refine wpList_append_grows _ rfl _ _ 144 rfl 5 i0 (.int .u8 0) 1 1 Try.underlying144 hi hz0 hz1 hz2 rfl (by decide) (some ⟨w.heap.size, 0, none⟩) 4 4 [.int .u8 69, .int .u8 89, .int .u8 69, .int .u8 49] rfl (by simp) rfl (fun b hb j u hj => by cases hb; have h := hM j u hj; rcases j with _ | j <;> simpa [Addr.add] using h) _ 2 2 [.int .u8 W, .int .u8 H] rfl rfl ?_ (by intro u hu; simp at hu; rcases hu with rfl | rfl <;> rfl) (by decide) (by unfold maxLen; decide) (by decide) ?_
  · intro j u hj
    match j, hj with
    | 0, hj => simp at hj; subst hj; simpa [Addr.add] using d0
    | 1, hj => simp at hj; subst hj; simpa [Addr.add] using d1
  intro v1 w1 ho1 hg1
  have Ho := Lib.hid (show BOwn w1 w.heap.size 5 v1 [69, 89, 69, 49, (W : Int), (H : Int)] from own_base ho1 (by simp <;> omega))
  have Hg := Lib.hid (Gr.grownBy G.out hg1 (fun k hk => by cases hk))
  clear ho1 hg1 G hM d0 d1
  go_wp2
  clear c0 c1
  go_loopw [3, 4] (fun s i wr => ∃ k : Nat, k ≤ xs.length ∧ i = .int .i64 k ∧ BOwn wr w.heap.size 5 s (gSto [69, 89, 69, 49, (W : Int), (H : Int)] xs k) ∧ Gr w wr) (fun _ i _ => xs.length - (intOf i).toNat)
  case atStart => exact ⟨0, Nat.zero_le _, rfl, Ho.out, Hg.out⟩
  case round =>
    clear Ho Hg
    obtain ⟨k, hk, rfl, ho, hg⟩ := hrel
    have p2 := hg.cell c2
    have HL := gSto_length [69, 89, 69, 49, (W : Int), (H : Int)] xs k
    simp only [List.length_cons, List.length_nil] at HL
    have Ho := Lib.hid ho
    have Hg := Lib.hid hg
    clear ho hg
    by_cases hlt : k < xs.length
    · obtain ⟨bx, ox, rfl⟩ := Fx.out.ptr (by omega)
      obtain ⟨p, hc, hp⟩ := (Fx.out.keep Hg.out.kp).get k hlt
      have EG := Lib.hid (show gSto [69, 89, 69, 49, (W : Int), (H : Int)] xs (k + 1) = gSto [69, 89, 69, 49, (W : Int), (H : Int)] xs k ++ gBo (gBits (xs.getD k 0)) 4 from rfl)
      have hb := gBits_lt hp
      generalize xs.getD k 0 = X at *
      generalize gSto [69, 89, 69, 49, (W : Int), (H : Int)] xs k = L at *
      obtain ⟨B, hB⟩ : ∃ B, B = gBits X := ⟨_, rfl⟩
      have HB := Lib.hid hB
      rw [← hB] at hb EG
      clear hB
      go_wp2_with (first
      | (go_at_call 120; with_reducible refine (S_l01Bits _ _ _ hp).mono ?_; rintro e w' ⟨rfl, n, rfl⟩; rw [← HB.out])
      | (apply wpList_append_b4 (hgd := rfl) (ho := rfl) (i := i0) (ht := Try.underlying144) (hi := hi) (hz := hz0) (hsize := hz1) (hby := hz2); (case hown => exact Ho.out.gr (by (try show Gr _ _); repeat (with_reducible first | exact Gr.refl _ | refine Gr.drewN ?_ _ | refine Gr.grew ?_ _ _ | refine Gr.alloc ?_ _ | refine Gr.drew ?_))); (case hs => rfl); (case hx => rfl); (case hcell => exact (Blk.atNew (by simp)).cellv 0 rfl); (case hcell2 => exact (Blk.atNew (by simp)).cellv 1 rfl); (case hcell3 => exact (Blk.atNew (by simp)).cellv 2 rfl); (case hcell4 => exact (Blk.atNew (by simp)).cellv 3 rfl); (case hn => omega); (case hB => exact Nat.le_trans (Gr.size Hg.out) (Gr.size ((by (try show Gr _ _); repeat (with_reducible first | exact Gr.refl _ | refine Gr.drewN ?_ _ | refine Gr.grew ?_ _ _ | refine Gr.alloc ?_ _ | refine Gr.drew ?_)) : Gr wr _))); intro v1 w1 ho1 hg1; have HG1 := Lib.hid (Gr.grownBy (Hg.out.trans (by (try show Gr _ _); repeat (with_reducible first | exact Gr.refl _ | refine Gr.drewN ?_ _ | refine Gr.grew ?_ _ _ | refine Gr.alloc ?_ _ | refine Gr.drew ?_))) hg1 (fun k hk => (BOwn.block Ho.out hk).1)); have HO1 := Lib.hid ho1; clear hg1 ho1))
      rw [gBo4_and] at HO1
      go_roundw
      case rel => exact ⟨k + 1, by omega, by go_num, by rw [EG.out]; exact HO1.out, HG1.out⟩
      case measure => simp [intOf]; omega
    · obtain rfl : k = xs.length := by omega
      have hcv := Ho.out.conv (P := Try.prog) 144 9 Try.underlying144 Try.underlying5 Try.underlying9
      go_wp2_with (first
      | (simp only [hcv]))
      go_ret
      exact ⟨rfl, Hg.out.trans (by (try show Gr _ _); repeat (with_reducible first | exact Gr.refl _ | refine Gr.drewN ?_ _ | refine Gr.grew ?_ _ _ | refine Gr.alloc ?_ _ | refine Gr.drew ?_))⟩
def bsL (xs : List Int) : List UInt8 := xs.map fun n => UInt8.ofNat n.toNat
theorem bsL_append (a b : List Int) : bsL (a ++ b) = bsL a ++ bsL b := by simp [bsL]
theorem bsL_length (a : List Int) : (bsL a).length = a.length := by simp [bsL]
theorem I_bytesOf1 (n : Nat) (w : World) (hn : n < 4294967296) :
    Calls Try.prog 122 #[.int .i64 n, .int .i64 1] w fun e w' => e = .returned (.string (strOfNums (gBo n 1))) ∧ ∃ os m, w' = w.grew os m := I_bytesOf n 1 w hn (by decide)
theorem I_bytesOf4 (n : Nat) (w : World) (hn : n < 4294967296) :
    Calls Try.prog 122 #[.int .i64 n, .int .i64 4] w fun e w' => e = .returned (.string (strOfNums (gBo n 4))) ∧ ∃ os m, w' = w.grew os m := I_bytesOf n 4 w hn (by decide)
theorem head_cells (W H : Nat) (hW : W ≤ 24) (hH : H ≤ 24) : Lib.strCells ((⟨#[69, 89, 69, 49]⟩ : ByteArray) ++ strOfNums (gBo W 1) ++ strOfNums (gBo H 1)) = Lib.byteCells (bsL [69, 89, 69, 49, (W : Int), (H : Int)]) := by
  rw [Lib.strCells_eq]
  have e1 : gBo W 1 = [(W : Int)] := by simp [gBo]; omega
  have e2 : gBo H 1 = [(H : Int)] := by simp [gBo]; omega
  rw [e1, e2, ByteArray.data_append, ByteArray.data_append, Array.toList_append, Array.toList_append, strOfNums_data, strOfNums_data]
  rfl
theorem bsL_cells (xs : List Int) : Lib.strCells (strOfNums xs) = Lib.byteCells (bsL xs) := rfl
theorem bsL_more (a b : List Int) : Lib.byteCells (bsL a) ++ Lib.strCells (strOfNums b) = Lib.byteCells (bsL (a ++ b)) := by
  rw [bsL_cells, bsL_append, Lib.byteCells_append]
set_option maxRecDepth 20000 in
set_option maxHeartbeats 4000000 in
theorem I_stored (W H : Nat) (a : Option Addr) (ca : Nat) (xs : List Nat) (w : World) (fx : FSl w a xs.length xs) (hW : W ≤ 24) (hH : H ≤ 24) (hn : xs.length ≤ 576) :
    Calls Try.prog 70 #[.agg #[.int .i64 W, .int .i64 H, .slice a xs.length ca]] w fun e w' => e = .returned (.string (strOfNums (gStore W H xs))) ∧ Gr w w' := by
  have Fx := Lib.hid fx
  clear fx
  go_enter Try.func70, Try.ntmps70
  go_wp2
  apply region_grew 8
  case hm => kernel_rfl
  case hB => kernel_rfl
  simp only [List.take_succ_cons, List.take_zero, List.drop_succ_cons, List.drop_zero]
  repeat (first
    | ((with_reducible apply wpSoft_sadd); (case hw => rfl); (case hx => rfl); (case hy => rfl); (case hl => (have e4 : (⟨#[69, 89, 69, 49]⟩ : ByteArray).size = 4 := rfl; simp only [ByteArray.size_append, strOfNums_size, gBo_length, e4]; decide)); simp only [Act.put, List.setIfInBounds_toArray, List.set_cons_succ, List.set_cons_zero])
    | ((with_reducible apply wpSoft_calleq (f := 122)); (case hw => rfl); (case hc => exact Try.call122); (case hv => ((conv => lhs; simp [Act.eval]); try rfl)); (case hS => (rintro _ ⟨⟨os, m⟩, rfl⟩; with_reducible refine (I_bytesOf1 W _ (by omega)).mono ?_; rintro e w' ⟨rfl, os2, m2, rfl⟩; exact ⟨rfl, ⟨⟨_, _⟩, grew_grew _ _ _ _ _⟩⟩)); (simp only [Act.put, List.setIfInBounds_toArray, List.set_cons_succ, List.set_cons_zero]))
    | ((with_reducible apply wpSoft_calleq (f := 122)); (case hw => rfl); (case hc => exact Try.call122); (case hv => ((conv => lhs; simp [Act.eval]); try rfl)); (case hS => (rintro _ ⟨⟨os, m⟩, rfl⟩; with_reducible refine (I_bytesOf1 H _ (by omega)).mono ?_; rintro e w' ⟨rfl, os2, m2, rfl⟩; exact ⟨rfl, ⟨⟨_, _⟩, grew_grew _ _ _ _ _⟩⟩)); (simp only [Act.put, List.setIfInBounds_toArray, List.set_cons_succ, List.set_cons_zero]))
    | (apply wpSoft_skip rfl; simp only [Act.put, List.setIfInBounds_toArray, List.set_cons_succ, List.set_cons_zero])
    | (apply wpSoft_nilCheck rfl rfl; simp only [Act.put, List.setIfInBounds_toArray, List.set_cons_succ, List.set_cons_zero])
    | ((with_reducible apply wpSoft_fop); (case hw => rfl); (case hD => exact closed_grew); (case hop => rfl); (case hx => rfl); (case hy => rfl); (case hA => (first | assumption | exact FE.ofInt _ _ | exact FE.lit (by decide +kernel))); (case hB => (first | assumption | exact FE.ofInt _ _ | exact FE.lit (by decide +kernel))); (intro r hr; simp only [Act.put, List.setIfInBounds_toArray, List.set_cons_succ, List.set_cons_zero]))

    | ((with_reducible apply wpSoft_widen); (case hw => rfl); (case hD => exact closed_grew); (case hs => exact Try.underlying65); (case hd => exact Try.underlying147); (case hx => rfl); (case hA => (first | assumption | exact FE.ofInt _ _ | exact FE.lit (by decide +kernel))); (intro r hr; simp only [Act.put, List.setIfInBounds_toArray, List.set_cons_succ, List.set_cons_zero]))
    | ((with_reducible apply wpSoft_fneg); (case hw => rfl); (case hx => rfl); (case hA => (first | assumption | exact FE.ofInt _ _ | exact FE.lit (by decide +kernel))); (intro r hr; simp only [Act.put, List.setIfInBounds_toArray, List.set_cons_succ, List.set_cons_zero]))
    | ((with_reducible apply wpSoft_fcmp); (case hw => rfl); (case hop => rfl); (case hx => rfl); (case hy => rfl); (case hA => (first | assumption | exact FE.ofInt _ _ | exact FE.lit (by decide +kernel))); (case hB => (first | assumption | exact FE.ofInt _ _ | exact FE.lit (by decide +kernel))); (case hb => (first | assumption | rfl)); simp only [Act.put, List.setIfInBounds_toArray, List.set_cons_succ, List.set_cons_zero])
    | (apply wpSoft_q rfl rfl; intro K hK; go_big_quiet_op; go_big_quiet_on))
  with_reducible apply wpSoft_nil
  intro os m
  go_wp2_with (fail)
  refine (Bld_WriteString (w.heap.size + 1) (w.heap.size + 1) [] _ _ (.inl ⟨Nat.le_refl _, .slice none 0 0, (show Blk _ (w.heap.size + 1) [.pointer none, .slice none 0 0] 152 from (by repeat (with_reducible first | assumption | exact Blk.atNew (by simp) | refine Blk.alloc ?_ _ | refine Blk.grew ?_ _ _ | refine Blk.drewN ?_ _ | refine Blk.drew ?_))).at_, World.ownsRow_nil _ _ _ _, by simp [Value.ownBlock]⟩) (by have e4 : (⟨#[69, 89, 69, 49]⟩ : ByteArray).size = 4 := rfl; simp only [ByteArray.size_append, strOfNums_size, gBo_length, e4]; decide) (by simp <;> omega)).mono ?_
  rintro e w1 ⟨rfl, hb, hbel⟩
  rw [List.nil_append, head_cells W H hW hH] at hb
  have B0 := below_blk (show Blk _ w.heap.size [.int .i64 W, .int .i64 H, .slice a xs.length ca] 35 from (by repeat (with_reducible first | assumption | exact Blk.atNew (by simp) | refine Blk.alloc ?_ _ | refine Blk.grew ?_ _ _ | refine Blk.drewN ?_ _ | refine Blk.drew ?_))) hbel (by omega)
  have Hg := Lib.hid (show Gr w w1 from below_gr (by (try show Gr _ _); repeat (with_reducible first | exact Gr.refl _ | refine Gr.drewN ?_ _ | refine Gr.grew ?_ _ _ | refine Gr.alloc ?_ _ | refine Gr.drew ?_)) hbel (by omega))
  have HS := Lib.hid B0.lt
  have q2 := B0.cellv 2
  have Hb := Lib.hid hb
  clear hb hbel B0
  go_wp2
  clear q2
  go_loopw [19] (fun i wr => ∃ k : Nat, k ≤ xs.length ∧ i = .int .i64 k ∧ Lib.BuilderAt 152 5 (w.heap.size + 1) (w.heap.size + 1) (.pointer (some ⟨w.heap.size + 1, 0, none⟩)) (Lib.byteCells (bsL (gSto [69, 89, 69, 49, (W : Int), (H : Int)] xs k))) wr ∧ w.heap.size + 1 ≤ wr.heap.size ∧ Gr w wr) (fun i _ => xs.length - (intOf i).toNat)
  case atStart => exact ⟨0, Nat.zero_le _, rfl, Hb.out, HS.out, Hg.out⟩
  case round =>
    clear Hb Hg HS
    obtain ⟨k, hk, rfl, hb, hs, hg⟩ := hrel
    have HL := gSto_length [69, 89, 69, 49, (W : Int), (H : Int)] xs k
    simp only [List.length_cons, List.length_nil] at HL
    have Hb := Lib.hid hb
    have Hs := Lib.hid hs
    have Hg := Lib.hid hg
    clear hb hs hg
    by_cases hlt : k < xs.length
    · obtain ⟨bx, ox, rfl⟩ := Fx.out.ptr (by omega)
      obtain ⟨p, hc, hp⟩ := (Fx.out.keep Hg.out.kp).get k hlt
      have EG := Lib.hid (show gSto [69, 89, 69, 49, (W : Int), (H : Int)] xs (k + 1) = gSto [69, 89, 69, 49, (W : Int), (H : Int)] xs k ++ gBo (gBits (xs.getD k 0)) 4 from rfl)
      have hb := gBits_lt hp
      generalize xs.getD k 0 = X at *
      generalize gSto [69, 89, 69, 49, (W : Int), (H : Int)] xs k = L at *
      obtain ⟨B, hB⟩ : ∃ B, B = gBits X := ⟨_, rfl⟩
      have HB := Lib.hid hB
      rw [← hB] at hb EG
      clear hB
      have hL2 : (Lib.byteCells (bsL L)).length ≤ 3000 := by rw [Lib.byteCells_length, bsL_length]; omega
      have hS2 : (strOfNums (gBo B 4)).size = 4 := by rw [strOfNums_size, gBo_length]
      go_wp2_with (first
      | (go_at_call 123; with_reducible refine (I_BitsOf _ _ _ hp).mono ?_; rintro e w' ⟨rfl, os, m, rfl⟩; rw [← HB.out])
      | (go_at_call 122; with_reducible refine (I_bytesOf4 B _ hb).mono ?_; rintro e w' ⟨rfl, os2, m2, rfl⟩)
      | (go_at_call 121; refine (Bld_WriteString (w.heap.size + 1) (w.heap.size + 1) _ _ _ (isBld_gr (.inr Hb.out) (by (try show Gr _ _); repeat (with_reducible first | exact Gr.refl _ | refine Gr.drewN ?_ _ | refine Gr.grew ?_ _ _ | refine Gr.alloc ?_ _ | refine Gr.drew ?_))) (by omega) (Nat.le_trans Hs.out (Gr.size ((by (try show Gr _ _); repeat (with_reducible first | exact Gr.refl _ | refine Gr.drewN ?_ _ | refine Gr.grew ?_ _ _ | refine Gr.alloc ?_ _ | refine Gr.drew ?_)) : Gr wr _)))).mono ?_; rintro e w1 ⟨rfl, hb1, hbel⟩; have HB1 := Lib.hid hb1; have HG1 := Lib.hid (below_gr (Hg.out.trans (by (try show Gr _ _); repeat (with_reducible first | exact Gr.refl _ | refine Gr.drewN ?_ _ | refine Gr.grew ?_ _ _ | refine Gr.alloc ?_ _ | refine Gr.drew ?_))) hbel (by omega)); have HS1 := Lib.hid (Nat.le_trans Hs.out (Nat.le_trans (Gr.size ((by (try show Gr _ _); repeat (with_reducible first | exact Gr.refl _ | refine Gr.drewN ?_ _ | refine Gr.grew ?_ _ _ | refine Gr.alloc ?_ _ | refine Gr.drew ?_)) : Gr wr _)) hbel.size)); clear hb1 hbel))
      rw [bsL_more] at HB1
      go_roundw
      case rel => exact ⟨k + 1, by omega, by go_num, by rw [EG.out]; exact HB1.out, HS1.out, HG1.out⟩
      case measure => simp [intOf]; omega
    · obtain rfl : k = xs.length := by omega
      go_wp2_with (first
      | (go_at_call 124; refine (Bld_String (w.heap.size + 1) (w.heap.size + 1) _ _ (.inr Hb.out) Hs.out).mono ?_; rintro e w1 ⟨rfl, hbel⟩; have HG1 := Lib.hid (below_gr Hg.out hbel (by omega)); clear hbel))
      go_ret
      exact ⟨rfl, HG1.out⟩
end Go.Proofs.Ytaidkokgafojeaa
