/- Contracts: LoadPicture. MAXREC -/
import Derived.Test.YtaidkokgafojeaaProg
import Derived.Test.YtaidkokgafojeaaC61
import Derived.Deep.DeepCutAuto
namespace Go.Proofs.Ytaidkokgafojeaa
open Go.RowKit Go.Fx Go.Soft
set_option maxRecDepth 20000 in
set_option maxHeartbeats 4000000 in
theorem S_LoadPicture (s : ByteArray) (w : World) (hs : s.size ≤ 1048576) :
    Calls Try.prog 23 #[.string s] w fun e w' =>
      (∃ v, e = .returned (.tuple #[.agg #[.int .i64 (if gLdOk s then (gB s 4 : Int) else 0), .int .i64 (if gLdOk s then (gB s 5 : Int) else 0), v], .bool (gLdOk s)]) ∧ FOwn w' w.heap.size 65 v (if gLdOk s then gLoads s else [])) ∧ Gr w w' := by
  obtain ⟨OK, hOK⟩ : ∃ OK, OK = gLdOk s := ⟨_, rfl⟩
  rw [← hOK]
  obtain ⟨RA, hRA⟩ : ∃ RA : Int, RA = if OK = true then (gB s 4 : Int) else 0 := ⟨_, rfl⟩
  obtain ⟨RB, hRB⟩ : ∃ RB : Int, RB = if OK = true then (gB s 5 : Int) else 0 := ⟨_, rfl⟩
  obtain ⟨RL, hRL⟩ : ∃ RL, RL = if OK = true then gLoads s else [] := ⟨_, rfl⟩
  rw [← hRA, ← hRB, ← hRL]
  have HRA := Lib.hid hRA
  have HRB := Lib.hid hRB
  have HRL := Lib.hid hRL
  have HOK := Lib.hid hOK
  clear hRA hRB hRL hOK
  have LP := Lib.hid (fun w1 => S_l07Begin s w1 hs)
  go_enter Try.func23, Try.ntmps23
  go_wp2_with fail
  refine (LP.out _).mono ?_
  rintro e w1 ⟨A, B, E, ok, v, L, rfl, ho, hk, hA, g⟩
  obtain ⟨a1, c1, rfl, -, -⟩ := ho.sl
  have B0 := (show Blk _ w.heap.size [.int .i64 0, .int .i64 0, .slice none 0 0] 35 from (by repeat (with_reducible first | assumption | exact Blk.atNew (by simp) | refine Blk.alloc ?_ _ | refine Blk.grew ?_ _ _ | refine Blk.drewN ?_ _ | refine Blk.drew ?_))).gr g
  have q0 := B0.cellv 0
  have q1 := B0.cellv 1
  have q2 := B0.cellv 2
  have z0 := B0.frozen 0
  have z1 := B0.frozen 1
  have z2 := B0.frozen 2
  have hlt := B0.lt
  have Ho := Lib.hid ho
  have G := Lib.hid (show Gr w w1 from Gr.trans (by (try show Gr _ _); repeat (with_reducible first | exact Gr.refl _ | refine Gr.drewN ?_ _ | refine Gr.grew ?_ _ _ | refine Gr.alloc ?_ _ | refine Gr.drew ?_)) g)
  have B0 := Lib.hid B0
  clear ho g LP
  rw [← HOK.out] at hk hA
  cases OK
  · clear hA
    obtain rfl : RA = 0 := HRA.out
    obtain rfl : RB = 0 := HRB.out
    obtain rfl : RL = [] := HRL.out
    clear HRA HRB HRL HOK
    cases ok
    · clear hk
      go_wp2
      refine bodyPost_ret (v := .tuple #[.agg #[.int .i64 0, .int .i64 0, .slice none 0 0], .bool false]) (by simp [results, Try.results23, go_sem, *]) rfl ⟨⟨_, rfl, FOwn.nil _ _ _⟩, ?_⟩
      have h := G.out
      have hh : Gr w (((w1.setCell ⟨w.heap.size, 0, none⟩ (.int .i64 0)).setCell ⟨w.heap.size, 1, none⟩ (.int .i64 0)).setCell ⟨w.heap.size, 2, none⟩ (.slice none 0 0)) := (by repeat (with_reducible first | assumption | refine Gr.setCell ?_ (by simp <;> omega) _))
      exact hh.trans (by (try show Gr _ _); repeat (with_reducible first | exact Gr.refl _ | refine Gr.drewN ?_ _ | refine Gr.grew ?_ _ _ | refine Gr.alloc ?_ _ | refine Gr.drew ?_))
    · have hE : ¬ E = (s.size : Int) := by
        have h := hk.out
        rw [Bool.true_and] at h
        exact of_decide_eq_false h
      clear hk
      go_wp2
      refine bodyPost_ret (v := .tuple #[.agg #[.int .i64 0, .int .i64 0, .slice none 0 0], .bool false]) (by simp [results, Try.results23, go_sem, *]) rfl ⟨⟨_, rfl, FOwn.nil _ _ _⟩, ?_⟩
      have h := G.out
      have hh : Gr w (((w1.setCell ⟨w.heap.size, 0, none⟩ (.int .i64 0)).setCell ⟨w.heap.size, 1, none⟩ (.int .i64 0)).setCell ⟨w.heap.size, 2, none⟩ (.slice none 0 0)) := (by repeat (with_reducible first | assumption | refine Gr.setCell ?_ (by simp <;> omega) _))
      exact hh.trans (by (try show Gr _ _); repeat (with_reducible first | exact Gr.refl _ | refine Gr.drewN ?_ _ | refine Gr.grew ?_ _ _ | refine Gr.alloc ?_ _ | refine Gr.drew ?_))
  · obtain ⟨rfl, rfl, rfl⟩ := hA.out rfl
    clear hA
    have hk' := hk.out
    rw [Bool.and_eq_true] at hk'
    obtain ⟨rfl, hE⟩ := hk'
    obtain rfl : E = (s.size : Int) := of_decide_eq_true hE
    clear hk hE
    rw [if_pos rfl] at HRA HRB HRL
    rw [← HRA.out, ← HRB.out]
    rw [← HRL.out] at Ho ⊢
    clear HRA HRB HRL HOK
    go_wp2
    have BF : Blk (((w1.setCell ⟨w.heap.size, 0, none⟩ (.int .i64 RA)).setCell ⟨w.heap.size, 1, none⟩ (.int .i64 RB)).setCell ⟨w.heap.size, 2, none⟩ (.slice a1 RL.length c1)) w.heap.size [.int .i64 RA, .int .i64 RB, .slice a1 RL.length c1] 35 := ((B0.out.set (i := 0) _).set (i := 1) _).set (i := 2) _
    have r0 := BF.cellv 0
    have r1 := BF.cellv 1
    have r2 := BF.cellv 2
    clear BF q0 q1 q2
    refine bodyPost_ret (v := .tuple #[.agg #[.int .i64 RA, .int .i64 RB, .slice a1 RL.length c1], .bool true]) (by simp [results, Try.results23, go_sem, r0, r1, r2]) rfl ⟨⟨_, rfl, ?_⟩, ?_⟩
    · have h := Ho.out
      have hh : FOwn (((w1.setCell ⟨w.heap.size, 0, none⟩ (.int .i64 RA)).setCell ⟨w.heap.size, 1, none⟩ (.int .i64 RB)).setCell ⟨w.heap.size, 2, none⟩ (.slice a1 RL.length c1)) (w.heap.size + 1) 65 (.slice a1 RL.length c1) RL := by
        have h' := h.base (B' := w.heap.size + 1) (by simp)
        exact ((h'.setOther (p := ⟨w.heap.size, 0, none⟩) _ (by simp)).setOther (p := ⟨w.heap.size, 1, none⟩) _ (by simp)).setOther (p := ⟨w.heap.size, 2, none⟩) _ (by simp)
      exact FOwn.base (B := w.heap.size + 1) (hh.gr (by (try show Gr _ _); repeat (with_reducible first | exact Gr.refl _ | refine Gr.drewN ?_ _ | refine Gr.grew ?_ _ _ | refine Gr.alloc ?_ _ | refine Gr.drew ?_))) (by omega)
    · have h := G.out
      have hh : Gr w (((w1.setCell ⟨w.heap.size, 0, none⟩ (.int .i64 RA)).setCell ⟨w.heap.size, 1, none⟩ (.int .i64 RB)).setCell ⟨w.heap.size, 2, none⟩ (.slice a1 RL.length c1)) := (by repeat (with_reducible first | assumption | refine Gr.setCell ?_ (by simp <;> omega) _))
      exact hh.trans (by (try show Gr _ _); repeat (with_reducible first | exact Gr.refl _ | refine Gr.drewN ?_ _ | refine Gr.grew ?_ _ _ | refine Gr.alloc ?_ _ | refine Gr.drew ?_))
set_option maxRecDepth 20000 in
set_option maxHeartbeats 4000000 in
theorem I_LoadPicture (s : ByteArray) (w : World) (hs : s.size ≤ 1048576) :
    Calls Try.prog 24 #[.string s] w fun e w' =>
      (∃ v, e = .returned (.tuple #[.agg #[.int .i64 (if gLdOk s then (gB s 4 : Int) else 0), .int .i64 (if gLdOk s then (gB s 5 : Int) else 0), v], .bool (gLdOk s)]) ∧ FOwn w' w.heap.size 65 v (if gLdOk s then gLoads s else [])) ∧ Gr w w' := by
  obtain ⟨OK, hOK⟩ : ∃ OK, OK = gLdOk s := ⟨_, rfl⟩
  rw [← hOK]
  obtain ⟨RA, hRA⟩ : ∃ RA : Int, RA = if OK = true then (gB s 4 : Int) else 0 := ⟨_, rfl⟩
  obtain ⟨RB, hRB⟩ : ∃ RB : Int, RB = if OK = true then (gB s 5 : Int) else 0 := ⟨_, rfl⟩
  obtain ⟨RL, hRL⟩ : ∃ RL, RL = if OK = true then gLoads s else [] := ⟨_, rfl⟩
  rw [← hRA, ← hRB, ← hRL]
  have HRA := Lib.hid hRA
  have HRB := Lib.hid hRB
  have HRL := Lib.hid hRL
  have HOK := Lib.hid hOK
  clear hRA hRB hRL hOK
  have LP := Lib.hid (fun w1 => I_load s w1 hs)
  go_enter Try.func24, Try.ntmps24
  go_wp2_with fail
  refine (LP.out _).mono ?_
  rintro e w1 ⟨A, B, E, ok, v, L, rfl, ho, hk, hA, g⟩
  obtain ⟨a1, c1, rfl, -, -⟩ := ho.sl
  have B0 := (show Blk _ w.heap.size [.int .i64 0, .int .i64 0, .slice none 0 0] 35 from (by repeat (with_reducible first | assumption | exact Blk.atNew (by simp) | refine Blk.alloc ?_ _ | refine Blk.grew ?_ _ _ | refine Blk.drewN ?_ _ | refine Blk.drew ?_))).gr g
  have q0 := B0.cellv 0
  have q1 := B0.cellv 1
  have q2 := B0.cellv 2
  have z0 := B0.frozen 0
  have z1 := B0.frozen 1
  have z2 := B0.frozen 2
  have hlt := B0.lt
  have Ho := Lib.hid ho
  have G := Lib.hid (show Gr w w1 from Gr.trans (by (try show Gr _ _); repeat (with_reducible first | exact Gr.refl _ | refine Gr.drewN ?_ _ | refine Gr.grew ?_ _ _ | refine Gr.alloc ?_ _ | refine Gr.drew ?_)) g)
  have B0 := Lib.hid B0
  clear ho g LP
  rw [← HOK.out] at hk hA
  cases OK
  · clear hA
    obtain rfl : RA = 0 := HRA.out
    obtain rfl : RB = 0 := HRB.out
    obtain rfl : RL = [] := HRL.out
    clear HRA HRB HRL HOK
    cases ok
    · clear hk
      go_wp2
      refine bodyPost_ret (v := .tuple #[.agg #[.int .i64 0, .int .i64 0, .slice none 0 0], .bool false]) (by simp [results, Try.results24, go_sem, *]) rfl ⟨⟨_, rfl, FOwn.nil _ _ _⟩, ?_⟩
      have h := G.out
      have hh : Gr w (((w1.setCell ⟨w.heap.size, 0, none⟩ (.int .i64 0)).setCell ⟨w.heap.size, 1, none⟩ (.int .i64 0)).setCell ⟨w.heap.size, 2, none⟩ (.slice none 0 0)) := (by repeat (with_reducible first | assumption | refine Gr.setCell ?_ (by simp <;> omega) _))
      exact hh.trans (by (try show Gr _ _); repeat (with_reducible first | exact Gr.refl _ | refine Gr.drewN ?_ _ | refine Gr.grew ?_ _ _ | refine Gr.alloc ?_ _ | refine Gr.drew ?_))
    · have hE : ¬ E = (s.size : Int) := by
        have h := hk.out
        rw [Bool.true_and] at h
        exact of_decide_eq_false h
      clear hk
      go_wp2
      refine bodyPost_ret (v := .tuple #[.agg #[.int .i64 0, .int .i64 0, .slice none 0 0], .bool false]) (by simp [results, Try.results24, go_sem, *]) rfl ⟨⟨_, rfl, FOwn.nil _ _ _⟩, ?_⟩
      have h := G.out
      have hh : Gr w (((w1.setCell ⟨w.heap.size, 0, none⟩ (.int .i64 0)).setCell ⟨w.heap.size, 1, none⟩ (.int .i64 0)).setCell ⟨w.heap.size, 2, none⟩ (.slice none 0 0)) := (by repeat (with_reducible first | assumption | refine Gr.setCell ?_ (by simp <;> omega) _))
      exact hh.trans (by (try show Gr _ _); repeat (with_reducible first | exact Gr.refl _ | refine Gr.drewN ?_ _ | refine Gr.grew ?_ _ _ | refine Gr.alloc ?_ _ | refine Gr.drew ?_))
  · obtain ⟨rfl, rfl, rfl⟩ := hA.out rfl
    clear hA
    have hk' := hk.out
    rw [Bool.and_eq_true] at hk'
    obtain ⟨rfl, hE⟩ := hk'
    obtain rfl : E = (s.size : Int) := of_decide_eq_true hE
    clear hk hE
    rw [if_pos rfl] at HRA HRB HRL
    rw [← HRA.out, ← HRB.out]
    rw [← HRL.out] at Ho ⊢
    clear HRA HRB HRL HOK
    go_wp2
    have BF : Blk (((w1.setCell ⟨w.heap.size, 0, none⟩ (.int .i64 RA)).setCell ⟨w.heap.size, 1, none⟩ (.int .i64 RB)).setCell ⟨w.heap.size, 2, none⟩ (.slice a1 RL.length c1)) w.heap.size [.int .i64 RA, .int .i64 RB, .slice a1 RL.length c1] 35 := ((B0.out.set (i := 0) _).set (i := 1) _).set (i := 2) _
    have r0 := BF.cellv 0
    have r1 := BF.cellv 1
    have r2 := BF.cellv 2
    clear BF q0 q1 q2
    refine bodyPost_ret (v := .tuple #[.agg #[.int .i64 RA, .int .i64 RB, .slice a1 RL.length c1], .bool true]) (by simp [results, Try.results24, go_sem, r0, r1, r2]) rfl ⟨⟨_, rfl, ?_⟩, ?_⟩
    · have h := Ho.out
      have hh : FOwn (((w1.setCell ⟨w.heap.size, 0, none⟩ (.int .i64 RA)).setCell ⟨w.heap.size, 1, none⟩ (.int .i64 RB)).setCell ⟨w.heap.size, 2, none⟩ (.slice a1 RL.length c1)) (w.heap.size + 1) 65 (.slice a1 RL.length c1) RL := by
        have h' := h.base (B' := w.heap.size + 1) (by simp)
        exact ((h'.setOther (p := ⟨w.heap.size, 0, none⟩) _ (by simp)).setOther (p := ⟨w.heap.size, 1, none⟩) _ (by simp)).setOther (p := ⟨w.heap.size, 2, none⟩) _ (by simp)
      exact FOwn.base (B := w.heap.size + 1) (hh.gr (by (try show Gr _ _); repeat (with_reducible first | exact Gr.refl _ | refine Gr.drewN ?_ _ | refine Gr.grew ?_ _ _ | refine Gr.alloc ?_ _ | refine Gr.drew ?_))) (by omega)
    · have h := G.out
      have hh : Gr w (((w1.setCell ⟨w.heap.size, 0, none⟩ (.int .i64 RA)).setCell ⟨w.heap.size, 1, none⟩ (.int .i64 RB)).setCell ⟨w.heap.size, 2, none⟩ (.slice a1 RL.length c1)) := (by repeat (with_reducible first | assumption | refine Gr.setCell ?_ (by simp <;> omega) _))
      exact hh.trans (by (try show Gr _ _); repeat (with_reducible first | exact Gr.refl _ | refine Gr.drewN ?_ _ | refine Gr.grew ?_ _ _ | refine Gr.alloc ?_ _ | refine Gr.drew ?_))
theorem gLd_len (s : ByteArray) : (if gLdOk s then gLoads s else []).length ≤ 1048576 := by
  cases h : gLdOk s
  · simp
  · unfold gLdOk gHead at h
    simp only [Bool.and_eq_true] at h
    obtain ⟨s1, s2, s3, s4, -, -⟩ := gSize_true h.1.1.2
    have h576 : gB s 4 * gB s 5 ≤ 24 * 24 := Nat.mul_le_mul (by omega) (by omega)
    simp only [if_true, gLoads, lst_length]
    omega
end Go.Proofs.Ytaidkokgafojeaa
