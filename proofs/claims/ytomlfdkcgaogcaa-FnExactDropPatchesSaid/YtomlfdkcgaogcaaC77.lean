/- Contracts: the patches of a map (the reference's loops). MAXREC -/
import Derived.Test.YtomlfdkcgaogcaaProg
import Derived.Test.YtomlfdkcgaogcaaC31
import Derived.Test.YtomlfdkcgaogcaaC76
import Derived.Deep.DeepCutAuto
import Derived.Deep.RegionHeld3
namespace Go.Proofs.Ytomlfdkcgaogcaa
open Go.RowKit Go.Fx Go.Soft
/-- The first k of n numbers are -1, the rest 0. -/
def gOnes (n k : Nat) : List Int := List.replicate k (-1) ++ List.replicate (n - k) 0
theorem gOnes_length {n k : Nat} (h : k ≤ n) : (gOnes n k).length = n := by simp [gOnes]; omega
theorem gOnes_set {n k : Nat} (h : k < n) : (gOnes n k).set k (-1) = gOnes n (k + 1) := by
  unfold gOnes
  obtain ⟨m, hm⟩ : ∃ m, n - k = m + 1 := ⟨n - k - 1, by omega⟩
  rw [hm, show n - (k + 1) = m by omega, List.set_append_right _ _ (by simp), List.length_replicate, Nat.sub_self, List.replicate_succ, List.set_cons_zero, List.replicate_succ']
  simp
set_option maxRecDepth 20000 in
set_option maxHeartbeats 6000000 in
theorem S_l05Patches (W H b ca near N : Nat) (a : Option Addr) (xs : List Nat) (w : World) (m1 : MP w b W H a xs.length ca xs) (hW : W ≤ 24) (hH : H ≤ 24) (hW0 : 1 ≤ W) (hl : xs.length = W * H) (hnear : FE .f32 near N) :
    Calls Try.prog 40 #[.pointer (some ⟨b, 0, none⟩), .float .f32 near] w fun e w' =>
      (∃ v u, e = .returned (.tuple #[v, u]) ∧ IIn w' w.heap.size (w.heap.size + 1) 2 v (gPats W H N xs (W * H)).1 ∧ IIn w' (w.heap.size + 1) w'.heap.size 2 u (gPats W H N xs (W * H)).2) ∧ Gr w w' := by
  obtain ⟨j0, ji, jz0, jz1, jz2⟩ := info_parts info_int64
  have hn24 : xs.length ≤ 576 := by rw [hl]; exact Nat.mul_le_mul hW hH
  have c2 := m1.c2
  have M1 := Lib.hid m1
  have Hl := Lib.hid hl
  obtain ⟨n, hn⟩ : ∃ n, n = xs.length := ⟨_, rfl⟩
  rw [← hn] at c2 hn24
  have Hn := Lib.hid hn
  clear m1 hl hn
  have mk := run_make_ints n (by omega)
  go_enter Try.func40, Try.ntmps40
  go_wp2
  have IO := Lib.hid (show IOwn (w.alloc (.cells (madeCells #[.int .i64 0] n) 2)) w.heap.size 2 (.slice (some ⟨w.heap.size, 0, none⟩) n n) (gOnes n 0) by simpa [gOnes] using IOwn.made (w := w) (e := 2) n (Nat.le_refl _) (by unfold maxLen; omega))
  go_loopw [23] (fun i wr => ∃ k : Nat, k ≤ n ∧ i = .int .i64 k ∧ IOwn wr w.heap.size 2 (.slice (some ⟨w.heap.size, 0, none⟩) n n) (gOnes n k) ∧ Gr w wr ∧ wr.heap.size = w.heap.size + 1) (fun i _ => n - (intOf i).toNat)
  case atStart => exact ⟨0, Nat.zero_le _, rfl, IO.out, (by (try show Gr _ _); repeat (with_reducible first | exact Gr.refl _ | refine Gr.drewN ?_ _ | refine Gr.grew ?_ _ _ | refine Gr.alloc ?_ _ | refine Gr.drew ?_)), by simp⟩
  case round =>
    obtain ⟨k, hk, rfl, ho, hg, hz⟩ := hrel
    by_cases hlt : k < n
    · have q0 := ho.get k (by rw [gOnes_length hk]; exact hlt)
      have z0 := ho.free k
      generalize (gOnes n k).getD k 0 = y at q0
      have Ho := Lib.hid ho
      have Hg := Lib.hid hg
      have Hz := Lib.hid hz
      clear ho hg hz
      go_wp2
      go_roundw
      case rel => exact ⟨k + 1, by omega, by go_num, by rw [← gOnes_set hlt]; exact Ho.out.store k (-1), Hg.out.setCell (Nat.le_refl _) _, by simpa [World.setCell] using Hz.out⟩
      case measure => simp [intOf]; omega
    · obtain rfl : k = n := by omega
      have IO1 := Lib.hid ho
      have G1 := Lib.hid hg
      have Z1 := Lib.hid hz
      clear ho hg hz IO
      have EI := Hl.out
      rw [← Hn.out] at EI
      have E0 := Lib.hid (show (gPats W H N xs 0).1 = gOnes k k by unfold gPats gPat; rw [← EI]; simp [gOnes])
      have LN := Lib.hid (fun i (hi : i ≤ k) => show (gPats W H N xs i).1.length = k ∧ (gPats W H N xs i).2.length ≤ i by have := gPat_len (hole := fun i => gHole (xs.getD i 0)) (h := gHg xs N) (nb := gNb W H) (n := W * H) (fun c h0 h1 j hj => gNb_in h0 h1 hj) i (by omega); rw [← EI] at this; unfold gPats; rw [← EI]; exact this)
      have HK := Lib.hid EI
      clear EI
      generalize hnk : k = n at *
      clear hnk hk hlt k
      go_wp2
      go_loopw [8, 33] (fun u i wq => ∃ k : Nat, k ≤ n ∧ i = .int .i64 k ∧ (IOwn wq w.heap.size 2 (.slice (some ⟨w.heap.size, 0, none⟩) n n) (gPats W H N xs k).1 ∧ IOwn wq (w.heap.size + 1) 2 u (gPats W H N xs k).2) ∧ Gr w wq) (fun u i _ => n - (intOf i).toNat)
      case atStart => exact ⟨0, Nat.zero_le _, rfl, ⟨by rw [E0.out]; exact IO1.out.gr (by (try show Gr _ _); repeat (with_reducible first | exact Gr.refl _ | refine Gr.drewN ?_ _ | refine Gr.grew ?_ _ _ | refine Gr.alloc ?_ _ | refine Gr.drew ?_)), IOwn.empty (by repeat (with_reducible first | assumption | exact Blk.atNew (by simp) | refine Blk.alloc ?_ _ | refine Blk.grew ?_ _ _ | refine Blk.drewN ?_ _ | refine Blk.drew ?_)) (by have := Z1.out; omega)⟩, G1.out.trans (by (try show Gr _ _); repeat (with_reducible first | exact Gr.refl _ | refine Gr.drewN ?_ _ | refine Gr.grew ?_ _ _ | refine Gr.alloc ?_ _ | refine Gr.drew ?_))⟩
      case round =>
        obtain ⟨k, hk, rfl, ⟨ho, hu⟩, hg⟩ := hrel
        by_cases hlt : k < n
        · obtain ⟨S, hP⟩ : ∃ S, S = gPats W H N xs k := ⟨_, rfl⟩
          obtain ⟨O0, S0⟩ := S
          have LNk := LN.out k hk
          rw [← hP] at LNk ho hu
          obtain ⟨L1, L2⟩ := LNk
          simp only at L1 L2 ho hu
          have q0 := ho.get k (by omega)
          have z0 := ho.free k
          obtain ⟨bx, ox, x, rfl, x0, hx⟩ := ((M1.out.fs).keep hg.kp).at_ k (by have := Hn.out; omega)
          have hD : xs[k]'(by have := Hn.out; omega) = xs.getD k 0 := by rw [List.getD_eq_getElem?_getD, List.getElem?_eq_getElem (by have := Hn.out; omega)]; rfl
          rw [hD] at hx
          have d2 := hg.cell c2
          obtain ⟨d, hd⟩ : ∃ d, d = O0.getD k 0 := ⟨_, rfl⟩
          rw [← hd] at q0
          obtain ⟨ua, uc, rfl⟩ := own_form hu
          have Ho := Lib.hid ho
          have Hu := Lib.hid hu
          have Hg := Lib.hid hg
          clear ho hu hg hD
          by_cases h0 : 0 ≤ d
          · have E1 := Lib.hid (show gPats W H N xs (k + 1) = (O0, S0) by
              unfold gPats at hP ⊢
              rw [gPat]; simp only; rw [← hP, if_pos (.inl (by rw [← hd]; exact h0))])
            clear hd hP
            go_wp2
            go_roundw
            case rel => exact ⟨k + 1, by omega, by go_num, by rw [E1.out]; exact ⟨Ho.out.gr (by (try show Gr _ _); repeat (with_reducible first | exact Gr.refl _ | refine Gr.drewN ?_ _ | refine Gr.grew ?_ _ _ | refine Gr.alloc ?_ _ | refine Gr.drew ?_)), Hu.out.gr (by (try show Gr _ _); repeat (with_reducible first | exact Gr.refl _ | refine Gr.drewN ?_ _ | refine Gr.grew ?_ _ _ | refine Gr.alloc ?_ _ | refine Gr.drew ?_))⟩, Hg.out.trans (by (try show Gr _ _); repeat (with_reducible first | exact Gr.refl _ | refine Gr.drewN ?_ _ | refine Gr.grew ?_ _ _ | refine Gr.alloc ?_ _ | refine Gr.drew ?_))⟩
            case measure => simp [intOf]; omega
          · have d0 : d < 0 := by omega
            cases hh : gHole (xs.getD k 0)
            · have E1 := Lib.hid (show gPats W H N xs (k + 1) = ((gFlood (gHg xs N) (gNb W H) (S0.length : Int) (2 * n + 2) 0 (O0.set k (S0.length : Int), [(k : Int)])).1, S0 ++ [((gFlood (gHg xs N) (gNb W H) (S0.length : Int) (2 * n + 2) 0 (O0.set k (S0.length : Int), [(k : Int)])).2.length : Int)]) by
                unfold gPats at hP ⊢
                rw [← HK.out] at hP ⊢
                rw [gPat]; simp only; rw [← hP, if_neg (by rw [← hd, hh]; simp; omega)])
              have P0 := Lib.hid (show Pat n (O0.set k (S0.length : Int), [(k : Int)]) from Pat.first L1 hlt (by rw [← hd]; exact d0) (by omega))
              clear hd hP
              go_wp2_with (first
      | (go_at_call 74; with_reducible refine (S_l05Hole _ _ _ hx).mono ?_; rintro e w' ⟨rfl, n1, rfl⟩; rw [hh]))
              obtain ⟨R, hR⟩ : ∃ R, R = gFlood (gHg xs N) (gNb W H) (S0.length : Int) (2 * n + 2) 0 (O0.set k (S0.length : Int), [(k : Int)]) := ⟨_, rfl⟩
              rw [← hR] at E1
              have HR := Lib.hid hR.symm
              rename World => wo
              have HU := Lib.hid (show IIn wo (w.heap.size + 1) wo.heap.size 2 (.slice ua S0.length uc) S0 from Hu.out.fin)
              clear hR
              go_loopw [11, 12] (fun lv i wq => ∃ (j f : Nat) (s : List Int × List Int), i = .int .i64 j ∧ j ≤ s.2.length ∧ gFlood (gHg xs N) (gNb W H) (S0.length : Int) f j s = R ∧ n < f + j ∧ Pat n s ∧ (IOwn wq w.heap.size 2 (.slice (some ⟨w.heap.size, 0, none⟩) n n) s.1 ∧ IOwn wq wo.heap.size 2 lv s.2 ∧ IIn wq (w.heap.size + 1) wo.heap.size 2 (.slice ua S0.length uc) S0) ∧ Gr w wq) (fun lv i _ => n - (intOf i).toNat)
              case atStart =>
                refine ⟨0, _, _, rfl, Nat.zero_le _, HR.out, by omega, P0.out, ⟨?_, ?_, ?_⟩, ?_⟩
                · exact (Ho.out.gr (((Gr.refl wo).drewN n1).alloc _)).store k _
                · have o1 : IOwn ((wo.drewN n1).alloc (.cells #[.int .i64 (k : Int)] 2)) wo.heap.size 2 (.slice (some ⟨wo.heap.size, 0, none⟩) 1 1) [(k : Int)] := World.ownsRow_lit (wo.drewN n1) #[.int .i64 (k : Int)] 1 (by simp) (by unfold maxLen; omega) rfl
                  exact o1.setOther _ (by have h := (IOwn.block Ho.out (k := w.heap.size) rfl).2; simp [Value.ownBlock]; omega)
                · exact ⟨own_setCell (own_gr HU.out.own (((Gr.refl wo).drewN n1).alloc _)) _ (fun hq => by have := (World.ownsRow.lt HU.out.own _ hq).1; simp at this; omega), HU.out.hi⟩
                · exact (Hg.out.trans (((Gr.refl wo).drewN n1).alloc _)).setCell (Nat.le_refl _) _
              case round =>
                obtain ⟨j, f, s, rfl, hj, hR, hf, hp, ⟨ho, hl, hu⟩, hg⟩ := hrel
                obtain ⟨al, cl, rfl⟩ := own_form hl
                by_cases hjl : j < s.2.length
                · obtain ⟨hc0, hc1⟩ := hp.mem (s.2.getD j 0) (by rw [List.getD_eq_getElem?_getD, List.getElem?_eq_getElem hjl]; exact List.getElem_mem hjl)
                  obtain ⟨f, rfl⟩ : ∃ f', f = f' + 1 := ⟨f - 1, by have := hp.sum; omega⟩
                  rw [gFlood_step hjl] at hR
                  obtain ⟨c, hc⟩ : ∃ c, c = s.2.getD j 0 := ⟨_, rfl⟩
                  rw [← hc] at hR hc0 hc1
                  obtain ⟨q, rfl⟩ := Int.eq_ofNat_of_zero_le hc0
                  obtain ⟨gl, kl, el, hgl⟩ := IOwn.ptr hl (by omega)
                  obtain ⟨rfl, -, rfl⟩ : al = some ⟨gl, 0, none⟩ ∧ s.2.length = s.2.length ∧ cl = kl := by simpa using el
                  have l0 := hl.get j hjl
                  rw [← hc] at l0
                  have hqn : q < W * H := by have := HK.out; omega
                  have hxW : q % W < W := Nat.mod_lt _ (by omega)
                  have hyH : q / W < H := Nat.div_lt_of_lt_mul hqn
                  have LNr := Lib.hid (S_l05Near W H (q % W) (q / W) q b ca (some ⟨bx, ox, none⟩) xs _ (M1.out.gr hg) hW hH hxW hyH (Nat.mod_add_div q W).symm)
                  have HC := Lib.hid hc
                  have HR1 := Lib.hid hR
                  have HP1 := Lib.hid hp
                  have Ho2 := Lib.hid ho
                  have Hl2 := Lib.hid hl
                  have Hu2 := Lib.hid hu
                  have Hg2 := Lib.hid hg
                  clear hc hR hp ho hl hu hg hxW hyH el
                  obtain ⟨bs, hbs⟩ : ∃ bs, bs = gNearL W H (q % W) (q / W) (q : Int) := ⟨_, rfl⟩
                  rw [← hbs] at LNr
                  have HBS := Lib.hid hbs
                  clear hbs
                  go_wp2_with (go_at_call 75; (with_reducible refine (LNr.out).mono ?_); rintro e w1 ⟨⟨v1, rfl, ho1⟩, hg1⟩; obtain ⟨ab, cb, rfl⟩ := own_form ho1)
                  have HB := Lib.hid (show ∀ i ∈ bs, 0 ≤ i ∧ i < (n : Int) by
                    intro i hi; rw [HBS.out] at hi
                    have := gNearL_in (Nat.mod_add_div q W) (Nat.mod_lt _ (by omega)) (Nat.div_lt_of_lt_mul hqn) hi
                    have := HK.out; omega)
                  obtain ⟨s1, hs1⟩ : ∃ s1, s1 = gAdd (gHg xs N) (S0.length : Int) (q : Int) bs s := ⟨_, rfl⟩
                  have HR2 := Lib.hid (show gFlood (gHg xs N) (gNb W H) (S0.length : Int) f (j + 1) s1 = R by rw [hs1, HBS.out]; exact HR1.out)
                  have HS1 := Lib.hid hs1.symm
                  have hbl : bs.length ≤ maxLen := by obtain ⟨_, _, _, _, h⟩ := ho1.sl; exact h
                  unfold maxLen at hbl
                  have NE := Lib.hid (show (Value.slice ab bs.length cb).ownBlock = none ∨ (Value.slice ab bs.length cb).ownBlock ≠ (Value.slice (some ⟨gl, 0, none⟩) s.2.length cl).ownBlock by
                    refine .inr fun h => ?_
                    have h1 := (ho1.block (k := gl) (by rw [h]; rfl)).1
                    have h2 := (Hl2.out.block (k := gl) rfl).2
                    omega)
                  have Hb2 := Lib.hid ho1
                  have ZW := Lib.hid (show wo.heap.size ≤ wr.heap.size by have h2 := (Hl2.out.block (k := gl) rfl).2; omega)
                  have Hg1 := Lib.hid hg1
                  clear ho1 hg1 hs1
                  go_loopw [11, 73] (fun lv i wz => ∃ (t : Nat) (s' : List Int × List Int), i = .int .i64 t ∧ t ≤ bs.length ∧ gAdd (gHg xs N) (S0.length : Int) (q : Int) (bs.drop t) s' = s1 ∧ Pat n s' ∧ (s'.2.getD j 0 = (q : Int) ∧ j < s'.2.length) ∧ ((Value.slice ab bs.length cb).ownBlock = none ∨ (Value.slice ab bs.length cb).ownBlock ≠ lv.ownBlock) ∧ (IOwn wz w.heap.size 2 (.slice (some ⟨w.heap.size, 0, none⟩) n n) s'.1 ∧ IOwn wz wo.heap.size 2 lv s'.2 ∧ IIn wz (w.heap.size + 1) wo.heap.size 2 (.slice ua S0.length uc) S0 ∧ IOwn wz wo.heap.size 2 (.slice ab bs.length cb) bs) ∧ Gr w wz) (fun lv i _ => bs.length - (intOf i).toNat)
                  case atStart => exact ⟨0, s, rfl, Nat.zero_le _, HS1.out, HP1.out, ⟨HC.out.symm, hjl⟩, NE.out, ⟨Ho2.out.gr (Hg1.out.trans (by (try show Gr _ _); repeat (with_reducible first | exact Gr.refl _ | refine Gr.drewN ?_ _ | refine Gr.grew ?_ _ _ | refine Gr.alloc ?_ _ | refine Gr.drew ?_))), Hl2.out.gr (Hg1.out.trans (by (try show Gr _ _); repeat (with_reducible first | exact Gr.refl _ | refine Gr.drewN ?_ _ | refine Gr.grew ?_ _ _ | refine Gr.alloc ?_ _ | refine Gr.drew ?_))), Hu2.out.gr (Hg1.out.trans (by (try show Gr _ _); repeat (with_reducible first | exact Gr.refl _ | refine Gr.drewN ?_ _ | refine Gr.grew ?_ _ _ | refine Gr.alloc ?_ _ | refine Gr.drew ?_))), (Hb2.out.gr (by (try show Gr _ _); repeat (with_reducible first | exact Gr.refl _ | refine Gr.drewN ?_ _ | refine Gr.grew ?_ _ _ | refine Gr.alloc ?_ _ | refine Gr.drew ?_))).base ZW.out⟩, Hg2.out.trans (Hg1.out.trans (by (try show Gr _ _); repeat (with_reducible first | exact Gr.refl _ | refine Gr.drewN ?_ _ | refine Gr.grew ?_ _ _ | refine Gr.alloc ?_ _ | refine Gr.drew ?_)))⟩
                  case round =>
                    obtain ⟨t, s', rfl, ht, hA, hp, ⟨hq, hjs⟩, hne, ⟨ho, hl, hu, hb⟩, hg⟩ := hrel
                    obtain ⟨al, cl, rfl⟩ := own_form hl
                    by_cases htl : t < bs.length
                    · obtain ⟨mc, hm⟩ : ∃ mc, mc = bs.getD t 0 := ⟨_, rfl⟩
                      have hmb : mc ∈ bs := by rw [hm, List.getD_eq_getElem?_getD, List.getElem?_eq_getElem htl]; exact List.getElem_mem htl
                      have hbm : bs[t] = mc := by rw [hm, List.getD_eq_getElem?_getD, List.getElem?_eq_getElem htl]; rfl
                      rw [List.drop_eq_getElem_cons htl, gAdd, hbm] at hA
                      obtain ⟨hm0, hm1⟩ := HB.out mc hmb
                      obtain ⟨gb, kb, eb, hgb⟩ := IOwn.ptr hb (by omega)
                      obtain ⟨rfl, -, rfl⟩ : ab = some ⟨gb, 0, none⟩ ∧ bs.length = bs.length ∧ cb = kb := by simpa using eb
                      obtain ⟨gl2, kl2, el, hgl2⟩ := IOwn.ptr hl (by omega)
                      obtain ⟨rfl, -, rfl⟩ : al = some ⟨gl2, 0, none⟩ ∧ s'.2.length = s'.2.length ∧ cl = kl2 := by simpa using el
                      have b0 := hb.get t htl
                      have l1 := hl.get j hjs
                      rw [← hm] at b0
                      rw [hq] at l1
                      clear hm hbm hmb eb el
                      obtain ⟨mc, rfl⟩ := Int.eq_ofNat_of_zero_le hm0
                      have q1 := ho.get mc (by rw [hp.len]; omega)
                      have z1 := ho.free mc
                      have d3 := hg.cell c2
                      obtain ⟨xq, xq0, hxq⟩ := ((M1.out.fs).keep hg.kp).get q (by have := Hn.out; omega)
                      obtain ⟨xm, xm0, hxm⟩ := ((M1.out.fs).keep hg.kp).get mc (by have := Hn.out; omega)
                      obtain ⟨dm, hdm⟩ : ∃ dm, dm = s'.1.getD mc 0 := ⟨_, rfl⟩
                      rw [← hdm] at q1
                      have Hh : gHg xs N (q : Int) (mc : Int) = gHang (xs.getD q 0) (xs.getD mc 0) N := rfl
                      have hj6 : j ≤ 576 := by have := hp.sum; omega
                      have ZO := (IOwn.block Ho.out (k := w.heap.size) rfl).2
                      have ZR : wo.heap.size ≤ wr.heap.size := by have h2 := (hl.block (k := gl2) rfl).2; omega
                      have ZB := (hb.block (k := gb) rfl).2
                      rw [Int.toNat_natCast, ← hdm, Hh] at hA
                      have HA := Lib.hid hA
                      have HP3 := Lib.hid hp
                      have HQ3 := Lib.hid hq
                      have HD3 := Lib.hid hdm
                      have HE3 := Lib.hid hne
                      have Ho3 := Lib.hid ho
                      have Hl3 := Lib.hid hl
                      have Hu3 := Lib.hid hu
                      have Hb3 := Lib.hid hb
                      have Hg3 := Lib.hid hg
                      clear hA hp hq hdm hne ho hl hu hb hg Hh l0 q0 x0 d2 hc0 z0
                      rcases (show 0 ≤ dm ∨ (dm < 0 ∧ gHang (xs.getD q 0) (xs.getD mc 0) N = false) ∨ (dm < 0 ∧ gHang (xs.getD q 0) (xs.getD mc 0) N = true) by
                        cases gHang (xs.getD q 0) (xs.getD mc 0) N <;> simp <;> omega) with c1 | ⟨c1, t1⟩ | ⟨c1, t1⟩
                      · obtain ⟨dn, rfl⟩ := Int.eq_ofNat_of_zero_le c1
                        clear c1
                        go_upto_region 22 with fail
                        apply region_drew 30
                        case hm => kernel_rfl
                        case hB => kernel_rfl
                        simp only [List.take_succ_cons, List.take_zero, List.drop_succ_cons, List.drop_zero]
                        repeat (first
                          | (apply wpSoft_skip rfl; simp only [Act.put, List.setIfInBounds_toArray, List.set_cons_succ, List.set_cons_zero])
                          | (apply wpSoft_nilCheck rfl rfl; simp only [Act.put, List.setIfInBounds_toArray, List.set_cons_succ, List.set_cons_zero])
                          | ((with_reducible apply wpSoft_fop); (case hw => rfl); (case hD => exact closed_drew); (case hop => rfl); (case hx => rfl); (case hy => rfl); (case hA => (first | assumption | exact FE.ofInt _ _ | exact FE.lit (by decide +kernel))); (case hB => (first | assumption | exact FE.ofInt _ _ | exact FE.lit (by decide +kernel))); (intro r hr; simp only [Act.put, List.setIfInBounds_toArray, List.set_cons_succ, List.set_cons_zero]))

                          | ((with_reducible apply wpSoft_widen); (case hw => rfl); (case hD => exact closed_drew); (case hs => exact Try.underlying25); (case hd => exact Try.underlying61); (case hx => rfl); (case hA => (first | assumption | exact FE.ofInt _ _ | exact FE.lit (by decide +kernel))); (intro r hr; simp only [Act.put, List.setIfInBounds_toArray, List.set_cons_succ, List.set_cons_zero]))
                          | ((with_reducible apply wpSoft_fneg); (case hw => rfl); (case hx => rfl); (case hA => (first | assumption | exact FE.ofInt _ _ | exact FE.lit (by decide +kernel))); (intro r hr; simp only [Act.put, List.setIfInBounds_toArray, List.set_cons_succ, List.set_cons_zero]))
                          | ((with_reducible apply wpSoft_fcmp); (case hw => rfl); (case hop => rfl); (case hx => rfl); (case hy => rfl); (case hA => (first | assumption | exact FE.ofInt _ _ | exact FE.lit (by decide +kernel))); (case hB => (first | assumption | exact FE.ofInt _ _ | exact FE.lit (by decide +kernel))); (case hb => (first | assumption | rfl)); simp only [Act.put, List.setIfInBounds_toArray, List.set_cons_succ, List.set_cons_zero])
                          | (apply wpSoft_q rfl rfl; intro K hK; go_big_quiet_op; go_big_quiet_on))
                        with_reducible apply wpSoft_nil
                        intro m
                        go_wp2
                        go_roundw
                        case rel => exact ⟨t + 1, s', by go_num, by omega, by have h := HA.out; rw [if_neg (fun k => by have := k.1; omega)] at h; exact h, HP3.out, ⟨HQ3.out, hjs⟩, HE3.out, ⟨Ho3.out.gr (by (try show Gr _ _); repeat (with_reducible first | exact Gr.refl _ | refine Gr.drewN ?_ _ | refine Gr.grew ?_ _ _ | refine Gr.alloc ?_ _ | refine Gr.drew ?_)), Hl3.out.gr (by (try show Gr _ _); repeat (with_reducible first | exact Gr.refl _ | refine Gr.drewN ?_ _ | refine Gr.grew ?_ _ _ | refine Gr.alloc ?_ _ | refine Gr.drew ?_)), Hu3.out.gr (by (try show Gr _ _); repeat (with_reducible first | exact Gr.refl _ | refine Gr.drewN ?_ _ | refine Gr.grew ?_ _ _ | refine Gr.alloc ?_ _ | refine Gr.drew ?_)), Hb3.out.gr (by (try show Gr _ _); repeat (with_reducible first | exact Gr.refl _ | refine Gr.drewN ?_ _ | refine Gr.grew ?_ _ _ | refine Gr.alloc ?_ _ | refine Gr.drew ?_))⟩, Hg3.out.trans (by (try show Gr _ _); repeat (with_reducible first | exact Gr.refl _ | refine Gr.drewN ?_ _ | refine Gr.grew ?_ _ _ | refine Gr.alloc ?_ _ | refine Gr.drew ?_))⟩
                        case measure => simp [intOf]; omega
                      · go_upto_region 22 with fail
                        apply region_drew 30
                        case hm => kernel_rfl
                        case hB => kernel_rfl
                        simp only [List.take_succ_cons, List.take_zero, List.drop_succ_cons, List.drop_zero]
                        repeat (first
                          | (apply wpSoft_skip rfl; simp only [Act.put, List.setIfInBounds_toArray, List.set_cons_succ, List.set_cons_zero])
                          | (apply wpSoft_nilCheck rfl rfl; simp only [Act.put, List.setIfInBounds_toArray, List.set_cons_succ, List.set_cons_zero])
                          | ((with_reducible apply wpSoft_fop); (case hw => rfl); (case hD => exact closed_drew); (case hop => rfl); (case hx => rfl); (case hy => rfl); (case hA => (first | assumption | exact FE.ofInt _ _ | exact FE.lit (by decide +kernel))); (case hB => (first | assumption | exact FE.ofInt _ _ | exact FE.lit (by decide +kernel))); (intro r hr; simp only [Act.put, List.setIfInBounds_toArray, List.set_cons_succ, List.set_cons_zero]))

                          | ((with_reducible apply wpSoft_widen); (case hw => rfl); (case hD => exact closed_drew); (case hs => exact Try.underlying25); (case hd => exact Try.underlying61); (case hx => rfl); (case hA => (first | assumption | exact FE.ofInt _ _ | exact FE.lit (by decide +kernel))); (intro r hr; simp only [Act.put, List.setIfInBounds_toArray, List.set_cons_succ, List.set_cons_zero]))
                          | ((with_reducible apply wpSoft_fneg); (case hw => rfl); (case hx => rfl); (case hA => (first | assumption | exact FE.ofInt _ _ | exact FE.lit (by decide +kernel))); (intro r hr; simp only [Act.put, List.setIfInBounds_toArray, List.set_cons_succ, List.set_cons_zero]))
                          | ((with_reducible apply wpSoft_fcmp); (case hw => rfl); (case hop => rfl); (case hx => rfl); (case hy => rfl); (case hA => (first | assumption | exact FE.ofInt _ _ | exact FE.lit (by decide +kernel))); (case hB => (first | assumption | exact FE.ofInt _ _ | exact FE.lit (by decide +kernel))); (case hb => (first | assumption | rfl)); simp only [Act.put, List.setIfInBounds_toArray, List.set_cons_succ, List.set_cons_zero])
                          | (apply wpSoft_q rfl rfl; intro K hK; go_big_quiet_op; go_big_quiet_on))
                        with_reducible apply wpSoft_nil
                        intro m
                        go_wp2_with (first
      | (go_at_call 76; with_reducible refine (S_l05Hang _ _ _ _ _ _ _ hxq hxm hnear).mono ?_; rintro e w' ⟨rfl, n2, rfl⟩; rw [t1]))
                        go_roundw
                        case rel => exact ⟨t + 1, s', by go_num, by omega, by have h := HA.out; rw [if_neg (fun k => by rw [t1] at k; exact absurd k.2 (by simp))] at h; exact h, HP3.out, ⟨HQ3.out, hjs⟩, HE3.out, ⟨Ho3.out.gr (by (try show Gr _ _); repeat (with_reducible first | exact Gr.refl _ | refine Gr.drewN ?_ _ | refine Gr.grew ?_ _ _ | refine Gr.alloc ?_ _ | refine Gr.drew ?_)), Hl3.out.gr (by (try show Gr _ _); repeat (with_reducible first | exact Gr.refl _ | refine Gr.drewN ?_ _ | refine Gr.grew ?_ _ _ | refine Gr.alloc ?_ _ | refine Gr.drew ?_)), Hu3.out.gr (by (try show Gr _ _); repeat (with_reducible first | exact Gr.refl _ | refine Gr.drewN ?_ _ | refine Gr.grew ?_ _ _ | refine Gr.alloc ?_ _ | refine Gr.drew ?_)), Hb3.out.gr (by (try show Gr _ _); repeat (with_reducible first | exact Gr.refl _ | refine Gr.drewN ?_ _ | refine Gr.grew ?_ _ _ | refine Gr.alloc ?_ _ | refine Gr.drew ?_))⟩, Hg3.out.trans (by (try show Gr _ _); repeat (with_reducible first | exact Gr.refl _ | refine Gr.drewN ?_ _ | refine Gr.grew ?_ _ _ | refine Gr.alloc ?_ _ | refine Gr.drew ?_))⟩
                        case measure => simp [intOf]; omega
                      · go_upto_region 22 with fail
                        apply region_drew 30
                        case hm => kernel_rfl
                        case hB => kernel_rfl
                        simp only [List.take_succ_cons, List.take_zero, List.drop_succ_cons, List.drop_zero]
                        repeat (first
                          | (apply wpSoft_skip rfl; simp only [Act.put, List.setIfInBounds_toArray, List.set_cons_succ, List.set_cons_zero])
                          | (apply wpSoft_nilCheck rfl rfl; simp only [Act.put, List.setIfInBounds_toArray, List.set_cons_succ, List.set_cons_zero])
                          | ((with_reducible apply wpSoft_fop); (case hw => rfl); (case hD => exact closed_drew); (case hop => rfl); (case hx => rfl); (case hy => rfl); (case hA => (first | assumption | exact FE.ofInt _ _ | exact FE.lit (by decide +kernel))); (case hB => (first | assumption | exact FE.ofInt _ _ | exact FE.lit (by decide +kernel))); (intro r hr; simp only [Act.put, List.setIfInBounds_toArray, List.set_cons_succ, List.set_cons_zero]))

                          | ((with_reducible apply wpSoft_widen); (case hw => rfl); (case hD => exact closed_drew); (case hs => exact Try.underlying25); (case hd => exact Try.underlying61); (case hx => rfl); (case hA => (first | assumption | exact FE.ofInt _ _ | exact FE.lit (by decide +kernel))); (intro r hr; simp only [Act.put, List.setIfInBounds_toArray, List.set_cons_succ, List.set_cons_zero]))
                          | ((with_reducible apply wpSoft_fneg); (case hw => rfl); (case hx => rfl); (case hA => (first | assumption | exact FE.ofInt _ _ | exact FE.lit (by decide +kernel))); (intro r hr; simp only [Act.put, List.setIfInBounds_toArray, List.set_cons_succ, List.set_cons_zero]))
                          | ((with_reducible apply wpSoft_fcmp); (case hw => rfl); (case hop => rfl); (case hx => rfl); (case hy => rfl); (case hA => (first | assumption | exact FE.ofInt _ _ | exact FE.lit (by decide +kernel))); (case hB => (first | assumption | exact FE.ofInt _ _ | exact FE.lit (by decide +kernel))); (case hb => (first | assumption | rfl)); simp only [Act.put, List.setIfInBounds_toArray, List.set_cons_succ, List.set_cons_zero])
                          | (apply wpSoft_q rfl rfl; intro K hK; go_big_quiet_op; go_big_quiet_on))
                        with_reducible apply wpSoft_nil
                        intro m
                        go_wp2_with (first
      | (go_at_call 76; with_reducible refine (S_l05Hang _ _ _ _ _ _ _ hxq hxm hnear).mono ?_; rintro e w' ⟨rfl, n2, rfl⟩; rw [t1])
      | (apply wpList_append_ia (hgd := rfl) (ho := rfl) (i := j0) (ht := Try.underlying27) (hi := ji) (hz := jz0) (hsize := jz1) (hby := jz2); (case hown => exact (IOwn.setOther Hl3.out _ (IOwn.notBlk Hl3.out ZO)).gr (((Gr.refl _).drewN _).alloc _)); (case hs => rfl); (case hx => rfl); (case hcell => exact (Blk.atNew (by simp <;> omega)).cellv 0 rfl); (case hn => (have := HP3.out.sum; omega)); (case hB => exact Nat.le_trans ZR (by simp [World.setCell] <;> omega)); intro v2 w2 ho2 hg2 hv2; have G2 := Lib.hid (Gr.grownBy (((Gr.setCell Hg3.out (Nat.le_refl _) _).drewN _).alloc _) hg2 (fun q hq => by have := (IOwn.block Hl3.out hq).1; omega)); have HO2 := Lib.hid (IOwn.grown ((Ho3.out.store mc (S0.length : Int)).gr (((Gr.refl _).drewN _).alloc _)) hg2 (.inr (fun hq => by have := (IOwn.block Hl3.out (k := w.heap.size) hq.symm).1; omega))); have HU2 := Lib.hid (IOwn.grown ((IOwn.setOther (p := ⟨w.heap.size, mc, none⟩) (show IOwn wr (w.heap.size + 1) 2 (.slice ua S0.length uc) S0 from Hu3.out.own) (.int .i64 (S0.length : Int)) (IOwn.notBlk (show IOwn wr (w.heap.size + 1) 2 (.slice ua S0.length uc) S0 from Hu3.out.own) (Nat.lt_succ_self _))).gr (((Gr.refl _).drewN _).alloc _)) hg2 (.inr (fun hq => by have h1 := Hu3.out.hi gl2 hq; omega))); have HB2 := Lib.hid (IOwn.grown ((IOwn.setOther (p := ⟨w.heap.size, mc, none⟩) Hb3.out (.int .i64 (S0.length : Int)) (IOwn.notBlk Hb3.out ZO)).gr (((Gr.refl _).drewN _).alloc _)) hg2 HE3.out); have HV2 := Lib.hid hv2; have HL2 := Lib.hid ho2; clear hg2 ho2 hv2))
                        go_roundw
                        case rel => exact ⟨t + 1, (s'.1.set mc (S0.length : Int), s'.2 ++ [(mc : Int)]), by go_num, by omega, by have h := HA.out; rw [if_pos ⟨c1, t1⟩] at h; exact h, by have h := HP3.out.push (num := (S0.length : Int)) (j := (mc : Int)) (by omega) hm0 hm1 (by rw [Int.toNat_natCast, ← HD3.out]; exact c1); rwa [Int.toNat_natCast] at h, ⟨by rw [List.getD_eq_getElem?_getD, List.getElem?_append_left hjs, ← List.getD_eq_getElem?_getD]; exact HQ3.out, by simp; omega⟩, by rcases HV2.out with h | h <;> rw [h]; exact HE3.out; exact .inr (fun hq => by simp [Value.ownBlock, World.setCell] at hq; omega), ⟨HO2.out, HL2.out, ⟨HU2.out, Hu3.out.hi⟩, HB2.out⟩, G2.out⟩
                        case measure => simp [intOf]; omega
                    · obtain rfl : t = bs.length := by omega
                      rw [List.drop_length, gAdd] at hA
                      subst hA
                      have HP3 := Lib.hid hp
                      have Ho3 := Lib.hid ho
                      have Hl3 := Lib.hid hl
                      have Hu3 := Lib.hid hu
                      have Hg3 := Lib.hid hg
                      have hj6 : j ≤ 576 := by have := hp.sum; omega
                      clear hp ho hl hu hb hg hne hq
                      go_wp2
                      go_roundw
                      case rel => exact ⟨j + 1, f, s', by go_num, hjs, HR2.out, by omega, HP3.out, ⟨Ho3.out, Hl3.out, Hu3.out⟩, Hg3.out⟩
                      case measure => have := HP3.out.sum; simp [intOf]; omega
                · obtain rfl : j = s.2.length := by omega
                  have es := gFlood_end (h := gHg xs N) (nb := gNb W H) (num := (S0.length : Int)) (k := s.2.length) (s := s) (Nat.le_refl _) f
                  rw [hR] at es
                  subst es
                  have Ho2 := Lib.hid ho
                  have Hu2 := Lib.hid (show IOwn _ (w.heap.size + 1) 2 (.slice ua S0.length uc) S0 from hu.own)
                  have Hg2 := Lib.hid hg
                  clear ho hu hg hl hR hf hj hjl
                  go_wp2_with (apply wpList_append_i (hgd := rfl) (ho := rfl) (i := j0) (ht := Try.underlying27) (hi := ji) (hz := jz0) (hsize := jz1) (hby := jz2); (case hown => exact Hu2.out.gr ((Gr.refl _).alloc _)); (case hs => rfl); (case hx => rfl); (case hcell => exact (Blk.atNew (by simp <;> omega)).cellv 0 rfl); (case hn => (have := L2; omega)); (case hB => exact Nat.le_trans (show w.heap.size + 1 ≤ _ from (IOwn.block Ho2.out (k := w.heap.size) rfl).2) (by simp)); intro v2 w2 ho2 hg2; have G2 := Lib.hid (Gr.grownBy (Hg2.out.alloc _) hg2 (fun q hq => Nat.le_of_succ_le (IOwn.block Hu2.out hq).1)); have HO2 := Lib.hid (IOwn.grown (Ho2.out.gr ((Gr.refl _).alloc _)) hg2 (.inr (fun hq => by have := (IOwn.block Hu2.out (k := w.heap.size) hq.symm).1; omega))); have HU2 := Lib.hid ho2; clear hg2 ho2)
                  go_roundw
                  case rel => exact ⟨k + 1, by omega, by go_num, by rw [E1.out]; exact ⟨HO2.out, HU2.out⟩, G2.out⟩
                  case measure => simp [intOf]; omega
            · have E1 := Lib.hid (show gPats W H N xs (k + 1) = (O0, S0) by
                unfold gPats at hP ⊢
                rw [gPat]; simp only; rw [← hP, if_pos (.inr hh)])
              clear hd hP
              go_wp2_with (first
      | (go_at_call 74; with_reducible refine (S_l05Hole _ _ _ hx).mono ?_; rintro e w' ⟨rfl, n1, rfl⟩; rw [hh]))
              go_roundw
              case rel => exact ⟨k + 1, by omega, by go_num, by rw [E1.out]; exact ⟨Ho.out.gr (by (try show Gr _ _); repeat (with_reducible first | exact Gr.refl _ | refine Gr.drewN ?_ _ | refine Gr.grew ?_ _ _ | refine Gr.alloc ?_ _ | refine Gr.drew ?_)), Hu.out.gr (by (try show Gr _ _); repeat (with_reducible first | exact Gr.refl _ | refine Gr.drewN ?_ _ | refine Gr.grew ?_ _ _ | refine Gr.alloc ?_ _ | refine Gr.drew ?_))⟩, Hg.out.trans (by (try show Gr _ _); repeat (with_reducible first | exact Gr.refl _ | refine Gr.drewN ?_ _ | refine Gr.grew ?_ _ _ | refine Gr.alloc ?_ _ | refine Gr.drew ?_))⟩
              case measure => simp [intOf]; omega
        · obtain rfl : k = n := by omega
          obtain ⟨ua, uc, rfl⟩ := own_form hu
          have Ho := Lib.hid ho
          have Hu := Lib.hid hu
          have Hg := Lib.hid hg
          clear ho hu hg
          go_wp2
          refine bodyPost_ret (v := .tuple #[.slice (some ⟨w.heap.size, 0, none⟩) k k, .slice ua (gPats W H N xs k).2.length uc]) (by simp [results, Try.results40, go_sem]) rfl ⟨⟨_, _, rfl, ?_, ?_⟩, Hg.out⟩
          · rw [← HK.out]; exact ⟨Ho.out, fun j hj => by simp [Value.ownBlock] at hj; omega⟩
          · rw [← HK.out]; exact Hu.out.fin
end Go.Proofs.Ytomlfdkcgaogcaa
