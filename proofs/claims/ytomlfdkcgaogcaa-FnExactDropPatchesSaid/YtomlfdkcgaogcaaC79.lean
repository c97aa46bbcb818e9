/- Contracts: the patches of a map (the program's loops). MAXREC -/
import Derived.Test.YtomlfdkcgaogcaaProg
import Derived.Test.YtomlfdkcgaogcaaC78
import Derived.Deep.DeepCutAuto
import Derived.Deep.RegionHeld3
import Derived.Deep.LoopGhost
namespace Go.Proofs.Ytomlfdkcgaogcaa
open Go.RowKit Go.Fx Go.Soft
set_option maxRecDepth 20000 in
set_option maxHeartbeats 6000000 in
theorem I_Map_patches (W H b ca near N : Nat) (a : Option Addr) (xs : List Nat) (w : World) (m1 : MP w b W H a xs.length ca xs) (hW : W ≤ 24) (hH : H ≤ 24) (hW0 : 1 ≤ W) (hH0 : 1 ≤ H) (hl : xs.length = W * H) (hnear : FE .f32 near N) :
    Calls Try.prog 43 #[.pointer (some ⟨b, 0, none⟩), .float .f32 near] w fun e w' =>
      (∃ v u lo, e = .returned (.tuple #[v, u]) ∧ w.heap.size ≤ lo ∧ lo ≤ w'.heap.size ∧ IIn w' w.heap.size lo 2 v (gPats W H N xs (W * H)).1 ∧ IIn w' lo w'.heap.size 2 u (gPats W H N xs (W * H)).2) ∧ Gr w w' := by
  obtain ⟨j0, ji, jz0, jz1, jz2⟩ := info_parts info_int64
  have hn24 : xs.length ≤ 576 := by rw [hl]; exact Nat.mul_le_mul hW hH
  have hn1 : 1 ≤ xs.length := by rw [hl]; exact Nat.mul_le_mul hW0 hH0
  have c2 := m1.c2
  have c0 := m1.c0
  have M1 := Lib.hid m1
  have Hl := Lib.hid hl
  obtain ⟨n, hn⟩ : ∃ n, n = xs.length := ⟨_, rfl⟩
  rw [← hn] at c2 hn24 hn1
  have HK := Lib.hid (show n = W * H by rw [hn, hl])
  have Hn := Lib.hid hn
  clear m1 hl hn
  go_enter Try.func43, Try.ntmps43
  have C2 := Lib.hid c2
  have C0 := Lib.hid c0
  go_wp2_with (first | (go_at_call 78; (with_reducible refine (X_Repeat _ n _ ((Blk.atNew (by simp)).cellv 0 rfl) hn1 (by omega)).mono ?_); rintro e w1 ⟨⟨v1, rfl, ho1⟩, hg1⟩; obtain ⟨g0, k0, ev, hg0⟩ := IOwn.ptr ho1 (by simp; omega); rw [List.length_replicate] at ev; subst ev; have GW1 := Gr.trans (show Gr w _ from (by (try show Gr _ _); repeat (with_reducible first | exact Gr.refl _ | refine Gr.drewN ?_ _ | refine Gr.grew ?_ _ _ | refine Gr.alloc ?_ _ | refine Gr.drew ?_))) hg1; have d2 := GW1.cell C2.out; have d0 := GW1.cell C0.out))
  have ZG : g0 < w1.heap.size := (ho1.block (k := g0) rfl).2
  have ZW := GW1.size
  have EI := Hl.out
  have E0 := Lib.hid (show gPats W H N xs 0 = (List.replicate n (-1), []) by unfold gPats gPat; rw [← HK.out])
  have LN := Lib.hid (fun i (hi : i ≤ n) => show (gPats W H N xs i).1.length = n ∧ (gPats W H N xs i).2.length ≤ i by have := gPat_len (hole := fun i => gHole (xs.getD i 0)) (h := gHg xs N) (nb := gNb W H) (n := W * H) (fun c h0 h1 j hj => gNb_in h0 h1 hj) i (by have := HK.out; omega); rw [← HK.out] at this; unfold gPats; rw [← HK.out]; exact this)
  have HO1 := Lib.hid (ho1.base (show w.heap.size ≤ _ by simp))
  have GW := Lib.hid GW1
  clear EI ho1 hg1 GW1 hg0 d0
  go_loopw [7, 29] (fun u i wq => ∃ k : Nat, k ≤ n ∧ i = .int .i64 k ∧ (IOwn wq w.heap.size 2 (.slice (some ⟨g0, 0, none⟩) n k0) (gPats W H N xs k).1 ∧ IOwn wq w1.heap.size 2 u (gPats W H N xs k).2) ∧ Gr w wq ∧ w1.heap.size ≤ wq.heap.size) (fun u i _ => n - (intOf i).toNat)
  case atStart => exact ⟨0, Nat.zero_le _, rfl, ⟨by rw [E0.out]; exact HO1.out.gr (by (try show Gr _ _); repeat (with_reducible first | exact Gr.refl _ | refine Gr.drewN ?_ _ | refine Gr.grew ?_ _ _ | refine Gr.alloc ?_ _ | refine Gr.drew ?_)), by rw [E0.out]; exact IOwn.empty (by repeat (with_reducible first | assumption | exact Blk.atNew (by simp) | refine Blk.alloc ?_ _ | refine Blk.grew ?_ _ _ | refine Blk.drewN ?_ _ | refine Blk.drew ?_)) (Nat.le_refl _)⟩, GW.out.trans (by (try show Gr _ _); repeat (with_reducible first | exact Gr.refl _ | refine Gr.drewN ?_ _ | refine Gr.grew ?_ _ _ | refine Gr.alloc ?_ _ | refine Gr.drew ?_)), by simp⟩
  case round =>
    obtain ⟨k, hk, rfl, ⟨ho, hu⟩, hg, hz⟩ := hrel
    by_cases hlt : k < n
    · obtain ⟨S, hP⟩ : ∃ S, S = gPats W H N xs k := ⟨_, rfl⟩
      obtain ⟨O0, S0⟩ := S
      have LNk := LN.out k hk
      rw [← hP] at LNk ho hu
      obtain ⟨L1, L2⟩ := LNk
      simp only at L1 L2 ho hu
      have q0 := ho.get k (by omega)
      have z0 := ho.free k
      obtain ⟨bx, ox, x, rfl, x0, hx⟩ := ((M1.out.fs).keep hg.kp).at_ k (by have := Hn.out; omega)
      have hD : xs[k]'(by have := Hn.out; omega) = xs.getD k 0 := by rw [List.getD_eq_getElem?_getD, List.getElem?_eq_getElem (by have := Hn.out; omega)]; rfl
      rw [hD] at hx
      clear d2
      have d2 := hg.cell C2.out
      obtain ⟨d, hd⟩ : ∃ d, d = O0.getD k 0 := ⟨_, rfl⟩
      rw [← hd] at q0
      obtain ⟨ua, uc, rfl⟩ := own_form hu
      have Ho := Lib.hid ho
      have Hu := Lib.hid hu
      have Hg := Lib.hid hg
      clear ho hu hg hD c2 c0
      by_cases h0 : 0 ≤ d
      · have E1 := Lib.hid (show gPats W H N xs (k + 1) = (O0, S0) by
          unfold gPats at hP ⊢
          rw [gPat]; simp only; rw [← hP, if_pos (.inl (by rw [← hd]; exact h0))])
        clear hd hP
        go_wp2
        go_roundw
        case rel => exact ⟨k + 1, by omega, by go_num, by rw [E1.out]; exact ⟨Ho.out.gr (by (try show Gr _ _); repeat (with_reducible first | exact Gr.refl _ | refine Gr.drewN ?_ _ | refine Gr.grew ?_ _ _ | refine Gr.alloc ?_ _ | refine Gr.drew ?_)), Hu.out.gr (by (try show Gr _ _); repeat (with_reducible first | exact Gr.refl _ | refine Gr.drewN ?_ _ | refine Gr.grew ?_ _ _ | refine Gr.alloc ?_ _ | refine Gr.drew ?_))⟩, Hg.out.trans (by (try show Gr _ _); repeat (with_reducible first | exact Gr.refl _ | refine Gr.drewN ?_ _ | refine Gr.grew ?_ _ _ | refine Gr.alloc ?_ _ | refine Gr.drew ?_)), by first | exact hz | (simp; omega)⟩
        case measure => simp [intOf]; omega
      · have d0 : d < 0 := by omega
        cases hh : gHole (xs.getD k 0)
        · have E1 := Lib.hid (show gPats W H N xs (k + 1) = ((gFlood (gHg xs N) (gNb W H) (S0.length : Int) (2 * n + 2) 0 (O0.set k (S0.length : Int), [(k : Int)])).1, S0 ++ [((gFlood (gHg xs N) (gNb W H) (S0.length : Int) (2 * n + 2) 0 (O0.set k (S0.length : Int), [(k : Int)])).2.length : Int)]) by
            unfold gPats at hP ⊢
            rw [← HK.out] at hP ⊢
            rw [gPat]; simp only; rw [← hP, if_neg (by rw [← hd, hh]; simp; omega)])
          have P0 := Lib.hid (show Pat n (O0.set k (S0.length : Int), [(k : Int)]) from Pat.first L1 hlt (by rw [← hd]; exact d0) (by omega))
          clear hd hP
          go_wp2_with (first
      | (go_at_call 79; with_reducible refine (I_isHole _ _ _ hx).mono ?_; rintro e w' ⟨rfl, n1, rfl⟩; rw [hh])
      | (apply wpList_append_i (hgd := rfl) (ho := rfl) (i := j0) (ht := Try.underlying27) (hi := ji) (hz := jz0) (hsize := jz1) (hby := jz2); (case hown => exact Hu.out.gr (((Gr.refl _).drewN _).alloc _)); (case hs => rfl); (case hx => rfl); (case hcell => exact (Blk.atNew (by simp <;> omega)).cellv 0 rfl); (case hn => (have := L2; omega)); (case hB => exact Nat.le_trans hz (by simp)); intro v2 w2 ho2 hg2; have G2 := Lib.hid (Gr.grownBy ((Hg.out.drewN _).alloc _) hg2 (fun q hq => Nat.le_trans ZW (IOwn.block Hu.out hq).1)); have HO2 := (IOwn.grown (Ho.out.gr (((Gr.refl _).drewN _).alloc _)) hg2 (.inr (fun hq => by have := (IOwn.block Hu.out (k := g0) hq.symm).1; omega))); have ZZ2 := Nat.le_trans hz (Nat.le_trans (by simp) hg2.size); clear hg2; have q2 := HO2.get k (by omega); have z2 := HO2.free k; have HO2 := Lib.hid HO2; obtain ⟨gs, cs, ev2, hgs⟩ := IOwn.ptr ho2 (by simp); rw [show (S0 ++ [(1 : Int)]).length = S0.length + 1 by simp] at ev2; subst ev2; have HU2 := Lib.hid ho2; clear ho2))
          obtain ⟨R, hR⟩ : ∃ R, R = gFlood (gHg xs N) (gNb W H) (S0.length : Int) (2 * n + 2) 0 (O0.set k (S0.length : Int), [(k : Int)]) := ⟨_, rfl⟩
          rw [← hR] at E1
          have HR := Lib.hid hR.symm
          have ZS : gs < w2.heap.size := (HU2.out.block (k := gs) rfl).2
          clear hR q0 z0 x0 d2 q2 z2
          go_loopg [10] (2 * n + 2) (fun f tv wq => ∃ (j : Nat) (s : List Int × List Int), j ≤ s.2.length ∧ gFlood (gHg xs N) (gNb W H) (S0.length : Int) f j s = R ∧ n < f + j ∧ Pat n s ∧ (IOwn wq w.heap.size 2 (.slice (some ⟨g0, 0, none⟩) n k0) s.1 ∧ IOwn wq w1.heap.size 2 (.slice (some ⟨gs, 0, none⟩) (S0.length + 1) cs) (S0 ++ [(s.2.length : Int)]) ∧ QE wq w2.heap.size 2 tv (s.2.drop j)) ∧ Gr w wq ∧ w2.heap.size ≤ wq.heap.size)
          case atStart =>
            refine ⟨0, _, Nat.zero_le _, HR.out, by omega, P0.out, ⟨?_, ?_, .inr ⟨by simp, ?_⟩⟩, ?_, ?_⟩
            · exact (HO2.out.store k _).gr ((Gr.refl _).alloc _)
            · exact (IOwn.setOther (p := ⟨g0, k, none⟩) HU2.out (.int .i64 (S0.length : Int)) (IOwn.notBlk HU2.out ZG)).gr ((Gr.refl _).alloc _)
            · have ez : (w2.setCell ⟨g0, k, none⟩ (.int .i64 (S0.length : Int))).heap.size = w2.heap.size := by simp [World.setCell]
              have o1 : IOwn ((w2.setCell ⟨g0, k, none⟩ (.int .i64 (S0.length : Int))).alloc (.cells #[.int .i64 (k : Int)] 2)) w2.heap.size 2 (.slice (some ⟨(w2.setCell ⟨g0, k, none⟩ (.int .i64 (S0.length : Int))).heap.size, 0, none⟩) 1 1) [(k : Int)] := World.ownsRow_lit (w2.setCell ⟨g0, k, none⟩ (.int .i64 (S0.length : Int))) #[.int .i64 (k : Int)] 1 (by rw [ez]; exact Nat.le_refl _) (by unfold maxLen; omega) rfl
              rw [ez] at o1
              exact QOwn.ofI o1 (by simp)
            · exact (Gr.setCell G2.out (IOwn.block HO2.out (k := g0) rfl).1 _).alloc _
            · simp [World.setCell]
          case round =>
            obtain ⟨j, s, hj, hR, hf, hp, ⟨ho, hu, hQ⟩, hg, hzq⟩ := hrel
            rcases hQ with ⟨hnil, p, c, rfl⟩ | ⟨hne, hq⟩
            · have es := gFlood_end (h := gHg xs N) (nb := gNb W H) (num := (S0.length : Int)) (k := j) (s := s) (List.drop_eq_nil_iff.1 hnil) gk
              rw [hR] at es
              subst es
              have Ho3 := Lib.hid ho
              have Hu3 := Lib.hid hu
              have Hg3 := Lib.hid hg
              clear ho hu hg hR hf hj hp hnil
              go_wp2
              go_roundw
              case rel => exact ⟨k + 1, by omega, by go_num, by rw [E1.out]; exact ⟨Ho3.out, by simpa using Hu3.out⟩, Hg3.out, by omega⟩
              case measure => simp [intOf]; omega
            · have hjl : j < s.2.length := by
                rcases Nat.lt_or_ge j s.2.length with h | h
                · exact h
                · exact absurd (List.drop_eq_nil_of_le h) hne
              rw [List.drop_eq_getElem_cons hjl] at hq
              obtain ⟨c, hc⟩ : ∃ c, c = s.2[j] := ⟨_, rfl⟩
              obtain ⟨hc0, hc1⟩ := hp.mem c (by rw [hc]; exact List.getElem_mem hjl)
              have hc' : s.2.getD j 0 = c := by rw [List.getD_eq_getElem?_getD, List.getElem?_eq_getElem hjl, hc]; rfl
              rw [← hc] at hq
              clear hc
              obtain ⟨q, rfl⟩ := Int.eq_ofNat_of_zero_le hc0
              obtain ⟨gq, oq, cq, rfl, hgq, l0, hcap, hcm, -⟩ := hq.head
              obtain ⟨f, rfl⟩ : ∃ f', gk = f' + 1 := ⟨gk - 1, by have := hp.sum; omega⟩
              rw [gFlood_step hjl, hc'] at hR
              have hqn : q < W * H := by have := HK.out; omega
              have hxW : q % W < W := Nat.mod_lt _ (by omega)
              have hyH : q / W < H := Nat.div_lt_of_lt_mul hqn
              obtain ⟨x, hx⟩ : ∃ x, x = q % W := ⟨_, rfl⟩
              obtain ⟨y, hy⟩ : ∃ y, y = q / W := ⟨_, rfl⟩
              have hqe : x + W * y = q := by rw [hx, hy]; exact Nat.mod_add_div q W
              have er : (q : Int) % (W : Int) = (x : Int) := by rw [hx]; exact (Int.natCast_emod q W).symm
              have eq : (q : Int) / (W : Int) = (y : Int) := by rw [hy]; exact (Int.natCast_ediv q W).symm
              have e3 : (q : Int).tmod (W : Int) = (x : Int) := by rw [← er]; exact Int.tmod_eq_emod_of_nonneg (by omega)
              have e4 : (q : Int).tdiv (W : Int) = (y : Int) := by rw [← eq]; exact Int.tdiv_eq_ediv_of_nonneg (by omega)
              have e5 : ¬ (W : Int) = 0 := by omega
              have e6 : IntKind.i64.wrap (y : Int) = (y : Int) := IntWalk.i64_in _ (by rw [← hy] at hyH; omega)
              have hqs : s.2.length ≤ n := by have := hp.sum; omega
              have hln : (s.2.drop (j + 1)).length ≤ n := by simp; omega
              generalize hls : (s.2.drop (j + 1)).length = ln at *
              have hWy : x + W * y < 576 := by have := HK.out; omega
              have hWI : (W : Int) * (y : Int) = ((W * y : Nat) : Int) := by simp
              have p2 : IntKind.i64.wrap ((W : Int) * (y : Int)) = (W : Int) * (y : Int) := IntWalk.i64_in _ (by omega)
              have p0 : IntKind.i64.wrap ((W : Int) * ((y : Int) - 1)) = (W : Int) * ((y : Int) - 1) := IntWalk.i64_in _ (by rw [Int.mul_sub]; omega)
              have p1 : IntKind.i64.wrap ((W : Int) * ((y : Int) + 1)) = (W : Int) * ((y : Int) + 1) := IntWalk.i64_in _ (by rw [Int.mul_add]; omega)
              have s0 : IntKind.i64.wrap ((x : Int) + (W : Int) * ((y : Int) - 1)) = (x : Int) + (W : Int) * ((y : Int) - 1) := IntWalk.i64_in _ (by rw [Int.mul_sub]; omega)
              have s1 : IntKind.i64.wrap ((x : Int) + (W : Int) * ((y : Int) + 1)) = (x : Int) + (W : Int) * ((y : Int) + 1) := IntWalk.i64_in _ (by rw [Int.mul_add]; omega)
              have s2 : IntKind.i64.wrap ((x : Int) - 1 + (W : Int) * (y : Int)) = (x : Int) - 1 + (W : Int) * (y : Int) := IntWalk.i64_in _ (by omega)
              have s3 : IntKind.i64.wrap ((x : Int) + 1 + (W : Int) * (y : Int)) = (x : Int) + 1 + (W : Int) * (y : Int) := IntWalk.i64_in _ (by omega)
              have d0w := hg.cell C0.out
              have hxW' : x < W := by rw [hx]; exact hxW
              have hyH' : y < H := by rw [hy]; exact hyH
              have GB := Lib.hid (gBesAdd_all xs N (S0.length : Int) s hxW' hyH')
              have HQE := Lib.hid hqe
              have HR1 := Lib.hid hR
              have HP1 := Lib.hid hp
              have HC1 := Lib.hid hc'
              have Ho3 := Lib.hid ho
              have Hu3 := Lib.hid hu
              have Hq3 := Lib.hid hq
              have Hg3 := Lib.hid hg
              clear hR hp hc' ho hu hq hg hqe hx hy hxW hyH hWI hls hne hc0
              go_upto_region 11 with fail
              apply region_drew 17
              case hm => kernel_rfl
              case hB => kernel_rfl
              simp only [List.take_succ_cons, List.take_zero, List.drop_succ_cons, List.drop_zero]
              repeat (first
                | (apply wpSoft_skip rfl; simp only [Act.put, List.setIfInBounds_toArray, List.set_cons_succ, List.set_cons_zero])
                | (apply wpSoft_nilCheck rfl rfl; simp only [Act.put, List.setIfInBounds_toArray, List.set_cons_succ, List.set_cons_zero])
                | ((with_reducible apply wpSoft_fop); (case hw => rfl); (case hD => exact closed_drew); (case hop => rfl); (case hx => rfl); (case hy => rfl); (case hA => (first | assumption | exact FE.ofInt _ _ | exact FE.lit (by decide +kernel))); (case hB => (first | assumption | exact FE.ofInt _ _ | exact FE.lit (by decide +kernel))); (intro r hr; simp only [Act.put, List.setIfInBounds_toArray, List.set_cons_succ, List.set_cons_zero]))

                | ((with_reducible apply wpSoft_widen); (case hw => rfl); (case hD => exact closed_drew); (case hs => exact Try.underlying25); (case hd => exact Try.underlying61); (case hx => rfl); (case hA => (first | assumption | exact FE.ofInt _ _ | exact FE.lit (by decide +kernel))); (intro r hr; simp only [Act.put, List.setIfInBounds_toArray, List.set_cons_succ, List.set_cons_zero]))
                | ((with_reducible apply wpSoft_fneg); (case hw => rfl); (case hx => rfl); (case hA => (first | assumption | exact FE.ofInt _ _ | exact FE.lit (by decide +kernel))); (intro r hr; simp only [Act.put, List.setIfInBounds_toArray, List.set_cons_succ, List.set_cons_zero]))
                | ((with_reducible apply wpSoft_fcmp); (case hw => rfl); (case hop => rfl); (case hx => rfl); (case hy => rfl); (case hA => (first | assumption | exact FE.ofInt _ _ | exact FE.lit (by decide +kernel))); (case hB => (first | assumption | exact FE.ofInt _ _ | exact FE.lit (by decide +kernel))); (case hb => (first | assumption | rfl)); simp only [Act.put, List.setIfInBounds_toArray, List.set_cons_succ, List.set_cons_zero])
                | (apply wpSoft_q rfl rfl; intro K hK; go_big_quiet_op; go_big_quiet_on))
              with_reducible apply wpSoft_nil
              intro m
              go_wp2_with (first
      | (go_at_call 80; refine (I_besides x y _ (by omega) (by omega)).mono ?_; rintro e w3 ⟨rfl, hg4⟩))
              have Hg4 := Lib.hid (Gr.trans (by (try show Gr _ _); repeat (with_reducible first | exact Gr.refl _ | refine Gr.drewN ?_ _ | refine Gr.grew ?_ _ _ | refine Gr.alloc ?_ _ | refine Gr.drew ?_)) hg4 : Gr wr w3)
              clear hg4 d0w l0
              go_loopw [10, 82] (fun tv i wz => ∃ (t : Nat) (s' : List Int × List Int), i = .int .i64 t ∧ t ≤ 4 ∧ s' = gBesAdd xs W H N (S0.length : Int) x y s t ∧ Pat n s' ∧ (s'.2.getD j 0 = (q : Int) ∧ j < s'.2.length) ∧ (IOwn wz w.heap.size 2 (.slice (some ⟨g0, 0, none⟩) n k0) s'.1 ∧ IOwn wz w1.heap.size 2 (.slice (some ⟨gs, 0, none⟩) (S0.length + 1) cs) (S0 ++ [(s'.2.length : Int)]) ∧ QOwn wz w2.heap.size 2 tv (s'.2.drop j)) ∧ Gr w wz ∧ w2.heap.size ≤ wz.heap.size) (fun tv i _ => 4 - (intOf i).toNat)
              case atStart => exact ⟨0, s, rfl, Nat.zero_le _, rfl, HP1.out, ⟨HC1.out, hjl⟩, ⟨Ho3.out.gr (Hg4.out.trans (by (try show Gr _ _); repeat (with_reducible first | exact Gr.refl _ | refine Gr.drewN ?_ _ | refine Gr.grew ?_ _ _ | refine Gr.alloc ?_ _ | refine Gr.drew ?_))), Hu3.out.gr (Hg4.out.trans (by (try show Gr _ _); repeat (with_reducible first | exact Gr.refl _ | refine Gr.drewN ?_ _ | refine Gr.grew ?_ _ _ | refine Gr.alloc ?_ _ | refine Gr.drew ?_))), by rw [List.drop_eq_getElem_cons hjl, show s.2[j] = (q : Int) by have h := HC1.out; rw [List.getD_eq_getElem?_getD, List.getElem?_eq_getElem hjl] at h; exact h]; exact Hq3.out.gr (Hg4.out.trans (by (try show Gr _ _); repeat (with_reducible first | exact Gr.refl _ | refine Gr.drewN ?_ _ | refine Gr.grew ?_ _ _ | refine Gr.alloc ?_ _ | refine Gr.drew ?_)))⟩, Hg3.out.trans (Hg4.out.trans (by (try show Gr _ _); repeat (with_reducible first | exact Gr.refl _ | refine Gr.drewN ?_ _ | refine Gr.grew ?_ _ _ | refine Gr.alloc ?_ _ | refine Gr.drew ?_))), Nat.le_trans hzq (Gr.size (Hg4.out.trans (by (try show Gr _ _); repeat (with_reducible first | exact Gr.refl _ | refine Gr.drewN ?_ _ | refine Gr.grew ?_ _ _ | refine Gr.alloc ?_ _ | refine Gr.drew ?_))))⟩
              case round =>
                obtain ⟨t, s', rfl, ht, hs', hp, ⟨hq', hjs⟩, ⟨ho, hu, hQ⟩, hg, hzz⟩ := hrel
                by_cases htl : t < 4
                · obtain ⟨bb, hbb⟩ : ∃ bb, bb = (gHas W H (besU x t) (besV y t) && gHang (xs.getD (x + W * y) 0) (xs.getD (besU x t + W * besV y t).toNat 0) N) := ⟨_, rfl⟩
                  have eS : gBesAdd xs W H N (S0.length : Int) x y s (t + 1) = gPut bb (S0.length : Int) (besU x t + W * besV y t) s' := by rw [hbb, hs']; rfl
                  have h3 : bb = false ∨ (∃ jn : Nat, jn < n ∧ besU x t + W * besV y t = (jn : Int) ∧ bb = true ∧ ¬ s'.1.getD jn 0 < 0) ∨ (∃ jn : Nat, jn < n ∧ besU x t + W * besV y t = (jn : Int) ∧ bb = true ∧ s'.1.getD jn 0 < 0) := by
                    cases bb
                    · exact .inl rfl
                    · obtain ⟨b0, b1⟩ := bes_in (W := W) (H := H) (u := besU x t) (v := besV y t) (by have := hbb.symm; simp at this; exact this.1)
                      obtain ⟨jn, hjn⟩ := Int.eq_ofNat_of_zero_le b0
                      have hjl : jn < n := by have := HK.out; omega
                      by_cases hd : s'.1.getD jn 0 < 0
                      · exact .inr (.inr ⟨jn, hjl, hjn, rfl, hd⟩)
                      · exact .inr (.inl ⟨jn, hjl, hjn, rfl, hd⟩)
                  have MM := Lib.hid (M1.out.gr hg)
                  have hj6 : j ≤ 576 := by have := hp.sum; omega
                  have d1w := hg.cell C0.out
                  have ZG2 : w.heap.size ≤ g0 := (ho.block (k := g0) rfl).1
                  have ZQ := hzz
                  rcases h3 with rfl | ⟨jn, hjn, hju, rfl, hd⟩ | ⟨jn, hjn, hju, rfl, hd⟩
                  · rw [gPut_no] at eS
                    have ES := Lib.hid eS
                    have TB := Lib.hid hbb.symm
                    have HP4 := Lib.hid hp
                    have HC4 := Lib.hid hq'
                    have Ho4 := Lib.hid ho
                    have Hu4 := Lib.hid hu
                    have HQ4 := Lib.hid hQ
                    have Hg5 := Lib.hid hg
                    clear eS hbb hp hq' ho hu hQ hg hs'
                    rcases (show t = 0 ∨ t = 1 ∨ t = 2 ∨ t = 3 by omega) with rfl | rfl | rfl | rfl
                    all_goals
                      go_wp2_with fail
                      first | rw [run_pair0] | rw [run_pair1] | rw [run_pair2] | rw [run_pair3]
                      go_upto_region 15 with fail
                      apply region_drew 10
                      case hm => kernel_rfl
                      case hB => kernel_rfl
                      simp only [List.take_succ_cons, List.take_zero, List.drop_succ_cons, List.drop_zero]
                      repeat (first
                        | (apply wpSoft_skip rfl; simp only [Act.put, List.setIfInBounds_toArray, List.set_cons_succ, List.set_cons_zero])
                        | (apply wpSoft_nilCheck rfl rfl; simp only [Act.put, List.setIfInBounds_toArray, List.set_cons_succ, List.set_cons_zero])
                        | ((with_reducible apply wpSoft_fop); (case hw => rfl); (case hD => exact closed_drew); (case hop => rfl); (case hx => rfl); (case hy => rfl); (case hA => (first | assumption | exact FE.ofInt _ _ | exact FE.lit (by decide +kernel))); (case hB => (first | assumption | exact FE.ofInt _ _ | exact FE.lit (by decide +kernel))); (intro r hr; simp only [Act.put, List.setIfInBounds_toArray, List.set_cons_succ, List.set_cons_zero]))

                        | ((with_reducible apply wpSoft_widen); (case hw => rfl); (case hD => exact closed_drew); (case hs => exact Try.underlying25); (case hd => exact Try.underlying61); (case hx => rfl); (case hA => (first | assumption | exact FE.ofInt _ _ | exact FE.lit (by decide +kernel))); (intro r hr; simp only [Act.put, List.setIfInBounds_toArray, List.set_cons_succ, List.set_cons_zero]))
                        | ((with_reducible apply wpSoft_fneg); (case hw => rfl); (case hx => rfl); (case hA => (first | assumption | exact FE.ofInt _ _ | exact FE.lit (by decide +kernel))); (intro r hr; simp only [Act.put, List.setIfInBounds_toArray, List.set_cons_succ, List.set_cons_zero]))
                        | ((with_reducible apply wpSoft_fcmp); (case hw => rfl); (case hop => rfl); (case hx => rfl); (case hy => rfl); (case hA => (first | assumption | exact FE.ofInt _ _ | exact FE.lit (by decide +kernel))); (case hB => (first | assumption | exact FE.ofInt _ _ | exact FE.lit (by decide +kernel))); (case hb => (first | assumption | rfl)); simp only [Act.put, List.setIfInBounds_toArray, List.set_cons_succ, List.set_cons_zero])
                        | (apply wpSoft_q rfl rfl; intro K hK; go_big_quiet_op; go_big_quiet_on))
                      with_reducible apply wpSoft_nil
                      intro m
                      go_wp2_with (first
      | (go_at_call 81; refine (I_hang W H x y _ _ b ca near N _ xs _ (MM.out.gr (by repeat (with_reducible first | assumption | exact Gr.refl _ | refine Gr.alloc ?_ _ | refine Gr.drewN ?_ _))) hW hH hxW' hyH' Hl.out hnear).mono ?_; rintro e w' ⟨he, n4, rfl⟩; obtain rfl := he.trans (congrArg (fun b => Ending.returned (.bool b)) TB.out)))
                      go_roundw
                      case rel => exact ⟨_, s', by first | exact (show _ = Value.int .i64 ((1 : Nat) : Int) by go_num) | exact (show _ = Value.int .i64 ((2 : Nat) : Int) by go_num) | exact (show _ = Value.int .i64 ((3 : Nat) : Int) by go_num) | exact (show _ = Value.int .i64 ((4 : Nat) : Int) by go_num), by omega, ES.out.symm, HP4.out, ⟨HC4.out, hjs⟩, ⟨Ho4.out.gr (by (try show Gr _ _); repeat (with_reducible first | exact Gr.refl _ | refine Gr.drewN ?_ _ | refine Gr.grew ?_ _ _ | refine Gr.alloc ?_ _ | refine Gr.drew ?_)), Hu4.out.gr (by (try show Gr _ _); repeat (with_reducible first | exact Gr.refl _ | refine Gr.drewN ?_ _ | refine Gr.grew ?_ _ _ | refine Gr.alloc ?_ _ | refine Gr.drew ?_)), HQ4.out.gr (by (try show Gr _ _); repeat (with_reducible first | exact Gr.refl _ | refine Gr.drewN ?_ _ | refine Gr.grew ?_ _ _ | refine Gr.alloc ?_ _ | refine Gr.drew ?_))⟩, Hg5.out.trans (by (try show Gr _ _); repeat (with_reducible first | exact Gr.refl _ | refine Gr.drewN ?_ _ | refine Gr.grew ?_ _ _ | refine Gr.alloc ?_ _ | refine Gr.drew ?_)), Nat.le_trans ZQ (Gr.size (by repeat (with_reducible first | assumption | exact Gr.refl _ | refine Gr.alloc ?_ _ | refine Gr.drewN ?_ _)))⟩
                      case measure => simp [intOf]
                  · rw [gPut_had (by rw [hju, Int.toNat_natCast]; exact hd)] at eS
                    have q1 := ho.get jn (by rw [hp.len]; exact hjn)
                    obtain ⟨dj, hdj⟩ : ∃ dj, dj = s'.1.getD jn 0 := ⟨_, rfl⟩
                    rw [← hdj] at q1 hd
                    obtain ⟨dn, rfl⟩ := Int.eq_ofNat_of_zero_le (show 0 ≤ dj by omega)
                    have ES := Lib.hid eS
                    have TB := Lib.hid hbb.symm
                    have HP4 := Lib.hid hp
                    have HC4 := Lib.hid hq'
                    have Ho4 := Lib.hid ho
                    have Hu4 := Lib.hid hu
                    have HQ4 := Lib.hid hQ
                    have Hg5 := Lib.hid hg
                    clear eS hbb hp hq' ho hu hQ hg hs' hdj hd
                    rcases (show t = 0 ∨ t = 1 ∨ t = 2 ∨ t = 3 by omega) with rfl | rfl | rfl | rfl
                    all_goals
                      first | (replace hju : (x : Int) + (W : Int) * ((y : Int) - 1) = (jn : Int) := hju; rw [hju] at s0) | (replace hju : (x : Int) + (W : Int) * ((y : Int) + 1) = (jn : Int) := hju; rw [hju] at s1) | (replace hju : (x : Int) - 1 + (W : Int) * (y : Int) = (jn : Int) := hju; rw [hju] at s2) | (replace hju : (x : Int) + 1 + (W : Int) * (y : Int) = (jn : Int) := hju; rw [hju] at s3)
                      go_wp2_with fail
                      first | rw [run_pair0] | rw [run_pair1] | rw [run_pair2] | rw [run_pair3]
                      go_upto_region 15 with fail
                      apply region_drew 10
                      case hm => kernel_rfl
                      case hB => kernel_rfl
                      simp only [List.take_succ_cons, List.take_zero, List.drop_succ_cons, List.drop_zero]
                      repeat (first
                        | (apply wpSoft_skip rfl; simp only [Act.put, List.setIfInBounds_toArray, List.set_cons_succ, List.set_cons_zero])
                        | (apply wpSoft_nilCheck rfl rfl; simp only [Act.put, List.setIfInBounds_toArray, List.set_cons_succ, List.set_cons_zero])
                        | ((with_reducible apply wpSoft_fop); (case hw => rfl); (case hD => exact closed_drew); (case hop => rfl); (case hx => rfl); (case hy => rfl); (case hA => (first | assumption | exact FE.ofInt _ _ | exact FE.lit (by decide +kernel))); (case hB => (first | assumption | exact FE.ofInt _ _ | exact FE.lit (by decide +kernel))); (intro r hr; simp only [Act.put, List.setIfInBounds_toArray, List.set_cons_succ, List.set_cons_zero]))

                        | ((with_reducible apply wpSoft_widen); (case hw => rfl); (case hD => exact closed_drew); (case hs => exact Try.underlying25); (case hd => exact Try.underlying61); (case hx => rfl); (case hA => (first | assumption | exact FE.ofInt _ _ | exact FE.lit (by decide +kernel))); (intro r hr; simp only [Act.put, List.setIfInBounds_toArray, List.set_cons_succ, List.set_cons_zero]))
                        | ((with_reducible apply wpSoft_fneg); (case hw => rfl); (case hx => rfl); (case hA => (first | assumption | exact FE.ofInt _ _ | exact FE.lit (by decide +kernel))); (intro r hr; simp only [Act.put, List.setIfInBounds_toArray, List.set_cons_succ, List.set_cons_zero]))
                        | ((with_reducible apply wpSoft_fcmp); (case hw => rfl); (case hop => rfl); (case hx => rfl); (case hy => rfl); (case hA => (first | assumption | exact FE.ofInt _ _ | exact FE.lit (by decide +kernel))); (case hB => (first | assumption | exact FE.ofInt _ _ | exact FE.lit (by decide +kernel))); (case hb => (first | assumption | rfl)); simp only [Act.put, List.setIfInBounds_toArray, List.set_cons_succ, List.set_cons_zero])
                        | (apply wpSoft_q rfl rfl; intro K hK; go_big_quiet_op; go_big_quiet_on))
                      with_reducible apply wpSoft_nil
                      intro m
                      go_wp2_with (first
      | (go_at_call 81; refine (I_hang W H x y _ _ b ca near N _ xs _ (MM.out.gr (by repeat (with_reducible first | assumption | exact Gr.refl _ | refine Gr.alloc ?_ _ | refine Gr.drewN ?_ _))) hW hH hxW' hyH' Hl.out hnear).mono ?_; rintro e w' ⟨he, n4, rfl⟩; obtain rfl := he.trans (congrArg (fun b => Ending.returned (.bool b)) TB.out)))
                      go_roundw
                      case rel => exact ⟨_, s', by first | exact (show _ = Value.int .i64 ((1 : Nat) : Int) by go_num) | exact (show _ = Value.int .i64 ((2 : Nat) : Int) by go_num) | exact (show _ = Value.int .i64 ((3 : Nat) : Int) by go_num) | exact (show _ = Value.int .i64 ((4 : Nat) : Int) by go_num), by omega, ES.out.symm, HP4.out, ⟨HC4.out, hjs⟩, ⟨Ho4.out.gr (by (try show Gr _ _); repeat (with_reducible first | exact Gr.refl _ | refine Gr.drewN ?_ _ | refine Gr.grew ?_ _ _ | refine Gr.alloc ?_ _ | refine Gr.drew ?_)), Hu4.out.gr (by (try show Gr _ _); repeat (with_reducible first | exact Gr.refl _ | refine Gr.drewN ?_ _ | refine Gr.grew ?_ _ _ | refine Gr.alloc ?_ _ | refine Gr.drew ?_)), HQ4.out.gr (by (try show Gr _ _); repeat (with_reducible first | exact Gr.refl _ | refine Gr.drewN ?_ _ | refine Gr.grew ?_ _ _ | refine Gr.alloc ?_ _ | refine Gr.drew ?_))⟩, Hg5.out.trans (by (try show Gr _ _); repeat (with_reducible first | exact Gr.refl _ | refine Gr.drewN ?_ _ | refine Gr.grew ?_ _ _ | refine Gr.alloc ?_ _ | refine Gr.drew ?_)), Nat.le_trans ZQ (Gr.size (by repeat (with_reducible first | assumption | exact Gr.refl _ | refine Gr.alloc ?_ _ | refine Gr.drewN ?_ _)))⟩
                      case measure => simp [intOf]
                  · have hjd : s'.1.getD (besU x t + W * besV y t).toNat 0 < 0 := by rw [hju, Int.toNat_natCast]; exact hd
                    rw [gPut_yes hjd, hju, Int.toNat_natCast] at eS
                    have q1 := ho.get jn (by rw [hp.len]; exact hjn)
                    have z1 := ho.free jn
                    have su := hu.get S0.length (by simp)
                    rw [show (S0 ++ [(s'.2.length : Int)]).getD S0.length 0 = (s'.2.length : Int) by simp] at su
                    have zs := hu.free S0.length
                    have hpush := hp.push (num := (S0.length : Int)) (j := (jn : Int)) (by omega) (by omega) (by omega) (by rw [Int.toNat_natCast]; exact hd)
                    rw [Int.toNat_natCast] at hpush
                    obtain ⟨dj, hdj⟩ : ∃ dj, dj = s'.1.getD jn 0 := ⟨_, rfl⟩
                    rw [← hdj] at q1 hd
                    have hsl : s'.2.length ≤ 576 := by have := hp.sum; omega
                    have hgg : g0 < gs := by omega
                    obtain ⟨kq, hkq, hkq0, hkq1⟩ := hQ.block
                    have ES := Lib.hid eS
                    have TB := Lib.hid hbb.symm
                    have HP4 := Lib.hid hpush
                    have HC4 := Lib.hid hq'
                    have Ho4 := Lib.hid ho
                    have Hu4 := Lib.hid hu
                    have HQ4 := Lib.hid hQ
                    have HK4 := Lib.hid hkq
                    have Hg5 := Lib.hid hg
                    have hdl : (s'.2.drop j).length ≤ 1048576 := by simp; omega
                    clear eS hbb hp hq' ho hu hQ hg hs' hdj hpush hjd hkq
                    rcases (show t = 0 ∨ t = 1 ∨ t = 2 ∨ t = 3 by omega) with rfl | rfl | rfl | rfl
                    all_goals
                      first | (replace hju : (x : Int) + (W : Int) * ((y : Int) - 1) = (jn : Int) := hju; rw [hju] at s0) | (replace hju : (x : Int) + (W : Int) * ((y : Int) + 1) = (jn : Int) := hju; rw [hju] at s1) | (replace hju : (x : Int) - 1 + (W : Int) * (y : Int) = (jn : Int) := hju; rw [hju] at s2) | (replace hju : (x : Int) + 1 + (W : Int) * (y : Int) = (jn : Int) := hju; rw [hju] at s3)
                      go_wp2_with fail
                      first | rw [run_pair0] | rw [run_pair1] | rw [run_pair2] | rw [run_pair3]
                      go_upto_region 15 with fail
                      apply region_drew 10
                      case hm => kernel_rfl
                      case hB => kernel_rfl
                      simp only [List.take_succ_cons, List.take_zero, List.drop_succ_cons, List.drop_zero]
                      repeat (first
                        | (apply wpSoft_skip rfl; simp only [Act.put, List.setIfInBounds_toArray, List.set_cons_succ, List.set_cons_zero])
                        | (apply wpSoft_nilCheck rfl rfl; simp only [Act.put, List.setIfInBounds_toArray, List.set_cons_succ, List.set_cons_zero])
                        | ((with_reducible apply wpSoft_fop); (case hw => rfl); (case hD => exact closed_drew); (case hop => rfl); (case hx => rfl); (case hy => rfl); (case hA => (first | assumption | exact FE.ofInt _ _ | exact FE.lit (by decide +kernel))); (case hB => (first | assumption | exact FE.ofInt _ _ | exact FE.lit (by decide +kernel))); (intro r hr; simp only [Act.put, List.setIfInBounds_toArray, List.set_cons_succ, List.set_cons_zero]))

                        | ((with_reducible apply wpSoft_widen); (case hw => rfl); (case hD => exact closed_drew); (case hs => exact Try.underlying25); (case hd => exact Try.underlying61); (case hx => rfl); (case hA => (first | assumption | exact FE.ofInt _ _ | exact FE.lit (by decide +kernel))); (intro r hr; simp only [Act.put, List.setIfInBounds_toArray, List.set_cons_succ, List.set_cons_zero]))
                        | ((with_reducible apply wpSoft_fneg); (case hw => rfl); (case hx => rfl); (case hA => (first | assumption | exact FE.ofInt _ _ | exact FE.lit (by decide +kernel))); (intro r hr; simp only [Act.put, List.setIfInBounds_toArray, List.set_cons_succ, List.set_cons_zero]))
                        | ((with_reducible apply wpSoft_fcmp); (case hw => rfl); (case hop => rfl); (case hx => rfl); (case hy => rfl); (case hA => (first | assumption | exact FE.ofInt _ _ | exact FE.lit (by decide +kernel))); (case hB => (first | assumption | exact FE.ofInt _ _ | exact FE.lit (by decide +kernel))); (case hb => (first | assumption | rfl)); simp only [Act.put, List.setIfInBounds_toArray, List.set_cons_succ, List.set_cons_zero])
                        | (apply wpSoft_q rfl rfl; intro K hK; go_big_quiet_op; go_big_quiet_on))
                      with_reducible apply wpSoft_nil
                      intro m
                      go_wp2_with (first
      | (go_at_call 81; refine (I_hang W H x y _ _ b ca near N _ xs _ (MM.out.gr (by repeat (with_reducible first | assumption | exact Gr.refl _ | refine Gr.alloc ?_ _ | refine Gr.drewN ?_ _))) hW hH hxW' hyH' Hl.out hnear).mono ?_; rintro e w' ⟨he, n4, rfl⟩; obtain rfl := he.trans (congrArg (fun b => Ending.returned (.bool b)) TB.out))
      | (apply wpList_append_q (hgd := rfl) (ho := rfl) (i := j0) (ht := Try.underlying27) (hi := ji) (hz := jz0) (hsize := jz1) (hby := jz2); (case hown => exact (QOwn.setOther (p := ⟨gs, S0.length, none⟩) (QOwn.setOther (p := ⟨g0, jn, none⟩) (HQ4.out.gr ((Gr.refl _).alloc _)) (.int .i64 (S0.length : Int)) (QOwn.notBlk HQ4.out (Nat.lt_trans hgg ZS))) (.int .i64 ((s'.2.length : Int) + 1)) (QOwn.notBlk HQ4.out ZS)).gr (((Gr.refl _).drewN _).alloc _)); (case hs => rfl); (case hx => rfl); (case hcell => exact (Blk.atNew (by simp <;> omega)).cellv 0 rfl); (case hn => exact hdl); (case hB => exact Nat.le_trans ZQ (by simp [World.setCell] <;> omega)); intro v3 w3 ho3 hg3; have G3 := Lib.hid (Gr.grownBy (((Gr.setCell (Gr.setCell (Hg5.out.alloc _) ZG2 _) (Nat.le_trans ZG2 (Nat.le_of_lt hgg)) _).drewN _).alloc _) hg3 (fun q hq => by have h1 := HK4.out.symm.trans hq; injection h1; omega)); have HO5 := Lib.hid (IOwn.grown ((IOwn.setOther (p := ⟨gs, S0.length, none⟩) ((Ho4.out.gr ((Gr.refl _).alloc _)).store jn (S0.length : Int)) (.int .i64 ((s'.2.length : Int) + 1)) (fun hq => by simp [Value.ownBlock] at hq; omega)).gr (((Gr.refl _).drewN _).alloc _)) hg3 (.inr (fun hq => by have h1 := hq.trans HK4.out; simp [Value.ownBlock] at h1; omega))); have HU5 := Lib.hid (IOwn.grown (((IOwn.setOther (p := ⟨g0, jn, none⟩) (Hu4.out.gr ((Gr.refl _).alloc _)) (.int .i64 (S0.length : Int)) (IOwn.notBlk Hu4.out ZG)).store S0.length ((s'.2.length : Int) + 1)).gr (((Gr.refl _).drewN _).alloc _)) hg3 (.inr (fun hq => by have h1 := hq.trans HK4.out; simp [Value.ownBlock] at h1; omega))); have HQ5 := Lib.hid ho3; have ZZ5 := Nat.le_trans ZQ (Nat.le_trans (by simp [World.setCell] <;> omega) hg3.size); clear hg3 ho3))
                      go_roundw
                      case rel => exact ⟨_, (s'.1.set jn (S0.length : Int), s'.2 ++ [(jn : Int)]), by first | exact (show _ = Value.int .i64 ((1 : Nat) : Int) by go_num) | exact (show _ = Value.int .i64 ((2 : Nat) : Int) by go_num) | exact (show _ = Value.int .i64 ((3 : Nat) : Int) by go_num) | exact (show _ = Value.int .i64 ((4 : Nat) : Int) by go_num), by omega, ES.out.symm, HP4.out, ⟨by rw [List.getD_eq_getElem?_getD, List.getElem?_append_left hjs, ← List.getD_eq_getElem?_getD]; exact HC4.out, by simp; omega⟩, ⟨HO5.out, by have h := HU5.out; rw [List.set_append_right _ _ (Nat.le_refl _), Nat.sub_self] at h; simpa using h, by have h := HQ5.out; rw [← List.drop_append_of_le_length (Nat.le_of_lt hjs)] at h; exact h⟩, G3.out, ZZ5⟩
                      case measure => simp [intOf]
                · obtain rfl : t = 4 := by omega
                  rw [GB.out, HQE.out] at hs'
                  have HR2 := Lib.hid (show gFlood (gHg xs N) (gNb W H) (S0.length : Int) f (j + 1) s' = R by rw [hs']; exact HR1.out)
                  rw [List.drop_eq_getElem_cons hjs] at hQ
                  obtain ⟨gq2, oq2, cq2, rfl, hgq2, -, hcap2, hcm2, -⟩ := hQ.head
                  have HP4 := Lib.hid hp
                  have Ho4 := Lib.hid ho
                  have Hu4 := Lib.hid hu
                  have HQ4 := Lib.hid hQ
                  have Hg5 := Lib.hid hg
                  clear hs' hp ho hu hQ hg
                  have hln2 : (s'.2.drop (j + 1)).length ≤ n := by have := HP4.out.sum; simp; omega
                  generalize hls2 : (s'.2.drop (j + 1)).length = ln2 at *
                  have HL2 := Lib.hid hls2
                  clear hls2
                  go_wp2
                  all_goals
                    go_roundg f
                    case measure => omega
                    case rel =>
                      have h4 := HP4.out.sum
                      refine ⟨j + 1, s', hjs, HR2.out, by omega, HP4.out, ⟨Ho4.out, Hu4.out, ?_⟩, Hg5.out, hzz⟩
                      have h := HQ4.out
                      obtain rfl := HL2.out
                      first | exact QOwn.tail h (fun _ => rfl) | (have hz0 : cq2 = 0 := (by omega); subst hz0; exact QOwn.tail h (fun k => absurd k (by decide)))
        · have E1 := Lib.hid (show gPats W H N xs (k + 1) = (O0, S0) by
            unfold gPats at hP ⊢
            rw [gPat]; simp only; rw [← hP, if_pos (.inr hh)])
          clear hd hP
          go_wp2_with (first
      | (go_at_call 79; with_reducible refine (I_isHole _ _ _ hx).mono ?_; rintro e w' ⟨rfl, n1, rfl⟩; rw [hh]))
          go_roundw
          case rel => exact ⟨k + 1, by omega, by go_num, by rw [E1.out]; exact ⟨Ho.out.gr (by (try show Gr _ _); repeat (with_reducible first | exact Gr.refl _ | refine Gr.drewN ?_ _ | refine Gr.grew ?_ _ _ | refine Gr.alloc ?_ _ | refine Gr.drew ?_)), Hu.out.gr (by (try show Gr _ _); repeat (with_reducible first | exact Gr.refl _ | refine Gr.drewN ?_ _ | refine Gr.grew ?_ _ _ | refine Gr.alloc ?_ _ | refine Gr.drew ?_))⟩, Hg.out.trans (by (try show Gr _ _); repeat (with_reducible first | exact Gr.refl _ | refine Gr.drewN ?_ _ | refine Gr.grew ?_ _ _ | refine Gr.alloc ?_ _ | refine Gr.drew ?_)), by first | exact hz | (simp; omega)⟩
          case measure => simp [intOf]; omega
    · obtain rfl : k = n := by omega
      obtain ⟨ua, uc, rfl⟩ := own_form hu
      have Ho := Lib.hid ho
      have Hu := Lib.hid hu
      have Hg := Lib.hid hg
      clear ho hu hg
      go_wp2
      refine bodyPost_ret (v := .tuple #[.slice (some ⟨g0, 0, none⟩) k k0, .slice ua (gPats W H N xs k).2.length uc]) (by simp [results, Try.results43, go_sem]) rfl ⟨⟨_, _, w1.heap.size, rfl, ZW, hz, ?_, ?_⟩, Hg.out⟩
      · rw [← HK.out]; exact ⟨Ho.out, fun j hj => by simp [Value.ownBlock] at hj; omega⟩
      · rw [← HK.out]; exact Hu.out.fin
end Go.Proofs.Ytomlfdkcgaogcaa
