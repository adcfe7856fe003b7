import Derived.Test.YthjjfkeacobikaaGreatTaAllG5
import Derived.Test.YthjjfkeacobikaaGreatTaAllG3
import Derived.Deep.DeepCutAuto
set_option linter.unusedVariables false
set_option linter.unusedSimpArgs false
namespace Go.Proofs.YthjjfkeacobikaaGreat
set_option maxRecDepth 100000
open Go.RowKit
theorem mix_snoc {c : Nat} {p r : List Int} {j : Nat} (h : j < r.length) : (mixR c p r).take j ++ [r[j]?.getD 0 * p[c]?.getD 0 - r[c]?.getD 0 * p[j]?.getD 0] = (mixR c p r).take (j + 1) := by
 rw [take_snoc (by rw [mixR_len]; exact h), mixR_at h]
set_option maxHeartbeats 8000000 in
theorem s_l16Rank {w : World} {base : Nat} {a : Option Addr} {N cap n : Nat} {vs0 : List Value} {M : List (List Int)} (h : Mat w base a N cap vs0 M) (hg : Good n 1 M) (h1 : 1 ≤ n) (h5 : n ≤ 5) (hN : N ≤ 1048576) (hb : base ≤ w.heap.size) :
 Calls Tryz.prog 241 #[.slice a N cap, .int .i64 (n : Int)] w fun e w' => e = .returned (.int .i64 ((runM mixR M n).2 : Int)) ∧ Below base w w' := by
 have hcapN := h.cap.1
 have hcapM := h.cap.2
 have HM0 := Lib.hid h
 have HG := Lib.hid hg
 have HLM := Lib.hid h.len
 clear h hg
 go_enter Tryz.func241, Tryz.ntmps241
 go_wp2_with fail
 go_loopg [5, 6] n (fun gk rk jj wr => ∃ (c d : Nat) (vs : List Value) (K : List (List Int)), Hid (gk + c = n) ∧ jj = .int .i64 (c : Int) ∧ rk = .int .i64 (d : Int) ∧ Hid (runM mixR M c = (K, d)) ∧ Hid (Mat wr base a N cap vs K) ∧ Hid (Below base w wr))
 case atStart => exact ⟨0, 0, vs0, M, Lib.hid (by omega), rfl, rfl, Lib.hid rfl, HM0, Lib.hid (Below.refl _ _)⟩
 case round =>
  obtain ⟨g1, h_g1⟩ : ∃ x, x = gk := ⟨_, rfl⟩
  subst h_g1
  obtain ⟨wr1, h_wr1⟩ : ∃ x, x = wr := ⟨_, rfl⟩
  subst h_wr1
  obtain ⟨c, d, vs, K, HK, rfl, rfl, HR, HM, HB⟩ := hrel
  by_cases hlt : c < n
  ·have hok := runM_ok tame_S HG.out c (by omega)
   rw [HR.out] at hok
   obtain ⟨hdc, hKl, hdN, hgd⟩ := hok
   simp only at hdc hKl hdN hgd
   have HGD := Lib.hid hgd
   have HKL := Lib.hid (show K.length = N by rw [hKl, HLM.out])
   rw [HLM.out] at hdN
   obtain ⟨P, hP⟩ : ∃ P, P = pivM K c d := ⟨_, rfl⟩
   have HP := Lib.hid hP
   have hpb := pivM_bd K c (d := d) (by rw [HKL.out]; exact hdN)
   rw [← hP, HKL.out] at hpb
   obtain ⟨hdP, hPN⟩ := hpb
   have hszw := HB.out.size
   clear hKl hgd hP
   go_wp2_with fail
   go_loop [7] (fun at7 => ∃ k : Nat, at7 = .int .i64 (k : Int) ∧ Hid (d ≤ k) ∧ Hid (k ≤ P)) (fun at7 => P - (intOf at7).toNat)
   case atStart => exact ⟨d, rfl, Lib.hid (Nat.le_refl _), Lib.hid hdP⟩
   case round =>
    obtain ⟨k, rfl, HDK, HKP⟩ := hrel
    have hdk := HDK.out
    have hkp := HKP.out
    by_cases hkP : k < P
    ·have hkN : k < N := by omega
     obtain ⟨G, rfl, _, _, _⟩ := HM.out.outer (by omega)
     obtain ⟨g, gc, hvs, hcell, hown, hne, _, _, _, _⟩ := HM.out.row hkN (HGD.out k (by rw [HKL.out]; exact hkN)).1 h1
     obtain ⟨b, off, he, hc0⟩ := hown.ints.at hlt
     simp only [Option.some.injEq, Addr.mk.injEq, and_true] at he
     obtain ⟨rfl, rfl⟩ := he
     rw [Nat.zero_add, pivM_zero (by rw [HKL.out]; exact hdN) hdk (by rw [← HP.out]; exact hkP)] at hc0
     clear hvs hown hne
     go_wp2_with fail
     go_round
     case rel => exact ⟨k + 1, by go_num, Lib.hid (by omega), Lib.hid (by omega)⟩
     case measure => simp [intOf]; omega
    ·have hkP' : k = P := by omega
     subst hkP'
     by_cases hkN : k < N
     ·obtain ⟨G, rfl, hbG, hGl, hfz⟩ := HM.out.outer (by omega)
      have hf1 := hfz k
      have hf2 := hfz d
      clear hfz
      have hps := pivM_some (M := K) (c := c) (d := d) (by rw [← HP.out, HKL.out]; exact hkN)
      rw [← HP.out] at hps
      obtain ⟨gp, cp, hvp, hcp, hop, hnp, hbp, hgpl, hncp, hcpm⟩ := HM.out.row hkN (HGD.out k (by rw [HKL.out]; exact hkN)).1 h1
      obtain ⟨gd, cd, hvd, hcd, hod, hnd, hbd, hgdl, hncd, hcdm⟩ := HM.out.row (show d < N by omega) (HGD.out d (by rw [HKL.out]; omega)).1 h1
      obtain ⟨b, off, he, hc0⟩ := hop.ints.at hlt
      simp only [Option.some.injEq, Addr.mk.injEq, and_true] at he
      obtain ⟨rfl, rfl⟩ := he
      rw [Nat.zero_add] at hc0
      obtain ⟨pc, hpc⟩ : ∃ x, x = (K[k]?.getD [])[c]?.getD 0 := ⟨_, rfl⟩
      rw [← hpc] at hc0 hps
      have hpc0 : pc ≠ 0 := hps.2.1
      have hpcb : (pc == 0) = false := by simpa using hpc0
      have hsw := HM.out.swap hkN (show d < N by omega)
      rw [hvp, hvd] at hsw
      obtain ⟨M1, hM1⟩ : ∃ M1, M1 = swp K k d := ⟨_, rfl⟩
      obtain ⟨vs1, hvs1⟩ : ∃ v, v = swpV vs k d := ⟨_, rfl⟩
      have HVP := Lib.hid (show vs1[d]?.getD undef = .slice (some ⟨gp, 0, none⟩) n cp by rw [hvs1, swpV_at (by rw [HM.out.vlen]; exact hkN) (by rw [HM.out.vlen]; omega), if_pos rfl, hvp])
      have HG1 := Lib.hid (show Good n (bdM d) M1 by rw [hM1]; exact good_swp HGD.out (by rw [HKL.out]; exact hkN) (by rw [HKL.out]; omega))
      have HL1 := Lib.hid (show M1.length = N by rw [hM1, swp_len, HKL.out])
      have HRUN := Lib.hid (show runM mixR M (c + 1) = (redM mixR c M1 d N, d + 1) by
       show colM mixR c (runM mixR M c) = _
       rw [HR.out]
       unfold colM
       simp only
       rw [← HP.out, HKL.out, if_pos hkN, hM1, swp_comm K (a := k) (b := d) (by rw [HKL.out]; exact hkN) (by rw [HKL.out]; omega)])
      rw [← hM1, ← hvs1] at hsw
      have HSW := Lib.hid hsw
      have hdN' : d < N := by omega
      have HB2 := Lib.hid ((HB.out.setCell (p := ⟨G, k, none⟩) hbG (.slice (some ⟨gd, 0, none⟩) n cd)).setCell (p := ⟨G, d, none⟩) hbG (.slice (some ⟨gp, 0, none⟩) n cp))
      clear hsw hps hop hod hpc hvp hvd hM1 hvs1
      by_cases hkd : d = k
      case' pos =>
       subst hkd
       have hsame := hcp.symm.trans hcd
       simp only [Option.some.injEq, Value.slice.injEq, Addr.mk.injEq, and_true, true_and] at hsame
       obtain ⟨rfl, rfl⟩ := hsame
       clear hcd
      case' neg => have hkd' : ¬ k = d := fun e => hkd e.symm
      all_goals
       go_wp2_with fail
       clear hcp
       try clear hcd
       have HBase := Lib.hid hbG
       go_loopg [9] (N - (d + 1)) (fun g3 i wr3 => ∃ (t : Nat) (vs3 : List Value), Hid (g3 + t = N) ∧ i = .int .i64 (t : Int) ∧ Hid (d < t) ∧ Hid (Mat wr3 base (some ⟨G, 0, none⟩) N cap vs3 (redM mixR c M1 d t)) ∧ Hid (Below base w wr3) ∧ Hid (vs3[d]?.getD undef = .slice (some ⟨gp, 0, none⟩) n cp))
       case atStart => exact ⟨d + 1, vs1, Lib.hid (by omega), by go_num, Lib.hid (by omega), Lib.hid (by rw [redM_start]; exact HSW.out), HB2, HVP⟩
       case round =>
        obtain ⟨g3, h_g3⟩ : ∃ x, x = gk := ⟨_, rfl⟩
        subst h_g3
        obtain ⟨wr3, h_wr3⟩ : ∃ x, x = wr := ⟨_, rfl⟩
        subst h_wr3
        obtain ⟨t, vs3, HT, rfl, HDT, HM3, HB3, HV3⟩ := hrel
        by_cases htN : t < N
        ·have hdt := HDT.out
         have HGR := Lib.hid (show Good n (bdM (d + 1)) (redM mixR c M1 d t) from good_red HG1.out (bdM_le d (by omega)).2.2 (by rw [HL1.out]; exact hdN') fun p r hpl hrl h5 h6 => tame_S _ n c p r (bdM_le d (by omega)).1 hpl hrl h5 h6)
         have HRL := Lib.hid (show (redM mixR c M1 d t).length = N by rw [redM_len, HL1.out])
         obtain ⟨G', hG', _, hGl3, hfz⟩ := HM3.out.outer (by omega)
         simp only [Option.some.injEq, Addr.mk.injEq, and_true] at hG'
         subst hG'
         have hft := hfz t
         clear hfz
         obtain ⟨gt, ct, hvt, hct, hot, hnt, _, _, hnct, hctm⟩ := HM3.out.row htN (HGR.out t (by rw [HRL.out]; exact htN)).1 h1
         obtain ⟨gp', cp', hvp, hcp3, hop, hnp3, _, _, _, _⟩ := HM3.out.row hdN' (HGR.out d (by rw [HRL.out]; exact hdN')).1 h1
         have hsame := HV3.out.symm.trans hvp
         simp only [Value.slice.injEq, Option.some.injEq, Addr.mk.injEq, and_true, true_and] at hsame
         obtain ⟨rfl, rfl⟩ := hsame
         rw [redM_lo _ _ _ _ _ _ (by rw [HL1.out]; exact htN) (by omega)] at hot
         rw [redM_lo _ _ _ _ _ _ (by rw [HL1.out]; exact hdN') (by omega)] at hop
         obtain ⟨r, hr⟩ : ∃ r, r = M1[t]?.getD [] := ⟨_, rfl⟩
         obtain ⟨p, hp⟩ : ∃ p, p = M1[d]?.getD [] := ⟨_, rfl⟩
         rw [← hr] at hot
         rw [← hp] at hop
         have HBR := Lib.hid (HG1.out t (by rw [HL1.out]; exact htN))
         have HBP := Lib.hid (HG1.out d (by rw [HL1.out]; exact hdN'))
         rw [← hr] at HBR
         rw [← hp] at HBP
         have HOT := Lib.hid hot
         have HOP := Lib.hid hop
         have HRR := Lib.hid hr
         have HPP := Lib.hid hp
         obtain ⟨b, off, he, hc0⟩ := hot.ints.at hlt
         simp only [Option.some.injEq, Addr.mk.injEq, and_true] at he
         obtain ⟨rfl, rfl⟩ := he
         rw [Nat.zero_add] at hc0
         obtain ⟨b, off, he, hpc0⟩ := hop.ints.at hlt
         simp only [Option.some.injEq, Addr.mk.injEq, and_true] at he
         obtain ⟨rfl, rfl⟩ := he
         rw [Nat.zero_add] at hpc0
         obtain ⟨rc, hrc⟩ : ∃ x, x = r[c]?.getD 0 := ⟨_, rfl⟩
         obtain ⟨pc, hpc⟩ : ∃ x, x = p[c]?.getD 0 := ⟨_, rfl⟩
         rw [← hrc] at hc0
         rw [← hpc] at hpc0
         have HRC := Lib.hid hrc
         have HPC := Lib.hid hpc
         have HO := Lib.hid (OwnI.madeS wr3 wr3.heap.size _ rfl (Nat.le_refl _))
         clear hvt hvp hot hop hr hp hrc hpc
         go_wp2_with fail
         go_loopg [11, 12] n (fun g4 nx kk wr4 => ∃ (j : Nat) (a1 : Option Addr) (n1 p1 : Nat), Hid (g4 + j = n) ∧ kk = .int .i64 (j : Int) ∧ nx = .slice a1 n1 p1 ∧ Hid (OwnI wr4 wr3.heap.size (.slice a1 n1 p1) ((mixR c p r).take j)) ∧ Hid (Ext wr3 wr4))
         case atStart => exact ⟨0, _, _, _, Lib.hid (by omega), rfl, rfl, HO, Lib.hid (Ext.alloc _ _)⟩
         case round =>
          obtain ⟨g4, h_g4⟩ : ∃ x, x = gk := ⟨_, rfl⟩
          subst h_g4
          obtain ⟨wr4, h_wr4⟩ : ∃ x, x = wr := ⟨_, rfl⟩
          subst h_wr4
          obtain ⟨j, a1, n1, p1, HJ, rfl, rfl, HO4, HX4⟩ := hrel
          have hs4 := HX4.out.size
          by_cases hjn : j < n
          ·obtain ⟨b, off, he, hrj⟩ := HOT.out.ints.at hjn
           simp only [Option.some.injEq, Addr.mk.injEq, and_true] at he
           obtain ⟨rfl, rfl⟩ := he
           rw [Nat.zero_add] at hrj
           obtain ⟨b, off, he, hpj⟩ := HOP.out.ints.at hjn
           simp only [Option.some.injEq, Addr.mk.injEq, and_true] at he
           obtain ⟨rfl, rfl⟩ := he
           rw [Nat.zero_add] at hpj
           obtain ⟨rj, hrv⟩ : ∃ x, x = r[j]?.getD 0 := ⟨_, rfl⟩
           obtain ⟨pj, hpv⟩ : ∃ x, x = p[j]?.getD 0 := ⟨_, rfl⟩
           rw [← hrv] at hrj
           rw [← hpv] at hpj
           have hbb := bdM_le d (by omega)
           have hb1 := prod_bd (B := 32768) (x := rj) (y := pc) (by have := HBR.out.2 j; omega) (by have := HBR.out.2 j; omega) (by have := HBP.out.2 c; have := HPC.out; omega) (by have := HBP.out.2 c; have := HPC.out; omega)
           have hb2 := prod_bd (B := 32768) (x := pj) (y := rc) (by have := HBP.out.2 j; omega) (by have := HBP.out.2 j; omega) (by have := HBR.out.2 c; have := HRC.out; omega) (by have := HBR.out.2 c; have := HRC.out; omega)
           have hw1 : IntKind.i64.wrap (rj * pc) = rj * pc := by rw [IntKind.wrap_i64]; omega
           have hw2 : IntKind.i64.wrap (pj * rc) = pj * rc := by rw [IntKind.wrap_i64]; omega
           have hw3 : IntKind.i64.wrap (rj * pc - pj * rc) = rj * pc - pj * rc := by rw [IntKind.wrap_i64]; omega
           have HV := Lib.hid (show rj * pc - pj * rc = r[j]?.getD 0 * p[c]?.getD 0 - r[c]?.getD 0 * p[j]?.getD 0 by rw [← hrv, ← hpv, ← HPC.out, ← HRC.out, Int.mul_comm pj rc])
           have HLJ := Lib.hid (show ((mixR c p r).take j).length = j by rw [List.length_take, mixR_len, HBR.out.1]; omega)
           clear hrv hpv hb1 hb2 hbb
           have hk2 : Ext wr3 wr4.drew := HX4.out.trans (Ext.drew wr4)
           have hkA : Ext wr3 (wr4.alloc (.cells #[.int .i64 (rj * pc - pj * rc)] 3)).drew := (HX4.out.trans (Ext.alloc _ _)).trans (Ext.drew _)
           have HKEEP := Lib.hid (fun (w' : World) (h : Ext wr3 w') => (⟨h.cellSome hct, h.cellSome hrj, h.cellSome hpc0, h.cellSome hpj, h⟩ : w'.cell? ⟨G, t, none⟩ = some (.slice (some ⟨gt, 0, none⟩) n ct) ∧ w'.cell? ⟨gt, j, none⟩ = some (.int .i64 rj) ∧ w'.cell? ⟨gp, c, none⟩ = some (.int .i64 pc) ∧ w'.cell? ⟨gp, j, none⟩ = some (.int .i64 pj) ∧ Ext wr3 w'))
           go_wp2_with fail
           go_region_held3 (fun w' => w'.cell? ⟨G, t, none⟩ = some (.slice (some ⟨gt, 0, none⟩) n ct) ∧ w'.cell? ⟨gt, j, none⟩ = some (.int .i64 rj) ∧ w'.cell? ⟨gp, c, none⟩ = some (.int .i64 pc) ∧ w'.cell? ⟨gp, j, none⟩ = some (.int .i64 pj) ∧ Ext wr3 w')
            (first
              | with_reducible exact HKEEP.out _ hk2
              | with_reducible exact HKEEP.out _ hkA)
            (first
              | (refine step_of_wp _ (by rfl) ?_
                 refine wp_append_ints _ _ (by rfl) wr3.heap.size (.slice a1 n1 p1) _ (by rfl) ((HO4.out.ext (Ext.alloc wr4 _)).ext (Ext.drew _)) _ 1 _ [rj * pc - pj * rc] (by rfl) ((Ints.oneS wr4 _ _ _ rfl).ext (Ext.drew _)) (by rw [HLJ.out]; omega) (by simp; omega) ?_
                 intro v5 w5 ho hg hnear
                 obtain ⟨a5, n5, p5, rfl, HN5⟩ := ho.var
                 have HO5 := Lib.hid ho
                 have hk2 : Ext wr3 w5 := ext_grown hkA hg (fun j hj => (HO4.out.lt j hj).1)
                 clear ho hg hnear)
              | fail)
           have HK5 := Lib.hid hk2
           clear hk2 HKEEP
           go_wp2_with fail
           go_roundg (g4 - 1)
           case measure => have := HJ.out; omega
           case rel => exact ⟨j + 1, a5, n5, p5, Lib.hid (by have := HJ.out; omega), by go_num, rfl, Lib.hid (by rw [← mix_snoc (by rw [HBR.out.1]; exact hjn), ← HV.out]; exact HO5.out), HK5⟩
          ·have hjn' : j = n := by have := HJ.out; omega
           subst hjn'
           have HPUT := Lib.hid (HM3.out.put HX4.out (Nat.le_trans hb HB3.out.size) HO4.out htN)
           have HVT := Lib.hid (show (vs3.set t (.slice a1 n1 p1))[d]?.getD undef = .slice (some ⟨gp, 0, none⟩) j cp by rw [List.getElem?_set_ne (by omega)]; exact HV3.out)
           have HMX := Lib.hid (show (redM mixR c M1 d t).set t ((mixR c p r).take j) = redM mixR c M1 d (t + 1) by
            rw [List.take_of_length_le (by rw [mixR_len, HBR.out.1]; exact Nat.le_refl _), HRR.out, HPP.out]
            exact redM_step _ _ _ _ _ hdt (by rw [HL1.out]; exact htN))
           have HBE := Lib.hid ((HB3.out.trans (Below.mono HX4.out (Nat.le_trans hb HB3.out.size))).setCell (p := ⟨G, t, none⟩) HBase.out (.slice a1 n1 p1))
           have hct4 := HX4.out.cellSome hct
           have hft4 : wr4.frozen? ⟨G, t, none⟩ = false := (HX4.out.frozens _ _ hGl3).trans hft
           go_wp2_with fail
           go_roundg (g3 - 1)
           case measure => have := HT.out; omega
           case rel => exact ⟨t + 1, _, Lib.hid (by have := HT.out; omega), by go_num, Lib.hid (by omega), Lib.hid (by rw [← HMX.out]; exact HPUT.out), HBE, HVT⟩
        ·have htN' : t = N := by have := HT.out; omega
         subst htN'
         go_wp2_with fail
         go_roundg (g1 - 1)
         case measure => have := HK.out; omega
         case rel => exact ⟨c + 1, d + 1, vs3, _, Lib.hid (by have := HK.out; omega), by go_num, by go_num, HRUN, HM3, HB3⟩
     ·have HRUN := Lib.hid (show runM mixR M (c + 1) = (K, d) by
       show colM mixR c (runM mixR M c) = _
       rw [HR.out]
       unfold colM
       simp only
       rw [← HP.out, HKL.out, if_neg hkN])
      have hkN' : k = N := by omega
      subst hkN'
      go_wp2_with fail
      go_roundg (g1 - 1)
      case measure => have := HK.out; omega
      case rel => exact ⟨c + 1, d, vs, K, Lib.hid (by have := HK.out; omega), by go_num, rfl, HRUN, HM, HB⟩
  ·have hcn : c = n := by have := HK.out; omega
   subst hcn
   go_wp2_with fail
   go_ret
   exact ⟨ret_int (by rw [HR.out]), HB.out⟩
theorem OwnV.madeS (w : World) (base n : Nat) (hn : n = w.heap.size) (hb : base ≤ w.heap.size) : OwnV (w.alloc (.cells #[] 24)) base (.slice (some ⟨n, 0, none⟩) 0 0) [] := by
 subst hn; exact World.ownsRow_lit w #[] 0 hb (by omega) rfl
set_option maxHeartbeats 8000000 in
theorem s_RankOf {w : World} {n : Int} {a : Option Addr} {m cap : Nat} {l : List Int} (h : Ints w a m cap l) (hl : ∀ k : Nat, l[k]?.getD 0 ≤ 9223372036854775807) (hm : m ≤ 1048576) :
 Calls Tryz.prog 188 #[.int .i64 n, .slice a m cap] w fun e w' => e = .returned (.int .i64 (rankS n l)) ∧ Ext w w' := by
 have hcapN := h.hcap
 have hcapM := h.hmax
 have HL := Lib.hid h.hlen
 have HI := Lib.hid h
 have HLB := Lib.hid hl
 clear h hl
 cases hin : inB n 1 5
 ·have HN := Lib.hid (show rankS n l = 0 by unfold rankS; rw [hin]; rfl)
  have HW := Lib.hid (s_l1In n 1 5 w)
  rw [hin] at HW
  clear hin
  go_enter Tryz.func188, Tryz.ntmps188
  go_wp2_with fail
  refine HW.out.mono ?_
  rintro e w1 ⟨rfl, rfl⟩
  go_wp2_with fail
  go_ret
  exact ⟨ret_int HN.out.symm, Ext.refl _⟩
 ·obtain ⟨nn, rfl⟩ : ∃ k : Nat, n = k := ⟨n.toNat, by simp only [inB, Bool.and_eq_true, decide_eq_true_eq] at hin; omega⟩
  have h15 : 1 ≤ nn ∧ nn ≤ 5 := by simp only [inB, Bool.and_eq_true, decide_eq_true_eq] at hin; omega
  obtain ⟨h1, h5⟩ := h15
  have HN := Lib.hid (show rankS (nn : Int) l = ((runM mixR (l.map (digR nn)) nn).2 : Int) by unfold rankS; rw [if_pos hin]; rfl)
  have HW := Lib.hid (s_l1In nn 1 5 w)
  rw [hin] at HW
  have HO := Lib.hid (OwnV.madeS w w.heap.size _ rfl (Nat.le_refl _))
  clear hin
  go_enter Tryz.func188, Tryz.ntmps188
  go_wp2_with fail
  refine HW.out.mono ?_
  rintro e w1 ⟨rfl, rfl⟩
  go_wp2_with fail
  go_loopg [5, 6] m (fun gk out i wr => ∃ (k : Nat) (a1 : Option Addr) (n1 p1 : Nat) (vs : List Value), Hid (gk + k = m) ∧ i = .int .i64 (k : Int) ∧ out = .slice a1 n1 p1 ∧ Hid (OwnV wr w.heap.size (.slice a1 n1 p1) vs) ∧ Hid (RowsI wr w.heap.size vs ((l.take k).map (digR nn))) ∧ Hid (Ext w wr))
  case atStart => exact ⟨0, _, _, _, [], Lib.hid (by omega), rfl, rfl, HO, Lib.hid (RowsI.nil _ _), Lib.hid (Ext.alloc _ _)⟩
  case round =>
   obtain ⟨g1, h_g1⟩ : ∃ x, x = gk := ⟨_, rfl⟩
   subst h_g1
   obtain ⟨wr1, h_wr1⟩ : ∃ x, x = wr := ⟨_, rfl⟩
   subst h_wr1
   obtain ⟨k, a1, n1, p1, vs, HK, rfl, rfl, HV, HR, HX⟩ := hrel
   have hsz := HX.out.size
   by_cases hlt : k < m
   ·obtain ⟨b, off, ha, hs0⟩ := (HI.out.ext HX.out).at hlt
    subst ha
    obtain ⟨s, hs⟩ : ∃ s, s = l[k]?.getD 0 := ⟨_, rfl⟩
    rw [← hs] at hs0
    have HS := Lib.hid hs
    have hsb : s ≤ 9223372036854775807 := by rw [hs]; exact HLB.out k
    have HO2 := Lib.hid (OwnI.madeS wr1 wr1.heap.size _ rfl (Nat.le_refl _))
    have HLV := Lib.hid (show vs.length = k by rw [HR.out.len, List.length_map, List.length_take]; have := HL.out; omega)
    clear hs
    go_wp2_with fail
    go_loopg [7, 8] nn (fun gk row i wr => ∃ (j : Nat) (a2 : Option Addr) (n2 p2 : Nat), Hid (gk + j = nn) ∧ i = .int .i64 (j : Int) ∧ row = .slice a2 n2 p2 ∧ Hid (OwnI wr wr1.heap.size (.slice a2 n2 p2) (digR j s)) ∧ Hid (Ext wr1 wr))
    case atStart => exact ⟨0, _, _, _, Lib.hid (by omega), rfl, rfl, HO2, Lib.hid (Ext.alloc _ _)⟩
    case round =>
     obtain ⟨g2, h_g2⟩ : ∃ x, x = gk := ⟨_, rfl⟩
     subst h_g2
     obtain ⟨wr2, h_wr2⟩ : ∃ x, x = wr := ⟨_, rfl⟩
     subst h_wr2
     obtain ⟨j, a2, n2, p2, HJ, rfl, rfl, HO3, HX3⟩ := hrel
     have hsz3 := HX3.out.size
     by_cases hjn : j < nn
     ·have hs3 := HX3.out.cellSome hs0
      have HLJ := Lib.hid (digR_len j s)
      go_wp2_with (first
       | (go_at_call 79; refine (s_HasPlayer s (j : Int) _ hsb).mono ?_; rintro e w' ⟨rfl, rfl⟩)
       | (go_at_call 74; refine (s_l1Bit (hasP s (j : Int)) _).mono ?_; rintro e w' ⟨rfl, rfl⟩)
       | (at_builtin; refine append_ints rfl _ _ rfl wr1.heap.size (.slice a2 n2 p2) _ rfl (HO3.out.ext (Ext.alloc _ _)) _ 1 _ [bitI (hasP s (j : Int))] rfl (Ints.oneS _ _ _ _ (by simp)) (by rw [HLJ.out]; omega) (by simp; omega) ?_; intro v5 w5 ho hg hnear; obtain ⟨a5, n5, p5, rfl, HN5⟩ := ho.var; have HO5 := Lib.hid ho; have X5 := Lib.hid (ext_grown (HX3.out.trans (Ext.alloc _ _)) hg (fun j hj => (HO3.out.lt j hj).1)); clear ho hg hnear))
      go_roundg (g2 - 1)
      case measure => have := HJ.out; omega
      case rel => exact ⟨j + 1, a5, n5, p5, Lib.hid (by have := HJ.out; omega), by go_num, rfl, Lib.hid (by rw [← digR_snoc]; exact HO5.out), X5⟩
     ·have hjn' : j = nn := by have := HJ.out; omega
      subst hjn'
      go_wp2_with (first
       | (at_builtin; refine append_slice rfl _ _ rfl w.heap.size (.slice a1 n1 p1) vs rfl ((HV.out.ext HX3.out).ext (Ext.alloc _ _)) _ _ 1 rfl (by simp; rfl) rfl (by have := HLV.out; omega) (by simp; omega) ?_; intro v6 w6 ho hg hnear; obtain ⟨a6, n6, p6, rfl, HN6⟩ := ho.var; have HO6 := Lib.hid ho; have HR6 := Lib.hid (((HR.out.snoc HX3.out HO3.out hsz).ext (Ext.alloc _ _)).grownV ((HV.out.ext HX3.out).ext (Ext.alloc _ _)) hg); have X6 := Lib.hid (ext_grown ((HX.out.trans HX3.out).trans (Ext.alloc _ _)) hg (fun j hj => (HV.out.lt j hj).1)); clear ho hg hnear))
      go_roundg (g1 - 1)
      case measure => have := HK.out; omega
      case rel => exact ⟨k + 1, a6, n6, p6, _, Lib.hid (by have := HK.out; omega), by go_num, rfl, HO6, Lib.hid (by rw [take_snoc (by have := HL.out; omega), List.map_append, ← HS.out]; exact HR6.out), X6⟩
   ·have hkm : k = m := by have := HK.out; omega
    subst hkm
    have HT := Lib.hid (show l.take k = l from List.take_of_length_le (by rw [HL.out]; exact Nat.le_refl _))
    have HNL := Lib.hid (show n1 = k by rw [← HV.out.len, HR.out.len, HT.out, List.length_map, HL.out])
    have HM := Lib.hid (show Mat wr1 w.heap.size a1 n1 p1 vs (l.map (digR nn)) from ⟨HV.out, by have := HR.out; rw [HT.out] at this; exact this⟩)
    have HC := Lib.hid (s_l16Rank HM.out (good_dig nn l) h1 h5 (by rw [HNL.out]; exact hm) hsz)
    go_wp2_with fail
    refine HC.out.mono ?_
    rintro e w2 ⟨rfl, hb⟩
    have HB := Lib.hid (HX.out.trans_below hb)
    clear hb
    go_wp2_with fail
    go_ret
    exact ⟨ret_int HN.out.symm, HB.out⟩
end Go.Proofs.YthjjfkeacobikaaGreat
