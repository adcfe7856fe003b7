import Derived.Test.YtgohdmnbnhehnaaGreatFnAllG33
import Derived.Test.YtgohdmnbnhehnaaGreatFnAllG3
import Derived.StillTailTactics
import Derived.Test.YtgohdmnbnhehnaaGreatFnAllG15
import Derived.Test.YtgohdmnbnhehnaaGreatFnAllG20
import Derived.Test.YtgohdmnbnhehnaaGreatFnAllG29
import Derived.Test.YtgohdmnbnhehnaaGreatFnAllG10
import Derived.Test.YtgohdmnbnhehnaaGreatFnAllG17
import Derived.Test.YtgohdmnbnhehnaaGreatFnAllG18
import Derived.Test.YtgohdmnbnhehnaaGreatFnAllG14
namespace Go.Proofs.YtgohdmnbnhehnaaGreat
set_option linter.unusedVariables false
set_option linter.unusedSimpArgs false
set_option maxRecDepth 100000
open Go.RowKit
def AsksQ (P : Program) (w : World) (fid : FuncId) (ca : Array Value) (Q : List Int → Prop) (p : List Int → Bool) : Prop :=
 ∀ (l : List Int) (a : Option Addr) (n c : Nat) (w1 : World), Ext w w1 → Ints w1 a n c l → Q l → Calls P fid (#[.slice a n c] ++ ca) w1 fun e w2 => e = .returned (.bool (p l)) ∧ Ext w1 w2
set_option maxHeartbeats 400000 in
theorem indexFunc_intssQ {w : World} {a : Option Addr} {n cap : Nat} {L : List (List Int)} {fid : FuncId} {ca : Array Value} {Q : List Int → Prop} {p : List Int → Bool} (h : IntSS w a n cap L) (hg : IsGo Tryz.prog fid) (hf : AsksQ Tryz.prog w fid ca Q p) (hQ : ∀ k, k < n → Q (L[k]?.getD [])) :
 Calls Tryz.prog 114 #[.slice a n cap, .func (.func fid) #[] ca] w fun e w' => e = .returned (.int .i64 (indexF p L)) ∧ Ext w w' := by
 have hn := h.hcap
 have hm := h.hmax
 have HQ := Lib.hid hQ
 clear hQ
 have hcf : ∀ (args : Array Value) (w : World), (callFunc fid args).run Tryz.prog w = .ok (.enter fid args) w := hg
 go_enter Tryz.func114, Tryz.ntmps114
 go_wp2
 go_loopw [8] (fun i wr => ∃ k : Nat, k ≤ n ∧ i = .int .i64 k ∧ Hid ((L.take k).all (fun x => !p x) = true) ∧ Ext w wr) (fun i _ => n - (intOf i).toNat)
 case atStart => exact ⟨0, Nat.zero_le _, rfl, Lib.hid rfl, Ext.refl _⟩
 case round =>
  obtain ⟨k, hk, rfl, HA, hx⟩ := hrel
  by_cases hlt : k < n
  ·obtain ⟨b, off, a', n', c', rfl, hc, hr⟩ := (h.ext hx).at hlt
   have HL := Lib.hid h.hlen
   have HF := Lib.hid (hf (L[k]?.getD []) a' n' c' wr hx hr (HQ.out k hlt))
   clear hr
   by_cases hb : p (L[k]?.getD []) = true
   ·have HB := Lib.hid hb
    go_wp2_with fail
    refine HF.out.mono ?_
    rintro e w2 ⟨rfl, hx2⟩
    go_wp2
    go_ret
    exact ⟨ret_int (indexF_at (by have := HL.out; omega) HA.out HB.out).symm, hx.trans (by assumption)⟩
   ·have HB := Lib.hid hb
    simp only [Bool.not_eq_true] at hb
    go_wp2_with fail
    refine HF.out.mono ?_
    rintro e w2 ⟨rfl, hx2⟩
    go_wp2
    go_roundw
    case rel => exact ⟨k + 1, by omega, by go_num, Lib.hid (by rw [takeL_snoc (by have := HL.out; omega), List.all_append, HA.out]; simpa using HB.out), hx.trans (by assumption)⟩
    case measure => simp [intOf]; omega
  ·have HL := Lib.hid h.hlen
   go_wp2
   go_ret
   refine ⟨ret_int ?_, hx⟩
   have := HA.out
   rw [List.take_of_length_le (by have := HL.out; omega)] at this
   exact (indexF_none this).symm
theorem i_RankOf1 {w : World} {bc c n cap : Nat} {a : Option Addr} {l : List Int} (hb : w.cell? ⟨bc, 0, none⟩ = some (.int .i64 (c : Int))) (h : Ints w a n cap l) (hc : c < n) :
 Calls Tryz.prog 115 #[.slice a n cap, .pointer (some ⟨bc, 0, none⟩)] w fun e w' => e = .returned (.bool (l[c]?.getD 0 != 0)) ∧ w = w' := by
 obtain ⟨b, off, rfl, hcc⟩ := h.at hc
 have hmax := h.hmax
 have hcap := h.hcap
 clear h
 go_enter Tryz.func115, Tryz.ntmps115
 go_wp2
 go_ret
 exact ⟨rfl, rfl⟩
theorem go_RankOf1 : IsGo Tryz.prog 115 := isGo Tryz.func115 (by kernel_rfl) (by kernel_rfl)
theorem asks_RankOf1 {w : World} {bc c n : Nat} (hb : w.cell? ⟨bc, 0, none⟩ = some (.int .i64 (c : Int))) (hc : c < n) :
 AsksQ Tryz.prog w 115 #[.pointer (some ⟨bc, 0, none⟩)] (fun l => l.length = n) (fun r => r[c]?.getD 0 != 0) := by
 intro l a m cp w1 hx hi hq
 have hm : m = n := by rw [← hi.hlen]; exact hq
 exact (i_RankOf1 (hx.cellSome hb) hi (by omega)).mono fun e w2 ⟨he, hw⟩ => ⟨he, hw ▸ Ext.refl _⟩
theorem idx_piv {M : List (List Int)} {c d : Nat} (hd : d ≤ M.length) : indexF (fun r : List Int => r[c]?.getD 0 != 0) (M.drop d) = if pivM M c d < M.length then ((pivM M c d - d : Nat) : Int) else -1 := by
 unfold indexF pivM
 cases hf : (M.drop d).findIdx? (fun r => r[c]?.getD 0 != 0) with
 | none => simp
 | some k =>
   rw [List.findIdx?_eq_some_iff_getElem] at hf
   obtain ⟨h1, _⟩ := hf
   rw [List.length_drop] at h1
   simp only
   rw [if_pos (by omega)]
   congr 1
   omega
theorem gcd_bd {B : Int} : ∀ (l : List Int) (g : Int), 0 ≤ g → g ≤ B → (∀ x ∈ l, -B ≤ x ∧ x ≤ B) → 0 ≤ l.foldl gI g ∧ l.foldl gI g ≤ B
 | [], g, h0, h1, _ => ⟨h0, h1⟩
 | x :: l, g, h0, h1, h => by
   have hx := h x (by simp)
   have h2 : gI g x ≤ B := by
    by_cases hz : x = 0
    ·subst hz; rw [gI_zero]; omega
    ·have := gI_le g hz; omega
   exact gcd_bd l (gI g x) (gI_nonneg g x) h2 fun y hy => h y (by simp [hy])
theorem digR_bit (n : Nat) (s : Int) {b : Bool} (h : hasP s (n : Int) = b) : digR n s ++ [bitI b] = digR (n + 1) s := by rw [← h]; exact digR_snoc n s
set_option maxHeartbeats 16000000 in
theorem i_RankOf {w : World} {n : Int} {a : Option Addr} {m cap : Nat} {l : List Int} (h : Ints w a m cap l) (hl : ∀ k : Nat, l[k]?.getD 0 ≤ 9223372036854775807) (hm : m ≤ 1048576) :
 Calls Tryz.prog 46 #[.int .i64 n, .slice a m cap] w fun e w' => e = .returned (.int .i64 (rankI n l)) ∧ Ext w w' := by
 have hcapN := h.hcap
 have hcapM := h.hmax
 have HL := Lib.hid h.hlen
 have HI := Lib.hid h
 have HLB := Lib.hid hl
 clear h hl
 cases hin : inB n 1 5
 ·have HN := Lib.hid (show rankI n l = 0 by unfold rankI; rw [hin]; rfl)
  have HW := Lib.hid (i_within n 1 5 w)
  rw [hin] at HW
  clear hin
  go_enter Tryz.func46, Tryz.ntmps46
  go_wp2_with fail
  refine HW.out.mono ?_
  rintro e w1 ⟨rfl, rfl⟩
  go_wp2_with fail
  go_ret
  exact ⟨ret_int HN.out.symm, Ext.refl _⟩
 ·obtain ⟨nn, rfl⟩ : ∃ k : Nat, n = k := ⟨n.toNat, by simp only [inB, Bool.and_eq_true, decide_eq_true_eq] at hin; omega⟩
  have h15 : 1 ≤ nn ∧ nn ≤ 5 := by simp only [inB, Bool.and_eq_true, decide_eq_true_eq] at hin; omega
  obtain ⟨h1, h5⟩ := h15
  have HN := Lib.hid (show rankI (nn : Int) l = ((runM elimI (l.map (digR nn)) nn).2 : Int) by unfold rankI; rw [if_pos hin]; rfl)
  have HW := Lib.hid (i_within nn 1 5 w)
  rw [hin] at HW
  have HO := Lib.hid (OwnV.madeS w w.heap.size _ rfl (Nat.le_refl _))
  clear hin
  go_enter Tryz.func46, Tryz.ntmps46
  go_wp2_with fail
  refine HW.out.mono ?_
  rintro e w1 ⟨rfl, rfl⟩
  go_wp2_with fail
  go_loopg [5, 27] m (fun gk out i wr => ∃ (k G n1 p1 : Nat) (vs : List Value), Hid (gk + k = m) ∧ i = .int .i64 (k : Int) ∧ out = .slice (some ⟨G, 0, none⟩) n1 p1 ∧ Hid (OwnV wr w.heap.size (.slice (some ⟨G, 0, none⟩) n1 p1) vs) ∧ Hid (RowsI wr w.heap.size vs ((l.take k).map (digR nn))) ∧ Hid (Ext w wr) ∧ Hid (w.heap.size ≤ G))
  case atStart => exact ⟨0, _, _, _, [], Lib.hid (by omega), rfl, rfl, HO, Lib.hid (RowsI.nil _ _), Lib.hid (Ext.alloc _ _), Lib.hid (Nat.le_refl _)⟩
  case round =>
   obtain ⟨g1, h_g1⟩ : ∃ x, x = gk := ⟨_, rfl⟩
   subst h_g1
   obtain ⟨wr1, h_wr1⟩ : ∃ x, x = wr := ⟨_, rfl⟩
   subst h_wr1
   obtain ⟨k, G, n1, p1, vs, HK, rfl, rfl, HV, HR, HX, HGW⟩ := hrel
   have hsz := HX.out.size
   by_cases hlt : k < m
   ·obtain ⟨b, off, ha, hs0⟩ := (HI.out.ext HX.out).at hlt
    subst ha
    obtain ⟨s, hs⟩ : ∃ s, s = l[k]?.getD 0 := ⟨_, rfl⟩
    rw [← hs] at hs0
    have HS := Lib.hid hs
    have hsb : s ≤ 9223372036854775807 := by rw [hs]; exact HLB.out k
    have HO2 := Lib.hid (OwnI.madeS wr1 wr1.heap.size _ rfl (Nat.le_refl _))
    have HLV := Lib.hid (show vs.length = k by rw [HR.out.len, List.length_map, List.length_take]; have := HL.out; omega)
    clear hs
    go_wp2_with fail
    go_loopg [8, 33] nn (fun gk row i wr => ∃ (j : Nat) (a2 : Option Addr) (n2 p2 : Nat), Hid (gk + j = nn) ∧ i = .int .i64 (j : Int) ∧ row = .slice a2 n2 p2 ∧ Hid (OwnI wr wr1.heap.size (.slice a2 n2 p2) (digR j s)) ∧ Hid (Ext wr1 wr))
    case atStart => exact ⟨0, _, _, _, Lib.hid (by omega), rfl, rfl, HO2, Lib.hid (Ext.alloc _ _)⟩
    case round =>
     obtain ⟨g2, h_g2⟩ : ∃ x, x = gk := ⟨_, rfl⟩
     subst h_g2
     obtain ⟨wr2, h_wr2⟩ : ∃ x, x = wr := ⟨_, rfl⟩
     subst h_wr2
     obtain ⟨j, a2, n2, p2, HJ, rfl, rfl, HO3, HX3⟩ := hrel
     have hsz3 := HX3.out.size
     by_cases hjn : j < nn
     ·have HLJ := Lib.hid (digR_len j s)
      have HHP := Lib.hid (i_HasPlayer s (j : Int) wr2 hsb)
      cases hhp : hasP s (j : Int)
      all_goals
       rw [hhp] at HHP
       have HDS := Lib.hid (digR_bit j s hhp)
       clear hhp
       go_wp2_with fail
       refine HHP.out.mono ?_
       rintro e w' ⟨rfl, rfl⟩
      ·go_wp2_with (first
        | (at_builtin; refine append_ints rfl _ _ rfl wr1.heap.size (.slice a2 n2 p2) _ rfl (HO3.out.ext (Ext.alloc _ _)) _ 1 _ [0] rfl (Ints.oneS _ _ _ _ (by simp)) (by rw [HLJ.out]; omega) (by simp; omega) ?_; intro v5 w5 ho hg hnear; obtain ⟨a5, n5, p5, rfl, HN5⟩ := ho.var; have HO5 := Lib.hid ho; have X5 := Lib.hid (ext_grown (HX3.out.trans (Ext.alloc _ _)) hg (fun j hj => (HO3.out.lt j hj).1)); clear ho hg hnear))
       go_roundg (g2 - 1)
       case measure => have := HJ.out; omega
       case rel => exact ⟨j + 1, a5, n5, p5, Lib.hid (by have := HJ.out; omega), by go_num, rfl, Lib.hid (by rw [← HDS.out]; exact HO5.out), X5⟩
      ·go_wp2_with (first
        | (at_builtin; refine append_ints rfl _ _ rfl wr1.heap.size (.slice a2 n2 p2) _ rfl (HO3.out.ext (Ext.alloc _ _)) _ 1 _ [1] rfl (Ints.oneS _ _ _ _ (by simp)) (by rw [HLJ.out]; omega) (by simp; omega) ?_; intro v5 w5 ho hg hnear; obtain ⟨a5, n5, p5, rfl, HN5⟩ := ho.var; have HO5 := Lib.hid ho; have X5 := Lib.hid (ext_grown (HX3.out.trans (Ext.alloc _ _)) hg (fun j hj => (HO3.out.lt j hj).1)); clear ho hg hnear))
       go_roundg (g2 - 1)
       case measure => have := HJ.out; omega
       case rel => exact ⟨j + 1, a5, n5, p5, Lib.hid (by have := HJ.out; omega), by go_num, rfl, Lib.hid (by rw [← HDS.out]; exact HO5.out), X5⟩
     ·have hjn' : j = nn := by have := HJ.out; omega
      subst hjn'
      go_wp2_with (first
       | (at_builtin; refine append_slice rfl _ _ rfl w.heap.size (.slice (some ⟨G, 0, none⟩) n1 p1) vs rfl ((HV.out.ext HX3.out).ext (Ext.alloc _ _)) _ _ 1 rfl (by simp; rfl) rfl (by have := HLV.out; omega) (by simp; omega) ?_; intro v6 w6 ho hg hnear; obtain ⟨a6, n6, p6, rfl, HN6⟩ := ho.var; obtain ⟨G6, rfl, hG6, _⟩ := ho.cell (k := 0) (by rw [← ho.len]; simp); have HO6 := Lib.hid ho; have HR6 := Lib.hid (((HR.out.snoc HX3.out HO3.out hsz).ext (Ext.alloc _ _)).grownV ((HV.out.ext HX3.out).ext (Ext.alloc _ _)) hg); have X6 := Lib.hid (ext_grown ((HX.out.trans HX3.out).trans (Ext.alloc _ _)) hg (fun j hj => (HV.out.lt j hj).1)); have HG6 := Lib.hid hG6; clear ho hg hnear hG6))
      go_roundg (g1 - 1)
      case measure => have := HK.out; omega
      case rel => exact ⟨k + 1, G6, n6, p6, _, Lib.hid (by have := HK.out; omega), by go_num, rfl, HO6, Lib.hid (by rw [take_snoc (by have := HL.out; omega), List.map_append, ← HS.out]; exact HR6.out), X6, HG6⟩
   ·have hkm : k = m := by have := HK.out; omega
    subst hkm
    have HT := Lib.hid (show l.take k = l from List.take_of_length_le (by rw [HL.out]; exact Nat.le_refl _))
    have hn1 : n1 = k := by rw [← HV.out.len, HR.out.len, HT.out, List.length_map, HL.out]
    subst hn1
    have HM0 := Lib.hid (show Mat wr1 w.heap.size (some ⟨G, 0, none⟩) n1 p1 vs (l.map (digR nn)) from ⟨HV.out, by have := HR.out; rw [HT.out] at this; exact this⟩)
    obtain ⟨M, hM⟩ : ∃ M, M = l.map (digR nn) := ⟨_, rfl⟩
    have HGD0 := Lib.hid (show Good nn 1 M by rw [hM]; exact good_dig nn l)
    rw [← hM] at HM0 HN
    have HLM := Lib.hid HM0.out.len
    have hcp1 := HM0.out.cap.1
    have hcp2 := HM0.out.cap.2
    have hGW := HGW.out
    clear hM
    go_wp2_with fail
    go_loopg [11, 50] nn (fun gk dn cc wr => ∃ (c d : Nat) (vs : List Value) (K : List (List Int)), Hid (gk + c = nn) ∧ cc = .int .i64 (c : Int) ∧ dn = .int .i64 (d : Int) ∧ Hid (runM elimI M c = (K, d)) ∧ Hid (Mat wr w.heap.size (some ⟨G, 0, none⟩) n1 p1 vs K) ∧ Hid (Ext w wr))
    case atStart => exact ⟨0, 0, vs, M, Lib.hid (by omega), rfl, rfl, Lib.hid rfl, HM0, HX⟩
    case round =>
     obtain ⟨g3, h_g3⟩ : ∃ x, x = gk := ⟨_, rfl⟩
     subst h_g3
     obtain ⟨wr3, h_wr3⟩ : ∃ x, x = wr := ⟨_, rfl⟩
     subst h_wr3
     obtain ⟨c, d, vs, K, HK3, rfl, rfl, HRun, HM, HX3⟩ := hrel
     by_cases hcn : c < nn
     ·have hok := runM_ok tame_I HGD0.out c (by omega)
      rw [HRun.out] at hok
      obtain ⟨hdc, hKl, hdN, hgd⟩ := hok
      simp only at hdc hKl hdN hgd
      have HGD := Lib.hid hgd
      have HKL := Lib.hid (show K.length = n1 by rw [hKl, HLM.out])
      rw [HLM.out] at hdN
      obtain ⟨P, hP⟩ : ∃ P, P = pivM K c d := ⟨_, rfl⟩
      have HP := Lib.hid hP
      have hpb := pivM_bd K c (d := d) (by rw [HKL.out]; exact hdN)
      rw [← hP, HKL.out] at hpb
      obtain ⟨hdP, hPN⟩ := hpb
      have hszw := HX3.out.size
      have hbcell : (wr3.alloc (.cells #[.int .i64 (c : Int)] 3)).cell? ⟨wr3.heap.size, 0, none⟩ = some (.int .i64 (c : Int)) := by simp
      have HIDX := Lib.hid (indexFunc_intssQ ((HM.out.ext (Ext.alloc wr3 (.cells #[.int .i64 (c : Int)] 3))).intss.dropIf hdN) go_RankOf1 (asks_RankOf1 hbcell hcn) (by
       intro k hk
       rw [List.getElem?_drop]
       exact (HGD.out (d + k) (by rw [HKL.out]; omega)).1))
      rw [idx_piv (by rw [HKL.out]; exact hdN), ← hP, HKL.out] at HIDX
      clear hKl hgd hP
      by_cases hPlt : P < n1
      ·rw [if_pos hPlt] at HIDX
       obtain ⟨q, hq⟩ : ∃ q, q = P - d := ⟨_, rfl⟩
       rw [← hq] at HIDX
       have HQ := Lib.hid (show P = d + q by omega)
       clear hq
       have hdN' : d < n1 := by omega
       rw [if_neg (show ¬ p1 = d by omega)] at HIDX
       go_wp2_with fail
       (with_reducible refine HIDX.out.mono ?_)
       rintro e w5 ⟨rfl, hx5⟩
       have HX5 := Lib.hid hx5
       have HM5 := Lib.hid ((HM.out.ext (Ext.alloc wr3 (.cells #[.int .i64 (c : Int)] 3))).ext hx5)
       have HBX := Lib.hid (show w5.heap[wr3.heap.size]? = some (.cells #[.int .i64 (c : Int)] 3 (0, 0)) from (hx5.block _ (by simp)).trans (heap_alloc_new wr3 _))
       have hX5w := (HX3.out.trans (Ext.alloc _ _)).trans hx5
       have HXW := Lib.hid hX5w
       have hs5 := hx5.size
       rw [World.size_alloc] at hs5
       clear hx5 hX5w hbcell
       obtain ⟨gp, cp, hvp, hcp, hop, hnp, hbp, hgpl, hncp, hcpm⟩ := HM5.out.row hPlt (HGD.out P (by rw [HKL.out]; exact hPlt)).1 h1
       obtain ⟨gd, cd, hvd, hcd, hod, hnd, hbd, hgdl, hncd, hcdm⟩ := HM5.out.row hdN' (HGD.out d (by rw [HKL.out]; exact hdN')).1 h1
       obtain ⟨G', hG', hbG, hGl, hfz⟩ := HM5.out.outer (by omega)
       simp only [Option.some.injEq, Addr.mk.injEq, and_true] at hG'
       subst hG'
       have hf1 := hfz d
       have hf2 := hfz P
       have hps := pivM_some (M := K) (c := c) (d := d) (by rw [← HP.out, HKL.out]; exact hPlt)
       rw [← HP.out] at hps
       have hsw := HM5.out.swap hdN' hPlt
       rw [hvp, hvd] at hsw
       obtain ⟨M1, hM1⟩ : ∃ M1, M1 = swp K d P := ⟨_, rfl⟩
       obtain ⟨vs1, hvs1⟩ : ∃ v, v = swpV vs d P := ⟨_, rfl⟩
       have HG1 := Lib.hid (show Good nn (bdM d) M1 by rw [hM1]; exact good_swp HGD.out (by rw [HKL.out]; exact hdN') (by rw [HKL.out]; exact hPlt))
       have HL1 := Lib.hid (show M1.length = n1 by rw [hM1, swp_len, HKL.out])
       have HRUN := Lib.hid (show runM elimI M (c + 1) = (redM elimI c M1 d n1, d + 1) by
        show colM elimI c (runM elimI M c) = _
        rw [HRun.out]
        unfold colM
        simp only
        rw [← HP.out, HKL.out, if_pos hPlt, hM1])
       have HVD := Lib.hid (show vs1[d]?.getD undef = .slice (some ⟨gp, 0, none⟩) nn cp by
        rw [hvs1, swpV_at (by rw [HM.out.vlen]; exact hdN') (by rw [HM.out.vlen]; exact hPlt)]
        split
        ·next e => rw [hvd, ← hvp, ← e, hvd]
        ·rw [if_pos rfl, hvp])
       have HROWS := Lib.hid (show ∀ i, i < n1 → ∃ g c', vs1[i]?.getD undef = .slice (some ⟨g, 0, none⟩) nn c' ∧ g < wr3.heap.size ∧ g ≠ G by
        intro i hi
        rw [hvs1, swpV_at (by rw [HM.out.vlen]; exact hdN') (by rw [HM.out.vlen]; exact hPlt)]
        have key : ∀ i, i < n1 → ∃ g c', vs[i]?.getD undef = .slice (some ⟨g, 0, none⟩) nn c' ∧ g < wr3.heap.size ∧ g ≠ G := fun i hi => by
         obtain ⟨g, c', k1, _, _, k2, _, k3, _⟩ := HM.out.row hi (HGD.out i (by rw [HKL.out]; exact hi)).1 h1
         exact ⟨g, c', k1, k3, k2⟩
        split
        ·exact key d hdN'
        ·split
         ·exact key _ hPlt
         ·exact key i hi)
       rw [← hM1, ← hvs1] at hsw
       have HSW := Lib.hid hsw
       have HGs := Lib.hid (show G < wr3.heap.size by obtain ⟨G', hG', _, h3, _⟩ := HM.out.outer (by omega); simp only [Option.some.injEq, Addr.mk.injEq, and_true] at hG'; omega)
       have hw1 : IntKind.i64.wrap ((d : Int) + (q : Int)) = (P : Int) := by have := HQ.out; rw [IntKind.wrap_i64]; omega
       have hw3 : (d : Int) + (q : Int) = (P : Int) := by have := HQ.out; omega
       have hw4 : IntKind.i64.wrap (P : Int) = (P : Int) := by rw [IntKind.wrap_i64]; omega
       clear hsw hps hop hod hvp hvd hM1 hvs1 hfz hbp hbd
       by_cases hq0 : P = d
       case' pos =>
        have hq00 : q = 0 := by have := HQ.out; omega
        have hq1 := hq0.symm
        subst hq1
        subst hq00
        have hsame := hcp.symm.trans hcd
        simp only [Option.some.injEq, Value.slice.injEq, Addr.mk.injEq, and_true, true_and] at hsame
        obtain ⟨rfl, rfl⟩ := hsame
        clear hcd hf2 hw1 hw3
        go_wp2_with fail
        refine late_begin (M := [17, 19]) (S := (fun w' => w'.cell? ⟨G, d, none⟩ = some (.slice (some ⟨gp, 0, none⟩) nn cp) ∧ True)) (by kernel_rfl) ?_
        have hHeld := (show (fun w' : World => w'.cell? ⟨G, d, none⟩ = some (.slice (some ⟨gp, 0, none⟩) nn cp) ∧ True) w5.drew from ⟨hcp, trivial⟩)
        refine lp 0 ?_
        refine lp 1 ?_
        refine lp 2 ?_
        refine lp 3 ?_
        refine lp 4 ?_
        refine lp 5 ?_
        refine lp 6 ?_
        refine lp 7 ?_
        refine lp 8 ?_
        refine lp 9 ?_
        refine lp 10 ?_
        refine ll 11 ?_
        refine lp 12 ?_
        refine lp 13 ?_
        refine lp 14 ?_
        refine ll 15 ?_
        refine lp 16 ?_
        refine late_one (i := 17) (oi := ?_) (w' := ?_) ?_ ?_ ?_ ?_ ?_ ?_ ?_
        rotate_left 2
        ·simp only [gA, gB, gC]; rfl
        ·kernel_rfl
        ·kernel_rfl
        ·exact of_decide_eq_true (by kernel_rfl)
        ·rfl
        ·go_simp; (try with_reducible rfl)
        try simp only [Act.put, sA, sB, sC]
        refine late_after (i := 18) (oi := ?_) (v := ?_) ?_ ?_ ?_ ?_ ?_ ?_ ?_ ?_ ?_
        rotate_left 2
        ·simp only [gA, gB, gC]; rfl
        ·kernel_rfl
        ·kernel_rfl
        ·kernel_rfl
        ·kernel_rfl
        ·exact fun _ _ _ h => h
        ·refine Or.inl ⟨by rfl, ?_⟩; intro w hSw; (try dsimp only at hSw); go_simp; (try with_reducible rfl)
        ·kernel_rfl
        try simp only [Act.put, sA, sB, sC]
        refine late_one (i := 19) (oi := ?_) (w' := ?_) ?_ ?_ ?_ ?_ ?_ ?_ ?_
        rotate_left 2
        ·simp only [gA, gB, gC]; rfl
        ·kernel_rfl
        ·kernel_rfl
        ·exact of_decide_eq_true (by kernel_rfl)
        ·rfl
        ·go_simp; (try with_reducible rfl)
        try simp only [Act.put, sA, sB, sC]
        refine late_done (by kernel_rfl) ?_ _
       case' neg =>
        have hne2 : ¬ d = P := fun e => hq0 e.symm
        go_wp2_with fail
        refine late_begin (M := [17, 19]) (S := (fun w' => w'.cell? ⟨G, P, none⟩ = some (.slice (some ⟨gp, 0, none⟩) nn cp) ∧ w'.cell? ⟨G, d, none⟩ = some (.slice (some ⟨gd, 0, none⟩) nn cd))) (by kernel_rfl) ?_
        have hHeld := (show (fun w' : World => w'.cell? ⟨G, P, none⟩ = some (.slice (some ⟨gp, 0, none⟩) nn cp) ∧ w'.cell? ⟨G, d, none⟩ = some (.slice (some ⟨gd, 0, none⟩) nn cd)) w5.drew from ⟨hcp, hcd⟩)
        refine lp 0 ?_
        refine lp 1 ?_
        refine lp 2 ?_
        refine lp 3 ?_
        refine lp 4 ?_
        refine lp 5 ?_
        refine lp 6 ?_
        refine lp 7 ?_
        refine lp 8 ?_
        refine lp 9 ?_
        refine lp 10 ?_
        refine ll 11 ?_
        refine lp 12 ?_
        refine lp 13 ?_
        refine lp 14 ?_
        refine ll 15 ?_
        refine lp 16 ?_
        refine late_one (i := 17) (oi := ?_) (w' := ?_) ?_ ?_ ?_ ?_ ?_ ?_ ?_
        rotate_left 2
        ·simp only [gA, gB, gC]; rfl
        ·kernel_rfl
        ·kernel_rfl
        ·exact of_decide_eq_true (by kernel_rfl)
        ·rfl
        ·go_simp; (try with_reducible rfl)
        try simp only [Act.put, sA, sB, sC]
        refine late_after (i := 18) (oi := ?_) (v := ?_) ?_ ?_ ?_ ?_ ?_ ?_ ?_ ?_ ?_
        rotate_left 2
        ·simp only [gA, gB, gC]; rfl
        ·kernel_rfl
        ·kernel_rfl
        ·kernel_rfl
        ·kernel_rfl
        ·exact fun _ _ _ h => h
        ·refine Or.inl ⟨by rfl, ?_⟩; intro w hSw; (try dsimp only at hSw); go_simp; (try with_reducible rfl)
        ·kernel_rfl
        try simp only [Act.put, sA, sB, sC]
        refine late_one (i := 19) (oi := ?_) (w' := ?_) ?_ ?_ ?_ ?_ ?_ ?_ ?_
        rotate_left 2
        ·simp only [gA, gB, gC]; rfl
        ·kernel_rfl
        ·kernel_rfl
        ·exact of_decide_eq_true (by kernel_rfl)
        ·rfl
        ·go_simp; (try with_reducible rfl)
        try simp only [Act.put, sA, sB, sC]
        refine late_done (by kernel_rfl) ?_ _
       all_goals
        clear hcp hf1 hGl hw4
        try clear hcd
        try clear hf2
        try clear hw1 hw3
        try clear hHeld
       case' pos =>
        obtain ⟨w6, hw6⟩ : ∃ W, W = ((w5.setCell ⟨G, d, none⟩ (.slice (some ⟨gp, 0, none⟩) nn cp)).setCell ⟨G, d, none⟩ (.slice (some ⟨gp, 0, none⟩) nn cp)).drew := ⟨_, rfl⟩
        rw [← hw6]
        have HM6 := Lib.hid (show Mat w6 w.heap.size (some ⟨G, 0, none⟩) n1 p1 vs1 M1 by rw [hw6]; exact HSW.out.ext (Ext.drew _))
        have HX6 := Lib.hid (show Ext w w6 by rw [hw6]; exact Ext.trans ((HXW.out.setCell (p := ⟨G, d, none⟩) hGW _).setCell (p := ⟨G, d, none⟩) hGW _) (Ext.drew _))
        have HB6 := Lib.hid (show w6.heap[wr3.heap.size]? = some (.cells #[.int .i64 (c : Int)] 3 (0, 0)) by
         rw [hw6]
         have hne : wr3.heap.size ≠ G := by have := HGs.out; omega
         show ((w5.setCell ⟨G, d, none⟩ (.slice (some ⟨gp, 0, none⟩) nn cp)).setCell ⟨G, d, none⟩ (.slice (some ⟨gp, 0, none⟩) nn cp)).heap[wr3.heap.size]? = _
         rw [heap_setCell_other _ _ _ _ hne, heap_setCell_other _ _ _ _ hne]; exact HBX.out)
        clear hw6
       case' neg =>
        obtain ⟨w6, hw6⟩ : ∃ W, W = ((w5.setCell ⟨G, d, none⟩ (.slice (some ⟨gp, 0, none⟩) nn cp)).setCell ⟨G, P, none⟩ (.slice (some ⟨gd, 0, none⟩) nn cd)).drew := ⟨_, rfl⟩
        rw [← hw6]
        have HM6 := Lib.hid (show Mat w6 w.heap.size (some ⟨G, 0, none⟩) n1 p1 vs1 M1 by rw [hw6]; exact HSW.out.ext (Ext.drew _))
        have HX6 := Lib.hid (show Ext w w6 by rw [hw6]; exact Ext.trans ((HXW.out.setCell (p := ⟨G, d, none⟩) hGW _).setCell (p := ⟨G, P, none⟩) hGW _) (Ext.drew _))
        have HB6 := Lib.hid (show w6.heap[wr3.heap.size]? = some (.cells #[.int .i64 (c : Int)] 3 (0, 0)) by
         rw [hw6]
         have hne : wr3.heap.size ≠ G := by have := HGs.out; omega
         show ((w5.setCell ⟨G, d, none⟩ (.slice (some ⟨gp, 0, none⟩) nn cp)).setCell ⟨G, P, none⟩ (.slice (some ⟨gd, 0, none⟩) nn cd)).heap[wr3.heap.size]? = _
         rw [heap_setCell_other _ _ _ _ hne, heap_setCell_other _ _ _ _ hne]; exact HBX.out)
        clear hw6
       all_goals
        clear HSW HM5 HBX
        obtain ⟨gp', cp', hvp, hcp6, hop, hnp, hbp, hgpl6, hncp', hcpm'⟩ := HM6.out.row hdN' (HG1.out d (by rw [HL1.out]; exact hdN')).1 h1
        have hsame := HVD.out.symm.trans hvp
        simp only [Value.slice.injEq, Option.some.injEq, Addr.mk.injEq, and_true, true_and] at hsame
        obtain ⟨rfl, rfl⟩ := hsame
        obtain ⟨A, hA, hA'⟩ : ∃ A : Option Addr, (if p1 = d + 1 then some (⟨G, 0, none⟩ : Addr) else some ⟨G, d + 1, none⟩) = A ∧ (d + 1 < n1 → A = some ⟨G, d + 1, none⟩) := ⟨_, rfl, fun h => by rw [if_neg (by omega)]⟩
        have HA' := Lib.hid hA'
        have hd1 : d + 1 ≤ n1 := by omega
        clear hvp hop hnp hbp hA'
        go_wp2_with fail
        have HBW := Lib.hid (show w.heap.size ≤ wr3.heap.size from hszw)
        clear hA
        go_loopg [88] (n1 - (d + 1)) (fun gk ii wr => ∃ t : Nat, Hid (gk + (d + 1 + t) = n1) ∧ ii = .int .i64 (t : Int) ∧ Hid (Mat wr w.heap.size (some ⟨G, 0, none⟩) n1 p1 vs1 (redM elimI c M1 d (d + 1 + t))) ∧ Hid (Ext w wr) ∧ Hid (wr.heap[wr3.heap.size]? = some (.cells #[.int .i64 (c : Int)] 3 (0, 0))))
        case atStart => exact ⟨0, Lib.hid (by omega), rfl, Lib.hid (by rw [Nat.add_zero, redM_start]; exact HM6.out), HX6, HB6⟩
        case round =>
         obtain ⟨g4, h_g4⟩ : ∃ x, x = gk := ⟨_, rfl⟩
         subst h_g4
         obtain ⟨wr4, h_wr4⟩ : ∃ x, x = wr := ⟨_, rfl⟩
         subst h_wr4
         obtain ⟨t, HT, rfl, HM4, HX4, HB4⟩ := hrel
         by_cases htN : d + 1 + t < n1
         ·obtain rfl := HA'.out (by omega)
          have htN1 : t < n1 - (d + 1) := by omega
          obtain ⟨tt, htt⟩ : ∃ tt, tt = d + 1 + t := ⟨_, rfl⟩
          have HTT := Lib.hid htt
          have HGR := Lib.hid (show Good nn (bdM (d + 1)) (redM elimI c M1 d tt) from good_red HG1.out (bdM_le d (by omega)).2.2 (by rw [HL1.out]; exact hdN') fun p r hpl hrl h5 h6 => tame_I _ nn c p r (bdM_le d (by omega)).1 hpl hrl h5 h6)
          rw [← htt] at HM4
          have HRL := Lib.hid (show (redM elimI c M1 d tt).length = n1 by rw [redM_len, HL1.out])
          obtain ⟨gt, ct, hvt, hct, hot, hnt, hbt, hgtl, hnct, hctm⟩ := HM4.out.row (i := tt) (by omega) (HGR.out tt (by rw [HRL.out]; omega)).1 h1
          obtain ⟨gp', cp', hvp, hcp4, hop, hnp, hbp, hgpl4, _, _⟩ := HM4.out.row hdN' (HGR.out d (by rw [HRL.out]; exact hdN')).1 h1
          have hsame := HVD.out.symm.trans hvp
          simp only [Value.slice.injEq, Option.some.injEq, Addr.mk.injEq, and_true, true_and] at hsame
          obtain ⟨rfl, rfl⟩ := hsame
          have HVT := Lib.hid hvt
          have HNE := Lib.hid (show gt < wr3.heap.size ∧ gt ≠ G by
           obtain ⟨g, c', k1, k2, k3⟩ := HROWS.out tt (by omega)
           rw [hvt] at k1
           simp only [Value.slice.injEq, Option.some.injEq, Addr.mk.injEq, and_true, true_and] at k1
           obtain ⟨rfl, _⟩ := k1
           exact ⟨k2, k3⟩)
          have HAP := Lib.hid (show gt ≠ gp from fun e => HM4.out.rows.apart' (i := d) (j := tt) (by omega) (by rw [HRL.out]; exact hdN') (by rw [HRL.out]; omega) (by rw [hvp]; rfl) (by rw [hvt, e]; rfl))
          rw [redM_lo _ _ _ _ _ _ (by rw [HL1.out]; omega) (by omega)] at hot
          rw [redM_lo _ _ _ _ _ _ (by rw [HL1.out]; exact hdN') (by omega)] at hop
          obtain ⟨r, hr⟩ : ∃ r, r = M1[tt]?.getD [] := ⟨_, rfl⟩
          obtain ⟨p, hp⟩ : ∃ p, p = M1[d]?.getD [] := ⟨_, rfl⟩
          rw [← hr] at hot
          rw [← hp] at hop
          have HBR := Lib.hid (HG1.out tt (by rw [HL1.out]; omega))
          have HBP := Lib.hid (HG1.out d (by rw [HL1.out]; exact hdN'))
          rw [← hr] at HBR
          rw [← hp] at HBP
          have HOT := Lib.hid hot
          have HOP := Lib.hid hop
          have HRR := Lib.hid hr
          have HPP := Lib.hid hp
          obtain ⟨b, off, he, hc0⟩ := hot.ints.at hcn
          simp only [Option.some.injEq, Addr.mk.injEq, and_true] at he
          obtain ⟨rfl, rfl⟩ := he
          rw [Nat.zero_add] at hc0
          obtain ⟨rc, hrc⟩ : ∃ x, x = r[c]?.getD 0 := ⟨_, rfl⟩
          obtain ⟨pc, hpc⟩ : ∃ x, x = p[c]?.getD 0 := ⟨_, rfl⟩
          rw [← hrc] at hc0
          have HRC := Lib.hid hrc
          have HPC := Lib.hid hpc
          have hbc := cell_of_one HB4.out
          have HIDT := Lib.hid (show d + 1 + t = tt from htt.symm)
          rw [htt] at hct
          clear hvt hvp hot hop hr hp hrc hpc htt hcp4
          by_cases hz : rc = 0
          ·have HSK := Lib.hid (redM_skip (e := elimI) (c := c) (M := M1) (d := d) (t := tt) (by have := HTT.out; omega) (by rw [HL1.out]; have := HTT.out; omega) (by unfold elimI; rw [← HRR.out, ← HPP.out, ← HRC.out, if_pos hz]))
           subst hz
           go_wp2_with fail
           go_roundg (g4 - 1)
           case measure => have := HT.out; omega
           case rel => exact ⟨t + 1, Lib.hid (by have := HT.out; omega), by go_num, Lib.hid (by rw [show d + 1 + (t + 1) = tt + 1 by have := HTT.out; omega, ← HSK.out]; exact HM4.out), HX4, HB4⟩
          ·have hzb : (rc != 0) = true := by simpa using hz
           have hzb' : (rc == 0) = false := by simpa using hz
           obtain ⟨mm, hmm⟩ : ∃ m, m = mixR c p r := ⟨_, rfl⟩
           obtain ⟨Mt, hMt⟩ : ∃ M, M = redM elimI c M1 d tt := ⟨_, rfl⟩
           have htt1 : tt < n1 := by have := HTT.out; omega
           have hdt : d < tt := by have := HTT.out; omega
           rw [← hMt] at HM4 HRL
           have HML := Lib.hid (show mm.length = r.length by rw [hmm, mixR_len])
           have HMtr := Lib.hid (show Mt[tt]?.getD [] = r by rw [hMt, redM_lo _ _ _ _ _ _ (by rw [HL1.out]; omega) (by omega), HRR.out])
           have HMtp := Lib.hid (show Mt[d]?.getD [] = p by rw [hMt, redM_lo _ _ _ _ _ _ (by rw [HL1.out]; omega) (by omega), HPP.out])
           have HBM := Lib.hid (show ∀ j : Nat, -2147483648 ≤ mm[j]?.getD 0 ∧ mm[j]?.getD 0 ≤ 2147483648 by
            intro j
            rw [hmm]
            have h3 := (bdM_le d (by omega)).2.1
            have h4 := (bdM_le d (by omega)).1
            exact mix_bd (B := 32768) (fun j => by have := HBP.out.2 j; omega) (fun j => by have := HBR.out.2 j; omega) j)
           have HBMx := Lib.hid (show ∀ x ∈ mm, (-2147483648 : Int) ≤ x ∧ x ≤ 2147483648 by
            intro x hx
            obtain ⟨j, hj, rfl⟩ := List.getElem_of_mem hx
            have := HBM.out j
            rw [List.getElem?_eq_getElem hj] at this
            exact this)
           have HSTEP := Lib.hid (show Mt.set tt (mm.map fun x => x.tdiv (max (gcdL mm) 1)) = redM elimI c M1 d (tt + 1) by
            rw [← redM_step elimI c M1 d tt hdt (by rw [HL1.out]; exact htt1), hMt]
            congr 1
            unfold elimI
            rw [← HRR.out, ← HPP.out, if_neg (by rw [← HRC.out]; exact hz), hmm])
           have HMM := Lib.hid hmm
           clear hmm hMt
           go_wp2_with fail
           go_loopg [18, 100] nn (fun gk gg jj wr => ∃ (j : Nat) (gv : Int), Hid (gk + j = nn) ∧ jj = .int .i64 (j : Int) ∧ gg = .int .i64 gv ∧ Hid (gv = (mm.take j).foldl gI 0) ∧ Hid (Mat wr w.heap.size (some ⟨G, 0, none⟩) n1 p1 vs1 (Mt.set tt (midL mm r j))) ∧ Hid (Ext w wr) ∧ Hid (wr.heap[wr3.heap.size]? = some (.cells #[.int .i64 (c : Int)] 3 (0, 0))))
           case atStart => exact ⟨0, 0, Lib.hid (by omega), rfl, rfl, Lib.hid rfl, Lib.hid (by rw [midL_zero, set_same (by rw [HRL.out]; exact htt1) HMtr.out]; exact HM4.out), HX4, HB4⟩
           case round =>
            obtain ⟨g5, h_g5⟩ : ∃ x, x = gk := ⟨_, rfl⟩
            subst h_g5
            obtain ⟨wr5, h_wr5⟩ : ∃ x, x = wr := ⟨_, rfl⟩
            subst h_wr5
            obtain ⟨j, gv, HJ, rfl, rfl, HGV, HM5, HX5', HB5⟩ := hrel
            have hgvb := gcd_bd (B := 2147483648) (mm.take j) 0 (by omega) (by omega) (fun x hx => HBMx.out x (List.mem_of_mem_take hx))
            rw [← HGV.out] at hgvb
            by_cases hjn : j < nn
            ·have hot := HM5.out.rows.row tt (by rw [List.length_set, HRL.out]; exact htt1)
             rw [HVT.out, List.getElem?_set_self (by rw [HRL.out]; exact htt1)] at hot
             have hop := HM5.out.rows.row d (by rw [List.length_set, HRL.out]; exact hdN')
             rw [HVD.out, List.getElem?_set_ne (by omega), HMtp.out] at hop
             obtain ⟨b, off, he, hrj⟩ := hot.ints.at hjn
             simp only [Option.some.injEq, Addr.mk.injEq, and_true] at he
             obtain ⟨rfl, rfl⟩ := he
             rw [Nat.zero_add, Option.getD_some, midL_at HML.out (by rw [HBR.out.1]; exact hjn)] at hrj
             obtain ⟨b, off, he, hpj⟩ := hop.ints.at hjn
             simp only [Option.some.injEq, Addr.mk.injEq, and_true] at he
             obtain ⟨rfl, rfl⟩ := he
             rw [Nat.zero_add] at hpj
             obtain ⟨b, off, he, hpc0⟩ := hop.ints.at hcn
             simp only [Option.some.injEq, Addr.mk.injEq, and_true] at he
             obtain ⟨rfl, rfl⟩ := he
             rw [Nat.zero_add, ← HPC.out] at hpc0
             obtain ⟨g', hg', _, hfz, _⟩ := hot.block hjn
             simp only [Option.some.injEq, Addr.mk.injEq, and_true] at hg'
             subst hg'
             have hfj := hfz j
             have hbc5 := cell_of_one HB5.out
             obtain ⟨rj, hrv⟩ : ∃ x, x = r[j]?.getD 0 := ⟨_, rfl⟩
             obtain ⟨pj, hpv⟩ : ∃ x, x = p[j]?.getD 0 := ⟨_, rfl⟩
             rw [← hrv] at hrj
             rw [← hpv] at hpj
             have h3 := (bdM_le d (by omega)).2.1
             have hb1 := prod_bd (B := 32768) (x := rj) (y := pc) (by have := HBR.out.2 j; omega) (by have := HBR.out.2 j; omega) (by have := HBP.out.2 c; have := HPC.out; omega) (by have := HBP.out.2 c; have := HPC.out; omega)
             have hb2 := prod_bd (B := 32768) (x := rc) (y := pj) (by have := HBR.out.2 c; have := HRC.out; omega) (by have := HBR.out.2 c; have := HRC.out; omega) (by have := HBP.out.2 j; omega) (by have := HBP.out.2 j; omega)
             have hw1 : IntKind.i64.wrap (rj * pc) = rj * pc := by rw [IntKind.wrap_i64]; omega
             have hw2 : IntKind.i64.wrap (rc * pj) = rc * pj := by rw [IntKind.wrap_i64]; omega
             have hw3 : IntKind.i64.wrap (rj * pc - rc * pj) = rj * pc - rc * pj := by rw [IntKind.wrap_i64]; omega
             have HV := Lib.hid (show rj * pc - rc * pj = mm[j]?.getD 0 by rw [HMM.out, mixR_at (by rw [HBR.out.1]; exact hjn), hrv, hpv, HPC.out, HRC.out])
             have hx18 : in18 (rj * pc - rc * pj) := by unfold in18; omega
             have hg18 : in18 gv := by unfold in18; omega
             have HX18 := Lib.hid hx18
             have HG18 := Lib.hid hg18
             clear hot hop hrv hpv hb1 hb2 h3 hx18 hg18 hfz hgvb
             go_wp2_with fail
             go_still_tail 19, (by kernel_rfl)
             change wpList _ _ _ _ _ wr5.drew
             go_wp2_with fail
             refine (i_common gv (rj * pc - rc * pj) _ HG18.out HX18.out).mono ?_
             rintro e w7 ⟨rfl, hd⟩
             have hin := ((HM5.out.ext (Ext.drew wr5)).inrow htt1 HVT.out j (rj * pc - rc * pj)).ext hd.ext
             rw [HV.out, set_again (by rw [HRL.out]; exact htt1) HML.out (by rw [HBR.out.1]; exact hjn)] at hin
             have HIN := Lib.hid hin
             have HX7 := Lib.hid (Ext.trans (Below.setCell (p := ⟨gt, j, none⟩) (HX5'.out.trans (Ext.drew wr5)) hbt (.int .i64 (rj * pc - rc * pj))) hd.ext)
             have HB7 := Lib.hid (show w7.heap[wr3.heap.size]? = some (.cells #[.int .i64 (c : Int)] 3 (0, 0)) by
              have hne : wr3.heap.size ≠ gt := by have := HNE.out.1; omega
              have h0 : (wr5.drew.setCell ⟨gt, j, none⟩ (.int .i64 (rj * pc - rc * pj))).heap[wr3.heap.size]? = some (.cells #[.int .i64 (c : Int)] 3 (0, 0)) := by
               rw [heap_setCell_other _ _ _ _ hne]; exact HB5.out
              exact (hd.ext.block _ (lt_of_block h0)).trans h0)
             have HGV7 := Lib.hid (show gI gv (rj * pc - rc * pj) = (mm.take (j + 1)).foldl gI 0 by
              rw [take_snoc (by rw [HML.out, HBR.out.1]; exact hjn), List.foldl_append, ← HGV.out, ← HV.out]; rfl)
             clear hin hd hw1 hw2 hw3
             go_wp2_with fail
             go_roundg (g5 - 1)
             case measure => have := HJ.out; omega
             case rel => exact ⟨j + 1, _, Lib.hid (by have := HJ.out; omega), by go_num, rfl, HGV7, HIN, HX7, HB7⟩
            ·have hjn' : j = nn := by have := HJ.out; omega
             have HGF := Lib.hid (show max gv 1 = max (gcdL mm) 1 by rw [HGV.out, List.take_of_length_le (by rw [HML.out, HBR.out.1]; omega)]; rfl)
             have HMID := Lib.hid (show midL mm r j = mm by rw [hjn', ← HBR.out.1, ← HML.out, midL_all HML.out])
             rw [HMID.out] at HM5
             subst hjn'
             obtain ⟨F, hF⟩ : ∃ F : Int → Int, F = fun x => x.tdiv (max gv 1) := ⟨_, rfl⟩
             have HFM := Lib.hid (show (mm.map F).length = mm.length by simp)
             have HFS := Lib.hid (show Mt.set tt (mm.map F) = redM elimI c M1 d (tt + 1) by rw [hF, HGF.out]; exact HSTEP.out)
             have HFF := Lib.hid hF
             clear hF
             by_cases hgv : 1 ≤ gv
             case' pos =>
              have HD := Lib.hid (show ∀ y, F y = y.tdiv gv by intro y; rw [HFF.out]; simp only; congr 1; omega)
              have hgv' : ¬ gv < 1 := by omega
              have hgz : (gv == 0) = false := by simp; omega
             case' neg =>
              have hgv0 : gv = 0 := by omega
              subst hgv0
              have HD := Lib.hid (show ∀ y, F y = y by intro y; rw [HFF.out]; simp only; rw [show max (0 : Int) 1 = 1 by omega, Int.tdiv_one])
             all_goals
              go_wp2_with fail
              go_loopg [131] j (fun gk ii wr => ∃ i : Nat, Hid (gk + i = j) ∧ ii = .int .i64 (i : Int) ∧ Hid (Mat wr w.heap.size (some ⟨G, 0, none⟩) n1 p1 vs1 (Mt.set tt (midL (mm.map F) mm i))) ∧ Hid (Ext w wr) ∧ Hid (wr.heap[wr3.heap.size]? = some (.cells #[.int .i64 (c : Int)] 3 (0, 0))))
              case atStart => exact ⟨0, Lib.hid (by omega), rfl, Lib.hid (by rw [midL_zero]; exact HM5.out), HX5', HB5⟩
              case round =>
               obtain ⟨g6, h_g6⟩ : ∃ x, x = gk := ⟨_, rfl⟩
               subst h_g6
               obtain ⟨wr6, h_wr6⟩ : ∃ x, x = wr := ⟨_, rfl⟩
               subst h_wr6
               obtain ⟨i, HI6, rfl, HM6r, HX6r, HB6r⟩ := hrel
               by_cases hij : i < j
               ·have hot := HM6r.out.rows.row tt (by rw [List.length_set, HRL.out]; exact htt1)
                rw [HVT.out, List.getElem?_set_self (by rw [HRL.out]; exact htt1), Option.getD_some] at hot
                have hlen := hot.ints.hlen
                obtain ⟨b, off, he, hyi⟩ := hot.ints.at hij
                simp only [Option.some.injEq, Addr.mk.injEq, and_true] at he
                obtain ⟨rfl, rfl⟩ := he
                rw [Nat.zero_add, midL_at HFM.out (by rw [HML.out, HBR.out.1]; exact hij)] at hyi
                obtain ⟨g', hg', _, hfz, _⟩ := hot.block hij
                simp only [Option.some.injEq, Addr.mk.injEq, and_true] at hg'
                subst hg'
                have hfi := hfz i
                obtain ⟨yv, hyv⟩ : ∃ x, x = mm[i]?.getD 0 := ⟨_, rfl⟩
                rw [← hyv] at hyi
                have hyb := HBM.out i
                rw [← hyv] at hyb
                obtain ⟨hyb1, hyb2⟩ := hyb
                have HFI := Lib.hid (show F yv = (mm.map F)[i]?.getD 0 by rw [hyv]; simp [HML.out, HBR.out.1, hij])
                rw [HD.out] at HFI
                have hw0 : ∀ g : Int, IntKind.i64.wrap (yv.tdiv g) = yv.tdiv g := by
                 intro g
                 have h2 : (yv.tdiv g).natAbs ≤ yv.natAbs := by rw [Int.natAbs_tdiv]; exact Nat.div_le_self _ _
                 rw [IntKind.wrap_i64]; omega
                first | have hw := hw0 gv | skip
                clear hot hfz hyv hlen hw0
                go_wp2_with fail
                go_roundg (g6 - 1)
                case measure => have := HI6.out; omega
                case rel =>
                 refine ⟨i + 1, Lib.hid (by have := HI6.out; omega), by go_num, Lib.hid ?_, Lib.hid (Below.setCell (p := ⟨gt, i, none⟩) HX6r.out hbt _), Lib.hid ?_⟩
                 ·rw [← set_again (m := mm.map F) (r := mm) (j := i) (by rw [HRL.out]; exact htt1) HFM.out (by rw [HML.out, HBR.out.1]; exact hij), ← HFI.out]
                  exact HM6r.out.inrow htt1 HVT.out i _
                 ·have hne : wr3.heap.size ≠ gt := by have := HNE.out.1; omega
                  rw [heap_setCell_other _ _ _ _ hne]; exact HB6r.out
               ·have hij' : i = j := by have := HI6.out; omega
                have HMF := Lib.hid (show Mt.set tt (midL (mm.map F) mm i) = redM elimI c M1 d (tt + 1) by
                 rw [← HFS.out, show i = (mm.map F).length by rw [HFM.out, HML.out, HBR.out.1]; exact hij', midL_all HFM.out])
                rw [HMF.out] at HM6r
                subst hij'
                go_wp2_with fail
                go_roundg (g4 - 1)
                case measure => have := HT.out; omega
                case rel => exact ⟨t + 1, Lib.hid (by have := HT.out; omega), by go_num, Lib.hid (by rw [show d + 1 + (t + 1) = tt + 1 by have := HTT.out; omega]; exact HM6r.out), HX6r, HB6r⟩
         ·have htN' : d + 1 + t = n1 := by have := HT.out; omega
          have HTE := Lib.hid htN'
          have htE2 : t = n1 - (d + 1) := by omega
          rw [htN'] at HM4
          clear htN'
          go_wp2_with fail
          go_roundg (g3 - 1)
          case measure => have := HK3.out; omega
          case rel => exact ⟨c + 1, d + 1, vs1, _, Lib.hid (by have := HK3.out; omega), by go_num, by go_num, HRUN, HM4, HX4⟩
      ·rw [if_neg hPlt] at HIDX
       have HRUN := Lib.hid (show runM elimI M (c + 1) = (K, d) by
        show colM elimI c (runM elimI M c) = _
        rw [HRun.out]
        unfold colM
        simp only
        rw [← HP.out, HKL.out, if_neg hPlt])
       by_cases hpd : p1 = d
       case' pos => subst hpd; rw [if_pos rfl, show n1 - p1 = 0 by omega, Nat.sub_self] at HIDX
       case' neg => rw [if_neg hpd] at HIDX
       all_goals
        go_wp2_with fail
        (with_reducible refine HIDX.out.mono ?_)
        rintro e w5 ⟨rfl, hx5⟩
        have HX5 := Lib.hid ((HX3.out.trans (Ext.alloc _ _)).trans hx5)
        have HM5 := Lib.hid ((HM.out.ext (Ext.alloc wr3 (.cells #[.int .i64 (c : Int)] 3))).ext hx5)
        clear hx5 hbcell
        go_wp2_with fail
        go_roundg (g3 - 1)
        case measure => have := HK3.out; omega
        case rel => exact ⟨c + 1, _, vs, K, Lib.hid (by have := HK3.out; omega), by go_num, rfl, HRUN, HM5, HX5⟩
     ·have hcn' : c = nn := by have := HK3.out; omega
      subst hcn'
      go_wp2_with fail
      go_ret
      exact ⟨ret_int (by rw [HN.out, HRun.out]), HX3.out⟩
theorem OwnI.litN (w : World) (base : Nat) (x : Int) (hb : base ≤ w.heap.size) : OwnI (w.alloc (.cells #[.int .i64 x] 3)) base (.slice (some ⟨w.heap.size, 0, none⟩) 1 1) [x] :=
 World.ownsRow_lit w #[.int .i64 x] 1 hb (by simp [maxLen]) rfl
theorem OwnR.lit1 (w : World) (base : Nat) (x y : Int) (hb : base ≤ w.heap.size) : OwnR (w.alloc (.cells #[.int .i64 x, .int .i64 y] 85)) base (.slice (some ⟨w.heap.size, 0, none⟩) 1 1) [(x, y)] :=
 ⟨by simp [ratL], .inr ⟨w.heap.size, 1, _, rfl, hb, heap_alloc_new w _, Nat.le_refl _, by decide, rfl, by simp [ratL]⟩⟩
set_option maxHeartbeats 16000000 in
theorem i_FindNucleolus {w : World} {p : Int} {a : Option Addr} {n cap : Nat} {V : List Int} (h : Ints w a n cap V) :
 Calls Tryz.prog 26 #[pair p a n cap] w fun e w' => NucRet w' w.heap.size e (nucR p V) ∧ Ext w w' := by
 obtain ⟨W, hW⟩ : ∃ W, W = (w.alloc (.cells #[.int .i64 p, .slice a n cap] 47)).alloc (.cells #[.bool false, .slice none 0 0, .slice none 0 0, .int .i64 0] 45) := ⟨_, rfl⟩
 have hws : W.heap.size = w.heap.size + 2 := by rw [hW]; simp
 have hX : Ext w W := by rw [hW]; exact (Ext.alloc _ _).trans (Ext.alloc _ _)
 have HRB := Lib.hid (show W.heap[w.heap.size + 1]? = some (.cells #[.bool false, .slice none 0 0, .slice none 0 0, .int .i64 0] 45 (0, 0)) by rw [hW]; exact heapA_new _ _ _ (by simp))
 have HP0 := Lib.hid (show W.cell? ⟨w.heap.size, 0, none⟩ = some (.int .i64 p) by rw [hW]; exact Ext.cellSome (Ext.alloc _ _) (by simp))
 have HP1 := Lib.hid (show W.cell? ⟨w.heap.size, 1, none⟩ = some (.slice a n cap) by rw [hW]; exact Ext.cellSome (Ext.alloc _ _) (by simp))
 have HI := Lib.hid (h.ext hX)
 have HX := Lib.hid hX
 have HVL := Lib.hid h.hlen
 have HIV := Lib.hid (i_IsValidGame (p := p) HI.out)
 have HEND := Lib.hid (fun (w' : World) (hx : Ext W w') (v0 v1 v2 v3 : Value) => nbox (nput ((hx.block _ (by omega)).trans HRB.out) v0 v1 v2 v3).1)
 have HENX := Lib.hid (fun (w' : World) (hx : Ext W w') (v0 v1 v2 v3 : Value) => nputX (w := w) (r := w.heap.size + 1) (HX.out.trans hx) (Nat.le_succ _) v0 v1 v2 v3)
 have HENO := Lib.hid (fun (w' : World) (hx : Ext W w') (v0 v1 v2 v3 : Value) => (nput ((hx.block (w.heap.size + 1) (by omega)).trans HRB.out) v0 v1 v2 v3).2)
 have HRX := Lib.hid (fun (w' : World) (hx : Ext W w') => nbox ((hx.block _ (by omega)).trans HRB.out))
 clear h hX
 cases hgo : gameOk p V
 ·rw [hgo] at HIV
  have HN := Lib.hid (show nucR p V = NucR.no by unfold nucR; rw [hgo]; rfl)
  clear hgo
  go_enter Tryz.func26, Tryz.ntmps26
  go_wp2_with fail
  rw [← hW]
  refine HIV.out.mono ?_
  rintro e w1 ⟨rfl, hx⟩
  obtain ⟨q0, q1, q2, q3, qf⟩ := HRX.out w1 hx
  obtain ⟨z0, z1, z2, z3, _⟩ := HEND.out w1 hx (.bool false) (.slice none 0 0) (.slice none 0 0) (.int .i64 0)
  have HZ := Lib.hid (HENX.out w1 hx (.bool false) (.slice none 0 0) (.slice none 0 0) (.int .i64 0))
  clear hx hW
  go_wp2_with fail
  refine bodyPost_ret (v := .agg #[.bool false, .slice none 0 0, .slice none 0 0, .int .i64 0]) (by simp [results, Tryz.results26, go_sem, z0, z1, z2, z3]) rfl ⟨by rw [HN.out]; exact NucRet.no _ _, HZ.out⟩
 ·rw [hgo] at HIV
  obtain ⟨h1, h32, hpq, hq1, hq5, hV⟩ := game_cN hgo
  obtain ⟨q, hq⟩ : ∃ q, q = p.toNat := ⟨_, rfl⟩
  rw [← hq] at hpq hq1 hq5
  have HGO := Lib.hid hgo
  have hn1 : 1 ≤ n := by rw [← HVL.out]; exact h1
  have hn32 : n ≤ 32 := by rw [← HVL.out]; exact h32
  obtain ⟨g, hg⟩ : ∃ g, g = grandV p V := ⟨_, rfl⟩
  have HG := Lib.hid hg
  have HGV := Lib.hid (fun (w' : World) (hx : Ext W w') => i_GrandValue (p := p) (HI.out.ext hx))
  simp only [← hg] at HGV
  clear hgo hq hV h1 h32 hg
  by_cases hq2 : p = 1
  ·subst hq2
   clear hpq
   have HN := Lib.hid (show nucR 1 V = ⟨true, [(g, 1)], [], 0⟩ by unfold nucR; rw [if_pos HGO.out, if_pos (by rfl), ← HG.out])
   go_enter Tryz.func26, Tryz.ntmps26
   go_wp2_with fail
   rw [← hW]
   refine HIV.out.mono ?_
   rintro e w1 ⟨rfl, hx⟩
   have c0 := hx.cellSome HP0.out
   have c1 := hx.cellSome HP1.out
   have X1 := Lib.hid hx
   clear hx hW
   go_wp2_with fail
   refine (HGV.out _ X1.out).mono ?_
   rintro e w2 ⟨rfl, hx2⟩
   go_wp2_with fail
   refine (i_whole g _).mono ?_
   rintro e w3 ⟨rfl, hx3⟩
   have hx4 := hx2.trans hx3
   have X4 := Lib.hid (X1.out.trans (hx4.trans (Ext.alloc w3 (.cells #[.int .i64 g, .int .i64 1] 85))))
   obtain ⟨q0, q1, q2, q3, qf⟩ := HRX.out _ X4.out
   obtain ⟨z0, z1, z2, z3, _⟩ := HEND.out _ X4.out (.bool true) (.slice (some ⟨w3.heap.size, 0, none⟩) 1 1) (.slice none 0 0) (.int .i64 0)
   have HZ := Lib.hid (HENX.out _ X4.out (.bool true) (.slice (some ⟨w3.heap.size, 0, none⟩) 1 1) (.slice none 0 0) (.int .i64 0))
   have HZO := Lib.hid (HENO.out _ X4.out (.bool true) (.slice (some ⟨w3.heap.size, 0, none⟩) 1 1) (.slice none 0 0) (.int .i64 0))
   have hs3 := (X1.out.trans hx4).size
   have HPT := Lib.hid ((OwnR.lit1 w3 w.heap.size g 1 (by omega)).keep (fun k hk => HZO.out k (by simp only [Value.ownBlock, Option.some.injEq] at hk; omega)))
   clear hx2 hx3 hx4 c0 c1
   go_wp2_with fail
   refine bodyPost_ret (v := .agg #[.bool true, .slice (some ⟨w3.heap.size, 0, none⟩) 1 1, .slice none 0 0, .int .i64 0]) (by simp [results, Tryz.results26, go_sem, z0, z1, z2, z3]) rfl ⟨by rw [HN.out]; exact ⟨_, _, _, _, _, _, rfl, HPT.out, OwnG.nil _ _ _ _⟩, HZ.out⟩
  ·subst hpq
   have hp2 : 2 ≤ (q : Int) := by omega
   have hpb : ((q : Int) == 1) = false := by simp [hq2]
   have hwn : IntKind.i64.wrap ((n : Int) - 1) = (n : Int) - 1 := by rw [IntKind.wrap_i64]; omega
   have HN := Lib.hid (nucS_start HGO.out hp2)
   obtain ⟨o, ho⟩ : ∃ o, o = nucR (q : Int) V := ⟨_, rfl⟩
   rw [← ho] at HN ⊢
   have HQ := Lib.hid hq2
   clear ho hq2 hp2
   go_enter Tryz.func26, Tryz.ntmps26
   go_wp2_with fail
   rw [← hW]
   refine HIV.out.mono ?_
   rintro e w1 ⟨rfl, hx⟩
   have c0 := hx.cellSome HP0.out
   have c1 := hx.cellSome HP1.out
   have X1 := Lib.hid hx
   obtain ⟨w2, hw2⟩ : ∃ E, E = w1.alloc (.cells #[.bool true, .slice none 0 0, .slice none 0 0, .int .i64 0] 45) := ⟨_, rfl⟩
   have hb2 : w2.heap[w1.heap.size]? = some (.cells #[.bool true, .slice none 0 0, .slice none 0 0, .int .i64 0] 45 (0, 0)) := by rw [hw2]; exact heapA_new _ _ _ rfl
   have hx2 : Ext w1 w2 := by rw [hw2]; exact Ext.alloc _ _
   have X2 := Lib.hid (hx.trans hx2)
   have hbs := hx.size
   clear hx hW
   go_upto_region 6 with fail
   rw [← hw2]
   clear hw2
   have d0 := hx2.cellSome c0
   have d1 := hx2.cellSome c1
   clear c0 c1 hx2
   generalize w1.heap.size = B at hb2 hbs ⊢
   have HO0 := Lib.hid (show NucO W (w2.alloc (.cells #[.int .i64 ((n : Int) - 1)] 3)) B (.slice none 0 0) (.slice none 0 0) (.slice (some ⟨w2.heap.size, 0, none⟩) 1 1) [] [] (((n : Int) - 1) :: [].map fun f : Int × Int × Int => f.1) 0 from
    ⟨(Ext.alloc _ _).blk hb2, OwnR.nil _ _, OwnG.nil _ _ _ _, OwnI.litN _ _ _ (by have := lt_of_block hb2; omega), X2.out.trans (Ext.alloc _ _), hbs⟩)
   clear hb2
   go_wp2_with fail
   go_loopg [4] ((frN V []).length + 1) (fun gk ff wr => ∃ (k : Nat) (L : List (Int × Int × Int)) (pt : List (Int × Int)) (vp vs : Value) (aF : Option Addr) (nF cF : Nat), Hid (gk + k = (frN V []).length + 1) ∧ ff = .slice aF nF cF ∧ Hid (NucO W wr B vp vs (.slice aF nF cF) pt L (((n : Int) - 1) :: L.map fun f => f.1) k) ∧ Hid ((frN V L).length + 1 ≤ gk) ∧ Hid (∀ f ∈ L, f.1 ≤ 1000) ∧ Hid (L.length ≤ 32 * k) ∧ Hid (nucS (q : Int) V gk pt L k = o))
   case atStart => exact ⟨0, [], [], _, _, _, _, _, Lib.hid (by omega), rfl, HO0, Lib.hid (Nat.le_refl _), Lib.hid (fun f hf => by cases hf), Lib.hid (by simp), HN⟩
   case round =>
    obtain ⟨g1, h_g1⟩ : ∃ x, x = gk := ⟨_, rfl⟩
    subst h_g1
    obtain ⟨wr1, h_wr1⟩ : ∃ x, x = wr := ⟨_, rfl⟩
    subst h_wr1
    obtain ⟨k, L, pt, vp, vs, aF, nF, cF, HK, rfl, HO, HFU, HLB, HLL, HOUT⟩ := hrel
    obtain ⟨aP, nP, cP, rfl, HNP⟩ := HO.out.pt.var
    obtain ⟨aS, nS, cS, rfl, HNS⟩ := HO.out.st.var
    have HFR0 := Lib.hid (show (frN V []).length ≤ 32 by have h1 : (frN V []).length ≤ V.length - 2 := freeL_len [] (V.length - 2); have h2 := HVL.out; omega)
    have hk33 : k ≤ 33 := by have h1 := HK.out; have h2 := HFR0.out; omega
    have hnS : nS ≤ 1100 := by rw [← HNS.out]; have := HLL.out; omega
    have hnF : nF ≤ 1101 := by
     have h1 := HO.out.fx.ints.hlen
     simp only [List.length_cons, List.length_map] at h1
     have := HLL.out; omega
    obtain ⟨rk, hrk⟩ : ∃ r, r = rankI (q : Int) (((n : Int) - 1) :: L.map fun f => f.1) := ⟨_, rfl⟩
    have HRK := Lib.hid (fun (w' : World) (hx : Ext wr1 w') => i_RankOf (n := (q : Int)) (HO.out.fx.ext hx).ints (fix_bd (V := V) (by omega) HLB.out) (by omega))
    simp only [← hrk] at HRK
    have hrle : rk ≤ (q : Int) := by rw [hrk]; exact rankI_le (by omega) _
    have HDN := Lib.hid (show doneN (q : Int) V L = decide (rk = (q : Int)) by rw [hrk]; unfold doneN; rw [HVL.out])
    have c0 := HO.out.ext.cellSome HP0.out
    have hk : Ext wr1 wr1.drew := Ext.drew wr1
    clear hrk
    by_cases hdn : rk < (q : Int)
    ·have HDF := Lib.hid (show doneN (q : Int) V L = false by rw [HDN.out]; exact decide_eq_false (by omega))
     have hdd : decide (rk < (q : Int)) = true := decide_eq_true hdn
     go_wp2_with fail
     refine wp_region_held_drew (S := (fun w' => w'.cell? ⟨w.heap.size, 0, none⟩ = some (.int .i64 (q : Int)) ∧ Ext wr1 w')) (by kernel_rfl) ?_ (fun hHeld => ?_)
     ·exact ⟨hk.cellSome c0, hk⟩
     refine tk 0 ?_
     refine tk 1 ?_
     refine tk 2 ?_
     refine tk 4 ?_
     refine tk 5 ?_
     refine rd (i := 3) (h := fun K hK => ?_)
     go_simp
     (go_at_call 46; refine (HRK.out _ hk).mono ?_; rintro e w3 ⟨rfl, hx3⟩; have hk := hk.trans hx3)
     go_wp2_with fail
     refine hK.out _ _ ?_ (fun hHeld => ?_)
     ·exact ⟨hk.cellSome c0, hk⟩
     clear hK K
     try simp only [Act.put, sA, sB, sC]
     refine tk 6 ?_
     refine wpAnyH_done (by kernel_rfl) ?_ _
     have HO3 := Lib.hid (HO.out.grow hk)
     have X3 := Lib.hid HO3.out.ext
     obtain ⟨b0, b1, b2, b3, bf⟩ := nbox HO3.out.box
     have e0 := X3.out.cellSome HP0.out
     have e1 := X3.out.cellSome HP1.out
     have HSP := Lib.hid (i_StageLP (p := (q : Int)) (HI.out.ext X3.out) HO3.out.st.fixs (by omega))
     obtain ⟨ok, hok⟩ : ∃ b, b = stOk (q : Int) V L := ⟨_, rfl⟩
     rw [← hok] at HSP
     have HOK := Lib.hid hok
     clear hk c0 hHeld hok
     go_wp2_with fail
     refine HSP.out.mono ?_
     rintro e w4 ⟨hret, hx4⟩
     obtain ⟨la, lna, lca, lb, lnb, lcb, lc, lnc, lcc, rfl, hlp⟩ := hret.lpc
     unfold lpW
     obtain ⟨w5, hw5⟩ : ∃ E, E = w4.alloc (lpBox la lna lca lb lnb lcb lc lnc lcc) := ⟨_, rfl⟩
     have hx5 : Ext w4 w5 := by rw [hw5]; exact Ext.alloc _ _
     have K5 := Lib.hid (hx4.trans hx5)
     have X5 := Lib.hid (X3.out.trans K5.out)
     go_upto_region 9 with fail
     rw [← hw5]
     cases ok
     ·have HNO := Lib.hid (show o = NucR.no by
       rw [← HOUT.out]
       exact nucS_no HDF.out (fun h => by rw [← HOK.out] at h; exact Bool.noConfusion h.1))
      obtain ⟨q0, q1, q2, q3, qf⟩ := HRX.out w5 X5.out
      obtain ⟨z0, z1, z2, z3, _⟩ := HEND.out w5 X5.out (.bool false) (.slice none 0 0) (.slice none 0 0) (.int .i64 0)
      have HZ := Lib.hid (HENX.out w5 X5.out (.bool false) (.slice none 0 0) (.slice none 0 0) (.int .i64 0))
      clear hw5 hx5 hx4 hlp hret b0 b1 b2 b3 bf e0 e1
      go_wp2_with fail
      refine bodyPost_ret (v := .agg #[.bool false, .slice none 0 0, .slice none 0 0, .int .i64 0]) (by simp [results, Tryz.results26, go_sem, z0, z1, z2, z3]) rfl ⟨by rw [HNO.out]; exact NucRet.no _ _, HZ.out⟩
     ·obtain ⟨E1, E2, E3⟩ := stBx_is HOK.out.symm
      rw [E1, E2, E3, Int.toNat_natCast] at hlp
      have HSV0 := i_SolveLP (hlp.ext hx5)
      obtain ⟨r, hr⟩ : ∃ r, r = nucLp q V L := ⟨_, rfl⟩
      rw [show solveG boundI (stA q V L) (stB q) (stC V L) = r from hr.symm] at HSV0
      have HSV := Lib.hid HSV0
      have HRR := Lib.hid hr
      have t0 := tbox0 (show w5.heap[w4.heap.size]? = some (.cells #[.slice la lna lca, .slice lb lnb lcb, .slice lc lnc lcc] 67 (0, 0)) by rw [hw5]; exact heapA_new _ _ _ rfl)
      have t1 := tbox1 (show w5.heap[w4.heap.size]? = some (.cells #[.slice la lna lca, .slice lb lnb lcb, .slice lc lnc lcc] 67 (0, 0)) by rw [hw5]; exact heapA_new _ _ _ rfl)
      have t2 := tbox2 (show w5.heap[w4.heap.size]? = some (.cells #[.slice la lna lca, .slice lb lnb lcb, .slice lc lnc lcc] 67 (0, 0)) by rw [hw5]; exact heapA_new _ _ _ rfl)
      have HS5 := Lib.hid K5.out.size
      clear E1 E2 E3 HSV0 hr hw5 hx5 hx4 hlp hret b0 b1 b2 b3 bf e0 e1
      go_wp2_with fail
      refine HSV.out.mono ?_
      rintro e w6 ⟨⟨xa, xn, xc, ya, yn, yc, ra, rn, rc, rfl, hlr⟩, hx6⟩
      obtain ⟨w7, hw7⟩ : ∃ E, E = w6.alloc (lrBox r xa xn xc ya yn yc ra rn rc) := ⟨_, rfl⟩
      have hx7 : Ext w6 w7 := by rw [hw7]; exact Ext.alloc _ _
      have K7 := Lib.hid ((K5.out.trans hx6).trans hx7)
      have X7 := Lib.hid (X3.out.trans K7.out)
      have HLR := Lib.hid ((hlr.ext hx7).mono HS5.out)
      have HB7 := Lib.hid (show w7.heap[w6.heap.size]? = some (lrBox r xa xn xc ya yn yc ra rn rc) by rw [hw7]; exact heapA_new _ _ _ rfl)
      have HGL := Lib.hid (show w3.heap.size ≤ w6.heap.size by have h1 := hx6.size; have h2 := HS5.out; omega)
      have HSZ := Lib.hid (fun (hs : r.status = 1) => show (frN V L).length ≤ r.X.length ∧ r.Y.length = q + 1 ∧ valR r.value = true ∧ ∀ k, k < r.Y.length → valR (r.Y[k]?.getD (0, 0)) = true by
       have := nuc_sizes (p := (q : Int)) HOK.out.symm (by rw [Int.toNat_natCast, ← HRR.out]; exact hs)
       rw [Int.toNat_natCast, ← HRR.out] at this
       exact this)
      have HNX := Lib.hid (fun (hs : r.status = 1) (f : Nat) => show nucS (q : Int) V (f + 1) pt L k = nucS (q : Int) V f (ptN q r) (nextN V L r) (k + 1) ∧ (frN V (nextN V L r)).length < (frN V L).length by
       have h1 := nucS_step (f := f) (k := k) (pt := pt) HDF.out HOK.out.symm (by rw [Int.toNat_natCast, ← HRR.out]; exact hs)
       have h2 := next_fewer HOK.out.symm (by rw [Int.toNat_natCast, ← HRR.out]; exact hs)
       rw [Int.toNat_natCast, ← HRR.out] at h1 h2
       exact ⟨h1, h2⟩)
      obtain ⟨rs, rX, rY, rr, ⟨rv1, rv2⟩, rp⟩ := r
      unfold lrW
      go_upto_region 12 with fail
      rw [← hw7]
      clear hlr hx6 hx7 hw7 t0 t1 t2
      generalize w6.heap.size = G at HB7 HGL ⊢
      have hGl := lt_of_block HB7.out
      obtain ⟨l0, l1, l2, l3, l4, l5, l6, lf⟩ := lbox HB7.out
      try simp only at l0 l1 l2 l3 l4 l5 l6
      by_cases hs : rs = 1
      ·subst hs
       obtain ⟨hxl, hyl, hvv, hyv⟩ := HSZ.out rfl
       try simp only at hxl hyl hvv hyv
       have hvb := valR_bd hvv
       try simp only at hvb
       have HXL := Lib.hid hxl
       have HYL := Lib.hid hyl
       have HYV := Lib.hid hyv
       have hyn : q ≤ yn := by have h1 := HLR.out.y.here.hlen; have h2 := HYL.out; (try simp only at h1); omega
       have hyc : (q : Int) ≤ (yc : Int) := by have h1 := HLR.out.y.here.hcap; omega
       have HMA := Lib.hid (i_minusAll (HLR.out.y.here.take hyn) (by omega) (fun i => by
        by_cases hi : i < q
        ·rw [List.getElem?_take, if_pos hi]
         show -9223372036854775807 ≤ (rY[i]?.getD (0, 0)).1 ∧ (rY[i]?.getD (0, 0)).1 ≤ 9223372036854775807
         have := valR_bd (HYV.out i (by rw [HYL.out]; omega)); omega
        ·rw [List.getElem?_take, if_neg hi]; simp))
       have e0 := X7.out.cellSome HP0.out
       have e1 := X7.out.cellSome HP1.out
       clear hxl hyl hvv hyv
       go_wp2_with fail
       refine HMA.out.mono ?_
       rintro e w8 ⟨⟨v, rfl, ho⟩, hx8⟩
       obtain ⟨a8, n8, p8, rfl, HN8⟩ := ho.var
       have HO8 := Lib.hid (HO3.out.grow (K7.out.trans hx8))
       obtain ⟨b0, b1, b2, b3, bf⟩ := nbox HO8.out.box
       have HBL := Lib.hid HO3.out.lt
       have HP8 := Lib.hid (ho.mono (show B + 1 ≤ w7.heap.size by have h1 := HO3.out.lt; have h2 := K7.out.size; omega))
       have HS8 := Lib.hid ((Stay.refl w3.heap.size w7).ext hx8)
       have HX8 := Lib.hid hx8
       obtain ⟨w9, hw9⟩ : ∃ E, E = w8.setCell ⟨B, 1, none⟩ (.slice a8 n8 p8) := ⟨_, rfl⟩
       have HO9 := Lib.hid (HO8.out.setP HP8.out)
       rw [← hw9] at HO9
       have HS9 := Lib.hid (HS8.out.set (j := 1) HBL.out (.slice a8 n8 p8))
       rw [← hw9] at HS9
       clear ho hx8
       go_upto_region 15 with fail
       rw [← hw9]
       clear hw9 b0 b1 b2 b3 bf e0 e1
       obtain ⟨k1, hk1⟩ : ∃ x : Int, x = (k : Int) + 1 := ⟨_, rfl⟩
       have hwk : IntKind.i64.wrap ((k : Int) + 1) = k1 := by rw [IntKind.wrap_i64]; omega
       have HK1 := Lib.hid (show k1 = ((k + 1 : Nat) : Int) by omega)
       clear hk1
       obtain ⟨b0, b1, b2, b3, bf⟩ := nbox HO9.out.box
       obtain ⟨w10, hw10⟩ : ∃ E, E = w9.setCell ⟨B, 3, none⟩ (.int .i64 k1) := ⟨_, rfl⟩
       have HO10 := Lib.hid (HO9.out.setK (k' := k + 1) HK1.out)
       rw [← hw10] at HO10
       have HS10 := Lib.hid (HS9.out.set (j := 3) HBL.out (.int .i64 k1))
       rw [← hw10] at HS10
       go_upto_region 16 with fail
       rw [← hw10]
       clear hw10 b0 b1 b2 b3 bf hwk
       obtain ⟨b0, b1, b2, b3, bf⟩ := nbox HO10.out.box
       have e0 := HO10.out.ext.cellSome HP0.out
       have e1 := HO10.out.ext.cellSome HP1.out
       have hn3 : 3 ≤ n := by
        obtain ⟨q', hq', hq1', hq5', hl', _⟩ := gameOk_len HGO.out
        have h4 := cN_ge (n := q') (by have := HQ.out; omega) hq5'
        have := HVL.out; omega
       have HFC := Lib.hid (i_freeCoalitions (q : Int) a n cap hn3 (by omega) HO10.out.st.fixs)
       go_wp2_with fail
       refine HFC.out.mono ?_
       rintro e w11 ⟨⟨v, rfl, ho⟩, hx11⟩
       obtain ⟨a11, m, c11, rfl, HM⟩ := ho.var
       have HO11 := Lib.hid (HO10.out.grow hx11)
       have HS11 := Lib.hid (HS10.out.ext hx11)
       have HFN := Lib.hid (show freeL L (n - 2) = frN V L by unfold frN; rw [HVL.out])
       rw [HFN.out] at ho HM
       have HF11 := Lib.hid (ho.mono (show w3.heap.size ≤ w10.heap.size by have h1 := HS10.out.size; have h2 := K7.out.size; omega))
       have HLR11 := Lib.hid (HS11.out.on HLR.out.x)
       have HB11 := Lib.hid (HS11.out.blk HGL.out HB7.out)
       have HOS := Lib.hid (Off.of (hi := w11.heap.size) HO3.out.st.lt (Nat.le_refl _))
       have HOF := Lib.hid (Off.of (hi := w11.heap.size) HO3.out.fx.lt (Nat.le_refl _))
       have hmx : m ≤ xn := by have h1 := HLR11.out.here.hlen; have h2 := HXL.out; have h3 := HM.out; (try simp only at h1); omega
       have hm32 : m ≤ 32 := by
        have h1 : (frN V L).length ≤ V.length - 2 := freeL_len L (V.length - 2)
        have h2 := HVL.out
        have h3 := HM.out
        omega
       have HP11 := Lib.hid (show (L ++ newF (frN V L) ⟨1, rX, rY, rr, (rv1, rv2), rp⟩ 0) = L by rw [newF_zero, List.append_nil])
       clear ho hx11 b0 b1 b2 b3 bf e0 e1 l0 l1 l2 l3 l4 l5 l6 lf
       go_wp2_with fail
       go_loopg [4, 67] m (fun gk ff ii wr => ∃ (j : Nat) (vs' : Value) (aF' : Option Addr) (nF' cF' : Nat), Hid (gk + j = m) ∧ ff = .slice aF' nF' cF' ∧ ii = .int .i64 (j : Int) ∧ Hid (NucO W wr B (.slice a8 n8 p8) vs' (.slice aF' nF' cF') ((rY.take q).map negR) (L ++ newF (frN V L) ⟨1, rX, rY, rr, (rv1, rv2), rp⟩ j) (((n : Int) - 1) :: (L ++ newF (frN V L) ⟨1, rX, rY, rr, (rv1, rv2), rp⟩ j).map fun f => f.1) (k + 1)) ∧ Hid (Stay w3.heap.size w11 wr) ∧ Hid (Off w3.heap.size w11.heap.size vs') ∧ Hid (Off w3.heap.size w11.heap.size (.slice aF' nF' cF')))
       case atStart => exact ⟨0, _, _, _, _, Lib.hid (by omega), rfl, rfl, Lib.hid (by rw [HP11.out]; exact HO11.out), Lib.hid (Stay.refl _ _), HOS, HOF⟩
       case round =>
        obtain ⟨g2, h_g2⟩ : ∃ x, x = gk := ⟨_, rfl⟩
        subst h_g2
        obtain ⟨wr2, h_wr2⟩ : ∃ x, x = wr := ⟨_, rfl⟩
        subst h_wr2
        obtain ⟨j, vs2, aF2, nF2, cF2, HJ, rfl, rfl, HO2, HS2, HOS2, HOF2⟩ := hrel
        obtain ⟨aS2, nS2, cS2, rfl, HNS2⟩ := HO2.out.st.var
        by_cases hjm : j < m
        ·have hjx : j < xn := by omega
         obtain ⟨fb, foff, hfe, hfc⟩ := (HS2.out.ints (Nat.le_refl _) HF11.out).ints.at hjm
         subst hfe
         obtain ⟨xb, xoff, x1, x2, hxe, hxj, hxc1, hxc2⟩ := (HS2.out.on HLR11.out).here.at hjx
         subst hxe
         obtain ⟨l0, l1, l2, l3, l4, l5, l6, lf⟩ := lbox (HS2.out.blk HGL.out HB11.out)
         try simp only at l0 l1 l2 l3 l4 l5 l6 hxj
         obtain ⟨s, hs⟩ : ∃ s, s = (frN V L)[j]?.getD 0 := ⟨_, rfl⟩
         rw [← hs] at hfc
         by_cases hx0 : 0 < x1
         ·have HNF := Lib.hid (show (L ++ newF (frN V L) ⟨1, rX, rY, rr, (rv1, rv2), rp⟩ j) ++ [(s, -rv1, rv2)] = L ++ newF (frN V L) ⟨1, rX, rY, rr, (rv1, rv2), rp⟩ (j + 1) by
           rw [newF_succ, if_pos (by show 0 < (rX[j]?.getD (0, 0)).1; rw [hxj]; exact hx0), ← hs, List.append_assoc])
          obtain ⟨b0, b1, b2, b3, bf⟩ := nbox HO2.out.box
          have HNL := Lib.hid (show (L ++ newF (frN V L) ⟨1, rX, rY, rr, (rv1, rv2), rp⟩ j).length ≤ 2000 by
           rw [List.length_append]
           have h1 := newF_len (frN V L) ⟨1, rX, rY, rr, (rv1, rv2), rp⟩ j
           have h2 := HLL.out
           omega)
          have HBW := Lib.hid HO2.out.lt
          clear hs
          go_wp2_with fail
          have hkd : Ext wr2 wr2.drew := Ext.drew wr2
          have HKEEP := Lib.hid (fun (w' : World) (h : Ext wr2 w') => (⟨h.cellSome b2, h.cellSome l4, h.cellSome l5⟩ : w'.cell? ⟨B, 2, none⟩ = some (.slice aS2 nS2 cS2) ∧ w'.cell? ⟨G, 4, none⟩ = some (.int .i64 rv1) ∧ w'.cell? ⟨G, 5, none⟩ = some (.int .i64 rv2)))
          refine late_begin (M := [10]) (S := fun w' => w'.cell? ⟨B, 2, none⟩ = some (.slice aS2 nS2 cS2) ∧ w'.cell? ⟨G, 4, none⟩ = some (.int .i64 rv1) ∧ w'.cell? ⟨G, 5, none⟩ = some (.int .i64 rv2)) (by kernel_rfl) ?_
          have hHeld := HKEEP.out _ hkd
          obtain ⟨wd, hwd⟩ : ∃ y, y = wr2.drew := ⟨_, rfl⟩
          rw [← hwd] at hkd hHeld
          rw [← hwd]
          clear hwd
          refine lp 0 ?_
          refine ll 1 ?_
          refine lp 2 ?_
          refine lp 3 ?_
          refine ll 4 ?_
          refine late_step (i := 5) (oi := ?_) ?_ ?_ ?_ (fun K hK => ?_)
          rotate_left
          ·simp only [gA, gB, gC]; rfl
          ·kernel_rfl
          ·kernel_rfl
          go_simp
          go_at_call 91
          refine (i_minus rv1 rv2 _ (by omega) (by omega)).mono ?_
          rintro e w12 ⟨rfl, hx12⟩
          have hkd : Ext wr2 w12 := hkd.trans hx12
          have hs12 := hkd.size
          go_wp2_with fail
          refine hK.out _ _ (fun _ => HKEEP.out _ hkd) ?_
          have hHeld := HKEEP.out _ hkd
          clear hK K
          try simp only [Act.put, sA, sB, sC]
          refine lp 6 ?_
          refine late_step (i := 7) (oi := ?_) ?_ ?_ ?_ (fun K hK => ?_)
          rotate_left
          ·simp only [gA, gB, gC]; rfl
          ·kernel_rfl
          ·kernel_rfl
          go_simp
          refine hK.out _ _ (fun _ => HKEEP.out _ (hkd.trans (Ext.alloc _ _))) ?_
          clear hK K
          try simp only [Act.put, sA, sB, sC]
          refine late_step (i := 8) (oi := ?_) ?_ ?_ ?_ (fun K hK => ?_)
          rotate_left
          ·simp only [gA, gB, gC]; rfl
          ·kernel_rfl
          ·kernel_rfl
          refine wp_append_g fixE Tryz.infoFix rfl Tryz.underlying43 (by decide) _ _ (by rfl) (B + 1) (.slice aS2 nS2 cS2) _ (by rfl) (HO2.out.st.ext (hkd.trans (Ext.alloc _ _))) _ 1 1 [(s, -rv1, rv2)] (by rfl) (Slc.lit fixE _ _ _ 1 (by rfl) _ (by rfl) _ (by rfl) (by omega)) (by have := HNL.out; omega) (by have h2 := HBW.out; simp; omega) ?_
          intro v13 w13 ho hg hnear
          have HB13 := Lib.hid ((hg.block B (by have h2 := HBW.out; simp; omega) (fun e => by have := (HO2.out.st.lt B e.symm).1; omega)).trans ((hkd.trans (Ext.alloc _ _)).blk HO2.out.box))
          have HS13 := Lib.hid ((HS2.out.ext (hkd.trans (Ext.alloc _ _))).grown hg HOS2.out)
          have HN13 := Lib.hid (HOS2.out.near hnear (by have h1 := HS2.out.size; simp; omega))
          obtain ⟨a13, n13, c13, rfl, HNN13⟩ := ho.var
          have HO13 := Lib.hid (HO2.out.grewS (hkd.trans (Ext.alloc _ _)) hg ho)
          obtain ⟨c0, c1, c2, c3, cf⟩ := nbox HB13.out
          obtain ⟨m0, m1, m2, m3, m4, m5, m6, mf⟩ := lbox (HS13.out.blk HGL.out HB11.out)
          (try simp only at m0 m1 m2 m3 m4 m5 m6)
          clear ho hg hnear
          refine hK.out _ _ (fun _ => And.intro c2 (And.intro m4 m5)) ?_
          have hHeld := And.intro c2 (And.intro m4 m5)
          clear hK K
          try simp only [Act.put, sA, sB, sC]
          refine lp 9 ?_
          refine late_one (i := 10) (oi := ?_) (w' := ?_) ?_ ?_ ?_ ?_ ?_ ?_ ?_
          rotate_left 2
          ·simp only [gA, gB, gC]; rfl
          ·kernel_rfl
          ·kernel_rfl
          ·exact of_decide_eq_true (by kernel_rfl)
          ·rfl
          ·go_simp; (try with_reducible rfl)
          try simp only [Act.put, sA, sB, sC]
          refine late_done (by kernel_rfl) ?_ _
          rw [HNF.out] at HO13
          obtain ⟨w14, hw14⟩ : ∃ y, y = w13.setCell ⟨B, 2, none⟩ (.slice a13 n13 c13) := ⟨_, rfl⟩
          have HS14 := Lib.hid (HS13.out.set (j := 2) HBL.out (.slice a13 n13 c13))
          rw [← hw14] at HO13 HS14
          go_upto_region 21 with fail
          rw [← hw14]
          clear hw14 c0 c1 c2 c3 cf m0 m1 m2 m3 m4 m5 m6 mf b0 b1 b2 b3 bf l0 l1 l2 l3 l4 l5 l6 lf hHeld hkd HKEEP
          have HB14 := Lib.hid HO13.out.lt
          have HFL := Lib.hid (show (((n : Int) - 1) :: (L ++ newF (frN V L) ⟨1, rX, rY, rr, (rv1, rv2), rp⟩ j).map fun f => f.1).length ≤ 2001 by rw [List.length_cons, List.length_map]; have := HNL.out; omega)
          have HFE := Lib.hid (show (((n : Int) - 1) :: (L ++ newF (frN V L) ⟨1, rX, rY, rr, (rv1, rv2), rp⟩ j).map fun f => f.1) ++ [s] = ((n : Int) - 1) :: (L ++ newF (frN V L) ⟨1, rX, rY, rr, (rv1, rv2), rp⟩ (j + 1)).map fun f => f.1 by
           rw [← HNF.out]; exact fx_snoc _ _ (s, -rv1, rv2))
          go_wp2_with (first
           | (at_builtin; refine append_ints rfl _ _ rfl (B + 1) (.slice aF2 nF2 cF2) _ rfl (HO13.out.fx.ext (Ext.alloc _ _)) _ 1 _ [s] rfl (Ints.oneS _ _ _ _ (by simp)) (by have := HFL.out; omega) (by have h2 := HB14.out; simp; omega) ?_; intro v15 w15 ho hg hnear; have HS15 := Lib.hid ((HS14.out.ext (Ext.alloc _ _)).grown hg HOF2.out); have HN15 := Lib.hid (HOF2.out.near hnear (by have h1 := HS14.out.size; simp; omega)); obtain ⟨a15, n15, c15, rfl, HNN15⟩ := ho.var; have HO15 := Lib.hid (HO13.out.grewF (Ext.alloc _ _) hg ho); clear ho hg hnear))
          rw [HFE.out] at HO15
          go_roundg (g2 - 1)
          case measure => have := HJ.out; omega
          case rel => exact ⟨j + 1, _, _, _, _, Lib.hid (by have := HJ.out; omega), rfl, by go_num, HO15, HS15, HN13, HN15⟩
         ·have HNF := Lib.hid (show (L ++ newF (frN V L) ⟨1, rX, rY, rr, (rv1, rv2), rp⟩ j) = L ++ newF (frN V L) ⟨1, rX, rY, rr, (rv1, rv2), rp⟩ (j + 1) by
           rw [newF_succ, if_neg (by show ¬ 0 < (rX[j]?.getD (0, 0)).1; rw [hxj]; exact hx0), List.append_nil])
          clear hs
          go_wp2_with fail
          go_roundg (g2 - 1)
          case measure => have := HJ.out; omega
          case rel => exact ⟨j + 1, _, _, _, _, Lib.hid (by have := HJ.out; omega), rfl, by go_num, Lib.hid (by rw [← HNF.out]; exact HO2.out), HS2, HOS2, HOF2⟩
        ·have hjm' : j = m := by have := HJ.out; omega
         have HE := Lib.hid (show L ++ newF (frN V L) ⟨1, rX, rY, rr, (rv1, rv2), rp⟩ j = nextN V L ⟨1, rX, rY, rr, (rv1, rv2), rp⟩ by unfold nextN; rw [HM.out, hjm'])
         rw [HE.out] at HO2
         have HBD := Lib.hid (next_bd (V := V) (L := L) (r := ⟨1, rX, rY, rr, (rv1, rv2), rp⟩) (k := k) (by rw [HVL.out]; exact hn32) HLB.out HLL.out)
         have HNXX := Lib.hid (HNX.out trivial (g1 - 1))
         have HG1 := Lib.hid (show g1 - 1 + 1 = g1 by have := HFU.out; omega)
         subst hjm'
         go_wp2_with fail
         go_roundg (g1 - 1)
         case measure => have := HFU.out; omega
         case rel => exact ⟨k + 1, nextN V L ⟨1, rX, rY, rr, (rv1, rv2), rp⟩, _, _, _, _, _, _, Lib.hid (by have h1 := HK.out; have h2 := HFU.out; omega), rfl, HO2, Lib.hid (by have h1 := HNXX.out.2; have h2 := HFU.out; omega), Lib.hid HBD.out.1, Lib.hid HBD.out.2, Lib.hid (by have h1 := HNXX.out.1; rw [HG1.out] at h1; exact h1.symm.trans HOUT.out)⟩
      ·have HNO := Lib.hid (show o = NucR.no by
        rw [← HOUT.out]
        refine nucS_no HDF.out (fun h => hs ?_)
        have := h.2
        rw [Int.toNat_natCast, ← HRR.out] at this
        exact this)
       have hsb : (rs != 1) = true := by simp [hs]
       obtain ⟨q0, q1, q2, q3, qf⟩ := HRX.out w7 X7.out
       obtain ⟨z0, z1, z2, z3, _⟩ := HEND.out w7 X7.out (.bool false) (.slice none 0 0) (.slice none 0 0) (.int .i64 0)
       have HZ := Lib.hid (HENX.out w7 X7.out (.bool false) (.slice none 0 0) (.slice none 0 0) (.int .i64 0))
       go_wp2_with fail
       refine bodyPost_ret (v := .agg #[.bool false, .slice none 0 0, .slice none 0 0, .int .i64 0]) (by simp [results, Tryz.results26, go_sem, z0, z1, z2, z3]) rfl ⟨by rw [HNO.out]; exact NucRet.no _ _, HZ.out⟩
    ·have HDT := Lib.hid (show doneN (q : Int) V L = true by rw [HDN.out]; exact decide_eq_true (by omega))
     have hdd : decide (rk < (q : Int)) = false := decide_eq_false hdn
     go_wp2_with fail
     refine wp_region_held_drew (S := (fun w' => w'.cell? ⟨w.heap.size, 0, none⟩ = some (.int .i64 (q : Int)) ∧ Ext wr1 w')) (by kernel_rfl) ?_ (fun hHeld => ?_)
     ·exact ⟨hk.cellSome c0, hk⟩
     refine tk 0 ?_
     refine tk 1 ?_
     refine tk 2 ?_
     refine tk 4 ?_
     refine tk 5 ?_
     refine rd (i := 3) (h := fun K hK => ?_)
     go_simp
     (go_at_call 46; refine (HRK.out _ hk).mono ?_; rintro e w3 ⟨rfl, hx3⟩; have hk := hk.trans hx3)
     go_wp2_with fail
     refine hK.out _ _ ?_ (fun hHeld => ?_)
     ·exact ⟨hk.cellSome c0, hk⟩
     clear hK K
     try simp only [Act.put, sA, sB, sC]
     refine tk 6 ?_
     refine wpAnyH_done (by kernel_rfl) ?_ _
     have HO3 := Lib.hid (HO.out.grow hk)
     obtain ⟨b0, b1, b2, b3, bf⟩ := nbox HO3.out.box
     have X3 := Lib.hid HO3.out.ext
     obtain ⟨q0, q1, q2, q3, qf⟩ := HRX.out w3 X3.out
     obtain ⟨z0, z1, z2, z3, _⟩ := HEND.out w3 X3.out (.bool true) (.slice aP nP cP) (.slice aS nS cS) (.int .i64 (k : Int))
     have HZ := Lib.hid (HENX.out w3 X3.out (.bool true) (.slice aP nP cP) (.slice aS nS cS) (.int .i64 (k : Int)))
     have HZO := Lib.hid (HENO.out w3 X3.out (.bool true) (.slice aP nP cP) (.slice aS nS cS) (.int .i64 (k : Int)))
     have HR := Lib.hid (show o = ⟨true, pt, L, k⟩ by rw [← HOUT.out]; exact nucS_done HDT.out)
     have HPT := Lib.hid ((HO3.out.pt.keep (fun j hj => HZO.out j (by have := (HO3.out.pt.lt j hj).1; omega))).mono (show w.heap.size ≤ B + 1 by omega))
     have HST := Lib.hid ((HO3.out.st.keep (fun j hj => HZO.out j (by have := (HO3.out.st.lt j hj).1; omega))).mono (show w.heap.size ≤ B + 1 by omega))
     clear hk c0 hHeld
     go_wp2_with fail
     refine bodyPost_ret (v := .agg #[.bool true, .slice aP nP cP, .slice aS nS cS, .int .i64 (k : Int)]) (by simp [results, Tryz.results26, go_sem, z0, z1, z2, z3]) rfl ⟨by rw [HR.out]; exact ⟨_, _, _, _, _, _, rfl, HPT.out, HST.out⟩, HZ.out⟩
theorem all_takeG {α : Type} {p : α → Bool} {l : List α} {k : Nat} {d : α} (h : k < l.length) : (l.take (k + 1)).all p = ((l.take k).all p && p (l[k]?.getD d)) := by
 rw [List.take_succ_eq_append_getElem h, List.all_append, List.getElem?_eq_getElem h]; simp
theorem all_falseG {α : Type} {p : α → Bool} {l : List α} {k : Nat} {d : α} (h : k < l.length) (hb : p (l[k]?.getD d) = false) : l.all p = false := by
 rw [List.all_eq_false]
 exact ⟨l[k], List.getElem_mem h, by rw [List.getElem?_eq_getElem h] at hb; simpa using hb⟩
set_option maxHeartbeats 1000000 in
theorem s_l5Small {w : World} {a : Option Addr} {n cap : Nat} {l : List Int} (h : Ints w a n cap l) :
 Calls Tryz.prog 171 #[.slice a n cap] w fun e w' => e = .returned (.bool (l.all (inB · (-5000) 5000))) ∧ w = w' := by
 have hcap := h.hcap
 have hmax := h.hmax
 have HL := Lib.hid h.hlen
 have HI := Lib.hid h
 clear h
 go_enter Tryz.func171, Tryz.ntmps171
 go_wp2_with fail
 go_loopg [3] n (fun gk ii wr => ∃ k : Nat, Hid (gk + k = n) ∧ ii = .int .i64 (k : Int) ∧ Hid ((l.take k).all (inB · (-5000) 5000) = true) ∧ w = wr)
 case atStart => exact ⟨0, Lib.hid (by omega), rfl, Lib.hid rfl, rfl⟩
 case round =>
  obtain ⟨k, HK, rfl, HA, rfl⟩ := hrel
  by_cases hlt : k < n
  ·obtain ⟨b, off, rfl, hc0⟩ := HI.out.at hlt
   obtain ⟨x, hx⟩ : ∃ x, x = l[k]?.getD 0 := ⟨_, rfl⟩
   rw [← hx] at hc0
   have HC := Lib.hid (s_l1In x (-5000) 5000 w)
   cases hb : inB x (-5000) 5000
   all_goals
    rw [hb] at HC
   ·have HF := Lib.hid (show l.all (inB · (-5000) 5000) = false from all_falseG (d := 0) (by rw [HL.out]; exact hlt) (by rw [← hx]; exact hb))
    clear hx hb
    go_wp2_with (first | (go_at_call 56; refine HC.out.mono ?_; rintro e w2 ⟨rfl, rfl⟩))
    go_ret
    exact ⟨ret_bool HF.out.symm, rfl⟩
   ·have HT := Lib.hid (show (l.take (k + 1)).all (inB · (-5000) 5000) = true by rw [all_takeG (d := 0) (by rw [HL.out]; exact hlt), HA.out, ← hx, hb]; rfl)
    clear hx hb
    go_wp2_with (first | (go_at_call 56; refine HC.out.mono ?_; rintro e w2 ⟨rfl, rfl⟩))
    go_roundg (gk - 1)
    case measure => have := HK.out; omega
    case rel => exact ⟨k + 1, Lib.hid (by have := HK.out; omega), by go_num, HT, rfl⟩
  ·have HT := Lib.hid (show l.take k = l from List.take_of_length_le (by rw [HL.out]; have := HK.out; omega))
   go_wp2_with fail
   go_ret
   exact ⟨ret_bool (by have := HA.out; rw [HT.out] at this; exact this.symm), rfl⟩
section
variable {w : World} {a : Option Addr} {na ca : Nat} {b : Option Addr} {nb cb : Nat} {c : Option Addr} {nc cc : Nat} {A : List (List Int)} {B : List Int} {C : List (Int × Int)}
theorem okLP_rowsOnly {A : List (List Int)} {B : List Int} {C : List (Int × Int)} (h : A.all (okRowI C.length) = false) : okLP A B C = false := by rw [okLP_eq, h]; simp
set_option maxHeartbeats 4000000 in
theorem s_IsValidLP (h : LpC w a na ca b nb cb c nc cc A B C) :
 Calls Tryz.prog 128 #[lpW a na ca b nb cb c nc cc] w fun e w' => e = .returned (.bool (okLP A B C)) ∧ Ext w w' := by
 have hx0 := Ext.alloc w (lpBox a na ca b nb cb c nc cc)
 have HX0 := Lib.hid hx0
 have H := Lib.hid (h.ext hx0)
 have HE := Lib.hid (okLP_eq A B C)
 have HTB := Lib.hid (show (w.alloc (lpBox a na ca b nb cb c nc cc)).heap[w.heap.size]? = some (.cells #[.slice a na ca, .slice b nb cb, .slice c nc cc] 67 (0, 0)) from heapA_new _ _ _ rfl)
 have ha1 := h.a.hcap
 have ha2 := h.a.hmax
 have hb1 := h.b.hcap
 have hb2 := h.b.hmax
 have hc1 := h.c.hcap
 have hc2 := h.c.hmax
 have HLA := Lib.hid h.a.hlen
 have HLB := Lib.hid h.b.hlen
 have HLC := Lib.hid h.c.hlen
 clear h hx0
 go_enter Tryz.func128, Tryz.ntmps128
 go_upto_region 1 with fail
 obtain ⟨W, hW⟩ : ∃ x, x = w.alloc (lpBox a na ca b nb cb c nc cc) := ⟨_, rfl⟩
 rw [← hW] at HX0 H HTB
 rw [← hW]
 clear hW
 go_wp2_with fail
 go_loopg [3] na (fun gk ii wr => ∃ k : Nat, Hid (gk + k = na) ∧ ii = .int .i64 (k : Int) ∧ Hid ((A.take k).all (okRowI nc) = true) ∧ Hid (Ext W wr))
 case atStart => exact ⟨0, Lib.hid (by omega), rfl, Lib.hid rfl, Lib.hid (Ext.refl _)⟩
 case round =>
  obtain ⟨g1, h_g1⟩ : ∃ x, x = gk := ⟨_, rfl⟩
  subst h_g1
  obtain ⟨wr1, h_wr1⟩ : ∃ x, x = wr := ⟨_, rfl⟩
  subst h_wr1
  obtain ⟨k, HK, rfl, HA, HX⟩ := hrel
  have p0 := tbox0 (HX.out.blk HTB.out)
  have p2 := tbox2 (HX.out.blk HTB.out)
  by_cases hlt : k < na
  ·obtain ⟨gb, goff, ra, rn, rc, hga, hgc, hrow⟩ := (H.out.ext HX.out).a.at hlt
   subst hga
   have HLR := Lib.hid hrow.hlen
   have hrn := hrow.hcap
   have hrm := hrow.hmax
   have HKA := Lib.hid (show k < A.length by rw [HLA.out]; exact hlt)
   have HROW := Lib.hid hrow
   have hk0 : (0 : Int) ≤ (k : Int) := by omega
   have hk1 : (k : Int) < (na : Int) := by omega
   clear hrow
   go_upto_region 4 with fail
   have hk2 : Ext wr1 wr1.drew := Ext.drew wr1
   by_cases hl : rn = nc
   ·subst hl
    have hne : ((rn : Int) != (rn : Int)) = false := by simp
    obtain ⟨sm, hsm⟩ : ∃ s, s = (A[k]?.getD []).all (inB · (-5000) 5000) := ⟨_, rfl⟩
    have HRI := Lib.hid (show okRowI rn (A[k]?.getD []) = sm by unfold okRowI; rw [HLR.out, hsm]; simp)
    have HSM := Lib.hid (fun (W' : World) (hx : Ext wr1 W') => s_l5Small (HROW.out.ext hx))
    simp only [← hsm] at HSM
    clear hsm
    refine wp_region_held_drew (S := (fun w' => w'.cell? ⟨w.heap.size, 0, none⟩ = some (.slice (some ⟨gb, goff, none⟩) na ca) ∧ w'.cell? ⟨w.heap.size, 2, none⟩ = some (.slice c rn cc) ∧ w'.cell? ⟨gb, goff + k, none⟩ = some (.slice ra rn rc) ∧ Ext wr1 w')) (by kernel_rfl) ?_ (fun hHeld => ?_)
    ·exact ⟨hk2.cellSome p0, hk2.cellSome p2, hk2.cellSome hgc, hk2⟩
    refine tk 0 ?_
    refine tk 1 ?_
    refine tk 2 ?_
    refine tk 3 ?_
    refine tk 4 ?_
    refine tk 5 ?_
    refine tk 6 ?_
    refine tk 7 ?_
    refine tk 8 ?_
    refine tk 9 ?_
    refine tk 10 ?_
    refine tk 11 ?_
    refine tk 12 ?_
    refine tk 13 ?_
    refine tk 14 ?_
    refine tk 15 ?_
    refine rd (i := 16) (h := fun K hK => ?_)
    go_simp
    (go_at_call 171; refine (HSM.out _ hk2).mono ?_; rintro e w3 ⟨rfl, rfl⟩)
    go_wp2_with fail
    refine hK.out _ _ ?_ (fun hHeld => ?_)
    ·exact ⟨hk2.cellSome p0, hk2.cellSome p2, hk2.cellSome hgc, hk2⟩
    clear hK K
    try simp only [Act.put, sA, sB, sC]
    refine tk 17 ?_
    refine tk 18 ?_
    refine wpAnyH_done (by kernel_rfl) ?_ _
    have HX2 := Lib.hid (HX.out.trans hk2)
    clear p0 p2 hgc hk2
    cases sm
    ·have HF := Lib.hid (show okLP A B C = false from okLP_rowsOnly (all_falseL HKA.out (by rw [HLC.out]; exact HRI.out)))
     go_wp2_with fail
     go_ret
     exact ⟨ret_bool HF.out.symm, HX0.out.trans HX2.out⟩
    ·have HT := Lib.hid (show (A.take (k + 1)).all (okRowI rn) = true by rw [all_takeL HKA.out, HA.out, HRI.out]; rfl)
     go_wp2_with fail
     go_roundg (g1 - 1)
     case measure => have := HK.out; omega
     case rel => exact ⟨k + 1, Lib.hid (by have := HK.out; omega), by go_num, HT, HX2⟩
   ·have hne : ((rn : Int) != (nc : Int)) = true := by simp; omega
    have HF := Lib.hid (show okLP A B C = false from okLP_rowsOnly (all_falseL HKA.out (by unfold okRowI; rw [HLR.out, HLC.out, decide_eq_false hl]; rfl)))
    clear hl
    refine wp_region_held_drew (S := (fun w' => w'.cell? ⟨w.heap.size, 0, none⟩ = some (.slice (some ⟨gb, goff, none⟩) na ca) ∧ w'.cell? ⟨w.heap.size, 2, none⟩ = some (.slice c nc cc) ∧ w'.cell? ⟨gb, goff + k, none⟩ = some (.slice ra rn rc) ∧ Ext wr1 w')) (by kernel_rfl) ?_ (fun hHeld => ?_)
    ·exact ⟨hk2.cellSome p0, hk2.cellSome p2, hk2.cellSome hgc, hk2⟩
    refine tk 0 ?_
    refine tk 1 ?_
    refine tk 2 ?_
    refine tk 3 ?_
    refine tk 4 ?_
    refine tk 5 ?_
    refine tk 6 ?_
    refine tk 7 ?_
    refine tk 8 ?_
    refine tk 9 ?_
    refine tk 10 ?_
    refine sk 11 ?_
    refine sk 12 ?_
    refine sk 13 ?_
    refine sk 14 ?_
    refine sk 15 ?_
    refine sk 16 ?_
    refine sk 17 ?_
    refine tk 18 ?_
    refine wpAnyH_done (by kernel_rfl) ?_ _
    go_wp2_with fail
    go_ret
    exact ⟨ret_bool HF.out.symm, HX0.out.trans (HX.out.trans hk2)⟩
  ·have hkn : na = k := by have := HK.out; omega
   subst hkn
   have HT := Lib.hid (show A.all (okRowI nc) = true by have := HA.out; rwa [List.take_of_length_le (by rw [HLA.out]; exact Nat.le_refl _)] at this)
   have p1 := tbox1 (HX.out.blk HTB.out)
   have HE2 := Lib.hid (show okLP A B C = (decide (nc ≤ 70) && (decide (na ≤ 8) && (decide (nb = na) && (B.all (inB · (-5000) 5000) && allV C)))) by
    rw [HE.out, HLA.out, HLB.out, HLC.out, HT.out]; cases allV C <;> simp)
   by_cases h1 : nc ≤ 70
   ·by_cases h2 : na ≤ 8
    ·by_cases h3 : nb = na
     ·subst h3
      have hbb : ((nb : Int) == (nb : Int)) = true := by simp
      have hle1 : (nc : Int) ≤ 70 := by omega
      have hle2 : (nb : Int) ≤ 8 := by omega
      have HSM := Lib.hid (s_l5Small (H.out.ext HX.out).b)
      have HAV := Lib.hid (s_AllValid (H.out.ext HX.out).c)
      cases hs : B.all (inB · (-5000) 5000)
      ·have HF := Lib.hid (show okLP A B C = false by rw [HE2.out, hs]; simp)
       rw [hs] at HSM
       clear hs
       go_wp2_with fail
       refine HSM.out.mono ?_
       rintro e w3 ⟨rfl, rfl⟩
       go_wp2_with fail
       go_ret
       exact ⟨ret_bool HF.out.symm, HX0.out.trans HX.out⟩
      ·have HF := Lib.hid (show okLP A B C = allV C by rw [HE2.out, hs, decide_eq_true h1, decide_eq_true h2, decide_eq_true rfl]; rfl)
       rw [hs] at HSM
       clear hs
       go_wp2_with fail
       refine HSM.out.mono ?_
       rintro e w3 ⟨rfl, rfl⟩
       go_wp2_with fail
       refine HAV.out.mono ?_
       rintro e w3 ⟨rfl, hx⟩
       go_wp2_with fail
       go_ret
       exact ⟨ret_bool HF.out.symm, HX0.out.trans (HX.out.trans hx)⟩
     ·have HF := Lib.hid (show okLP A B C = false by rw [HE2.out, decide_eq_false h3]; simp)
      have hbb : ((nb : Int) == (na : Int)) = false := by simp; omega
      have hle1 : (nc : Int) ≤ 70 := by omega
      have hle2 : (na : Int) ≤ 8 := by omega
      go_wp2_with fail
      go_ret
      exact ⟨ret_bool HF.out.symm, HX0.out.trans HX.out⟩
    ·have HF := Lib.hid (show okLP A B C = false by rw [HE2.out, decide_eq_false h2]; simp)
     have hle1 : (nc : Int) ≤ 70 := by omega
     have hle2 : ¬ (na : Int) ≤ 8 := by omega
     go_wp2_with fail
     go_ret
     exact ⟨ret_bool HF.out.symm, HX0.out.trans HX.out⟩
   ·have HF := Lib.hid (show okLP A B C = false by rw [HE2.out, decide_eq_false h1]; simp)
    have hle1 : ¬ (nc : Int) ≤ 70 := by omega
    go_wp2_with fail
    go_ret
    exact ⟨ret_bool HF.out.symm, HX0.out.trans HX.out⟩
end
end Go.Proofs.YtgohdmnbnhehnaaGreat
