import Derived.Test.YtgohdmnbnhehnaaGreatSgAllG14
import Derived.Test.YtgohdmnbnhehnaaGreatSgAllG5
import Derived.Test.YtgohdmnbnhehnaaGreatSgAllG11
import Derived.Test.YtgohdmnbnhehnaaGreatSgAllG10
import Derived.Test.YtgohdmnbnhehnaaGreatSgAllG35
namespace Go.Proofs.YtgohdmnbnhehnaaGreat
set_option linter.unusedVariables false
set_option linter.unusedSimpArgs false
set_option maxRecDepth 100000
open Go.RowKit
theorem stBx_is {p : Int} {V : List Int} {L : List (Int × Int × Int)} (h : stOk p V L = true) : stAx p V L = stA p.toNat V L ∧ stBx p V L = stB p.toNat ∧ stCx p V L = stC V L := by unfold stAx stBx stCx; rw [h]; exact ⟨rfl, rfl, rfl⟩
theorem map_app3 {α β : Type} (f : α → β) (A B T : List α) : (A ++ B).map f ++ T.map f = (A ++ (B ++ T)).map f := by simp
theorem stOk_ext {p : Int} {V : List Int} {L : List (Int × Int × Int)} {n : Nat} (hg : goodL p V L = true) (hn : V.length = n) (h1 : 1 ≤ n) (hV : ∀ y ∈ V, -500 ≤ y ∧ y ≤ 500) : stOk p V L = (extE n L).all (fitC V) := by
 unfold stOk; rw [hg, allV_cols hn h1 hV]; rfl
set_option maxHeartbeats 16000000 in
theorem i_StageLP {w : World} {p : Int} {a : Option Addr} {n cap : Nat} {V : List Int} (hV : Ints w a n cap V) {fa : Option Addr} {fn fcap : Nat} {L : List (Int × Int × Int)} (h : Fixs w fa fn fcap L) (hfn : fn ≤ 1048576) :
 Calls Tryz.prog 42 #[pair p a n cap, .slice fa fn fcap] w fun e w' =>
  LpRet w' w.heap.size e (stAx p V L) (stBx p V L) (stCx p V L) (stOk p V L) ∧ Ext w w' := by
 obtain ⟨W, hW⟩ : ∃ W, W = (w.alloc (.cells #[.int .i64 p, .slice a n cap] 47)).alloc (.cells #[.slice none 0 0, .slice none 0 0, .slice none 0 0] 67) := ⟨_, rfl⟩
 have HWS := Lib.hid (show W.heap.size = w.heap.size + 2 by rw [hW]; simp)
 have HX0 := Lib.hid (show Ext w W by rw [hW]; exact (Ext.alloc _ _).trans (Ext.alloc _ _))
 have HWC := Lib.hid (show W.cell? ⟨w.heap.size, 1, none⟩ = some (.slice a n cap) by rw [hW]; simp)
 have HWD := Lib.hid (show W.cell? ⟨w.heap.size, 0, none⟩ = some (.int .i64 p) by rw [hW]; simp)
 have HWR := Lib.hid (show W.heap[w.heap.size + 1]? = some (.cells #[.slice none 0 0, .slice none 0 0, .slice none 0 0] 67 (0, 0)) by rw [hW]; exact heapA_new _ _ _ (by simp))
 have HVL := Lib.hid hV.hlen
 have hvcap := hV.hcap
 have hvmax := hV.hmax
 have hfcap := h.hcap
 have hfmax := h.hmax
 have HFL := Lib.hid h.hlen
 have HF := Lib.hid (h.ext HX0.out)
 have HVE := Lib.hid (hV.ext HX0.out)
 have HC := Lib.hid (i_IsValidGame (p := p) (hV.ext HX0.out))
 have hrbl : (w.heap.size + 1) < W.heap.size := by rw [HWS.out]; omega
 have HRB := Lib.hid (fun (w' : World) (hx : Ext W w') => (hx.block _ hrbl).trans HWR.out)
 have HEND := Lib.hid (fun (w' : World) (hx : Ext W w') (hno : stOk p V L = false) (e : Ending) (he : e = .returned (.tuple #[.agg #[.slice none 0 0, .slice none 0 0, .slice none 0 0], .bool false])) =>
  show LpRet (((w'.setCell ⟨w.heap.size + 1, 0, none⟩ (.slice none 0 0)).setCell ⟨w.heap.size + 1, 1, none⟩ (.slice none 0 0)).setCell ⟨w.heap.size + 1, 2, none⟩ (.slice none 0 0)) w.heap.size e (stAx p V L) (stBx p V L) (stCx p V L) (stOk p V L) ∧ Ext w (((w'.setCell ⟨w.heap.size + 1, 0, none⟩ (.slice none 0 0)).setCell ⟨w.heap.size + 1, 1, none⟩ (.slice none 0 0)).setCell ⟨w.heap.size + 1, 2, none⟩ (.slice none 0 0)) from
   ⟨⟨_, _, _, [], by rw [hno]; exact he, OwnV.nil _ _, by unfold stAx; rw [hno, if_neg (by simp)]; exact RowsI.nil _ _, by unfold stBx; rw [hno, if_neg (by simp)]; exact OwnI.nil _ _, by unfold stCx; rw [hno, if_neg (by simp)]; exact OwnR.nil _ _, OffV.nil _⟩,
     (((HX0.out.trans hx).store 0 (by omega) _).store 1 (by omega) _).store 2 (by omega) _⟩)
 clear h hV hrbl
 cases hg : gameOk p V
 ·have HG := Lib.hid (show stOk p V L = false by unfold stOk goodL; rw [hg]; rfl)
  rw [hg, hW] at HC
  clear hg
  go_enter Tryz.func42, Tryz.ntmps42
  go_wp2_with fail
  refine HC.out.mono ?_
  rw [← hW]
  rintro e w1 ⟨rfl, hx1⟩
  have hr0 := LpO.boxc0 (HRB.out w1 hx1)
  have hr1 := LpO.boxc1 (HRB.out w1 hx1)
  have hr2 := LpO.boxc2 (HRB.out w1 hx1)
  have hrf := LpO.boxf (HRB.out w1 hx1)
  have HX1 := Lib.hid hx1
  clear hx1
  go_wp2_with fail
  refine bodyPost_ret (v := .tuple #[.agg #[.slice none 0 0, .slice none 0 0, .slice none 0 0], .bool false]) (by simp [results, Tryz.results42, go_sem, hr0, hr1, hr2]) rfl (HEND.out _ HX1.out HG.out _ rfl)
 ·obtain ⟨q, rfl, h1, h5, hlen, _, hvb⟩ := gameOk_len hg
  have HGO := Lib.hid hg
  rw [hg, hW] at HC
  clear hg
  by_cases hq2 : q < 2
  ·have HG := Lib.hid (show stOk (q : Int) V L = false by unfold stOk goodL; rw [HGO.out, decide_eq_false (by omega : ¬ (2 : Int) ≤ (q : Int))]; rfl)
   clear hlen hvb
   have hq2' : (q : Int) < 2 := by omega
   go_enter Tryz.func42, Tryz.ntmps42
   go_wp2_with fail
   refine HC.out.mono ?_
   rw [← hW]
   rintro e w1 ⟨rfl, hx1⟩
   have hc0 := hx1.cellSome HWD.out
   have hr0 := LpO.boxc0 (HRB.out w1 hx1)
   have hr1 := LpO.boxc1 (HRB.out w1 hx1)
   have hr2 := LpO.boxc2 (HRB.out w1 hx1)
   have hrf := LpO.boxf (HRB.out w1 hx1)
   have HX1 := Lib.hid hx1
   clear hx1
   go_wp2_with fail
   refine bodyPost_ret (v := .tuple #[.agg #[.slice none 0 0, .slice none 0 0, .slice none 0 0], .bool false]) (by simp [results, Tryz.results42, go_sem, hr0, hr1, hr2]) rfl (HEND.out _ HX1.out HG.out _ rfl)
  ·have hn4 : 4 ≤ n := by have := cN_ge (n := q) (by omega) h5; rw [← HVL.out, hlen]; exact this
   have hn32 : n ≤ 32 := by have := cN_le q h5; rw [← HVL.out, hlen]; exact this.2
   obtain ⟨u, rfl⟩ : ∃ u, n = u + 1 := ⟨n - 1, by omega⟩
   have HVB := Lib.hid hvb
   have HOG := Lib.hid (show goodL (q : Int) V L = (ordX L ((u : Int) - 1) fn && decide (0 < (freeL L (u + 1 - 2)).length)) by
    unfold goodL; rw [HGO.out, decide_eq_true (by omega : (2 : Int) ≤ (q : Int)), HVL.out, HFL.out]
    rw [show (((u + 1 : Nat) : Int)) - 2 = (u : Int) - 1 by omega]; rfl)
   have hq2' : ¬ (q : Int) < 2 := by omega
   have hlen1 : ((u + 1 : Nat) : Int) - 1 = (u : Int) := by omega
   clear hlen hvb
   go_enter Tryz.func42, Tryz.ntmps42
   go_wp2_with fail
   refine HC.out.mono ?_
   rw [← hW]
   clear hW
   rintro e w1 ⟨rfl, hx1⟩
   have hc0 := hx1.cellSome HWD.out
   have hc1 := hx1.cellSome HWC.out
   have HX1 := Lib.hid hx1
   clear hx1 HC
   go_wp2_with fail
   clear hc0 hc1
   go_loopg [7, 39] fn (fun gk ss ii wr => ∃ k : Nat, Hid (gk + k = fn) ∧ ii = .int .i64 (k : Int) ∧ ss = .int .i64 ((seenN (L.take k) : Nat) : Int) ∧ Hid (ordX L ((u : Int) - 1) k = true) ∧ Hid (Ext W wr))
   case atStart => exact ⟨0, Lib.hid (by omega), rfl, rfl, Lib.hid rfl, HX1⟩
   case round =>
    obtain ⟨g1, h_g1⟩ : ∃ x, x = gk := ⟨_, rfl⟩
    subst h_g1
    obtain ⟨wr1, h_wr1⟩ : ∃ x, x = wr := ⟨_, rfl⟩
    subst h_wr1
    obtain ⟨k, HK, rfl, rfl, HO, HX⟩ := hrel
    have hszr := HX.out.size
    rw [HWS.out] at hszr
    by_cases hlt : k < fn
    ·obtain ⟨b, off, c, x, y, rfl, hxy, hf0, hf1, hf2⟩ := (HF.out.ext HX.out).at hlt
     have hkl : k < L.length := by rw [HFL.out]; exact hlt
     have hrw := HRB.out wr1 HX.out
     have hwn : IntKind.i64.wrap ((u : Int) - 1) = (u : Int) - 1 := by rw [IntKind.wrap_i64]; omega
     cases hb : inB c 1 ((u : Int) - 1)
     ·have HG := Lib.hid (show stOk (q : Int) V L = false by
       unfold stOk; rw [HOG.out, ordX_false (k := k) (m := fn) (by rw [hxy]; simp only; rw [hb]; rfl) hlt]; rfl)
      have hrA := HRB.out _ (HX.out.trans (Ext.alloc wr1 (.cells #[.int .i64 c, .int .i64 x, .int .i64 y] 108)))
      have hr0 := LpO.boxc0 hrA
      have hr1 := LpO.boxc1 hrA
      have hr2 := LpO.boxc2 hrA
      have hrf := LpO.boxf hrA
      clear hrA
      clear hxy hrw
      go_wp2_with (first | (go_at_call 62; refine (i_within _ _ _ _).mono ?_; rw [hb]; rintro e w' ⟨rfl, rfl⟩))
      refine bodyPost_ret (v := .tuple #[.agg #[.slice none 0 0, .slice none 0 0, .slice none 0 0], .bool false]) (by simp [results, Tryz.results42, go_sem, hr0, hr1, hr2]) rfl (HEND.out _ (HX.out.trans (Ext.alloc _ _)) HG.out _ rfl)
     ·have hcb : 1 ≤ c ∧ c ≤ (u : Int) - 1 := by unfold inB at hb; simpa using hb
      obtain ⟨t, rfl⟩ : ∃ t : Nat, c = t := ⟨c.toNat, by omega⟩
      have hLk : ∀ f ∈ L.take k, 1 ≤ f.1 ∧ f.1 ≤ (u : Int) - 1 := by
       intro f hf
       obtain ⟨i, hi, rfl⟩ := List.mem_take_iff_getElem.1 hf
       have := (List.all_eq_true.1 HO.out) i (List.mem_range.2 (by omega))
       rw [List.getElem?_eq_getElem (by omega)] at this
       simp only [Option.getD_some, Bool.and_eq_true, inB, decide_eq_true_eq] at this
       exact this.1
      have hsl := seenN_lt (L.take k) (fun f hf => by have := hLk f hf; omega)
      have hbt := bit_test ((seenN (L.take k) : Nat) : Int) t (by omega) (by omega)
      rw [bit_nat, seenN_bit t _ (fun f hf => by have := hLk f hf; omega)] at hbt
      have hpw := pow_le30 t (by omega)
      have hkw : IntKind.i64.wrap ((2 : Int) ^ t) = 2 ^ t := by rw [IntKind.wrap_i64]; omega
      cases hh : hasX (L.take k) (t : Int)
      ·rw [hh] at hbt
       have HN := Lib.hid (show ordX L ((u : Int) - 1) (k + 1) = true by rw [ordX_succ, HO.out, hxy]; simp only; rw [hb, hh]; rfl)
       have hsn := seenN_snoc hkl
       rw [hxy] at hsn
       simp only [Int.toNat_natCast] at hsn
       have hor := or_pow (k := t) hsl (by omega)
       rw [← hsn] at hor
       clear hsn hxy hLk hh
       obtain ⟨s0, hs0⟩ : ∃ s, s = seenN (L.take k) := ⟨_, rfl⟩
       obtain ⟨s1, hs1⟩ : ∃ s, s = seenN (L.take (k + 1)) := ⟨_, rfl⟩
       rw [← hs0] at hbt hor hsl
       rw [← hs1] at hor
       rw [← hs0]
       have HS1 := Lib.hid hs1
       clear hs0 hs1
       go_wp2_with (first | (go_at_call 62; refine (i_within _ _ _ _).mono ?_; rw [hb]; rintro e w' ⟨rfl, rfl⟩))
       go_roundg (g1 - 1)
       case measure => have := HK.out; omega
       case rel => exact ⟨k + 1, Lib.hid (by have := HK.out; omega), by go_num, by rw [← HS1.out], HN, Lib.hid (HX.out.trans (Ext.alloc _ _))⟩
      ·rw [hh] at hbt
       have HG := Lib.hid (show stOk (q : Int) V L = false by
        unfold stOk; rw [HOG.out, ordX_false (k := k) (m := fn) (by rw [hxy]; simp only; rw [hh]; simp) hlt]; rfl)
       have hrA := HRB.out _ (HX.out.trans (Ext.alloc wr1 (.cells #[.int .i64 (t : Int), .int .i64 x, .int .i64 y] 108)))
       have hr0 := LpO.boxc0 hrA
       have hr1 := LpO.boxc1 hrA
       have hr2 := LpO.boxc2 hrA
       have hrf := LpO.boxf hrA
       clear hrA
       clear hxy hrw hLk hh
       obtain ⟨s0, hs0⟩ : ∃ s, s = seenN (L.take k) := ⟨_, rfl⟩
       rw [← hs0] at hbt hsl
       rw [← hs0]
       clear hs0
       go_wp2_with (first | (go_at_call 62; refine (i_within _ _ _ _).mono ?_; rw [hb]; rintro e w' ⟨rfl, rfl⟩))
       refine bodyPost_ret (v := .tuple #[.agg #[.slice none 0 0, .slice none 0 0, .slice none 0 0], .bool false]) (by simp [results, Tryz.results42, go_sem, hr0, hr1, hr2]) rfl (HEND.out _ (HX.out.trans (Ext.alloc _ _)) HG.out _ rfl)
    ·have hkf : k = fn := by have := HK.out; omega
     subst hkf
     have hLb : ∀ f ∈ L, 1 ≤ f.1 ∧ f.1 ≤ (u : Int) - 1 := by
      intro f hf
      obtain ⟨i, hi, rfl⟩ := List.getElem_of_mem hf
      have := (List.all_eq_true.1 HO.out) i (List.mem_range.2 (by rw [← HFL.out]; exact hi))
      rw [List.getElem?_eq_getElem hi] at this
      simp only [Option.getD_some, Bool.and_eq_true, inB, decide_eq_true_eq] at this
      exact this.1
     have HLB := Lib.hid hLb
     have HFRE := Lib.hid (i_freeCoalitions (w := wr1) (q : Int) a (u + 1) cap (by omega) (by omega) (HF.out.ext HX.out))
     have HMM := Lib.hid (fun s => freeL_mem (L := L) (m := u + 1 - 2) (s := s))
     have HML := Lib.hid (freeL_len L (u + 1 - 2))
     have hcA := HX.out.cellSome HWD.out
     have hcB := HX.out.cellSome HWC.out
     clear hLb
     go_wp2_with fail
     refine HFRE.out.mono ?_
     rintro e w2 ⟨⟨vf, rfl, hfo⟩, hx2⟩
     obtain ⟨af, m, cf, rfl, hfm⟩ := hfo.var
     have HX2 := Lib.hid (HX.out.trans hx2)
     have HFO := Lib.hid (hfo.mono (base' := w.heap.size + 2) hszr)
     have HFM := Lib.hid hfm.out
     have hmb : m ≤ 32 := by have := HML.out; have := hfm.out; omega
     have hsz2 := HX2.out.size
     rw [HWS.out] at hsz2
     clear hfo hfm hx2 hcA hcB HFRE
     by_cases hm0 : m = 0
     ·subst hm0
      have HG := Lib.hid (show stOk (q : Int) V L = false by
       unfold stOk; rw [HOG.out, HFM.out]; simp)
      have hrA := HRB.out _ HX2.out
      have hr0 := LpO.boxc0 hrA
      have hr1 := LpO.boxc1 hrA
      have hr2 := LpO.boxc2 hrA
      have hrf := LpO.boxf hrA
      clear hrA
      go_wp2_with fail
      refine bodyPost_ret (v := .tuple #[.agg #[.slice none 0 0, .slice none 0 0, .slice none 0 0], .bool false]) (by simp [results, Tryz.results42, go_sem, hr0, hr1, hr2]) rfl (HEND.out _ HX2.out HG.out _ rfl)
     ·have HGL := Lib.hid (show goodL (q : Int) V L = true by rw [HOG.out, HO.out, HFM.out]; simp; omega)
      have hmz : ((m : Int) == 0) = false := by simpa using hm0
      have HCLN := Lib.hid (clone_ints HFO.out.ints (by omega))
      have hmcap := HFO.out.ints.hcap
      have hmmax := HFO.out.ints.hmax
      go_wp2_with fail
      refine HCLN.out.mono ?_
      rintro e w3 ⟨vcl, rfl, hco, hx3⟩
      obtain ⟨acl, ncl, ccl, rfl, hncl⟩ := hco.var
      have HNCL := Lib.hid (show ncl = m by rw [← hncl.out, HFM.out])
      have HX3 := Lib.hid (HX2.out.trans hx3)
      have HFO3 := Lib.hid (HFO.out.ext hx3)
      have HCO3 := Lib.hid (hco.mono (base' := w.heap.size + 2) hsz2)
      have hsz3 := HX3.out.size
      rw [HWS.out] at hsz3
      have HR0 := Lib.hid (OwnR.made w3 (w.heap.size + 2) hsz3)
      clear hco hncl hx3
      go_wp2_with fail
      go_loopg [12, 76] m (fun gk cc ii wr => ∃ (k : Nat) (a1 : Option Addr) (n1 p1 : Nat), Hid (gk + k = m) ∧ ii = .int .i64 (k : Int) ∧ cc = .slice a1 n1 p1 ∧ Hid (OwnR wr (w.heap.size + 2) (.slice a1 n1 p1) ((frontC V ((freeL L (u + 1 - 2)).take k)).map fun c => c.2.2.2)) ∧ Hid (OwnI wr (w.heap.size + 2) (.slice af m cf) (freeL L (u + 1 - 2))) ∧ Hid (OwnI wr (w.heap.size + 2) (.slice acl ncl ccl) (freeL L (u + 1 - 2))) ∧ Hid (Ext W wr))
      case atStart => exact ⟨0, _, _, _, Lib.hid (by omega), rfl, rfl, HR0, Lib.hid (HFO3.out.ext (Ext.alloc _ _)), Lib.hid (HCO3.out.ext (Ext.alloc _ _)), Lib.hid (HX3.out.trans (Ext.alloc _ _))⟩
      case round =>
       obtain ⟨g2, h_g2⟩ : ∃ x, x = gk := ⟨_, rfl⟩
       subst h_g2
       obtain ⟨wr2, h_wr2⟩ : ∃ x, x = wr := ⟨_, rfl⟩
       subst h_wr2
       obtain ⟨j, a1, n1, p1, HJ, rfl, rfl, HRO, HFK, HCK, HXK⟩ := hrel
       have hszk := HXK.out.size
       rw [HWS.out] at hszk
       have hcB := HXK.out.cellSome HWC.out
       by_cases hjm : j < m
       ·obtain ⟨b, off, he, hsc⟩ := HFK.out.ints.at hjm
        subst he
        obtain ⟨s, hs⟩ : ∃ s, s = (freeL L (u + 1 - 2))[j]?.getD 0 := ⟨_, rfl⟩
        rw [← hs] at hsc
        have hjl : j < (freeL L (u + 1 - 2)).length := by rw [HFM.out]; exact hjm
        have hsm := HMM.out s (by rw [hs, List.getElem?_eq_getElem hjl]; exact List.getElem_mem hjl)
        obtain ⟨t, rfl⟩ : ∃ t : Nat, s = t := ⟨s.toNat, by omega⟩
        have htn : t < u + 1 := by omega
        obtain ⟨vb, voff, hve, hvc⟩ := ((HVE.out.ext HXK.out).at htn)
        subst hve
        have hyb := getD_bd HVB.out t
        obtain ⟨y, hy⟩ : ∃ y, y = V[t]?.getD 0 := ⟨_, rfl⟩
        rw [← hy] at hvc hyb
        have HSN := Lib.hid (show ((frontC V ((freeL L (u + 1 - 2)).take j)).map fun c => c.2.2.2) ++ [(-y, 1)] = (frontC V ((freeL L (u + 1 - 2)).take (j + 1))).map fun c => c.2.2.2 by
         rw [← frontC_snoc V hjl, ← hs, hy]; simp)
        have hwn : IntKind.i64.wrap (-y) = -y := by rw [IntKind.wrap_i64]; omega
        have HLK := Lib.hid (show ((frontC V ((freeL L (u + 1 - 2)).take j)).map fun c => c.2.2.2).length ≤ 1000 by rw [List.length_map, frontC_len, List.length_take]; have := HML.out; omega)
        clear hs hsm hy hjl
        go_wp2_with (first
         | (go_at_call 87; refine (i_whole _ _).mono ?_; rintro e w4 ⟨rfl, hx4⟩; have hs4 := hx4.size; have HR4 := Lib.hid (HRO.out.ext hx4); have HF4 := Lib.hid (HFK.out.ext hx4); have HC4 := Lib.hid (HCK.out.ext hx4); have HX4 := Lib.hid (HXK.out.trans hx4); clear hx4)
         | (at_builtin; refine append_rats rfl _ _ rfl (w.heap.size + 2) (.slice a1 n1 p1) _ rfl (HR4.out.ext (Ext.alloc _ _)) _ 1 _ [(-y, 1)] rfl (Rats.one' _ _ _ _ _ (by simp)) (by have := HLK.out; omega) (by simp; omega) ?_; intro v5 w5 ho hg hnear; have HF5 := Lib.hid (HF4.out.keptR (Ext.alloc _ _) HR4.out hg); have HC5 := Lib.hid (HC4.out.keptR (Ext.alloc _ _) HR4.out hg); have X5 := Lib.hid ((HX4.out.trans (Ext.alloc _ _)).grown hg (fun j hj => by rw [HWS.out]; exact (HR4.out.lt j hj).1)); obtain ⟨a5, n5, p5, rfl, HN5⟩ := ho.var; have HO5 := Lib.hid ho; clear ho hg hnear))
        go_roundg (g2 - 1)
        case measure => have := HJ.out; omega
        case rel => exact ⟨j + 1, a5, n5, p5, Lib.hid (by have := HJ.out; omega), by go_num, rfl, Lib.hid (by rw [← HSN.out]; exact HO5.out), HF5, HC5, X5⟩
       ·have hjm' : m = j := by have := HJ.out; omega
        subst hjm'
        have HFT := Lib.hid (show (freeL L (u + 1 - 2)).take m = freeL L (u + 1 - 2) from List.take_of_length_le (by rw [HFM.out]; exact Nat.le_refl _))
        rw [HFT.out] at HRO
        have HCF := Lib.hid (clone_fixs (HF.out.ext HXK.out) (by omega))
        clear HFK hcB
        go_wp2_with fail
        refine HCF.out.mono ?_
        rintro e w4 ⟨vE, rfl, hE, hx4⟩
        obtain ⟨aE0, nE0, cE0, rfl, hnE⟩ := hE.var
        have HNE0 := Lib.hid (show nE0 = k by rw [← hnE.out, HFL.out])
        have HX4 := Lib.hid (HXK.out.trans hx4)
        have HR4 := Lib.hid (HRO.out.ext hx4)
        have HC4 := Lib.hid (HCK.out.ext hx4)
        have HE4 := Lib.hid (hE.mono (base' := w.heap.size + 2) hszk)
        have hsz4 := HX4.out.size
        rw [HWS.out] at hsz4
        clear hE hnE hx4 HCF
        go_wp2_with (first
         | (go_at_call 87; refine (i_whole _ _).mono ?_; rintro e w5 ⟨rfl, hx5⟩; have hs5 := hx5.size; have HE5 := Lib.hid (HE4.out.ext hx5); have HR5 := Lib.hid (HR4.out.ext hx5); have HC5 := Lib.hid (HC4.out.ext hx5); have HX5 := Lib.hid (HX4.out.trans hx5); clear hx5)
         | (at_builtin; refine append_g fixE Tryz.infoFix rfl Tryz.underlying43 (by decide) rfl _ _ rfl (w.heap.size + 2) (.slice aE0 nE0 cE0) L rfl (HE5.out.ext (Ext.alloc _ _)) _ 1 1 [((u : Int), 0, 1)] rfl (Slc.lit fixE _ _ _ 1 (by rfl) _ (by rfl) _ (by rfl) (by omega)) (by rw [HFL.out]; omega) (by simp; omega) ?_; intro v6 w6 ho hg hnear; have HR6 := Lib.hid (show OwnR w6 _ _ _ from ownsRow_grown (HR5.out.ext (Ext.alloc _ _)) (HE5.out.ext (Ext.alloc _ _)) (by decide) hg); have HC6 := Lib.hid (show OwnI w6 _ _ _ from ownsRow_grown (HC5.out.ext (Ext.alloc _ _)) (HE5.out.ext (Ext.alloc _ _)) (by decide) hg); have X6 := Lib.hid ((HX5.out.trans (Ext.alloc _ _)).grown hg (fun j hj => by rw [HWS.out]; exact (HE5.out.lt j hj).1)); obtain ⟨aE, nE, cE, rfl, HNE⟩ := ho.var; have HE6 := Lib.hid ho; clear ho hg hnear))
        obtain ⟨EE, hEE⟩ : ∃ E, E = extE (u + 1) L := ⟨_, rfl⟩
        have HEL := Lib.hid (show L ++ [((u : Int), 0, 1)] = EE by rw [hEE]; unfold extE; rw [hlen1])
        have HEM := Lib.hid (show ∀ f ∈ EE, 1 ≤ f.1 ∧ f.1 ≤ (u : Int) by
         intro f hf
         rw [← HEL.out] at hf
         rcases List.mem_append.1 hf with h | h
         ·have := HLB.out f h; omega
         ·rw [List.mem_singleton] at h; subst h; simp only; omega)
        have HEN := Lib.hid (show EE.length = k + 1 by rw [← HEL.out, List.length_append, HFL.out]; rfl)
        have HNEE := Lib.hid (show nE = k + 1 by rw [← HNE.out, HEL.out, HEN.out])
        rw [HEL.out] at HE6
        have HST := Lib.hid (stOk_ext HGL.out HVL.out (by omega) HVB.out)
        rw [← hEE] at HST
        have HCE := Lib.hid (cols_ext HVL.out (by omega) HVB.out L)
        rw [← hEE] at HCE
        have hecap := HE6.out.slc.hcap
        have hemax := HE6.out.slc.hmax
        have HFV := Lib.hid (show (frontC V (freeL L (u + 1 - 2))).length ≤ 1000 by rw [frontC_len]; have := HML.out; omega)
        obtain ⟨FC, hFC⟩ : ∃ F, F = frontC V (freeL L (u + 1 - 2)) := ⟨_, rfl⟩
        have HFC1 := Lib.hid (show freeL L (u + 1 - 2) = FC.map (·.1) by rw [hFC]; simp [frontC, Function.comp_def])
        rw [HFC1.out] at HC6
        rw [← hFC] at HR6 HCE HFV
        have HFC := Lib.hid hFC
        clear hEE hFC hlen1
        go_wp2_with fail
        go_loopg [11, 12, 99] (k + 1) (fun gk cc rr ii wr => ∃ (i : Nat) (aC : Option Addr) (nC cC : Nat) (aR : Option Addr) (nR cR : Nat), Hid (gk + i = k + 1) ∧ ii = .int .i64 (i : Int) ∧ cc = .slice aC nC cC ∧ rr = .slice aR nR cR ∧ Hid (OwnI wr (w.heap.size + 2) (.slice aC nC cC) ((FC ++ fixedC V (EE.take i)).map (·.1))) ∧ Hid (OwnR wr (w.heap.size + 2) (.slice aR nR cR) ((FC ++ fixedC V (EE.take i)).map fun c => c.2.2.2)) ∧ Hid (OwnG fixE 108 wr (w.heap.size + 2) (.slice aE nE cE) EE) ∧ Hid ((EE.take i).all (fitC V) = true) ∧ Hid (Ext W wr))
        case atStart => exact ⟨0, _, _, _, _, _, _, Lib.hid (by omega), rfl, rfl, rfl, Lib.hid (by simpa [fixedC] using HC6.out), Lib.hid (by simpa [fixedC] using HR6.out), HE6, Lib.hid rfl, X6⟩
        case round =>
         obtain ⟨g3, h_g3⟩ : ∃ x, x = gk := ⟨_, rfl⟩
         subst h_g3
         obtain ⟨wr3, h_wr3⟩ : ∃ x, x = wr := ⟨_, rfl⟩
         subst h_wr3
         obtain ⟨i, aC, nC, cC, aR, nR, cR, HI, rfl, rfl, rfl, HOC, HOR, HOE, HOF, HX3⟩ := hrel
         have hszr3 := HX3.out.size
         rw [HWS.out] at hszr3
         by_cases hik : i < k + 1
         ·have hine : i < nE := by rw [HNEE.out]; exact hik
          obtain ⟨eb, eoff, ⟨c, x, y⟩, hea, hex, hec⟩ := HOE.out.slc.at hine
          subst hea
          have e0 : wr3.cell? ⟨eb, eoff + i * 3, none⟩ = some (.int .i64 c) := hec 0 _ rfl
          have e1 : wr3.cell? ⟨eb, eoff + i * 3 + 1, none⟩ = some (.int .i64 x) := hec 1 _ rfl
          have e2 : wr3.cell? ⟨eb, eoff + i * 3 + 2, none⟩ = some (.int .i64 y) := hec 2 _ rfl
          have hcm := HEM.out (c, x, y) (List.mem_of_getElem? hex)
          simp only at hcm
          obtain ⟨t, rfl⟩ : ∃ t : Nat, c = t := ⟨c.toNat, by omega⟩
          have htn : t < u + 1 := by omega
          obtain ⟨vb, voff, hve, hvc⟩ := HVE.out.at htn
          subst hve
          obtain ⟨z, hz⟩ : ∃ z, z = V[t]?.getD 0 := ⟨_, rfl⟩
          rw [← hz] at hvc
          obtain ⟨p, q', ok, hpq⟩ : ∃ p q ok, subR (x, y) (z, 1) = ((p, q), ok) := ⟨_, _, _, rfl⟩
          have HPQ := Lib.hid hpq
          have HPB := Lib.hid (show -1000000000 ≤ p ∧ p ≤ 1000000000 by have := subR_bd9 (x, y) (z, 1); rw [hpq] at this; exact this)
          have HFIT := Lib.hid (show fitC V ((t : Int), x, y) = ok by unfold fitC; simp only; rw [Int.toNat_natCast, ← hz, hpq])
          have HTW := Lib.hid (show fixedC V (EE.take i) ++ twoC (t : Int) (p, q') = fixedC V (EE.take (i + 1)) by
           rw [take_snocG hex]; unfold fixedC; rw [List.flatMap_append]; simp only [List.flatMap_cons, List.flatMap_nil, List.append_nil]; unfold costC; simp only; rw [Int.toNat_natCast, ← hz, hpq])
          have HXI := Lib.hid hex
          clear hec hex hz hpq
          go_upto_region 25 with fail
          obtain ⟨wb, hwb⟩ : ∃ x', x' = wr3.alloc (.cells #[.int .i64 (t : Int), .int .i64 x, .int .i64 y] 108) := ⟨_, rfl⟩
          have HXB := Lib.hid (show Ext wr3 wb by rw [hwb]; exact Ext.alloc _ _)
          have f0 : wb.cell? ⟨wr3.heap.size, 0, none⟩ = some (.int .i64 (t : Int)) := by rw [hwb]; simp
          have f1 : wb.cell? ⟨wr3.heap.size, 1, none⟩ = some (.int .i64 x) := by rw [hwb]; simp
          have f2 : wb.cell? ⟨wr3.heap.size, 2, none⟩ = some (.int .i64 y) := by rw [hwb]; simp
          have hgv : wb.cell? ⟨w.heap.size, 1, none⟩ = some (.slice (some ⟨vb, voff, none⟩) (u + 1) cap) := (HX3.out.trans HXB.out).cellSome HWC.out
          have hvt : wb.cell? ⟨vb, voff + t, none⟩ = some (.int .i64 z) := (HX3.out.trans HXB.out).cellSome hvc
          rw [← hwb]
          have hti : (t : Int) < (u : Int) + 1 := by omega
          clear hwb e0 e1 e2 hvc
          go_upto_region 25 with fail
          go_cut [17, 18] (fun sx so wx => ∃ g : Nat, sx = .pointer (some ⟨g, 0, none⟩) ∧ so = .bool ok ∧ Hid (Boxed wb wx g p q'))
          case first =>
           have hk2 : Ext wb wb.drew := Ext.drew wb
           have hka : Ext wb (wb.alloc (.cells #[.int .i64 0, .int .i64 0] 85)).drew := (Ext.alloc _ _).trans (Ext.drew _)
           have HKEEP := Lib.hid (fun (w' : World) (h : Ext wb w') => (⟨h.cellSome f0, h.cellSome f1, h.cellSome f2, h.cellSome hgv, h.cellSome hvt, h⟩ : w'.cell? ⟨wr3.heap.size, 0, none⟩ = some (.int .i64 (t : Int)) ∧ w'.cell? ⟨wr3.heap.size, 1, none⟩ = some (.int .i64 x) ∧ w'.cell? ⟨wr3.heap.size, 2, none⟩ = some (.int .i64 y) ∧ w'.cell? ⟨w.heap.size, 1, none⟩ = some (.slice (some ⟨vb, voff, none⟩) (u + 1) cap) ∧ w'.cell? ⟨vb, voff + t, none⟩ = some (.int .i64 z) ∧ Ext wb w'))
           go_region_held3 (fun w' => w'.cell? ⟨wr3.heap.size, 0, none⟩ = some (.int .i64 (t : Int)) ∧ w'.cell? ⟨wr3.heap.size, 1, none⟩ = some (.int .i64 x) ∧ w'.cell? ⟨wr3.heap.size, 2, none⟩ = some (.int .i64 y) ∧ w'.cell? ⟨w.heap.size, 1, none⟩ = some (.slice (some ⟨vb, voff, none⟩) (u + 1) cap) ∧ w'.cell? ⟨vb, voff + t, none⟩ = some (.int .i64 z) ∧ Ext wb w')
            (first
              | with_reducible exact HKEEP.out _ hk2
              | with_reducible exact HKEEP.out _ hka
              | with_reducible exact HKEEP.out _ ((hk2.setCell (by first | (simp; done) | (simp; omega)) _).setCell (by first | (simp; done) | (simp; omega)) _)
              | with_reducible exact HKEEP.out _ (hk2.trans (Ext.alloc _ _))
              | with_reducible exact HKEEP.out _ (hBB.put _ _).ext)
            (first
              | (go_at_call 87
                 (with_reducible refine (i_whole _ _).mono ?_)
                 rintro e w7 ⟨rfl, hx_w7⟩
                 first | (with_reducible have hBB := Boxed.grow hBB hx_w7) | (with_reducible have hBB := Boxed.firstD hx_w7) | (with_reducible have hBB := Boxed.laterD hk2 hx_w7) | skip
                 first | (have b0_ := hBB.c0; have b1_ := hBB.c1; have fb_ := hBB.free) | skip
                 have hk2 : Ext wb w7 := by first | with_reducible exact hk2.trans hx_w7 | with_reducible exact hka.trans hx_w7 | with_reducible exact (hk2.trans (Ext.alloc _ _)).trans hx_w7
                 have hk2s := hk2.size)
              | (go_at_call 107
                 (with_reducible refine (i_SubRat _ _ _ _ _).mono ?_)
                 rw [HPQ.out]
                 rintro e w8 ⟨rfl, hx_w8⟩
                 first | (with_reducible have hBB := Boxed.grow hBB hx_w8) | (with_reducible have hBB := Boxed.firstD hx_w8) | (with_reducible have hBB := Boxed.laterD hk2 hx_w8) | skip
                 first | (have b0_ := hBB.c0; have b1_ := hBB.c1; have fb_ := hBB.free) | skip
                 have hk2 : Ext wb w8 := by first | with_reducible exact hk2.trans hx_w8 | with_reducible exact hka.trans hx_w8 | with_reducible exact (hk2.trans (Ext.alloc _ _)).trans hx_w8
                 have hk2s := hk2.size)
              | fail)
           all_goals (go_wp2_with fail; go_meet; first | exact ⟨_, rfl, rfl, Lib.hid (hBB.put _ _)⟩ | exact ⟨_, rfl, rfl, Lib.hid (Boxed.new hk2 _ _)⟩ | exact ⟨_, rfl, rfl, Lib.hid (Boxed.new' hk2 _ _ (by simp))⟩)
          obtain ⟨g, rfl, rfl, HB⟩ := hcut
          have XC := Lib.hid ((HX3.out.trans HXB.out).trans HB.out.ext)
          have HOCc := Lib.hid ((HOC.out.ext HXB.out).ext HB.out.ext)
          have HORc := Lib.hid ((HOR.out.ext HXB.out).ext HB.out.ext)
          have HOEc := Lib.hid ((HOE.out.ext HXB.out).ext HB.out.ext)
          have hg0 := HB.out.ext.cellSome f0
          have hszc := XC.out.size
          rw [HWS.out] at hszc
          have HGE := Lib.hid (show wr3.heap.size < g by have := HB.out.ge; have := World.block_lt_of_cell? _ _ f0; simp only at this; omega)
          clear f0 f1 f2 hgv hvt hti
          cases ok
          ·have HG := Lib.hid (show stOk (q : Int) V L = false from by
            rw [HST.out, List.all_eq_false]; exact ⟨_, List.mem_of_getElem? HXI.out, by rw [HFIT.out]; simp⟩)
           have hrA := HRB.out _ XC.out
           have hr0 := LpO.boxc0 hrA
           have hr1 := LpO.boxc1 hrA
           have hr2 := LpO.boxc2 hrA
           have hrf := LpO.boxf hrA
           clear hrA
           go_wp2_with fail
           refine bodyPost_ret (v := .tuple #[.agg #[.slice none 0 0, .slice none 0 0, .slice none 0 0], .bool false]) (by simp [results, Tryz.results42, go_sem, hr0, hr1, hr2]) rfl (HEND.out _ XC.out HG.out _ rfl)
          ·have HTK := Lib.hid (show (EE.take (i + 1)).all (fitC V) = true by rw [take_snocG HXI.out, List.all_append, HOF.out]; simp [HFIT.out])
           have HLC := Lib.hid (show ((FC ++ fixedC V (EE.take i)).map (·.1)).length ≤ 3000000 by rw [List.length_map, List.length_append, fixedC_len, List.length_take]; have := HFV.out; have := HEN.out; omega)
           have HLR := Lib.hid (show ((FC ++ fixedC V (EE.take i)).map fun c => c.2.2.2).length ≤ 3000000 by rw [List.length_map, List.length_append, fixedC_len, List.length_take]; have := HFV.out; have := HEN.out; omega)
           have HSC := Lib.hid (show (FC ++ fixedC V (EE.take i)).map (·.1) ++ [(t : Int), (t : Int)] = (FC ++ fixedC V (EE.take (i + 1))).map (·.1) by rw [← HTW.out]; exact map_app3 _ FC _ (twoC (t : Int) (p, q')))
           have HSR := Lib.hid (show ((FC ++ fixedC V (EE.take i)).map fun c => c.2.2.2) ++ [(p, q'), (-p, q')] = (FC ++ fixedC V (EE.take (i + 1))).map fun c => c.2.2.2 by rw [← HTW.out]; exact map_app3 _ FC _ (twoC (t : Int) (p, q')))
           have HBC := Lib.hid (HB.out.cell)
           go_wp2_with (first
            | (at_builtin; go_loud (refine append_ints rfl _ _ rfl (w.heap.size + 2) (.slice aC nC cC) _ rfl (HOCc.out.ext (Ext.alloc _ _)) _ 2 _ [(t : Int), (t : Int)] rfl (Ints.litM [(t : Int), (t : Int)] _ (by rfl) (by rfl) (by rfl) (by simp)) (Nat.le_trans (Nat.add_le_add_right HLC.out 2) (by decide)) (by simp; omega) ?_; intro v9 w9 ho hg hnear; have HR9 := Lib.hid (HORc.out.keptI (Ext.alloc _ _) HOCc.out hg); have HE9 := Lib.hid (show OwnG fixE 108 w9 _ _ _ from HOEc.out.grownI (Ext.alloc _ _) HOCc.out (by decide) hg); have X9 := Lib.hid ((XC.out.trans (Ext.alloc _ _)).grown hg (fun j hj => by rw [HWS.out]; exact (HOCc.out.lt j hj).1)); have HB9 := Lib.hid (show w9.heap[g]? = _ from (hg.block g (by have := HB.out.lt; simp; omega) (ownsRow_ne HOCc.out HBC.out (by decide))).trans ((heapA_old _ _ _ HB.out.lt).trans HBC.out)); obtain ⟨a9, n9, p9, rfl, HN9⟩ := ho.var; have HC9 := Lib.hid ho; clear ho hg hnear)))
           have hb0 : w9.cell? ⟨g, 0, none⟩ = some (.int .i64 p) := (rcell HB9.out).1
           have hb1 : w9.cell? ⟨g, 1, none⟩ = some (.int .i64 q') := (rcell HB9.out).2.1
           have hpb := HPB.out
           have HNE9 := Lib.hid (show some g ≠ (Value.slice aR nR cR).ownBlock from fun e => by have := (HOR.out.lt g e.symm).2; have := HGE.out; omega)
           have hk1 : Ext W w9 := X9.out
           have hk2 : Ext w9 w9.drew := Ext.drew w9
           have hsz9 := X9.out.size
           rw [HWS.out] at hsz9
           have HKEEP := Lib.hid (fun (w' : World) (h : Ext W w') (h0 : w'.cell? ⟨g, 0, none⟩ = some (.int .i64 p)) (h1 : w'.cell? ⟨g, 1, none⟩ = some (.int .i64 q')) => (⟨h0, h1, h⟩ : w'.cell? ⟨g, 0, none⟩ = some (.int .i64 p) ∧ w'.cell? ⟨g, 1, none⟩ = some (.int .i64 q') ∧ Ext W w'))
           clear hg0
           go_region_held3 (fun w' => w'.cell? ⟨g, 0, none⟩ = some (.int .i64 p) ∧ w'.cell? ⟨g, 1, none⟩ = some (.int .i64 q') ∧ Ext W w')
            (first
              | with_reducible exact HKEEP.out _ (hk1.trans hk2) (hk2.cellSome hb0) (hk2.cellSome hb1)
              | with_reducible exact HKEEP.out _ (hk1.trans (hk2.trans (Ext.alloc _ _))) ((hk2.trans (Ext.alloc _ _)).cellSome hb0) ((hk2.trans (Ext.alloc _ _)).cellSome hb1)
              | with_reducible exact HKEEP.out _ hk5 hc5 hc6)
            (first
              | (go_at_call 91
                 (with_reducible refine (i_minus _ _ _ (by omega) (by omega)).mono ?_)
                 rintro e w10 ⟨rfl, hx10⟩
                 have hk2 : Ext w9 w10 := hk2.trans hx10
                 have hs10 := hk2.size)
              | (refine step_of_wp _ (by rfl) ?_
                 refine wp_append_rats _ _ (by rfl) (w.heap.size + 2) (.slice aR nR cR) _ (by rfl) (HR9.out.ext (hk2.trans (Ext.alloc _ _))) _ 2 2 [(p, q'), (-p, q')] (by rfl) (Rats.two _ _ _ _ _ _ (by rfl)) (Nat.le_trans (Nat.add_le_add_right HLR.out 2) (by decide)) (by simp; omega) ?_
                 intro v11 w11 ho hg hnear
                 have hc5 := hg.cell ((hk2.trans (Ext.alloc _ _)).cellSome hb0) HNE9.out
                 have hc6 := hg.cell ((hk2.trans (Ext.alloc _ _)).cellSome hb1) HNE9.out
                 have HC11 := Lib.hid (HC9.out.keptR (hk2.trans (Ext.alloc _ _)) HR9.out hg)
                 have HE11 := Lib.hid (HE9.out.grownR (hk2.trans (Ext.alloc _ _)) HR9.out (by decide) hg)
                 have hk5 : Ext W w11 := (hk1.trans (hk2.trans (Ext.alloc _ _))).grown hg (fun j hj => by rw [HWS.out]; exact (HR9.out.lt j hj).1)
                 obtain ⟨a11, n11, p11, rfl, HN11⟩ := ho.var
                 have HR11 := Lib.hid ho
                 clear ho hg hnear)
              | fail)
           have X11 := Lib.hid hk5
           clear hk1 hk5 hc5 hc6
           go_wp2_with fail
           go_roundg (g3 - 1)
           case measure => have := HI.out; omega
           case rel => exact ⟨i + 1, a9, n9, p9, a11, n11, p11, Lib.hid (by have := HI.out; omega), by go_num, rfl, rfl, Lib.hid (by rw [← HSC.out]; exact HC11.out), Lib.hid (by rw [← HSR.out]; exact HR11.out), HE11, HTK, X11⟩
         ·have hik' : i = k + 1 := by have := HI.out; omega
          subst hik'
          have HTE := Lib.hid (show EE.take (k + 1) = EE from List.take_of_length_le (by rw [HEN.out]; exact Nat.le_refl _))
          rw [HTE.out] at HOC HOR HOF
          have HYES := Lib.hid (show stOk (q : Int) V L = true by rw [HST.out, HOF.out])
          obtain ⟨CI, hCI⟩ : ∃ x, x = (FC ++ fixedC V EE).map (·.1) := ⟨_, rfl⟩
          have HRC := Lib.hid (show ((FC ++ fixedC V EE).map fun c => c.2.2.2) = stC V L by rw [HCE.out]; rfl)
          have HCIL := Lib.hid (show CI.length = m + 2 * (k + 1) by rw [hCI, List.length_map, List.length_append, fixedC_len, HEN.out, HFC.out, frontC_len, HFM.out])
          have HROWS := Lib.hid (show negM m CI.length q (memM q CI) = (List.range q).map (rowC (colsL V L) q) by
           have := neg_all V (freeL L (u + 1 - 2)) EE q
           rw [HFM.out, ← HFC.out, ← hCI, HCE.out] at this
           exact this)
          have HLAST := Lib.hid (show List.replicate m 1 ++ List.replicate (2 * (k + 1)) 0 = rowC (colsL V L) q q by
           have := last_row V (freeL L (u + 1 - 2)) EE q
           rw [HFM.out, ← HFC.out, HCE.out, HEN.out] at this
           exact this)
          have HCB := Lib.hid (show ∀ r : Nat, CI[r]?.getD 0 ≤ 9223372036854775807 by
           intro r
           by_cases hr : r < CI.length
           ·rw [List.getElem?_eq_getElem hr]
            have hm := List.getElem_mem hr
            simp only [hCI] at hm
            obtain ⟨c, hc, hce⟩ := List.mem_map.1 hm
            have hc2 := cols_mem HVL.out (by omega) (fun f hf => by have := HLB.out f hf; omega) c (by rw [← HCE.out]; exact hc)
            simp only [Option.getD_some]
            have e : CI[r] = c.1 := by simp only [hCI]; exact hce.symm
            rw [e]; omega
           ·rw [List.getElem?_eq_none (by omega)]; simp)
          rw [← hCI] at HOC
          rw [HRC.out] at HOR
          have HNC := Lib.hid (show nC = m + 2 * (k + 1) by obtain ⟨_, _, he, _⟩ := HOC.out.form; simp only [Value.slice.injEq] at he; rw [he.2.1, HCIL.out])
          have HMEM := Lib.hid (i_members (w := wr3) q h5 HOC.out.ints HCB.out (by rw [HNC.out]; omega))
          have hcA := HX3.out.cellSome HWD.out
          have hnlt : ¬ ((k : Int) + 1 < (nE : Int)) := by have := HNEE.out; omega
          clear hCI
          go_wp2_with fail
          refine HMEM.out.mono ?_
          rintro e w12 ⟨⟨vA, rfl, vs, hov, hrows⟩, hx12⟩
          obtain ⟨aA, nA, cA, rfl, hna⟩ := hov.var
          have hnq : nA = q := by rw [← hna.out, hrows.len, memM_len]
          subst hnq
          have HM12 := Lib.hid (show Mat w12 (w.heap.size + 2) aA nA cA vs (memM nA CI) from ⟨hov.mono' hszr3, ⟨hrows.len, fun i hi => (hrows.row i hi).mono hszr3, hrows.apart⟩⟩)
          have HR12 := Lib.hid (HOR.out.ext hx12)
          have X12 := Lib.hid (HX3.out.trans hx12)
          have hacap := HM12.out.cap.1
          have hamax := HM12.out.cap.2
          clear hov hrows hna hx12 hcA HMEM
          go_wp2_with fail
          go_loopg [139] nA (fun gk ii wr => ∃ i : Nat, Hid (gk + i = nA) ∧ ii = .int .i64 (i : Int) ∧ Hid (Mat wr (w.heap.size + 2) aA nA cA vs (negM m CI.length i (memM nA CI))) ∧ Hid (OwnR wr (w.heap.size + 2) (.slice aR nR cR) (stC V L)) ∧ Hid (Ext W wr))
          case atStart => exact ⟨0, Lib.hid (by omega), rfl, Lib.hid (by rw [negM_zero]; exact HM12.out), HR12, X12⟩
          case round =>
           obtain ⟨g4, h_g4⟩ : ∃ x, x = gk := ⟨_, rfl⟩
           subst h_g4
           obtain ⟨wr4, h_wr4⟩ : ∃ x, x = wr := ⟨_, rfl⟩
           subst h_wr4
           obtain ⟨i, HI4, rfl, HM4, HR4', HX4'⟩ := hrel
           have hsz4' := HX4'.out.size
           rw [HWS.out] at hsz4'
           by_cases hin : i < nA
           ·obtain ⟨G, rfl, _, hGl, _⟩ := HM4.out.outer (by omega)
            have hil : i < (memM nA CI).length := by rw [memM_len]; exact hin
            have hrl : ((negM m CI.length i (memM nA CI))[i]?.getD []).length = m + 2 * (k + 1) := by rw [negM_at hil, memM_row hin, memR_len, HCIL.out]
            obtain ⟨gr, cr, hvr, hcr, hor, hne, hbr, hgrl, hncr, hcrm⟩ := HM4.out.row hin hrl (by omega)
            have HVR := Lib.hid hvr
            clear hvr hor hrl
            go_wp2_with fail
            go_loopg [22] (m + 2 * (k + 1)) (fun gk jj wr => ∃ t : Nat, Hid (gk + t = m + 2 * (k + 1)) ∧ jj = .int .i64 ((m + 1 + 2 * t : Nat) : Int) ∧ Hid (Mat wr (w.heap.size + 2) (some ⟨G, 0, none⟩) nA cA vs ((negM m CI.length i (memM nA CI)).set i (negTo m (m + 1 + 2 * t) (memR CI i)))) ∧ Hid (OwnR wr (w.heap.size + 2) (.slice aR nR cR) (stC V L)) ∧ Hid (Ext W wr))
            case atStart => exact ⟨0, Lib.hid (by omega), by simp, Lib.hid (by
             rw [negTo_start]
             have e : (negM m CI.length i (memM nA CI)).set i (memR CI i) = negM m CI.length i (memM nA CI) := by
              have h0 := negM_at (m := m) (N := CI.length) hil
              rw [memM_row hin] at h0
              apply List.ext_getElem (by simp)
              intro r h1 h2
              rw [List.getElem_set]
              split
              ·next er => subst er; rw [List.getElem?_eq_getElem h2] at h0; simpa using h0.symm
              ·rfl
             rw [e]; exact HM4.out), HR4', HX4'⟩
            case round =>
             obtain ⟨g5, h_g5⟩ : ∃ x, x = gk := ⟨_, rfl⟩
             subst h_g5
             obtain ⟨wr5, h_wr5⟩ : ∃ x, x = wr := ⟨_, rfl⟩
             subst h_wr5
             obtain ⟨t, HT5, rfl, HM5, HR5', HX5'⟩ := hrel
             have hsz5' := HX5'.out.size
             rw [HWS.out] at hsz5'
             by_cases hjl : m + 1 + 2 * t < m + 2 * (k + 1)
             ·obtain ⟨j, hj⟩ : ∃ j, j = m + 1 + 2 * t := ⟨_, rfl⟩
              have hrow5 : ((negM m CI.length i (memM nA CI)).set i (negTo m (m + 1 + 2 * t) (memR CI i)))[i]?.getD [] = negTo m (m + 1 + 2 * t) (memR CI i) := by
               rw [List.getElem?_set_self (by rw [negM_len]; exact hil)]; rfl
              obtain ⟨gr', cr', hvr', hcr', hor', hne', hbr', hgrl', hncr', hcrm'⟩ := HM5.out.row (n := m + 2 * (k + 1)) hin (by rw [hrow5, negTo_len, memR_len, HCIL.out]) (by omega)
              have hsame := HVR.out.symm.trans hvr'
              simp only [Value.slice.injEq, Option.some.injEq, Addr.mk.injEq, and_true, true_and] at hsame
              have hor2 := hor'
              rw [← hsame.1, ← hsame.2, hrow5] at hor2
              have hcell := hor2.outS.2.2.2 (m + 1 + 2 * t) hjl
              have hfz := hor2.outS.2.2.1 (m + 1 + 2 * t)
              rw [negTo_at (by rw [memR_len, HCIL.out]; exact hjl), if_neg (by omega)] at hcell
              obtain ⟨x, hx⟩ : ∃ x, x = (memR CI i)[m + 1 + 2 * t]?.getD 0 := ⟨_, rfl⟩
              have hxb := memR_bd CI i (m + 1 + 2 * t)
              rw [← hx] at hcell hxb
              have hwx : IntKind.i64.wrap (-x) = -x := by rw [IntKind.wrap_i64]; omega
              have HM6 := Lib.hid (show Mat (wr5.setCell ⟨gr, m + 1 + 2 * t, none⟩ (.int .i64 (-x))) (w.heap.size + 2) (some ⟨G, 0, none⟩) nA cA vs ((negM m CI.length i (memM nA CI)).set i (negTo m (m + 1 + 2 * (t + 1)) (memR CI i))) by
               have := HM5.out.inrow hin HVR.out (m + 1 + 2 * t) (-x)
               rw [hrow5, hx, negTo_step (by rw [memR_len, HCIL.out]; exact hjl), List.set_set] at this
               rw [hx]; exact this)
              have HR6' := Lib.hid (show OwnR (wr5.setCell ⟨gr, m + 1 + 2 * t, none⟩ (.int .i64 (-x))) (w.heap.size + 2) (.slice aR nR cR) (stC V L) from
               HR5'.out.keep fun b hb => heap_setCell_other _ _ _ _ fun e => ownsRow_apart (by decide) HR5'.out hor2 b hb (by rw [e]; rfl))
              have HX6' := Lib.hid (HX5'.out.store (b := gr) (m + 1 + 2 * t) (by rw [HWS.out]; exact hbr) (.int .i64 (-x)))
              clear hor' hor2 hrow5 hvr' hcr' hne' hbr' hgrl' hncr' hcrm' hsame hx
              rw [← hj] at hcell hfz HM6 HR6' HX6' hjl
              have HJ6 := Lib.hid hj
              rw [← hj]
              clear hj
              go_wp2_with fail
              go_roundg (g5 - 1)
              case measure => have := HT5.out; have := HJ6.out; omega
              case rel => exact ⟨t + 1, Lib.hid (by have := HT5.out; have := HJ6.out; omega), by have := HJ6.out; go_num, HM6, HR6', HX6'⟩
             ·have hnlt2 : ¬ (((m + 1 + 2 * t : Nat) : Int) < ((m + 2 * (k + 1) : Nat) : Int)) := by omega
              have HM7 := Lib.hid (show Mat wr5 (w.heap.size + 2) (some ⟨G, 0, none⟩) nA cA vs (negM m CI.length (i + 1) (memM nA CI)) by
               have h1 := negM_step (m := m) (N := CI.length) hil
               rw [memM_row hin] at h1
               rw [← h1]
               have h2 := negTo_end (m := m) (j := m + 1 + 2 * t) (r := memR CI i) (by rw [memR_len, HCIL.out]; omega)
               rw [memR_len] at h2
               rw [← h2]; exact HM5.out)
              obtain ⟨j, hj⟩ : ∃ j, j = m + 1 + 2 * t := ⟨_, rfl⟩
              obtain ⟨N, hN⟩ : ∃ j, j = m + 2 * (k + 1) := ⟨_, rfl⟩
              go_wp2_with fail
              go_roundg (g4 - 1)
              case measure => have := HI4.out; omega
              case rel => exact ⟨i + 1, Lib.hid (by have := HI4.out; omega), by go_num, HM7, HR5', HX5'⟩
           ·have hin' : nA = i := by have := HI4.out; omega
            subst hin'
            rw [HROWS.out] at HM4
            have HLB0 := Lib.hid (stBx_is HYES.out)
            obtain ⟨d, hd⟩ : ∃ d, d = 2 * (k + 1) := ⟨_, rfl⟩
            have hncd : (nC : Int) - (m : Int) = (d : Int) := by have := HNC.out; omega
            have HD := Lib.hid hd
            have HT1 := Lib.hid (i_times (w := wr4) m 1 (by omega))
            have HT2 := Lib.hid (fun (w13 : World) => i_times (w := w13) d 0 (by omega))
            have hnc0 : (0 : Int) ≤ (nC : Int) - (m : Int) := by omega
            clear hd
            go_wp2_with fail
            refine HT1.out.mono ?_
            rintro e w13 ⟨⟨v13, rfl, ho13⟩, hx13⟩
            obtain ⟨a13, n13, c13, rfl, hn13⟩ := ho13.var
            have HO13 := Lib.hid ho13
            have HX13 := Lib.hid hx13
            have HN13 := Lib.hid hn13.out
            clear ho13 hx13 hn13 HT1
            go_wp2_with fail
            rw [show wrap64 (d : Int) = (d : Int) by unfold wrap64; have := HD.out; omega]
            refine (HT2.out w13).mono ?_
            rintro e w14 ⟨⟨v14, rfl, ho14⟩, hx14⟩
            obtain ⟨a14, n14, c14, rfl, hn14⟩ := ho14.var
            have HO14 := Lib.hid ho14
            have HX14 := Lib.hid hx14
            have HN14 := Lib.hid hn14.out
            have HLEN := Lib.hid (show (List.replicate m (1 : Int)).length + n14 ≤ 1099511627776 by rw [← HN14.out, List.length_replicate, List.length_replicate]; have := HD.out; omega)
            have hs13 := HX13.out.size
            have hs14 := HX14.out.size
            clear ho14 hx14 hn14 HT2
            go_wp2_with (first
             | (at_builtin; go_loud (refine append_ints rfl _ _ rfl wr4.heap.size (.slice a13 n13 c13) _ rfl (HO13.out.ext HX14.out) _ n14 _ _ rfl HO14.out.ints HLEN.out (by omega) ?_; intro v15 w15 ho hg hnear; have hx15 := ((HX13.out.trans HX14.out).grown hg (fun j hj => (HO13.out.lt j hj).1)); obtain ⟨a15, n15, c15, rfl, HN15⟩ := ho.var; have HO15 := Lib.hid ho; have HX15 := Lib.hid hx15; clear ho hg hnear hx15)))
            obtain ⟨lr, hlr⟩ : ∃ l, l = List.replicate m (1 : Int) ++ List.replicate d 0 := ⟨_, rfl⟩
            have HLR0 := Lib.hid (show lr = rowC (colsL V L) nA nA by rw [hlr, HD.out]; exact HLAST.out)
            rw [← hlr] at HO15
            have hX15 : Ext W w15 := HX4'.out.trans HX15.out
            have hS : St3 W w15 (w.heap.size + 2) w15.heap.size (.slice aA nA cA) vs (vs ++ [.slice a15 n15 c15]) ((List.range nA).map (rowC (colsL V L) nA) ++ [lr]) (.slice aR nR cR) (stC V L) :=
             St3.start HM4.out HX15.out HO15.out hsz4' (HR4'.out.ext HX15.out) hX15
            have hsz15 := hX15.size
            rw [HWS.out] at hsz15
            have HVSL := Lib.hid (show vs.length ≤ 1099511627775 by rw [HM4.out.vlen]; omega)
            have HT3 := Lib.hid (fun (w16 : World) => i_times (w := w16) nA 0 (by omega))
            have HKEEP := Lib.hid (fun (w' : World) (h : Ext W w') => (h.cellSome HWD.out : w'.cell? ⟨w.heap.size, 0, none⟩ = some (.int .i64 (nA : Int))))
            have HKST := Lib.hid (fun (w' : World) (h : Ext W w') (a b c : Value) => (show (((w'.setCell ⟨w.heap.size + 1, 0, none⟩ a).setCell ⟨w.heap.size + 1, 1, none⟩ b).setCell ⟨w.heap.size + 1, 2, none⟩ c).cell? ⟨w.heap.size, 0, none⟩ = some (.int .i64 (nA : Int)) from
             (World.cell?_of_block (a := ⟨w.heap.size, 0, none⟩) (by
               show (((w'.setCell ⟨w.heap.size + 1, 0, none⟩ a).setCell ⟨w.heap.size + 1, 1, none⟩ b).setCell ⟨w.heap.size + 1, 2, none⟩ c).heap[w.heap.size]? = w'.heap[w.heap.size]?
               rw [heap_setCell_other _ _ _ _ (by simp), heap_setCell_other _ _ _ _ (by simp), heap_setCell_other _ _ _ _ (by simp)])).trans (HKEEP.out w' h)))
            have HNA := Lib.hid (fun (n : Nat) (hn : w15.heap.size ≤ n) => (show some n ≠ (Value.slice aA nA cA).ownBlock from fun e => by have := (hS.out.lt n e.symm).2; omega))
            have HB2 := Lib.hid (show W.heap.size ≤ w.heap.size + 2 by rw [HWS.out]; exact Nat.le_refl _)
            have HZW := Lib.hid (show W.heap.size ≤ w15.heap.size from hX15.size)
            have e0 : Ext w15 w15.drew := Ext.drew _
            have e1 : Ext w15 (w15.alloc (.cells #[.slice a15 n15 c15] 22)).drew := (Ext.alloc _ _).trans (Ext.drew _)
            have e2 : Ext w15 (w15.alloc (.cells #[.int .i64 1] 3)).drew := (Ext.alloc _ _).trans (Ext.drew _)
            have e12 : Ext w15 ((w15.alloc (.cells #[.slice a15 n15 c15] 22)).alloc (.cells #[.int .i64 1] 3)).drew := ((Ext.alloc _ _).trans (Ext.alloc _ _)).trans (Ext.drew _)
            have e21 : Ext w15 ((w15.alloc (.cells #[.int .i64 1] 3)).alloc (.cells #[.slice a15 n15 c15] 22)).drew := ((Ext.alloc _ _).trans (Ext.alloc _ _)).trans (Ext.drew _)
            have b12 : ((w15.alloc (.cells #[.slice a15 n15 c15] 22)).alloc (.cells #[.int .i64 1] 3)).drew.cell? ⟨w15.heap.size + 1, 0, none⟩ = some (.int .i64 1) := by simp
            have b21 : ((w15.alloc (.cells #[.int .i64 1] 3)).alloc (.cells #[.slice a15 n15 c15] 22)).drew.cell? ⟨w15.heap.size, 0, none⟩ = some (.int .i64 1) := by simp
            clear hlr
            go_region_held3 (fun w' => w'.cell? ⟨w.heap.size, 0, none⟩ = some (.int .i64 (nA : Int)))
             (first
               | with_reducible exact HKEEP.out _ (hS.ext.trans e0)
               | with_reducible exact HKEEP.out _ (hS.ext.trans e1)
               | with_reducible exact HKEEP.out _ (hS.ext.trans e2)
               | with_reducible exact HKEEP.out _ (hS.ext.trans e12)
               | with_reducible exact HKEEP.out _ (hS.ext.trans e21)
               | with_reducible exact HKEEP.out _ hS.ext
               | with_reducible exact HKEEP.out _ (hS.ext.trans (Ext.alloc _ _))
               | with_reducible exact HKST.out _ hS.ext _ _ _)
             (first
               | (go_at_call 68
                  (with_reducible refine (HT3.out _).mono ?_)
                  rintro e w17 ⟨⟨vT, rfl, hoT⟩, hxT⟩
                  obtain ⟨aT, nT, cT, rfl, hnT⟩ := hoT.var
                  have hzz := hS.hz
                  have HT := Lib.hid (hoT.mono (base' := w15.heap.size) (by first | exact hzz | (simp; omega)))
                  first
                   | (with_reducible have hS := hS.more hxT)
                   | (with_reducible have hS := hS.more ((Ext.alloc _ _).trans hxT))
                  first
                   | (with_reducible have hb2 := hxT.cellSome hb2)
                   | (have hb2 : w17.cell? ⟨wA.heap.size, 0, none⟩ = some (.int .i64 1) := hxT.cellSome (by simp; done))
                   | skip
                  have hs17 := hS.ext.size
                  clear hoT hnT hxT)
               | (refine step_of_wp _ (by rfl) ?_
                  refine wp_append_slice _ _ (by rfl) (w.heap.size + 2) (.slice aA nA cA) vs (by rfl) (by with_reducible exact hS.out.ext e1) _ _ 1 (by rfl) (by simp; rfl) (by rfl) HVSL.out (by simp; omega) ?_
                  intro v16 wA ho hg hnear
                  have hS := hS.push e1 hg ho HB2.out
                  obtain ⟨a16, n16, c16, rfl, HN16⟩ := ho.var
                  have hs16 := hS.ext.size
                  clear ho hg hnear)
               | (refine step_of_wp _ (by rfl) ?_
                  refine wp_append_slice _ _ (by rfl) (w.heap.size + 2) (.slice aA nA cA) vs (by rfl) (by with_reducible exact hS.out.ext e12) _ _ 1 (by rfl) (by simp; rfl) (by rfl) HVSL.out (by simp; omega) ?_
                  intro v16 wA ho hg hnear
                  have hb2 := hg.cell b12 (HNA.out _ (Nat.le_succ _))
                  have hS := hS.push e12 hg ho HB2.out
                  obtain ⟨a16, n16, c16, rfl, HN16⟩ := ho.var
                  have hs16 := hS.ext.size
                  clear ho hg hnear)
               | (refine step_of_wp _ (by rfl) ?_
                  refine wp_append_slice _ _ (by rfl) (w.heap.size + 2) (.slice aA nA cA) vs (by rfl) (by with_reducible exact hS.out.ext e21) _ _ 1 (by rfl) (by simp; rfl) (by rfl) HVSL.out (by simp; omega) ?_
                  intro v16 wA ho hg hnear
                  have hb2 := hg.cell b21 (HNA.out _ (Nat.le_refl _))
                  have hS := hS.push e21 hg ho HB2.out
                  obtain ⟨a16, n16, c16, rfl, HN16⟩ := ho.var
                  have hs16 := hS.ext.size
                  clear ho hg hnear)
               | (refine step_of_wp _ (by rfl) ?_
                  refine wp_append_ints _ _ (by rfl) w15.heap.size (.slice aT nT cT) (List.replicate nA 0) (by rfl) (by with_reducible exact HT.out) _ 1 _ [(1 : Int)] (by rfl) (Ints.ofCell hb2) (by simp; omega) hS.hz ?_
                  intro v18 wZ ho hg hnear
                  have hS := hS.growT (Ext.refl _) HT.out hg HZW.out
                  obtain ⟨a18, n18, c18, rfl, HN18⟩ := ho.var
                  have HZ := Lib.hid ho
                  have hs18 := hS.ext.size
                  have hgz := HKEEP.out _ hS.ext
                  have hr0 := LpO.boxc0 (HRB.out _ hS.ext)
                  have hr1 := LpO.boxc1 (HRB.out _ hS.ext)
                  have hr2 := LpO.boxc2 (HRB.out _ hS.ext)
                  have hrf := LpO.boxf (HRB.out _ hS.ext)
                  clear ho hg hnear)
               | (refine step_of_wp _ (by rfl) ?_
                  refine wp_append_ints _ _ (by rfl) w15.heap.size (.slice aT nT cT) (List.replicate nA 0) (by rfl) (HT.out.ext (Ext.alloc _ _)) _ 1 _ [(1 : Int)] (by rfl) (Ints.oneS w17 _ _ _ (by rfl)) (by simp; omega) (by have := hS.hz; simp; omega) ?_
                  intro v18 wZ ho hg hnear
                  have hS := hS.growT (Ext.alloc _ _) (HT.out.ext (Ext.alloc _ _)) hg HZW.out
                  obtain ⟨a18, n18, c18, rfl, HN18⟩ := ho.var
                  have HZ := Lib.hid ho
                  have hs18 := hS.ext.size
                  have hgz := HKEEP.out _ hS.ext
                  have hr0 := LpO.boxc0 (HRB.out _ hS.ext)
                  have hr1 := LpO.boxc1 (HRB.out _ hS.ext)
                  have hr2 := LpO.boxc2 (HRB.out _ hS.ext)
                  have hrf := LpO.boxf (HRB.out _ hS.ext)
                  clear ho hg hnear)
               | fail)
            all_goals
             have HS := Lib.hid hS
             clear hS hX15 e0 e1 e2 e12 e21 b12 b21 hgz
             try clear hb2
             go_wp2_with fail
             refine bodyPost_ret (v := .tuple #[.agg #[.slice a16 n16 c16, .slice a18 n18 c18, .slice aR nR cR], .bool true]) (by simp [results, Tryz.results42, go_sem, hr0, hr1, hr2]) rfl ⟨⟨_, _, _, _, by rw [HYES.out], (((((OwnV.on HS.out.out).set (by simp) _).set (by simp) _).set (by simp) _).here).mono' (by omega), ?_, ?_, ?_, ?_⟩, ?_⟩
             ·rw [HLB0.out.1, Int.toNat_natCast]
              have hA : (List.range nA).map (rowC (colsL V L) nA) ++ [lr] = stA nA V L := by unfold stA; rw [List.range_succ, List.map_append, HLR0.out]; rfl
              rw [← hA]
              exact (((((RowsI.on HS.out.rows).set (by simp) _).set (by simp) _).set (by simp) _).here).mono' (by omega)
             ·rw [HLB0.out.2.1, Int.toNat_natCast, ← ones_last]
              exact (((((OwnI.on HZ.out).set (by simp; omega) _).set (by simp; omega) _).set (by simp; omega) _).here).mono (by omega)
             ·rw [HLB0.out.2.2]
              exact (((((OwnR.on HS.out.c).set (by simp) _).set (by simp) _).set (by simp) _).here).mono (by omega)
             ·exact fun i k hi hk hk' => by
               have h1 := HS.out.top i k (by rw [← HS.out.rows.len]; exact hi) hk
               have h2 := (HZ.out.lt k hk').1
               omega
             ·exact (((HX0.out.trans HS.out.ext).store 0 (by omega) _).store 1 (by omega) _).store 2 (by omega) _
def grandV (p : Int) (V : List Int) : Int := if gameOk p V = true then V[V.length - 1]?.getD 0 else 0
theorem grandV_no {p : Int} {V : List Int} (h : gameOk p V = false) : grandV p V = 0 := by unfold grandV; rw [h]; rfl
theorem grandV_ok {p : Int} {V : List Int} (h : gameOk p V = true) : grandV p V = V[V.length - 1]?.getD 0 := by unfold grandV; rw [if_pos h]
set_option maxHeartbeats 1000000 in
theorem s_GrandValue {w : World} {p : Int} {a : Option Addr} {n cap : Nat} {V : List Int} (h : Ints w a n cap V) :
 Calls Tryz.prog 82 #[pair p a n cap] w fun e w' => e = .returned (.int .i64 (grandV p V)) ∧ Ext w w' := by
 have hi := h.alloc (.cells #[.int .i64 p, .slice a n cap] 47)
 have HX := Lib.hid (Ext.alloc w (.cells #[.int .i64 p, .slice a n cap] 47))
 have HL := Lib.hid h.hlen
 have HI := Lib.hid hi
 have HV := Lib.hid (s_IsValidGame (p := p) hi)
 clear h hi
 cases hv : gameOk p V
 ·rw [hv] at HV
  have HG := Lib.hid (grandV_no hv)
  clear hv
  go_enter Tryz.func82, Tryz.ntmps82
  go_wp2_with fail
  refine HV.out.mono ?_
  rintro e w1 ⟨rfl, hx⟩
  have X1 := Lib.hid (HX.out.trans hx)
  clear hx
  go_wp2_with fail
  go_ret
  exact ⟨ret_int HG.out.symm, X1.out⟩
 ·rw [hv] at HV
  obtain ⟨q, rfl, h1, h5, hlen, _, hbd⟩ := gameOk_len hv
  have hN := cN_le q h5
  obtain ⟨u, rfl⟩ : ∃ u, n = u + 1 := ⟨n - 1, by have := HL.out; omega⟩
  have HG := Lib.hid (show grandV (q : Int) V = V[u]?.getD 0 by rw [grandV_ok hv, HL.out]; rfl)
  have hu32 : u ≤ 31 := by have := HL.out; omega
  clear hv hlen hbd hN
  go_enter Tryz.func82, Tryz.ntmps82
  go_wp2_with fail
  refine HV.out.mono ?_
  rintro e w1 ⟨rfl, hx⟩
  have c1 : w1.cell? ⟨w.heap.size, 1, none⟩ = some (.slice a (u + 1) cap) := hx.cellSome (by simp)
  obtain ⟨b, off, rfl, hc⟩ := (HI.out.ext hx).at (show u < u + 1 by omega)
  have hlen1 : ((u + 1 : Nat) : Int) - 1 = (u : Int) := by omega
  have X1 := Lib.hid (HX.out.trans hx)
  clear hx
  go_wp2_with fail
  go_ret
  exact ⟨ret_int HG.out.symm, X1.out⟩
theorem runM_le (e : Nat → List Int → List Int → List Int) (M : List (List Int)) : ∀ n, (runM e M n).2 ≤ n
 | 0 => Nat.le_refl _
 | n + 1 => by
   have ih := runM_le e M n
   unfold runM colM
   split
   ·show (runM e M n).2 + 1 ≤ n + 1; omega
   ·omega
theorem rankI_le {p : Int} (h : 1 ≤ p) (l : List Int) : rankI p l ≤ p := by
 unfold rankI
 split
 ·have := runM_le elimI (l.map (digR p.toNat)) p.toNat; omega
 ·omega
def nucLp (q : Nat) (V : List Int) (L : List (Int × Int × Int)) : LpR := solveG boundI (stA q V L) (stB q) (stC V L)
def newF (fr : List Int) (r : LpR) (k : Nat) : List (Int × Int × Int) := ((List.range k).filter fun j => decide (0 < (r.X[j]?.getD (0, 0)).1)).map fun j => (fr[j]?.getD 0, -r.value.1, r.value.2)
theorem newF_zero (fr : List Int) (r : LpR) : newF fr r 0 = [] := rfl
theorem newF_succ (fr : List Int) (r : LpR) (k : Nat) : newF fr r (k + 1) = newF fr r k ++ if 0 < (r.X[k]?.getD (0, 0)).1 then [(fr[k]?.getD 0, -r.value.1, r.value.2)] else [] := by
 unfold newF
 rw [List.range_succ, List.filter_append, List.map_append]
 congr 1
 by_cases h : 0 < (r.X[k]?.getD (0, 0)).1
 ·simp [h]
 ·simp [h]
def ptN (q : Nat) (r : LpR) : List (Int × Int) := (r.Y.take q).map negR
def frN (V : List Int) (L : List (Int × Int × Int)) : List Int := freeL L (V.length - 2)
def nextN (V : List Int) (L : List (Int × Int × Int)) (r : LpR) : List (Int × Int × Int) := L ++ newF (frN V L) r (frN V L).length
def doneN (p : Int) (V : List Int) (L : List (Int × Int × Int)) : Bool := decide (rankI p (((V.length : Int) - 1) :: L.map (·.1)) = p)
structure NucR where
 ok : Bool
 pt : List (Int × Int)
 st : List (Int × Int × Int)
 rounds : Nat
def NucR.no : NucR := ⟨false, [], [], 0⟩
def nucF (p : Int) (V : List Int) : Nat → List (Int × Int × Int) → Nat → NucR
 | 0, _, _ => NucR.no
 | f + 1, L, k =>
   if stOk p V L = true ∧ (nucLp p.toNat V L).status = 1 then
    (if doneN p V (nextN V L (nucLp p.toNat V L)) = true then ⟨true, ptN p.toNat (nucLp p.toNat V L), nextN V L (nucLp p.toNat V L), k + 1⟩
    else nucF p V f (nextN V L (nucLp p.toNat V L)) (k + 1))
   else NucR.no
def nucR (p : Int) (V : List Int) : NucR :=
 if gameOk p V = true then (if p = 1 then ⟨true, [(grandV p V, 1)], [], 0⟩ else nucF p V ((frN V []).length + 1) [] 0) else NucR.no
theorem sum_free (X : List (Int × Int)) (row : Nat → Int) (m : Nat) (h0 : ∀ j, m ≤ j → row j = 0) (hn : ∀ j, j < m → row j = 1) (hx : ∀ j, j < m → val (X[j]?.getD (0, 0)) ≤ 0) : ∀ N, sumN (fun j => ((row j : Int) : Rat) * val (X[j]?.getD (0, 0))) N ≤ 0
 | 0 => by simp [sumN]
 | N + 1 => by
   have ih := sum_free X row m h0 hn hx N
   simp only [sumN]
   by_cases h : N < m
   ·have := hx N h
    rw [hn N h]
    have e : ((1 : Int) : Rat) = 1 := by exact_mod_cast rfl
    rw [e]
    grind
   ·rw [h0 N (by omega)]
    have e : ((0 : Int) : Rat) = 0 := by exact_mod_cast rfl
    rw [e]
    grind
theorem vrow_whole (l : List Int) (j : Nat) : vrow (wholeL l) j = ((l[j]?.getD 0 : Int) : Rat) := by
 unfold vrow
 by_cases h : j < l.length
 ·rw [wholeL_at h, val_whole]
 ·rw [List.getElem?_eq_none (by rw [wholeL_len]; omega), List.getElem?_eq_none (by omega)]
  show val (0, 0) = ((0 : Int) : Rat)
  unfold val; grind
theorem game_cN {p : Int} {V : List Int} (h : gameOk p V = true) : 1 ≤ V.length ∧ V.length ≤ 32 ∧ p = (p.toNat : Int) ∧ 1 ≤ p.toNat ∧ p.toNat ≤ 5 ∧ ∀ y ∈ V, -500 ≤ y ∧ y ≤ 500 := by
 obtain ⟨n, rfl, h1, h5, hl, _, hV⟩ := gameOk_len h
 have e : (n : Int).toNat = n := by omega
 rw [e, hl]
 refine ⟨?_, ?_, rfl, h1, h5, hV⟩
 ·exact (cN_le n h5).1
 ·exact (cN_le n h5).2
theorem stOk_parts {p : Int} {V : List Int} {L : List (Int × Int × Int)} (h : stOk p V L = true) : gameOk p V = true ∧ 2 ≤ p ∧ ordX L ((V.length : Int) - 2) L.length = true ∧ 0 < (frN V L).length := by
 obtain ⟨h1, _⟩ := both h
 obtain ⟨h2, h3⟩ := both h1
 obtain ⟨h4, h5⟩ := both h3
 obtain ⟨h6, h7⟩ := both h5
 exact ⟨h2, of_decide_eq_true h4, h6, of_decide_eq_true h7⟩
theorem newF_some {p : Int} {V : List Int} {L : List (Int × Int × Int)} (h : stOk p V L = true) (hs : (nucLp p.toNat V L).status = 1) : newF (frN V L) (nucLp p.toNat V L) (frN V L).length ≠ [] := by
 intro hn
 obtain ⟨hg, _, _, _⟩ := stOk_parts h
 obtain ⟨h1, _, _, _, _, hV⟩ := game_cN hg
 obtain ⟨v1, _, v3, _⟩ := solveG_val hs
 obtain ⟨r, hr⟩ : ∃ r, r = nucLp p.toNat V L := ⟨_, rfl⟩
 have v3' : checkG boundI (stA p.toNat V L) (stB p.toNat) (stC V L) r = true := by rw [hr]; exact v3
 rw [← hr] at hs hn
 unfold checkG at v3'
 rw [if_pos hs] at v3'
 obtain ⟨f1, _⟩ := both v3'
 unfold feasB at f1
 obtain ⟨_, f2⟩ := both f1
 obtain ⟨_, f3⟩ := both f2
 unfold givesB at f3
 have f4 := List.all_eq_true.1 f3 p.toNat (List.mem_range.2 (by simp [stA]))
 have f5 := of_decide_eq_true f4
 have e1 : (stA p.toNat V L)[p.toNat]?.getD [] = List.replicate (frN V L).length 1 ++ List.replicate (2 * (extE V.length L).length) 0 := by
  unfold frN
  rw [last_row V (freeL L (V.length - 2)) (extE V.length L) p.toNat, cols_ext rfl h1 hV L]
  unfold stA
  rw [List.getElem?_map, List.getElem?_range (by omega), Option.map_some, Option.getD_some]
 have e2 : (stB p.toNat)[p.toNat]?.getD 0 = 1 := by
  unfold stB
  rw [List.getElem?_map, List.getElem?_range (by omega), Option.map_some, Option.getD_some]
  rw [show decide (p.toNat = p.toNat) = true from decide_eq_true rfl]; rfl
 rw [e1, e2] at f5
 obtain ⟨_, _, _, g4⟩ := dotL_spec f5
 have hx : ∀ j, j < (frN V L).length → val (r.X[j]?.getD (0, 0)) ≤ 0 := by
  intro j hj
  obtain ⟨_, _, g3, _⟩ := dotL_spec f5
  have hv := (g3 j (by rw [wholeL_len, List.length_append, List.length_replicate]; omega)).2
  have hnot : ¬ 0 < (r.X[j]?.getD (0, 0)).1 := by
   intro hp
   unfold newF at hn
   rw [List.map_eq_nil_iff, List.filter_eq_nil_iff] at hn
   exact hn j (List.mem_range.2 hj) (decide_eq_true hp)
  have hneg := (val_nonneg (p := negR (r.X[j]?.getD (0, 0))) (by rw [valR_negR]; exact hv)).1 (by show 0 ≤ -(r.X[j]?.getD (0, 0)).1; omega)
  rw [val_neg] at hneg
  grind
 have hle := sum_free r.X (fun j => (List.replicate (frN V L).length (1 : Int) ++ List.replicate (2 * (extE V.length L).length) 0)[j]?.getD 0) (frN V L).length (fun j hj => by
  show (List.replicate (frN V L).length (1 : Int) ++ List.replicate (2 * (extE V.length L).length) 0)[j]?.getD 0 = 0
  rw [List.getElem?_append_right (by rw [List.length_replicate]; exact hj), List.getElem?_replicate]
  split <;> rfl) (fun j hj => by
  show (List.replicate (frN V L).length (1 : Int) ++ List.replicate (2 * (extE V.length L).length) 0)[j]?.getD 0 = 1
  rw [List.getElem?_append_left (by rw [List.length_replicate]; exact hj), List.getElem?_replicate, if_pos hj]; rfl) hx (wholeL (List.replicate (frN V L).length (1 : Int) ++ List.replicate (2 * (extE V.length L).length) 0)).length
 have e3 : val ((1 : Int), (1 : Int)) = 1 := by rw [val_whole]; exact_mod_cast rfl
 rw [e3] at g4
 have e4 : sumN (fun j => vrow (wholeL (List.replicate (frN V L).length (1 : Int) ++ List.replicate (2 * (extE V.length L).length) 0)) j * vrow r.X j) (wholeL (List.replicate (frN V L).length (1 : Int) ++ List.replicate (2 * (extE V.length L).length) 0)).length = sumN (fun j => (((List.replicate (frN V L).length (1 : Int) ++ List.replicate (2 * (extE V.length L).length) 0)[j]?.getD 0 : Int) : Rat) * val (r.X[j]?.getD (0, 0))) (wholeL (List.replicate (frN V L).length (1 : Int) ++ List.replicate (2 * (extE V.length L).length) 0)).length :=
  sumN_congr fun j _ => by rw [vrow_whole]; rfl
 rw [e4] at g4
 have h10 : (1 : Rat) ≤ 0 := by rw [g4]; exact hle
 exact absurd h10 (by decide)
theorem newF_mem {fr : List Int} {r : LpR} {k : Nat} (hk : k ≤ fr.length) {f : Int × Int × Int} (h : f ∈ newF fr r k) : f.1 ∈ fr := by
 unfold newF at h
 obtain ⟨j, hj, rfl⟩ := List.mem_map.1 h
 have := List.mem_range.1 (List.mem_filter.1 hj).1
 have hl : j < fr.length := by omega
 show fr[j]?.getD 0 ∈ fr
 rw [List.getElem?_eq_getElem hl, Option.getD_some]
 exact List.getElem_mem hl
theorem newF_len (fr : List Int) (r : LpR) (k : Nat) : (newF fr r k).length ≤ k := by
 unfold newF
 rw [List.length_map]
 have := List.length_filter_le (fun j => decide (0 < (r.X[j]?.getD (0, 0)).1)) (List.range k)
 rw [List.length_range] at this
 exact this
theorem free_more {L T : List (Int × Int × Int)} {m : Nat} (hT : T ≠ []) (hm : ∀ f ∈ T, f.1 ∈ freeL L m) : (freeL (L ++ T) m).length < (freeL L m).length := by
 have e : freeL (L ++ T) m = (freeL L m).filter fun s => !hasX T s := by
  unfold freeL
  rw [List.filter_filter]
  refine List.filter_congr fun s _ => ?_
  unfold hasX
  rw [List.any_append]
  cases L.any _ <;> cases T.any _ <;> rfl
 rw [e, List.length_filter_lt_length_iff_exists]
 obtain ⟨f, hf⟩ := List.exists_mem_of_ne_nil T hT
 refine ⟨f.1, hm f hf, ?_⟩
 have : hasX T f.1 = true := List.any_eq_true.2 ⟨f, hf, by simp⟩
 rw [this]; decide
theorem next_fewer {p : Int} {V : List Int} {L : List (Int × Int × Int)} (h : stOk p V L = true) (hs : (nucLp p.toNat V L).status = 1) : (frN V (nextN V L (nucLp p.toNat V L))).length < (frN V L).length :=
 free_more (newF_some h hs) fun _ hf => newF_mem (Nat.le_refl _) hf
theorem fixed_pair (V : List Int) : ∀ (E : List (Int × Int × Int)) (i : Nat) (c : Col), (fixedC V E)[i]? = some c → ∃ i' : Nat, (fixedC V E)[i']? = some (c.1, -c.2.1, c.2.2.1, -c.2.2.2.1, c.2.2.2.2)
 | [], i, c, h => by simp [fixedC] at h
 | f :: E, 0, c, h => by
   simp only [fixedC, List.flatMap_cons, twoC, List.cons_append, List.getElem?_cons_zero, Option.some.injEq] at h
   subst h
   exact ⟨1, by simp [fixedC, twoC]⟩
 | f :: E, 1, c, h => by
   simp only [fixedC, List.flatMap_cons, twoC, List.cons_append, List.getElem?_cons_succ, List.getElem?_cons_zero, Option.some.injEq] at h
   subst h
   exact ⟨0, by simp [fixedC, twoC]⟩
 | f :: E, i + 2, c, h => by
   simp only [fixedC, List.flatMap_cons, twoC, List.cons_append, List.nil_append, List.getElem?_cons_succ] at h
   obtain ⟨i', h'⟩ := fixed_pair V E i c h
   exact ⟨i' + 2, by simp only [fixedC, List.flatMap_cons, twoC, List.cons_append, List.nil_append, List.getElem?_cons_succ]; exact h'⟩
theorem colL_st {q : Nat} {V : List Int} {L : List (Int × Int × Int)} {j : Nat} {c : Col} (h : (colsL V L)[j]? = some c) : colL (stA q V L) j = (List.range (q + 1)).map fun k => c.2.1 * bitI (onC q k c) := by
 unfold colL stA
 rw [List.map_map]
 refine List.map_congr_left fun k _ => ?_
 show ((colsL V L).map fun c => c.2.1 * bitI (onC q k c))[j]?.getD 0 = _
 rw [List.getElem?_map, h]; rfl
theorem stC_at {V : List Int} {L : List (Int × Int × Int)} {j : Nat} {c : Col} (h : (colsL V L)[j]? = some c) : (stC V L)[j]?.getD (0, 0) = c.2.2.2 := by
 unfold stC
 rw [List.getElem?_map, h]; rfl
theorem st_nice {p : Int} {V : List Int} {L : List (Int × Int × Int)} (h : stOk p V L = true) (j : Nat) (hj : j < (stC V L).length) : niceC (stA p.toNat V L) (stC V L) j := by
 obtain ⟨hg, _, _, _⟩ := stOk_parts h
 obtain ⟨h1, _, _, _, _, hV⟩ := game_cN hg
 have hce := cols_ext rfl h1 hV L
 have hj' : j < (colsL V L).length := by unfold stC at hj; rw [List.length_map] at hj; exact hj
 obtain ⟨c, hc⟩ : ∃ c, (colsL V L)[j]? = some c := ⟨_, List.getElem?_eq_getElem hj'⟩
 by_cases hf : j < (frontC V (freeL L (V.length - 2))).length
 ·refine Or.inl ⟨-(V[((freeL L (V.length - 2))[j]?.getD 0).toNat]?.getD 0), ?_, ?_⟩
  ·rw [stC_at hc]
   rw [← hce, List.getElem?_append_left hf] at hc
   unfold frontC at hc
   rw [frontC_len] at hf
   rw [List.getElem?_map, List.getElem?_eq_getElem hf, Option.map_some, Option.some.injEq] at hc
   rw [← hc, List.getElem?_eq_getElem hf, Option.getD_some]
  ·have := game_bound hg ((freeL L (V.length - 2))[j]?.getD 0).toNat
   omega
 ·refine Or.inr ?_
  have hc' := hc
  rw [← hce, List.getElem?_append_right (by omega)] at hc'
  obtain ⟨i', hi'⟩ := fixed_pair V _ _ _ hc'
  have hi : (colsL V L)[(frontC V (freeL L (V.length - 2))).length + i']? = some (c.1, -c.2.1, c.2.2.1, -c.2.2.2.1, c.2.2.2.2) := by
   rw [← hce, List.getElem?_append_right (by omega), Nat.add_sub_cancel_left]; exact hi'
  refine ⟨(frontC V (freeL L (V.length - 2))).length + i', ?_, ?_, ?_⟩
  ·have := (List.getElem?_eq_some_iff.1 hi).1
   unfold stC; rw [List.length_map]; exact this
  ·rw [stC_at hi, stC_at hc]; rfl
  ·rw [colL_st hi, colL_st hc, List.map_map]
   refine List.map_congr_left fun k _ => ?_
   show -c.2.1 * bitI (onC p.toNat k c) = -(c.2.1 * bitI (onC p.toNat k c))
   rw [Int.neg_mul]
theorem nuc_both {p : Int} {V : List Int} {L : List (Int × Int × Int)} (h : stOk p V L = true) : nucLp p.toNat V L = solveS (stA p.toNat V L) (stB p.toNat) (stC V L) := solve_both fun _ j hj => st_nice h j hj
theorem rank_first {p : Int} {V : List Int} (h : gameOk p V = true) (h2 : 2 ≤ p) (s : Int) : rankI p [s] < p := by
 obtain ⟨_, _, hp, _, h5, _⟩ := game_cN h
 unfold rankI
 rw [if_pos (by unfold inB; simp only [Bool.and_eq_true, decide_eq_true_eq]; omega)]
 have := (runM_ok tame_I (good_dig p.toNat [s]) p.toNat (by omega)).2.2.1
 have e : ([s].map (digR p.toNat)).length = 1 := rfl
 rw [e] at this
 omega
theorem nuc_sizes {p : Int} {V : List Int} {L : List (Int × Int × Int)} (h : stOk p V L = true) (hs : (nucLp p.toNat V L).status = 1) :
 (frN V L).length ≤ (nucLp p.toNat V L).X.length ∧ (nucLp p.toNat V L).Y.length = p.toNat + 1 ∧ valR (nucLp p.toNat V L).value = true ∧ ∀ k, k < (nucLp p.toNat V L).Y.length → valR ((nucLp p.toNat V L).Y[k]?.getD (0, 0)) = true := by
 obtain ⟨v1, _, v3, v4, v5, v6⟩ := solveG_val hs
 refine ⟨?_, by rw [show (nucLp p.toNat V L).Y.length = (stB p.toNat).length from v4]; simp [stB], v5, v6⟩
 have v3' : checkG boundI (stA p.toNat V L) (stB p.toNat) (stC V L) (nucLp p.toNat V L) = true := v3
 unfold checkG at v3'
 rw [if_pos hs] at v3'
 obtain ⟨f1, _⟩ := both v3'
 unfold feasB at f1
 have hl := of_decide_eq_true (both f1).1
 rw [hl]
 unfold stC colsL frN
 rw [List.length_map, List.length_append, List.length_append, frontC_len]
 omega
theorem nucF_no {p : Int} {V : List Int} {f k : Nat} {L : List (Int × Int × Int)} (h : ¬(stOk p V L = true ∧ (nucLp p.toNat V L).status = 1)) : nucF p V f L k = NucR.no := by
 cases f with
 | zero => rfl
 | succ f => unfold nucF; rw [if_neg h]
def nucS (p : Int) (V : List Int) (f : Nat) (pt : List (Int × Int)) (L : List (Int × Int × Int)) (k : Nat) : NucR := if doneN p V L = true then ⟨true, pt, L, k⟩ else nucF p V f L k
theorem nucS_start {p : Int} {V : List Int} (hg : gameOk p V = true) (h2 : 2 ≤ p) : nucS p V ((frN V []).length + 1) [] [] 0 = nucR p V := by
 have hd : doneN p V [] = false := by
  unfold doneN
  have := rank_first hg h2 ((V.length : Int) - 1)
  exact decide_eq_false (by show ¬ rankI p [(V.length : Int) - 1] = p; omega)
 unfold nucS nucR
 rw [hd, if_pos hg, if_neg (by simp), if_neg (by omega)]
theorem nucS_step {p : Int} {V : List Int} {f k : Nat} {pt : List (Int × Int)} {L : List (Int × Int × Int)} (hd : doneN p V L = false) (h : stOk p V L = true) (hs : (nucLp p.toNat V L).status = 1) :
 nucS p V (f + 1) pt L k = nucS p V f (ptN p.toNat (nucLp p.toNat V L)) (nextN V L (nucLp p.toNat V L)) (k + 1) := by
 unfold nucS
 rw [hd, if_neg (by simp)]
 conv => lhs; unfold nucF
 rw [if_pos ⟨h, hs⟩]
theorem nucS_no {p : Int} {V : List Int} {f k : Nat} {pt : List (Int × Int)} {L : List (Int × Int × Int)} (hd : doneN p V L = false) (h : ¬(stOk p V L = true ∧ (nucLp p.toNat V L).status = 1)) : nucS p V f pt L k = NucR.no := by
 unfold nucS
 rw [hd, if_neg (by simp), nucF_no h]
theorem nucS_done {p : Int} {V : List Int} {f k : Nat} {pt : List (Int × Int)} {L : List (Int × Int × Int)} (hd : doneN p V L = true) : nucS p V f pt L k = ⟨true, pt, L, k⟩ := by
 unfold nucS
 rw [hd, if_pos rfl]
theorem next_bd {V : List Int} {L : List (Int × Int × Int)} {r : LpR} (hn : V.length ≤ 32) (h : ∀ f ∈ L, f.1 ≤ 1000) {k : Nat} (hk : L.length ≤ 32 * k) : (∀ f ∈ nextN V L r, f.1 ≤ 1000) ∧ (nextN V L r).length ≤ 32 * (k + 1) := by
 refine ⟨fun f hf => ?_, ?_⟩
 ·rcases List.mem_append.1 hf with h1 | h1
  ·exact h f h1
  ·have := (freeL_mem (newF_mem (Nat.le_refl _) h1)).2.1
   omega
 ·unfold nextN
  rw [List.length_append]
  have h1 := newF_len (frN V L) r (frN V L).length
  have h2 : (frN V L).length ≤ V.length - 2 := freeL_len L (V.length - 2)
  omega
end Go.Proofs.YtgohdmnbnhehnaaGreat
