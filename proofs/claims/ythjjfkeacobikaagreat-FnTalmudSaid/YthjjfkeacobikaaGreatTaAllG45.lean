import Derived.Test.YthjjfkeacobikaaGreatTaAllG13
set_option linter.unusedVariables false
set_option linter.unusedSimpArgs false
namespace Go.Proofs.YthjjfkeacobikaaGreat
set_option maxRecDepth 100000
open Go.RowKit
theorem awardOk_z {C : List Int} {x y : Int} (n : Nat) (hn : C.length = n) : (runA C n (x, y) (List.replicate n (0, 0)) n) = (runA C n (x, y) (List.replicate n (0, 1)) n) := runA_eq C n (by simp) (by simp)
set_option maxHeartbeats 1000000 in
theorem s_zerosA (n : Nat) (hn : n ≤ 5) (w : World) :
 Calls Tryz.prog 181 #[.int .i64 n] w fun e w' => (∃ v, e = .returned v ∧ OwnR w' w.heap.size v (List.replicate n (0, 1))) ∧ Ext w w' := by
 have HO := Lib.hid (OwnR.made w w.heap.size (Nat.le_refl _))
 go_enter Tryz.func181, Tryz.ntmps181
 go_wp2
 go_loopw [3, 4] (fun o i wr => ∃ (k : Nat) (a1 : Option Addr) (n1 p1 : Nat), k ≤ n ∧ i = .int .i64 (k : Int) ∧ o = .slice a1 n1 p1 ∧ Hid (OwnR wr w.heap.size (.slice a1 n1 p1) (List.replicate k (0, 1))) ∧ Hid (Ext w wr)) (fun _ i _ => n - (intOf i).toNat)
 case atStart => exact ⟨0, _, _, _, Nat.zero_le _, rfl, rfl, HO, Lib.hid (Ext.alloc _ _)⟩
 case round =>
  obtain ⟨k, a1, n1, p1, hk, rfl, rfl, HO1, HX1⟩ := hrel
  have hszr := HX1.out.size
  by_cases hlt : k < n
  ·go_wp2_with fail
   refine (s_l3Int _ _).mono ?_
   rintro e w3 ⟨rfl, hx3⟩
   have X3 := Lib.hid (HX1.out.trans hx3)
   have HO3 := Lib.hid (HO1.out.ext hx3)
   have hsz3 := hx3.size
   clear hx3
   go_wp2_with (first
    | (at_builtin; refine append_rats rfl _ _ rfl w.heap.size (.slice a1 n1 p1) _ rfl (HO3.out.ext (Ext.alloc _ _)) _ 1 _ [(0, 1)] rfl (Rats.one' _ _ _ _ _ (by simp)) (by simp; omega) (by simp; omega) ?_; intro v2 w4 ho hg hnear; obtain ⟨a2, n2, c2, rfl, HN2⟩ := ho.var; have HO4 := Lib.hid ho; have X4 := Lib.hid (ext_grown (X3.out.trans (Ext.alloc _ _)) hg (fun j hj => (HO3.out.lt j hj).1)); clear ho hg hnear))
   go_roundw
   case rel => exact ⟨k + 1, a2, n2, c2, by omega, by go_num, rfl, Lib.hid (by have := HO4.out; rw [← List.replicate_succ'] at this; exact this), X4⟩
   case measure => simp [intOf]; omega
  ·have hkn : k = n := by omega
   subst hkn
   go_wp2
   go_ret
   exact ⟨⟨_, rfl, HO1.out⟩, HX1.out⟩
theorem OwnI.cellAt {w : World} {base : Nat} {a : Option Addr} {n cap : Nat} {l : List Int} (h : OwnI w base (.slice a n cap) l) {k : Nat} (hk : k < n) : ∃ b off, a = some ⟨b, off, none⟩ ∧ base ≤ b ∧ b < w.heap.size ∧ w.cell? ⟨b, off + k, none⟩ = some (.int .i64 (l[k]?.getD 0)) := by
 obtain ⟨b, off, rfl, hc⟩ := h.ints.at hk
 have := h.lt b rfl
 exact ⟨b, off, rfl, this.1, this.2, hc⟩
set_option maxHeartbeats 8000000 in
theorem s_EqualAwards {w : World} {x y : Int} {a : Option Addr} {n cap : Nat} {C : List Int} (h : Ints w a n cap C) :
 Calls Tryz.prog 117 #[.slice a n cap, ratV x y] w fun e w' => (∃ v, e = .returned (.tuple #[v, .bool (awardOk C x y)]) ∧ OwnR w' w.heap.size v (awardL C x y)) ∧ Ext w w' := by
 obtain ⟨W, hW⟩ : ∃ W, W = w.alloc (.cells #[.int .i64 x, .int .i64 y] 43) := ⟨_, rfl⟩
 have hX : Ext w W := by rw [hW]; exact Ext.alloc _ _
 have HX := Lib.hid hX
 have HI := Lib.hid (h.ext hX)
 have hb0 : W.heap[w.heap.size]? = some (.cells #[.int .i64 x, .int .i64 y] 43 (0, 0)) := by rw [hW]; exact heapA_new _ _ _ rfl
 have hsz : W.heap.size = w.heap.size + 1 := by rw [hW]; simp
 obtain ⟨d0, d1, _⟩ := rcell hb0
 have HW := Lib.hid hW
 have HSZ := Lib.hid hsz
 have HI0 := Lib.hid h
 have HF := Lib.hid (s_l18Fits (x := x) (y := y) HI.out)
 have HL := Lib.hid h.hlen
 have hmax := h.hmax
 have hcap := h.hcap
 clear h hX hb0 hsz hW
 cases hfit : fitsR C x y
 ·have HN := Lib.hid (show awardOk C x y = false by simp [awardOk, hfit])
  have HNL := Lib.hid (show awardL C x y = [] by simp [awardL, hfit])
  rw [hfit] at HF
  clear hfit
  go_enter Tryz.func117, Tryz.ntmps117
  go_wp2_with fail
  rw [← HW.out]
  refine HF.out.mono ?_
  rintro e w1 ⟨rfl, hx⟩
  have HM := Lib.hid ((OwnR.made w1 w.heap.size (by have := hx.size; have := HSZ.out; omega)))
  go_wp2
  rw [HN.out, HNL.out]
  refine bodyPost_ret (v := .tuple #[.slice (some ⟨w1.heap.size, 0, none⟩) 0 0, .bool false]) (by simp [results, Tryz.results117, go_sem]) rfl ⟨⟨_, rfl, HM.out⟩, (HX.out.trans hx).trans (Ext.alloc _ _)⟩
 ·rw [hfit] at HF
  obtain ⟨h1, h5, hbd⟩ := fits_good hfit
  have hn1 : 1 ≤ n := by have := HL.out; omega
  have hn5 : n ≤ 5 := by have := HL.out; omega
  have HFIT := Lib.hid hfit
  clear hfit hbd h1 h5
  go_enter Tryz.func117, Tryz.ntmps117
  go_wp2_with fail
  rw [← HW.out]
  refine HF.out.mono ?_
  rintro e w1 ⟨rfl, hx⟩
  have X1 := Lib.hid (HX.out.trans hx)
  have D0 := Lib.hid (hx.cellSome d0)
  have D1 := Lib.hid (hx.cellSome d1)
  have HI1 := Lib.hid (HI.out.ext hx)
  clear hx d0 d1
  go_wp2_with fail
  refine (s_zerosA n hn5 _).mono ?_
  rintro e w2 ⟨⟨vz, rfl, hoz⟩, hx⟩
  obtain ⟨za, zn, zc, rfl, HZN⟩ := hoz.var
  have hzn : zn = n := by have := HZN.out; simp at this; omega
  subst hzn
  obtain ⟨g, rfl, hg1, _, hg2⟩ := hoz.block (k := 0) hn1
  have X2 := Lib.hid (X1.out.trans hx)
  have HZ := Lib.hid (hoz.mono (base' := w.heap.size) (by have := X1.out.size; exact this))
  have HI2 := Lib.hid (HI1.out.ext hx)
  have D0' := Lib.hid (hx.cellSome D0.out)
  have D1' := Lib.hid (hx.cellSome D1.out)
  clear hoz hx
  go_wp2_with fail
  refine (s_l18Order HI2.out hn5).mono ?_
  rintro e w3 ⟨⟨vo, rfl, hoo⟩, hx⟩
  obtain ⟨oa, on, oc, rfl, HON⟩ := hoo.var
  have hon : on = zn := by have := HON.out; rw [srt_len] at this; omega
  subst hon
  have d0 := hx.cellSome D0'.out
  have d1 := hx.cellSome D1'.out
  have X3 := Lib.hid (X2.out.trans hx)
  have HZ3 := Lib.hid (HZ.out.ext hx)
  have HO3 := Lib.hid hoo
  have HG := Lib.hid hg1
  have hsz3 := hx.size
  clear hx hoo
  go_wp2
  go_loopw [9] (fun i wr => ∃ (k : Nat) (l1 l2 : Int) (r : List (Int × Int)), k ≤ on ∧ i = .int .i64 (k : Int) ∧ Hid (runA C on (x, y) (List.replicate on (0, 1)) k = some ((l1, l2), r)) ∧ Hid (OwnR wr w.heap.size (.slice (some ⟨g, 0, none⟩) on zc) r) ∧ Hid (OwnI wr w2.heap.size (.slice oa on oc) (srt C on)) ∧ Hid (wr.heap[w3.heap.size]? = some (.cells #[.int .i64 l1, .int .i64 l2] 43 (0, 0))) ∧ Hid (Ext w wr)) (fun i _ => on - (intOf i).toNat)
  case atStart => exact ⟨0, x, y, _, Nat.zero_le _, rfl, Lib.hid rfl, Lib.hid (HZ3.out.ext (Ext.alloc _ _)), Lib.hid (HO3.out.ext (Ext.alloc _ _)), Lib.hid (heapA_new _ _ _ (by simp)), Lib.hid (X3.out.trans (Ext.alloc _ _))⟩
  case round =>
   obtain ⟨k, l1, l2, r, hk, rfl, HR, HRR, HOR, HLF, HXr⟩ := hrel
   obtain ⟨e0, e1, fe⟩ := rcell HLF.out
   have hszr := HXr.out.size
   have hleft : w3.heap.size < wr.heap.size := lt_of_block HLF.out
   by_cases hlt : k < on
   ·obtain ⟨hoi, hoe⟩ := ordA_lt C on hlt
    obtain ⟨oi, hoi'⟩ : ∃ i, i = ordA C on k := ⟨_, rfl⟩
    rw [← hoi'] at hoi hoe
    have HOI := Lib.hid hoi'
    obtain ⟨ob, ooff, hoa, hob1, hob2, hoc⟩ := HOR.out.cellAt (k := k) hlt
    rw [hoe] at hoc
    obtain ⟨m, hm⟩ : ∃ m : Nat, m = on - k := ⟨_, rfl⟩
    have hmi : (on : Int) - (k : Int) = (m : Int) := by omega
    have hmw : IntKind.i64.wrap ((on : Int) - (k : Int)) = (m : Int) := by rw [hmi, IntKind.wrap_i64]; omega
    have hmw2 : IntKind.i64.wrap (m : Int) = (m : Int) := by rw [IntKind.wrap_i64]; omega
    obtain ⟨p, q, ok, hpq⟩ : ∃ p q ok, divR (l1, l2) ((m : Int), 1) = ((p, q), ok) := ⟨_, _, _, rfl⟩
    have HPQ := Lib.hid hpq
    have HM := Lib.hid hm
    subst hoa
    clear hoe hoi' hm hpq
    have hk2 : Ext wr wr.drew := Ext.drew wr
    have hka : Ext wr (wr.alloc (.cells #[.int .i64 0, .int .i64 0] 43)).drew := (Ext.alloc _ _).trans (Ext.drew _)
    have HKEEP := Lib.hid (fun (w' : World) (h : Ext wr w') => (⟨h.cellSome e0, h.cellSome e1, h⟩ : w'.cell? ⟨w3.heap.size, 0, none⟩ = some (.int .i64 l1) ∧ w'.cell? ⟨w3.heap.size, 1, none⟩ = some (.int .i64 l2) ∧ Ext wr w'))
    go_wp2
    go_region_held3 (fun w' => w'.cell? ⟨w3.heap.size, 0, none⟩ = some (.int .i64 l1) ∧ w'.cell? ⟨w3.heap.size, 1, none⟩ = some (.int .i64 l2) ∧ Ext wr w')
     (first
       | with_reducible exact HKEEP.out _ hk2
       | with_reducible exact HKEEP.out _ hka
       | with_reducible exact HKEEP.out _ ((hk2.setCell (by first | (simp; done) | (simp; omega)) _).setCell (by first | (simp; done) | (simp; omega)) _)
       | with_reducible exact HKEEP.out _ (hk2.trans (Ext.alloc _ _)))
     (first
       | (go_at_call 86
          refine (s_l3Int _ _).mono ?_
          rintro e w4 ⟨rfl, hx3⟩
          have hk2 : Ext wr w4 := by first | with_reducible exact hk2.trans hx3 | with_reducible exact hka.trans hx3
          have hs3 := hk2.size
          first | (have hA1 : w4.heap[wr.heap.size]? = some (.cells #[.int .i64 0, .int .i64 0] 43 (0, 0)) := (hx3.block _ (by simp)).trans (heap_alloc_new wr (.cells #[.int .i64 0, .int .i64 0] 43))) | skip)
       | (go_at_call 183
          refine (s_DivRat l1 l2 (m : Int) 1 _).mono ?_
          rw [HPQ.out]
          rintro e w5 ⟨rfl, hx4⟩
          have hk2 : Ext wr w5 := by first | with_reducible exact hk2.trans hx4 | with_reducible exact (hk2.trans (Ext.alloc _ _)).trans hx4
          have hs4 := hk2.size
          first | (have hB1 := (hx4.block _ (lt_of_block hA1)).trans hA1; obtain ⟨b0, b1, fb⟩ := rcell hB1) | (have hB2 : w5.heap[w4.heap.size]? = some (.cells #[.int .i64 0, .int .i64 0] 43 (0, 0)) := (hx4.block _ (by simp)).trans (heap_alloc_new w4 (.cells #[.int .i64 0, .int .i64 0] 43)); obtain ⟨b0, b1, fb⟩ := rcell hB2) | skip)
       | fail)
    all_goals
     have hE := (‹_ ∧ _ ∧ Ext wr _›).2.2
     first
      | (have hbx : ((w5.setCell ⟨wr.heap.size, 0, none⟩ (.int .i64 p)).setCell ⟨wr.heap.size, 1, none⟩ (.int .i64 q)).heap[wr.heap.size]? = some (.cells #[.int .i64 p, .int .i64 q] 43 (0, 0)) := by rw [heap_setCell_same _ _ _ _ _ _ (heap_setCell_same _ _ _ _ _ _ hB1)]; rfl
         generalize (w5.setCell ⟨wr.heap.size, 0, none⟩ (.int .i64 p)).setCell ⟨wr.heap.size, 1, none⟩ (.int .i64 q) = wF at hbx hE ⊢
         obtain ⟨bx, hbX⟩ : ∃ b, b = wr.heap.size := ⟨_, rfl⟩
         rw [← hbX] at hbx ⊢
         have hge : wr.heap.size ≤ bx := by omega
         clear hbX)
      | (have hbx : ((w5.setCell ⟨w4.heap.size, 0, none⟩ (.int .i64 p)).setCell ⟨w4.heap.size, 1, none⟩ (.int .i64 q)).heap[w4.heap.size]? = some (.cells #[.int .i64 p, .int .i64 q] 43 (0, 0)) := by rw [heap_setCell_same _ _ _ _ _ _ (heap_setCell_same _ _ _ _ _ _ hB2)]; rfl
         generalize (w5.setCell ⟨w4.heap.size, 0, none⟩ (.int .i64 p)).setCell ⟨w4.heap.size, 1, none⟩ (.int .i64 q) = wF at hbx hE ⊢
         have hge := hs3
         generalize w4.heap.size = bx at hbx hge ⊢)
      | (have hbx := heap_alloc_new w5 (.cells #[.int .i64 p, .int .i64 q] 43)
         generalize w5.alloc (.cells #[.int .i64 p, .int .i64 q] 43) = wF at hbx hE ⊢
         have hge := hs4
         generalize w5.heap.size = bx at hbx hge ⊢)
     obtain ⟨v0, v1, fv⟩ := rcell hbx
     have HBX := Lib.hid hbx
     have XF := Lib.hid (HXr.out.trans hE)
     have HIF := Lib.hid (HI0.out.ext XF.out)
     have e0F := hE.cellSome e0
     have e1F := hE.cellSome e1
     have hocF := hE.cellSome hoc
     obtain ⟨cb, coff, hca, hcc⟩ := HIF.out.at hoi
     obtain ⟨cv, hcv⟩ : ∃ c, c = C[oi]?.getD 0 := ⟨_, rfl⟩
     rw [← hcv] at hcc
     obtain ⟨cc, hcmp⟩ : ∃ c, c = cmpR (cv, 1) (p, q) := ⟨_, rfl⟩
     have HCMP := Lib.hid hcmp
     have HCV := Lib.hid hcv
     subst hca
     clear hbx hcmp hcv
     go_wp2_with fail
     refine (s_l3Int _ _).mono ?_
     rintro e w6 ⟨rfl, hx6⟩
     have hE6 := hE.trans hx6
     have v06 := hx6.cellSome v0
     have v16 := hx6.cellSome v1
     have e06 := hx6.cellSome e0F
     have e16 := hx6.cellSome e1F
     have HB6 := Lib.hid ((hx6.block _ (lt_of_block HBX.out)).trans HBX.out)
     have hs6 := hx6.size
     have hbl := lt_of_block HB6.out
     have hl6 : w3.heap.size < w6.heap.size := World.block_lt_of_cell? _ _ e06
     clear v0 v1 fv hx6
     cases ok
     ·have HN := Lib.hid (show runA C on (x, y) (List.replicate on (0, 1)) on = none by
       have h1 : runA C on (x, y) (List.replicate on (0, 1)) (k + 1) = none := by
        rw [runA_succ C on HR.out]
        unfold stepA
        rw [if_neg]
        simp only [← HM.out, HPQ.out]
        simp
       have h2 := runA_none C on h1 (on - (k + 1))
       rwa [show k + 1 + (on - (k + 1)) = on by omega] at h2)
      go_wp2_with fail
      refine (s_SubRat l1 l2 p q _).mono ?_
      rintro e w8 ⟨rfl, hx8⟩
      obtain ⟨a1, a2, a3, hs2⟩ : ∃ u v b, subR (l1, l2) (p, q) = ((u, v), b) := ⟨_, _, _, rfl⟩
      rw [hs2]
      have XALL := Lib.hid (((HXr.out.trans hE6).trans (Ext.alloc _ _)).trans hx8)
      have HMD := Lib.hid ((OwnR.made (w8.alloc (.cells #[.int .i64 a1, .int .i64 a2] 43)) w.heap.size (by have := XALL.out.size; simp; omega)))
      clear hs2 hx8
      go_wp2
      have hO : awardOk C x y = false := by unfold awardOk; rw [HL.out, awardOk_z on HL.out, HN.out]; simp
      have hL : awardL C x y = [] := by unfold awardL; rw [HL.out, awardOk_z on HL.out, HN.out]; simp
      rw [hO, hL]
      refine bodyPost_ret (v := .tuple #[.slice (some ⟨w8.heap.size + 1, 0, none⟩) 0 0, .bool false]) (by simp [results, Tryz.results117, go_sem]) rfl ⟨⟨_, rfl, by simpa using HMD.out⟩, (XALL.out.trans (Ext.alloc _ _)).trans (Ext.alloc _ _)⟩
     ·go_wp2_with fail
      refine (s_CompareRat cv 1 p q _).mono ?_
      rw [← HCMP.out]
      rintro e w7 ⟨rfl, hx7⟩
      have hx7' := (Ext.alloc w6 (.cells #[.int .i64 cv, .int .i64 1] 43)).trans hx7
      have hG7 := hE6.trans hx7'
      have e07 := hx7'.cellSome e06
      have e17 := hx7'.cellSome e16
      have hB7 := (hx7'.block _ hbl).trans HB6.out
      have hC7 := (hx7.block w6.heap.size (by simp)).trans (heap_alloc_new w6 (.cells #[.int .i64 cv, .int .i64 1] 43))
      obtain ⟨t0, t1, ft⟩ := rcell hC7
      obtain ⟨v07, v17, fv7⟩ := rcell hB7
      have hge2 : w3.heap.size < bx := Nat.lt_of_lt_of_le hleft hge
      have hne1 : bx ≠ w3.heap.size := by omega
      have hne2 : w3.heap.size ≠ bx := by omega
      clear hx7 hx7' v06 v16 e06 e16 hC7
      by_cases hlt0 : cc < 0
      case' pos =>
       have HSH0 := Lib.hid (show shareA C (l1, l2) m oi = (cv, 1) by unfold shareA; rw [HPQ.out]; simp only; rw [← HCV.out, ← HCMP.out, if_pos hlt0])
       have hG : Ext wr ((w7.setCell ⟨bx, 0, none⟩ (.int .i64 cv)).setCell ⟨bx, 1, none⟩ (.int .i64 1)) := (hG7.setCell hge _).setCell hge _
       have hbxG : ((w7.setCell ⟨bx, 0, none⟩ (.int .i64 cv)).setCell ⟨bx, 1, none⟩ (.int .i64 1)).heap[bx]? = some (.cells #[.int .i64 cv, .int .i64 1] 43 (0, 0)) := by rw [heap_setCell_same _ _ _ _ _ _ (heap_setCell_same _ _ _ _ _ _ hB7)]; rfl
       go_wp2_with fail
       generalize (w7.setCell ⟨bx, 0, none⟩ (.int .i64 cv)).setCell ⟨bx, 1, none⟩ (.int .i64 1) = wG at hG hbxG ⊢
       generalize (1 : Int) = one1 at HSH0 hbxG ⊢
       obtain ⟨SP, SQ, rfl, rfl⟩ : ∃ u v, u = cv ∧ v = one1 := ⟨_, _, rfl, rfl⟩
       have HSH := HSH0
      case' neg =>
       have HSH := Lib.hid (show shareA C (l1, l2) m oi = (p, q) by unfold shareA; rw [HPQ.out]; simp only; rw [← HCV.out, ← HCMP.out, if_neg hlt0])
       obtain ⟨wG, hwG⟩ : ∃ W, W = w7 := ⟨_, rfl⟩
       subst hwG
       have hG : Ext wr wG := hG7
       have hbxG := hB7
       go_wp2_with fail
       obtain ⟨SP, SQ, rfl, rfl⟩ : ∃ u v, u = p ∧ v = q := ⟨_, _, rfl, rfl⟩
      all_goals
       obtain ⟨p2, q2, ok2, hs2⟩ : ∃ u v b, subR (l1, l2) (SP, SQ) = ((u, v), b) := ⟨_, _, _, rfl⟩
       have HS2 := Lib.hid hs2
       have HSTEP := Lib.hid (show stepA C on ((l1, l2), r) k = if ok2 = true then some ((p2, q2), r.set oi (SP, SQ)) else none by
        unfold stepA
        simp only [← HM.out, HPQ.out, ← HOI.out, HSH.out, hs2]
        simp)
       have HLG := Lib.hid ((hG.block _ hleft).trans HLF.out)
       have HRG := Lib.hid (HRR.out.ext hG)
       have HOG := Lib.hid (HOR.out.ext hG)
       have XG := Lib.hid (HXr.out.trans hG)
       have HBG := Lib.hid hbxG
       have hltG : bx < wG.heap.size := lt_of_block hbxG
       have hlg2 : w3.heap.size < wG.heap.size := lt_of_block HLG.out
       clear hs2 hG hbxG
       refine (s_SubRat l1 l2 SP SQ _).mono ?_
       rw [HS2.out]
       rintro e w8 ⟨rfl, hx8⟩
       have X8 := Lib.hid (XG.out.trans hx8)
       have HL8 := Lib.hid ((hx8.block _ hlg2).trans HLG.out)
       have HB8 := Lib.hid ((hx8.block _ hltG).trans HBG.out)
       have HR8 := Lib.hid (HRG.out.ext hx8)
       have HO8 := Lib.hid (HOG.out.ext hx8)
       have hlg8 := lt_of_block HL8.out
       have hlb8 := lt_of_block HB8.out
       clear hx8
       obtain ⟨s0, s1, fs⟩ := rcell HB8.out
       obtain ⟨g0, g1, fg⟩ := rcell HL8.out
       cases ok2
       ·have HN := Lib.hid (show runA C on (x, y) (List.replicate on (0, 1)) on = none by
         have h1 : runA C on (x, y) (List.replicate on (0, 1)) (k + 1) = none := by rw [runA_succ C on HR.out, HSTEP.out]; simp
         have h2 := runA_none C on h1 (on - (k + 1))
         rwa [show k + 1 + (on - (k + 1)) = on by omega] at h2)
        have HMD := Lib.hid ((OwnR.made (w8.alloc (.cells #[.int .i64 p2, .int .i64 q2] 43)) w.heap.size (by have := X8.out.size; simp; omega)))
        go_wp2
        have hO : awardOk C x y = false := by unfold awardOk; rw [HL.out, awardOk_z on HL.out, HN.out]; simp
        have hL : awardL C x y = [] := by unfold awardL; rw [HL.out, awardOk_z on HL.out, HN.out]; simp
        rw [hO, hL]
        refine bodyPost_ret (v := .tuple #[.slice (some ⟨w8.heap.size + 1, 0, none⟩) 0 0, .bool false]) (by simp [results, Tryz.results117, go_sem]) rfl ⟨⟨_, rfl, by simpa using HMD.out⟩, (X8.out.trans (Ext.alloc _ _)).trans (Ext.alloc _ _)⟩
       ·have HLR := Lib.hid (show r.length = on by have := runA_len C on k HR.out; simpa using this)
        obtain ⟨gg, hgg, hgb, hr8, hlr8⟩ := HR8.out.block (k := oi) hoi
        simp only [Option.some.injEq, Addr.mk.injEq, and_true] at hgg
        subst hgg
        obtain ⟨b8, off8, x8, y8, he8, hxy8, hr80, hr81⟩ := HR8.out.rats.at hoi
        simp only [Option.some.injEq, Addr.mk.injEq, and_true] at he8
        obtain ⟨rfl, rfl⟩ := he8
        rw [Nat.zero_add] at hr80 hr81
        obtain ⟨ob8, oo8, he8, hob8, hob9, hoc8⟩ := HO8.out.cellAt (k := k) hlt
        simp only [Option.some.injEq, Addr.mk.injEq, and_true] at he8
        obtain ⟨rfl, rfl⟩ := he8
        rw [(ordA_lt C on hlt).2, ← HOI.out] at hoc8
        have hgne : w3.heap.size ≠ g := by omega
        have HRS := Lib.hid (((HR8.out.set (k := oi) (by rw [HLR.out]; exact hoi) SP SQ).ext (Ext.alloc _ (.cells #[.int .i64 p2, .int .i64 q2] 43))).ext (Ext.drew _))
        have HOS := Lib.hid ((((HO8.out.keep (w' := (w8.setCell ⟨g, oi * 2, none⟩ (.int .i64 SP)).setCell ⟨g, oi * 2 + 1, none⟩ (.int .i64 SQ)) (fun j hj => by
         have hne : j ≠ g := by have := (HO8.out.lt j hj).1; omega
         rw [heap_setCell_other _ _ _ _ hne, heap_setCell_other _ _ _ _ hne])).ext (Ext.alloc _ (.cells #[.int .i64 p2, .int .i64 q2] 43))).ext (Ext.drew _)))
        have hLS0 : ((w8.setCell ⟨g, oi * 2, none⟩ (.int .i64 SP)).setCell ⟨g, oi * 2 + 1, none⟩ (.int .i64 SQ)).heap[w3.heap.size]? = some (.cells #[.int .i64 l1, .int .i64 l2] 43 (0, 0)) := by
         rw [heap_setCell_other _ _ _ _ hgne, heap_setCell_other _ _ _ _ hgne]; exact HL8.out
        have HLS := Lib.hid ((((Ext.alloc _ (.cells #[.int .i64 p2, .int .i64 q2] 43)).trans (Ext.drew _)).block _ (lt_of_block hLS0)).trans hLS0)
        have HPS := Lib.hid (((Ext.drew _).block _ (by simp)).trans (heap_alloc_new ((w8.setCell ⟨g, oi * 2, none⟩ (.int .i64 SP)).setCell ⟨g, oi * 2 + 1, none⟩ (.int .i64 SQ)) (.cells #[.int .i64 p2, .int .i64 q2] 43)))
        have XS := Lib.hid (Ext.trans (Ext.trans ((X8.out.setCell (p := ⟨g, oi * 2, none⟩) hgb (.int .i64 SP)).setCell (p := ⟨g, oi * 2 + 1, none⟩) hgb (.int .i64 SQ)) (Ext.alloc _ (.cells #[.int .i64 p2, .int .i64 q2] 43))) (Ext.drew _))
        clear hLS0
        have hss : ((w8.setCell ⟨g, oi * 2, none⟩ (.int .i64 SP)).setCell ⟨g, oi * 2 + 1, none⟩ (.int .i64 SQ)).heap.size = w8.heap.size := by simp
        rw [hss] at HPS
        clear hss
        go_wp2
        go_region_law (fail)
        all_goals
         generalize (((w8.setCell ⟨g, oi * 2, none⟩ (.int .i64 SP)).setCell ⟨g, oi * 2 + 1, none⟩ (.int .i64 SQ)).alloc (.cells #[.int .i64 p2, .int .i64 q2] 43)).drew = wS at HRS HOS HLS HPS XS ⊢
         clear s0 s1 fs g0 g1 fg hr80 hr81 hoc8 hr8
         obtain ⟨y0, y1, fy⟩ := rcell HLS.out
         obtain ⟨z0, z1, fz⟩ := rcell HPS.out
         have HKA : ∀ j, j ≠ w3.heap.size → ((wS.setCell ⟨w3.heap.size, 0, none⟩ (.int .i64 p2)).setCell ⟨w3.heap.size, 1, none⟩ (.int .i64 q2)).heap[j]? = wS.heap[j]? := fun j hj => by rw [heap_setCell_other _ _ _ _ hj, heap_setCell_other _ _ _ _ hj]
         have HRA := Lib.hid (HRS.out.keep fun j hj => HKA j (by simp only [Value.ownBlock, Option.some.injEq] at hj; omega))
         have HOA := Lib.hid (HOS.out.keep fun j hj => HKA j (by have := (HO3.out.lt j hj).2; omega))
         have hla : ((wS.setCell ⟨w3.heap.size, 0, none⟩ (.int .i64 p2)).setCell ⟨w3.heap.size, 1, none⟩ (.int .i64 q2)).heap[w3.heap.size]? = some (.cells #[.int .i64 p2, .int .i64 q2] 43 (0, 0)) := by rw [heap_setCell_same _ _ _ _ _ _ (heap_setCell_same _ _ _ _ _ _ HLS.out)]; rfl
         have HLA := Lib.hid hla
         have XA := Lib.hid ((XS.out.setCell (p := ⟨w3.heap.size, 0, none⟩) (by have := X3.out.size; exact this) (.int .i64 p2)).setCell (p := ⟨w3.heap.size, 1, none⟩) (by have := X3.out.size; exact this) (.int .i64 q2))
         clear HKA hla
         go_wp2
         go_roundw
         case rel => exact ⟨k + 1, p2, q2, r.set oi (SP, SQ), by omega, by go_num, Lib.hid (by rw [runA_succ C on HR.out, HSTEP.out]; simp), HRA, HOA, HLA, XA⟩
         case measure => simp [intOf]; omega
   ·have hkn : k = on := by omega
    have hR := HR.out
    have HLR := runA_len C on k hR
    rw [List.length_replicate] at HLR
    rw [hkn] at hR
    have HO1 := Lib.hid (show awardOk C x y = true by unfold awardOk; rw [HL.out, awardOk_z on HL.out, hR, HFIT.out]; rfl)
    have HL1 := Lib.hid (show awardL C x y = r by unfold awardL; rw [HL.out, awardOk_z on HL.out, hR, if_pos HFIT.out]; rfl)
    clear hR HLR
    go_wp2
    rw [HO1.out, HL1.out]
    refine bodyPost_ret (v := .tuple #[.slice (some ⟨g, 0, none⟩) on zc, .bool true]) (by simp [results, Tryz.results117, go_sem]) rfl ⟨⟨_, rfl, HRR.out⟩, HXr.out⟩
end Go.Proofs.YthjjfkeacobikaaGreat
