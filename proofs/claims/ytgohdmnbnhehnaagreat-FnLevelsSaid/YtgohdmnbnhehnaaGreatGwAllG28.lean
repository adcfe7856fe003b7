import Derived.Test.YtgohdmnbnhehnaaGreatGwAllG27
import Derived.Test.YtgohdmnbnhehnaaGreatGwAllG15
namespace Go.Proofs.YtgohdmnbnhehnaaGreat
set_option linter.unusedVariables false
set_option linter.unusedSimpArgs false
set_option maxRecDepth 100000
open Go.RowKit
theorem subR_bdS (a b : Int × Int) : -1000000000 ≤ (subR a b).1.1 ∧ (subR a b).1.1 ≤ 1000000000 := by
 cases h : (subR a b).2
 ·rw [subR_badz h]; simp
 ·have := valR_bd (val_sub h).2.2.1; omega
theorem Boxed.put0 {w W : World} {g : Nat} {p q : Int} (h : Boxed w W g p q) (p' : Int) : Boxed w (W.setCell ⟨g, 0, none⟩ (.int .i64 p')) g p' q :=
 ⟨h.ext.setCell (p := ⟨g, 0, none⟩) h.ge (.int .i64 p'), h.ge, by rw [heap_setCell_same _ _ _ _ _ _ h.cell]; rfl⟩
section
variable {w : World} {S : Nat} {a : Option Addr} {na ca : Nat} {b : Option Addr} {nb cb : Nat} {c : Option Addr} {nc cc : Nat} {ra : Option Addr} {rn rc : Nat} {ba : Option Addr} {bn bc : Nat} {vs : List Value} {t : Tb} {n : Nat} {f : Bool}
set_option maxHeartbeats 8000000 in
theorem s_l7Dual {N : Nat} (h : WorkC w S a na ca b na cb c nc cc ra rn rc ba bn bc vs t n f) (hcols : t.cols = N) {B : List Int} (hB : Ints w b na cb B) (hca1 : na ≤ ca) (hca2 : ca ≤ 9223372036854775807) {ka : Option Addr} {kn kc : Nat} {cs : List (Int × Int)} (hK : Rats w ka kn kc cs) (hkn : N + na ≤ kn) (hbig : kn ≤ 100000) (base : Int) :
 Calls Tryz.prog 175 #[.pointer (some ⟨S, 0, none⟩), .slice ka kn kc, .int .i64 base] w fun e w' => (∃ v, e = .returned v ∧ OwnR w' w.heap.size v ((List.range na).map (dualS B (base, 1) cs N))) ∧ Ext w w' := by
 have H := Lib.hid h
 have hlt := lt_of_block h.box
 have HB := Lib.hid hB
 have HK' := Lib.hid hK
 have hb1 := hB.hcap
 have hb2 := hB.hmax
 have hk1 := hK.hcap
 have hk2' := hK.hmax
 have HCO := Lib.hid hcols
 have HO := Lib.hid (OwnR.made w w.heap.size (Nat.le_refl _))
 have X0 := Lib.hid (Ext.alloc w (.cells #[] 85))
 clear h hB hK hcols
 go_enter Tryz.func175, Tryz.ntmps175
 go_wp2_with fail
 go_loopg [7, 8] na (fun gk oo ii wr => ∃ (k : Nat) (a1 : Option Addr) (n1 p1 : Nat), Hid (gk + k = na) ∧ ii = .int .i64 (k : Int) ∧ oo = .slice a1 n1 p1 ∧ Hid (OwnR wr w.heap.size (.slice a1 n1 p1) ((List.range k).map (dualS B (base, 1) cs N))) ∧ Hid (Ext w wr))
 case atStart => exact ⟨0, _, _, _, Lib.hid (by omega), rfl, rfl, HO, X0⟩
 case round =>
  obtain ⟨g1, h_g1⟩ : ∃ x, x = gk := ⟨_, rfl⟩
  subst h_g1
  obtain ⟨wr1, h_wr1⟩ : ∃ x, x = wr := ⟨_, rfl⟩
  subst h_wr1
  obtain ⟨k, a1, n1, q1, HKK, rfl, rfl, HO1, HX⟩ := hrel
  have hsz := HX.out.size
  obtain ⟨l0, l1, l2, c0, c1, c2, c3, c4, cf⟩ := (H.out.ext HX.out).cells
  rw [HCO.out] at c2
  by_cases hlt2 : k < na
  ·obtain ⟨z, hz⟩ : ∃ z, z = N + k := ⟨_, rfl⟩
   have hzu : z < kn := by omega
   obtain ⟨zb, zoff, ex, ey, hza, hev, he0, he1⟩ := (HK'.out.ext HX.out).at hzu
   subst hza
   obtain ⟨d1, d2, dok, hdd⟩ : ∃ x y ok, subR (base, 1) (ex, ey) = ((x, y), ok) := ⟨_, _, _, rfl⟩
   have HDD := Lib.hid hdd
   have hdb := subR_bdS (base, 1) (ex, ey)
   rw [hdd] at hdb
   have hwn : IntKind.i64.wrap (-d1) = -d1 := by rw [IntKind.wrap_i64]; simp only at hdb; omega
   obtain ⟨bb, boff, hba, hb0⟩ := (HB.out.ext HX.out).at hlt2
   subst hba
   obtain ⟨bi, hbi⟩ : ∃ x, x = B[k]?.getD 0 := ⟨_, rfl⟩
   rw [← hbi] at hb0
   have HB0 := Lib.hid hb0
   have HDF := Lib.hid (show dualS B (base, 1) cs N k = sgnR bi (d1, d2) by unfold dualS; rw [← hz, hev, hdd, hbi])
   have hwr : IntKind.i64.wrap ((N : Int) + (k : Int)) = (z : Int) := by rw [IntKind.wrap_i64]; omega
   have hz0' : (0 : Int) ≤ (z : Int) := by omega
   have hz1' : (z : Int) < (kn : Int) := by omega
   clear hev hdd hbi hz hdb
   go_upto_region 5 with fail
   go_upto_region 5 with fail
   go_cut [9, 10] (fun sx so wx => ∃ g : Nat, sx = .pointer (some ⟨g, 0, none⟩) ∧ so = .bool dok ∧ Hid (Boxed wr1 wx g d1 d2))
   case first =>
    have hk2 : Ext wr1 wr1.drew := Ext.drew wr1
    have hka : Ext wr1 (wr1.alloc (.cells #[.int .i64 0, .int .i64 0] 85)).drew := (Ext.alloc _ _).trans (Ext.drew _)
    have HKEEP := Lib.hid (fun (w' : World) (h : Ext wr1 w') => (⟨h.cellSome c2, h.cellSome he0, h.cellSome he1, h⟩ : w'.cell? ⟨S, 5, none⟩ = some (.int .i64 (N : Int)) ∧ w'.cell? ⟨zb, zoff + z * 2, none⟩ = some (.int .i64 ex) ∧ w'.cell? ⟨zb, zoff + z * 2 + 1, none⟩ = some (.int .i64 ey) ∧ Ext wr1 w'))
    go_region_held3 (fun w' => w'.cell? ⟨S, 5, none⟩ = some (.int .i64 (N : Int)) ∧ w'.cell? ⟨zb, zoff + z * 2, none⟩ = some (.int .i64 ex) ∧ w'.cell? ⟨zb, zoff + z * 2 + 1, none⟩ = some (.int .i64 ey) ∧ Ext wr1 w')
     (first
       | with_reducible exact HKEEP.out _ hk2
       | with_reducible exact HKEEP.out _ hka
       | with_reducible exact HKEEP.out _ ((hk2.setCell (by first | (simp; done) | (simp; omega)) _).setCell (by first | (simp; done) | (simp; omega)) _)
       | with_reducible exact HKEEP.out _ (hk2.trans (Ext.alloc _ _))
       | with_reducible exact HKEEP.out _ (hBB.put _ _).ext)
     (first
       | (go_at_call 81
          (with_reducible refine (s_l3Int base _).mono ?_)
          rintro e w7 ⟨rfl, hx_w7⟩
          first | (with_reducible have hBB := Boxed.grow hBB hx_w7) | (with_reducible have hBB := Boxed.firstD hx_w7) | (with_reducible have hBB := Boxed.laterD hk2 hx_w7) | skip
          first | (have b0_ := hBB.c0; have b1_ := hBB.c1; have fb_ := hBB.free) | skip
          have hk2 : Ext wr1 w7 := by first | with_reducible exact hk2.trans hx_w7 | with_reducible exact hka.trans hx_w7 | with_reducible exact (hk2.trans (Ext.alloc _ _)).trans hx_w7
          have hk2s := hk2.size)
       | (go_at_call 165
          (with_reducible refine (s_SubRat base 1 ex ey _).mono ?_)
          rw [HDD.out]
          rintro e w8 ⟨rfl, hx_w8⟩
          first | (with_reducible have hBB := Boxed.grow hBB hx_w8) | (with_reducible have hBB := Boxed.firstD hx_w8) | (with_reducible have hBB := Boxed.laterD hk2 hx_w8) | skip
          first | (have b0_ := hBB.c0; have b1_ := hBB.c1; have fb_ := hBB.free) | skip
          have hk2 : Ext wr1 w8 := by first | with_reducible exact hk2.trans hx_w8 | with_reducible exact hka.trans hx_w8 | with_reducible exact (hk2.trans (Ext.alloc _ _)).trans hx_w8
          have hk2s := hk2.size)
       | fail)
    all_goals (go_wp2_with fail; go_meet; first | exact ⟨_, rfl, rfl, Lib.hid (hBB.put _ _)⟩ | exact ⟨_, rfl, rfl, Lib.hid (Boxed.new hk2 _ _)⟩ | exact ⟨_, rfl, rfl, Lib.hid (Boxed.new' hk2 _ _ (by simp))⟩)
   obtain ⟨g, rfl, rfl, HB1⟩ := hcut
   have XWC := Lib.hid (HX.out.trans HB1.out.ext)
   clear hwr hz0' hz1' he0 he1 l0 l1 l2 c0 c1 c2 c3 c4 cf hb0
   obtain ⟨l0, l1, l2, c0, c1, c2, c3, c4, cf⟩ := (H.out.ext XWC.out).cells
   have hb0 := HB1.out.ext.cellSome HB0.out
   have HO2 := Lib.hid (HO1.out.ext HB1.out.ext)
   obtain ⟨e1, hsg⟩ : ∃ e1, sgnR bi (d1, d2) = (e1, d2) := by unfold sgnR negR; split <;> exact ⟨_, rfl⟩
   have HSG := Lib.hid hsg
   clear hsg
   go_upto_if 46 with fail
   go_cut [8] (fun s8 wx => s8 = .int .i64 (k : Int) ∧ Hid (Boxed wr1 wx g e1 d2))
   case first =>
    have g0 := HB1.out.c0
    have g1' := HB1.out.c1
    have gf := HB1.out.free
    by_cases hbn : bi < 0
    ·have he1 : -d1 = e1 := by have := HSG.out; unfold sgnR negR at this; rw [if_pos hbn] at this; exact congrArg Prod.fst this
     rw [show decide (bi < 0) = true from decide_eq_true hbn]
     have HBN := Lib.hid (HB1.out.put0 e1)
     rw [he1] at hwn
     clear hbn
     go_wp2_with fail
     go_meet
     exact ⟨rfl, by first | exact HBN | (rw [he1]; exact HBN)⟩
    ·have he1 : e1 = d1 := by have := HSG.out; unfold sgnR at this; rw [if_neg (by omega)] at this; exact (congrArg Prod.fst this).symm
     subst he1
     rw [show decide (bi < 0) = false from decide_eq_false (by omega)]
     go_wp2_with fail
     go_meet
     exact ⟨rfl, HB1⟩
   obtain ⟨rfl, HB3⟩ := hcut
   have HO3 := Lib.hid (HO1.out.ext HB3.out.ext)
   have HX3 := Lib.hid (HX.out.trans HB3.out.ext)
   have g0 := HB3.out.c0
   have g1' := HB3.out.c1
   have hgl := HB3.out.lt
   have hs3 := HX3.out.size
   have HYL := Lib.hid (show ((List.range k).map (dualS B (base, 1) cs N)).length = k by simp)
   have HSN := Lib.hid (show (List.range k).map (dualS B (base, 1) cs N) ++ [(e1, d2)] = (List.range (k + 1)).map (dualS B (base, 1) cs N) by rw [← HSG.out, ← HDF.out]; exact rangeMap_snoc _ _)
   clear l0 l1 l2 c0 c1 c2 c3 c4 cf hb0 hwn
   go_wp2_with (first
    | (at_builtin; refine append_rats rfl _ _ rfl w.heap.size (.slice a1 n1 q1) _ rfl (HO3.out.ext (Ext.alloc _ _)) _ 1 _ [(e1, d2)] rfl (Rats.one' _ _ _ _ _ (by simp)) (by rw [HYL.out]; omega) (by simp; omega) ?_; intro v5 w5 ho hg hnear; have X5 := Lib.hid (ext_grown (HX3.out.trans (Ext.alloc _ _)) hg (fun j hj => (HO3.out.lt j hj).1)); obtain ⟨a5, n5, p5, rfl, HN5⟩ := ho.var; have HO5 := Lib.hid ho; clear ho hg hnear))
   go_roundg (g1 - 1)
   case measure => have := HKK.out; omega
   case rel => exact ⟨k + 1, a5, n5, p5, Lib.hid (by have := HKK.out; omega), by go_num, rfl, Lib.hid (by rw [← HSN.out]; exact HO5.out), X5⟩
  ·have hkn2 : na = k := by have := HKK.out; omega
   subst hkn2
   go_wp2_with fail
   go_ret
   exact ⟨⟨_, rfl, HO1.out⟩, HX.out⟩
end
section
variable {w : World} {S : Nat} {a : Option Addr} {na ca : Nat} {b : Option Addr} {nb cb : Nat} {c : Option Addr} {nc cc : Nat} {ra : Option Addr} {rc : Nat} {ba : Option Addr} {bc : Nat} {vs : List Value} {t : Tb} {n : Nat} {N m : Nat} {T0 : Nat → Nat → Rat}
set_option maxHeartbeats 8000000 in
theorem s_l7Ray (h : WorkC w S a na ca b nb cb c nc cc ra m rc ba m bc vs t n false) (hT : TInv N m T0 t) (hN : N ≤ 1000) (hm : m ≤ 1000) {jc : Nat} (hjc : jc < N) :
 Calls Tryz.prog 178 #[.pointer (some ⟨S, 0, none⟩), .int .i64 (jc : Int)] w fun e w' => (∃ v, e = .returned v ∧ OwnR w' w.heap.size v (rayN t N jc m)) ∧ Ext w w' := by
 have H := Lib.hid h
 have hlt := lt_of_block h.box
 have HT := Lib.hid hT
 have HCO := Lib.hid hT.cols
 have hr1 := h.tb.tbc.rows.hcap
 have hr2 := h.tb.tbc.rows.hmax
 have hb1 := h.tb.tbc.basis.hcap
 have hb2 := h.tb.tbc.basis.hmax
 have HO := Lib.hid (OwnR.made w w.heap.size (Nat.le_refl _))
 have X0 := Lib.hid (Ext.alloc w (.cells #[] 85))
 clear h hT
 go_enter Tryz.func178, Tryz.ntmps178
 go_wp2_with fail
 go_loopg [5, 6] N (fun gk oo ii wr => ∃ (k : Nat) (a1 : Option Addr) (n1 p1 : Nat), Hid (gk + k = N) ∧ ii = .int .i64 (k : Int) ∧ oo = .slice a1 n1 p1 ∧ Hid (OwnR wr w.heap.size (.slice a1 n1 p1) ((List.range k).map fun i => if i = jc then ((1 : Int), (1 : Int)) else (0, 1))) ∧ Hid (Ext w wr))
 case atStart => exact ⟨0, _, _, _, Lib.hid (by omega), rfl, rfl, HO, X0⟩
 case round =>
  obtain ⟨g1, h_g1⟩ : ∃ x, x = gk := ⟨_, rfl⟩
  subst h_g1
  obtain ⟨wr1, h_wr1⟩ : ∃ x, x = wr := ⟨_, rfl⟩
  subst h_wr1
  obtain ⟨k, a1, n1, q1, HKK, rfl, rfl, HO1, HX⟩ := hrel
  have hsz := HX.out.size
  obtain ⟨l0, l1, l2, c0, c1, c2, c3, c4, cf⟩ := (H.out.ext HX.out).cells
  rw [HCO.out] at c2
  by_cases hlt2 : k < N
  ·have HLL := Lib.hid (show ((List.range k).map fun i => if i = jc then ((1 : Int), (1 : Int)) else (0, 1)).length = k by simp)
   obtain ⟨un, hun⟩ : ∃ u : Int, u = if k = jc then 1 else 0 := ⟨_, rfl⟩
   have HSN := Lib.hid (show (List.range k).map (fun i => if i = jc then ((1 : Int), (1 : Int)) else (0, 1)) ++ [(un, 1)] = (List.range (k + 1)).map fun i => if i = jc then ((1 : Int), (1 : Int)) else (0, 1) by
    rw [← rangeMap_snoc, hun]; congr 2; split <;> rfl)
   have hik : ((k : Int) == (jc : Int)) = decide (k = jc) := by by_cases h : k = jc <;> simp [h] <;> omega
   have HUN := Lib.hid (show bitI (decide (k = jc)) = un by rw [hun]; by_cases h : k = jc <;> simp [h, bitI])
   have HBT := Lib.hid (fun w' => s_l1Bit (decide (k = jc)) w')
   rw [HUN.out] at HBT
   clear hun
   go_wp2_with (first | (go_at_call 59; refine (HBT.out _).mono ?_; rintro e w2 ⟨rfl, rfl⟩))
   clear hik
   refine (s_l3Int un _).mono ?_
   rintro e w3 ⟨rfl, hx⟩
   have X3 := Lib.hid (HX.out.trans hx)
   have HO3 := Lib.hid (HO1.out.ext hx)
   have hs3 := X3.out.size
   clear hx l0 l1 l2 c0 c1 c2 c3 c4 cf
   go_wp2_with (first
    | (at_builtin; refine append_rats rfl _ _ rfl w.heap.size (.slice a1 n1 q1) _ rfl (HO3.out.ext (Ext.alloc _ _)) _ 1 _ [(un, 1)] rfl (Rats.one' _ _ _ _ _ (by simp)) (by rw [HLL.out]; omega) (by simp; omega) ?_; intro v5 w5 ho hg hnear; have X5 := Lib.hid (ext_grown (X3.out.trans (Ext.alloc _ _)) hg (fun j hj => (HO3.out.lt j hj).1)); obtain ⟨a5, n5, p5, rfl, HN5⟩ := ho.var; have HO5 := Lib.hid ho; clear ho hg hnear))
   go_roundg (g1 - 1)
   case measure => have := HKK.out; omega
   case rel => exact ⟨k + 1, a5, n5, p5, Lib.hid (by have := HKK.out; omega), by go_num, rfl, Lib.hid (by rw [← HSN.out]; exact HO5.out), X5⟩
  ·have hkn2 : N = k := by have := HKK.out; omega
   have HOR := Lib.hid (show OwnR wr1 w.heap.size (.slice a1 n1 q1) (rayN t N jc 0) by rw [hkn2]; exact HO1.out)
   obtain rfl : N = n1 := by have h1 := HOR.out.rats.hlen; rw [rayN_len] at h1; exact h1
   clear hkn2
   go_wp2_with fail
   clear l0 l1 l2 c0 c1 c2 c3 c4 cf
   go_loopg [7] m (fun gk ii wr => ∃ i : Nat, Hid (gk + i = m) ∧ ii = .int .i64 (i : Int) ∧ Hid (OwnR wr w.heap.size (.slice a1 N q1) (rayN t N jc i)) ∧ Hid (Ext w wr))
   case atStart => exact ⟨0, Lib.hid (by omega), rfl, HOR, HX⟩
   case round =>
    obtain ⟨g2, h_g2⟩ : ∃ x, x = gk := ⟨_, rfl⟩
    subst h_g2
    obtain ⟨wr2, h_wr2⟩ : ∃ x, x = wr := ⟨_, rfl⟩
    subst h_wr2
    obtain ⟨i, HI, rfl, HR, HXR⟩ := hrel
    have HS2 := Lib.hid (H.out.ext HXR.out)
    obtain ⟨l0, l1, l2, c0, c1, c2, c3, c4, cf⟩ := HS2.out.cells
    rw [HCO.out] at c2
    have hs2 := HXR.out.size
    by_cases hil : i < m
    ·obtain ⟨eb, eoff, hea, he0⟩ := HS2.out.tb.tbc.basis.at hil
     subst hea
     obtain ⟨bb, hbb⟩ : ∃ b, b = t.basis[i]?.getD 0 := ⟨_, rfl⟩
     rw [← hbb] at he0
     have HBB := Lib.hid hbb
     have hbr : 0 ≤ bb ∧ bb < N + m := by
      rw [hbb, List.getElem?_eq_getElem (by rw [HT.out.blen]; exact hil)]; exact HT.out.bas _ (List.getElem_mem _)
     have hi0 : (0 : Int) ≤ (i : Int) := by omega
     have hi1 : (i : Int) < (m : Int) := by omega
     clear hbb
     go_upto_region 9 with fail
     have hk2 : Ext wr2 wr2.drew := Ext.drew wr2
     have HKEEP := Lib.hid (fun (w' : World) (h : Ext wr2 w') => (⟨h.cellSome c1, h.cellSome c2, h.cellSome he0, h⟩ : w'.cell? ⟨S, 4, none⟩ = some (.slice (some ⟨eb, eoff, none⟩) m bc) ∧ w'.cell? ⟨S, 5, none⟩ = some (.int .i64 (N : Int)) ∧ w'.cell? ⟨eb, eoff + i, none⟩ = some (.int .i64 bb) ∧ Ext wr2 w'))
     refine wp_region_held_drew (S := (fun w' => w'.cell? ⟨S, 4, none⟩ = some (.slice (some ⟨eb, eoff, none⟩) m bc) ∧ w'.cell? ⟨S, 5, none⟩ = some (.int .i64 (N : Int)) ∧ w'.cell? ⟨eb, eoff + i, none⟩ = some (.int .i64 bb) ∧ Ext wr2 w')) (by kernel_rfl) ?_ (fun hHeld => ?_)
     ·exact HKEEP.out _ hk2
     refine tk 0 ?_
     refine tk 1 ?_
     refine tk 2 ?_
     refine tk 3 ?_
     refine tk 4 ?_
     refine tk 5 ?_
     refine tk 6 ?_
     refine tk 7 ?_
     refine tk 8 ?_
     refine tk 9 ?_
     refine tk 10 ?_
     refine tk 11 ?_
     refine tk 12 ?_
     refine tk 13 ?_
     refine wpAnyH_done (by kernel_rfl) ?_ _
     have HX3 := Lib.hid (HXR.out.trans hk2)
     have HR3 := Lib.hid (HR.out.ext hk2)
     have hw3 : ∃ x, x = wr2.drew := ⟨_, rfl⟩
     obtain ⟨w3, hw3⟩ := hw3
     rw [← hw3] at HX3 HR3
     rw [← hw3]
     clear hk2 l0 l1 l2 c0 c1 c2 c3 c4 cf he0 hw3 HKEEP hHeld
     by_cases hbc : bb < (N : Int)
     ·obtain ⟨bN, hbN⟩ : ∃ n : Nat, bb = n := ⟨bb.toNat, by omega⟩
      subst hbN
      have hbN2 : bN < N := by omega
      obtain ⟨l0, l1, l2, c0, c1, c2, c3, c4, cf⟩ := H.out.cells
      obtain ⟨eb', eoff', hea', he0⟩ := H.out.tb.tbc.basis.at hil
      simp only [Option.some.injEq, Addr.mk.injEq, and_true] at hea'
      obtain ⟨rfl, rfl⟩ := hea'
      rw [← HBB.out] at he0
      obtain ⟨zb1, zoff1, ya, yn, yc, hza1, hz0, hrow⟩ := H.out.tb.tbc.rows.at hil
      subst hza1
      have hyn : yn = N + m + 1 := by rw [← hrow.hlen]; exact (HT.out.row i hil).1
      have hy1 := hrow.hcap
      have hy2 := hrow.hmax
      obtain ⟨yb, yoff, p, q, hya, hpq, hy0c, hy1c⟩ := hrow.at (show jc < yn by omega)
      subst hya
      have hjy : (jc : Int) < (yn : Int) := by omega
      have hj0 : (0 : Int) ≤ (jc : Int) := by omega
      have hbI : (bN : Int) < (N : Int) := by omega
      have hbI0 : (0 : Int) ≤ (bN : Int) := by omega
      have HPQ := Lib.hid (show t.at i jc = (p, q) from hpq)
      have hp0 : -9223372036854775807 ≤ p := by have := (HT.out.bounds.2 i jc).1; rw [HPQ.out] at this; exact this
      have hp1 : p ≤ 9223372036854775807 := by have := (HT.out.bounds.2 i jc).2; rw [HPQ.out] at this; exact this
      have HP0 := Lib.hid hp0
      clear hpq hrow hyn hbr
      obtain ⟨G, hG, hbG, _, _⟩ := HR3.out.block (k := bN) hbN2
      subst hG
      go_upto_region 10 with fail
      have hk2 : Ext w3 w3.drew := Ext.drew w3
      have HKEEP := Lib.hid (fun (w' : World) (h : Ext w w') => (⟨h.cellSome c0, h.cellSome c1, h.cellSome he0, h.cellSome hz0, h.cellSome hy0c, h.cellSome hy1c, h⟩ : w'.cell? ⟨S, 3, none⟩ = some (.slice (some ⟨zb1, zoff1, none⟩) m rc) ∧ w'.cell? ⟨S, 4, none⟩ = some (.slice (some ⟨eb, eoff, none⟩) m bc) ∧ w'.cell? ⟨eb, eoff + i, none⟩ = some (.int .i64 (bN : Int)) ∧ w'.cell? ⟨zb1, zoff1 + i, none⟩ = some (.slice (some ⟨yb, yoff, none⟩) yn yc) ∧ w'.cell? ⟨yb, yoff + jc * 2, none⟩ = some (.int .i64 p) ∧ w'.cell? ⟨yb, yoff + jc * 2 + 1, none⟩ = some (.int .i64 q) ∧ Ext w w'))
      refine wp_region_held_drew (S := (fun w' => w'.cell? ⟨S, 3, none⟩ = some (.slice (some ⟨zb1, zoff1, none⟩) m rc) ∧ w'.cell? ⟨S, 4, none⟩ = some (.slice (some ⟨eb, eoff, none⟩) m bc) ∧ w'.cell? ⟨eb, eoff + i, none⟩ = some (.int .i64 (bN : Int)) ∧ w'.cell? ⟨zb1, zoff1 + i, none⟩ = some (.slice (some ⟨yb, yoff, none⟩) yn yc) ∧ w'.cell? ⟨yb, yoff + jc * 2, none⟩ = some (.int .i64 p) ∧ w'.cell? ⟨yb, yoff + jc * 2 + 1, none⟩ = some (.int .i64 q) ∧ Ext w w')) (by kernel_rfl) ?_ (fun hHeld => ?_)
      ·exact HKEEP.out _ (HX3.out.trans hk2)
      refine tk 0 ?_
      refine tk 1 ?_
      refine tk 2 ?_
      refine tk 3 ?_
      refine tk 4 ?_
      refine tk 5 ?_
      refine tk 6 ?_
      refine tk 7 ?_
      refine tk 8 ?_
      refine tk 9 ?_
      refine tk 10 ?_
      refine tk 11 ?_
      refine tk 12 ?_
      refine tk 13 ?_
      refine tk 14 ?_
      refine tk 15 ?_
      refine tk 16 ?_
      refine tk 17 ?_
      refine tk 18 ?_
      refine tk 19 ?_
      refine rd (i := 20) (h := fun K hK => ?_)
      go_simp
      (go_at_call 83; refine (s_l7Negated p q _ hp0 hp1).mono ?_; rintro e w12 ⟨rfl, hx12⟩; have hk2 := hk2.trans hx12; have HR12 := Lib.hid (HR3.out.ext hk2); obtain ⟨G', goff', g1v, g2v, hG', hgv, hg0, hg1⟩ := HR12.out.rats.at hbN2; simp only [Option.some.injEq, Addr.mk.injEq, and_true] at hG'; obtain ⟨rfl, rfl⟩ := hG'; rw [Nat.zero_add] at hg0 hg1; obtain ⟨G2, hG2, hbG2, hfr2, hGl2⟩ := HR12.out.block (k := bN) hbN2; simp only [Option.some.injEq, Addr.mk.injEq, and_true] at hG2; subst hG2; clear hgv)
      go_wp2_with fail
      refine hK.out _ _ ?_ (fun hHeld => ?_)
      ·exact HKEEP.out _ (HX3.out.trans hk2)
      clear hK K
      try simp only [Act.put, sA, sB, sC]
      refine tk 21 ?_
      have HXN := Lib.hid (((HX3.out.trans hk2).setCell (p := ⟨G, bN * 2, none⟩) hbG (.int .i64 (-p))).setCell (p := ⟨G, bN * 2 + 1, none⟩) hbG (.int .i64 q))
      refine rd (i := 22) (h := fun K hK => ?_)
      go_simp
      refine hK.out _ _ ?_ (fun hHeld => ?_)
      ·exact HKEEP.out _ HXN.out
      clear hK K
      try simp only [Act.put, sA, sB, sC]
      refine wpAnyH_done (by kernel_rfl) ?_ _
      have HRN := Lib.hid (show OwnR ((w12.setCell ⟨G, bN * 2, none⟩ (.int .i64 (-p))).setCell ⟨G, bN * 2 + 1, none⟩ (.int .i64 q)) w.heap.size (.slice (some ⟨G, 0, none⟩) N q1) (rayN t N jc (i + 1)) by
       rw [rayN_yes (by rw [← HBB.out]; omega), ← HBB.out, Int.toNat_natCast, HPQ.out]
       exact HR12.out.set (k := bN) (by rw [rayN_len]; exact hbN2) (-p) q)
      go_wp2_with fail
      go_roundg (g2 - 1)
      case measure => have := HI.out; omega
      case rel => exact ⟨i + 1, Lib.hid (by have := HI.out; omega), by go_num, HRN, HXN⟩
     ·have HRN := Lib.hid (show OwnR w3 w.heap.size (.slice a1 N q1) (rayN t N jc (i + 1)) by rw [rayN_no (by rw [← HBB.out]; omega)]; exact HR3.out)
      clear hbr
      go_wp2_with fail
      go_roundg (g2 - 1)
      case measure => have := HI.out; omega
      case rel => exact ⟨i + 1, Lib.hid (by have := HI.out; omega), by go_num, HRN, HX3⟩
    ·have hin : m = i := by have := HI.out; omega
     subst hin
     go_wp2_with fail
     go_ret
     exact ⟨⟨_, rfl, HR.out⟩, HXR.out⟩
end
end Go.Proofs.YtgohdmnbnhehnaaGreat
