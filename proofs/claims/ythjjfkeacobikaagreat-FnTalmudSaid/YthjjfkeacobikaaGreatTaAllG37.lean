import Derived.Test.YthjjfkeacobikaaGreatTaAllG36
import Derived.Test.YthjjfkeacobikaaGreatTaAllG18
import Derived.Test.YthjjfkeacobikaaGreatTaAllG25
set_option linter.unusedVariables false
set_option linter.unusedSimpArgs false
namespace Go.Proofs.YthjjfkeacobikaaGreat
set_option maxRecDepth 100000
open Go.RowKit
section
variable {w : World} {a : Option Addr} {na ca : Nat} {b : Option Addr} {nb cb : Nat} {c : Option Addr} {nc cc : Nat} {A : List (List Int)} {B : List Int} {C : List (Int × Int)}
set_option maxHeartbeats 4000000 in
theorem s_IsFeasible (h : LpC w a na ca b nb cb c nc cc A B C) (ok : okLP A B C = true) {xa : Option Addr} {xn xcap : Nat} {X : List (Int × Int)} (hX : Rats w xa xn xcap X) :
 Calls Tryz.prog 234 #[lpW a na ca b nb cb c nc cc, .slice xa xn xcap] w fun e w' => e = .returned (.bool (feasB A B C.length X)) ∧ Ext w w' := by
 obtain ⟨r1, r2, r3, r4, r5, r6⟩ := okLP_rows h ok
 subst r3
 have hx0 := Ext.alloc w (lpBox a nb ca b nb cb c nc cc)
 have HX0 := Lib.hid hx0
 have H := Lib.hid (h.ext hx0)
 have HXX := Lib.hid (hX.ext hx0)
 have HTB := Lib.hid (show (w.alloc (lpBox a nb ca b nb cb c nc cc)).heap[w.heap.size]? = some (.cells #[.slice a nb ca, .slice b nb cb, .slice c nc cc] 109 (0, 0)) from heapA_new _ _ _ rfl)
 have hc1 := h.c.hcap
 have hc2 := h.c.hmax
 have hb1 := h.b.hcap
 have hb2 := h.b.hmax
 have hx1 := hX.hcap
 have hx2 := hX.hmax
 have HV := Lib.hid (s_IsValidLP H.out)
 rw [ok] at HV
 have HE := Lib.hid (show feasB A B C.length X = (decide (xn = nc) && (posV X && givesB A X B)) by unfold feasB; rw [h.c.hlen, hX.hlen])
 have HR5 := Lib.hid r5
 clear h hX hx0 ok r4 r5 r6
 by_cases hn : xn = nc
 ·subst hn
  have hee : ((xn : Int) == (xn : Int)) = true := by simp
  obtain ⟨pv, hpv⟩ : ∃ p, p = posV X := ⟨_, rfl⟩
  obtain ⟨gv, hgv⟩ : ∃ p, p = givesB A X B := ⟨_, rfl⟩
  have HE2 := Lib.hid (show feasB A B C.length X = (pv && gv) by rw [HE.out, ← hpv, ← hgv]; simp)
  have HN := Lib.hid (fun (W : World) (hx : Ext (w.alloc (lpBox a nb ca b nb cb c xn cc)) W) => s_l5NotNegative (HXX.out.ext hx))
  have HG := Lib.hid (fun (W : World) (hx : Ext (w.alloc (lpBox a nb ca b nb cb c xn cc)) W) => s_l5Gives (b := b) (nb := nb) (cb := cb) (c := c) (nc := xn) (cc := cc) (H.out.ext hx).a (HXX.out.ext hx) (H.out.ext hx).b (Nat.le_refl _) HR5.out)
  simp only [← hpv] at HN
  simp only [← hgv] at HG
  clear hpv hgv
  cases pv
  ·go_enter Tryz.func234, Tryz.ntmps234
   go_wp2_with fail
   refine HV.out.mono ?_
   rintro e w1 ⟨rfl, hx⟩
   have X1 := Lib.hid hx
   clear hx
   have p2 := tbox2 (X1.out.blk HTB.out)
   go_wp2_with fail
   refine (HN.out _ X1.out).mono ?_
   rintro e w2 ⟨rfl, hx⟩
   go_wp2_with fail
   go_ret
   exact ⟨ret_bool HE2.out.symm, HX0.out.trans (X1.out.trans hx)⟩
  ·go_enter Tryz.func234, Tryz.ntmps234
   go_wp2_with fail
   refine HV.out.mono ?_
   rintro e w1 ⟨rfl, hx⟩
   have X1 := Lib.hid hx
   clear hx
   have p2 := tbox2 (X1.out.blk HTB.out)
   go_wp2_with fail
   refine (HN.out _ X1.out).mono ?_
   rintro e w2 ⟨rfl, hx⟩
   have X2 := Lib.hid (X1.out.trans hx)
   clear hx p2
   have p0 := tbox0 (X2.out.blk HTB.out)
   have p1 := tbox1 (X2.out.blk HTB.out)
   have p2 := tbox2 (X2.out.blk HTB.out)
   go_wp2_with fail
   refine (HG.out _ X2.out).mono ?_
   rintro e w3 ⟨rfl, hx⟩
   go_wp2_with fail
   go_ret
   exact ⟨ret_bool HE2.out.symm, HX0.out.trans (X2.out.trans hx)⟩
 ·have hee : ((xn : Int) == (nc : Int)) = false := by simp; omega
  have HF := Lib.hid (show feasB A B C.length X = false by rw [HE.out, decide_eq_false hn]; rfl)
  go_enter Tryz.func234, Tryz.ntmps234
  go_wp2_with fail
  refine HV.out.mono ?_
  rintro e w1 ⟨rfl, hx⟩
  have X1 := Lib.hid hx
  clear hx
  have p2 := tbox2 (X1.out.blk HTB.out)
  go_wp2_with fail
  go_ret
  exact ⟨ret_bool HF.out.symm, HX0.out.trans X1.out⟩
theorem boundS_none {A : List (List Int)} {Y D : List (Int × Int)} {j : Nat} (h : none = dotL (wholeL (colL A j)) Y) : boundS A Y D j = false := by unfold boundS; rw [dotL_comm, ← h]
theorem boundS_some {A : List (List Int)} {Y D : List (Int × Int)} {j : Nat} {v d : Int × Int} (h : some v = dotL (wholeL (colL A j)) Y) (hd : D[j]?.getD (0, 0) = d) : boundS A Y D j = decide (0 ≤ cmpR d v) := by unfold boundS; rw [dotL_comm, ← h, hd]
set_option maxHeartbeats 8000000 in
theorem s_l5Dual (h : LpC w a na ca b nb cb c nc cc A B C) (ok : okLP A B C = true) {ya : Option Addr} {yn yc : Nat} {Y : List (Int × Int)} (hY : Rats w ya yn yc Y) {da : Option Addr} {dn dc : Nat} {D : List (Int × Int)} (hD : Rats w da dn dc D) (hdn : nc ≤ dn) :
 Calls Tryz.prog 232 #[lpW a na ca b nb cb c nc cc, .slice ya yn yc, .slice da dn dc] w fun e w' => e = .returned (.bool ((List.range C.length).all (boundS A Y D))) ∧ Ext w w' := by
 obtain ⟨r1, r2, r3, r4, r5, r6⟩ := okLP_rows h ok
 subst r3
 have hx0 := Ext.alloc w (lpBox a nb ca b nb cb c nc cc)
 have HX0 := Lib.hid hx0
 have H := Lib.hid (h.ext hx0)
 have HYY := Lib.hid (hY.ext hx0)
 have HDD := Lib.hid (hD.ext hx0)
 have HTB := Lib.hid (show (w.alloc (lpBox a nb ca b nb cb c nc cc)).heap[w.heap.size]? = some (.cells #[.slice a nb ca, .slice b nb cb, .slice c nc cc] 109 (0, 0)) from heapA_new _ _ _ rfl)
 have hc1 := h.c.hcap
 have hc2 := h.c.hmax
 have hd1 := hD.hcap
 have hd2 := hD.hmax
 have HOK := Lib.hid ok
 have HCS := Lib.hid (fun j => fitL_small (colL_small (A := A) (fun i hi => (r5 i (by have := h.a.hlen; omega)).2) j))
 have HE := Lib.hid (show (List.range C.length).all (boundS A Y D) = (List.range nc).all (boundS A Y D) by rw [h.c.hlen])
 have HLA := Lib.hid h.a.hlen
 clear h hY hD hx0 ok r4 r5 r6
 go_enter Tryz.func232, Tryz.ntmps232
 go_wp2_with fail
 go_loopg [7] nc (fun gk ii wr => ∃ k : Nat, Hid (gk + k = nc) ∧ ii = .int .i64 (k : Int) ∧ Hid ((List.range k).all (boundS A Y D) = true) ∧ Hid (Ext (w.alloc (lpBox a nb ca b nb cb c nc cc)) wr))
 case atStart => exact ⟨0, Lib.hid (by omega), rfl, Lib.hid rfl, Lib.hid (Ext.refl _)⟩
 case round =>
  obtain ⟨g1, h_g1⟩ : ∃ x, x = gk := ⟨_, rfl⟩
  subst h_g1
  obtain ⟨wr1, h_wr1⟩ : ∃ x, x = wr := ⟨_, rfl⟩
  subst h_wr1
  obtain ⟨k, HK, rfl, HA, HX⟩ := hrel
  have p0 := tbox0 (HX.out.blk HTB.out)
  have p1 := tbox1 (HX.out.blk HTB.out)
  have p2 := tbox2 (HX.out.blk HTB.out)
  by_cases hlt : k < nc
  ·have HCO := Lib.hid (s_ColumnOf (H.out.ext HX.out) HOK.out hlt)
   go_wp2_with fail
   refine HCO.out.mono ?_
   rintro e w2 ⟨⟨v2, rfl, ho⟩, hx⟩
   obtain ⟨a2, n2, c2, rfl, HN2⟩ := ho.var
   have hn2 : n2 ≤ 1048576 := by have h1 := HN2.out; rw [colL_len, HLA.out] at h1; omega
   have X2 := Lib.hid (HX.out.trans hx)
   have HDT := Lib.hid (s_l5Dot ho.ints (HCS.out k) hn2 (HYY.out.ext X2.out))
   obtain ⟨dv, hdv⟩ : ∃ d, d = dotL (wholeL (colL A k)) Y := ⟨_, rfl⟩
   rw [← hdv] at HDT
   have HDV := Lib.hid hdv
   clear ho hx hdv p0 p1 p2
   cases dv with
   | none =>
     rw [show optR none = ((0, 0), false) from rfl] at HDT
     have HF := Lib.hid (show (List.range nc).all (boundS A Y D) = false from allR_false hlt (boundS_none HDV.out))
     go_wp2_with fail
     refine HDT.out.mono ?_
     rintro e w3 ⟨rfl, hx3⟩
     have X3 := Lib.hid (X2.out.trans hx3)
     clear hx3
     obtain ⟨E, hE⟩ : ∃ E, E = w3.alloc (.cells #[.int .i64 0, .int .i64 0] 43) := ⟨_, rfl⟩
     have XE := Lib.hid (show Ext w3 E by rw [hE]; exact Ext.alloc _ _)
     go_upto_region 5 with fail
     rw [← hE]
     clear hE
     have hk2 : Ext E E.drew := Ext.drew E
     refine wp_region_held_drew (S := (fun w' => Ext E w')) (by kernel_rfl) ?_ (fun hHeld => ?_)
     ·exact hk2
     refine tk 0 ?_
     refine tk 1 ?_
     refine tk 2 ?_
     refine sk 3 ?_
     refine sk 4 ?_
     refine sk 5 ?_
     refine sk 6 ?_
     refine sk 7 ?_
     refine sk 8 ?_
     refine sk 9 ?_
     refine tk 10 ?_
     refine wpAnyH_done (by kernel_rfl) ?_ _
     go_wp2_with fail
     go_ret
     exact ⟨ret_bool (by rw [HE.out, HF.out]), ((HX0.out.trans X3.out).trans XE.out).trans hk2⟩
   | some r =>
     obtain ⟨r1, r2⟩ := r
     rw [show optR (some (r1, r2)) = ((r1, r2), true) from rfl] at HDT
     go_wp2_with fail
     refine HDT.out.mono ?_
     rintro e w3 ⟨rfl, hx3⟩
     have X3 := Lib.hid (X2.out.trans hx3)
     clear hx3
     obtain ⟨E, hE⟩ : ∃ E, E = w3.alloc (.cells #[.int .i64 r1, .int .i64 r2] 43) := ⟨_, rfl⟩
     obtain ⟨gz, hgz⟩ : ∃ g, g = w3.heap.size := ⟨_, rfl⟩
     have hxE : Ext w3 E := by rw [hE]; exact Ext.alloc _ _
     have XE := Lib.hid (X3.out.trans hxE)
     have b0 : E.cell? ⟨gz, 0, none⟩ = some (.int .i64 r1) := by rw [hE, hgz]; simp
     have b1 : E.cell? ⟨gz, 1, none⟩ = some (.int .i64 r2) := by rw [hE, hgz]; simp
     obtain ⟨db, doff, dx, dy, hda, hdx, e0, e1⟩ := (HDD.out.ext XE.out).at (show k < dn by omega)
     subst hda
     obtain ⟨cm, hcm⟩ : ∃ x, x = cmpR (dx, dy) (r1, r2) := ⟨_, rfl⟩
     have HB := Lib.hid (show boundS A Y D k = decide (0 ≤ cm) by rw [hcm]; exact boundS_some HDV.out hdx)
     have HCM := Lib.hid (fun w' => s_CompareRat dx dy r1 r2 w')
     simp only [← hcm] at HCM
     go_upto_region 5 with fail
     rw [← hE, ← hgz]
     clear hE hgz hxE hcm hdx
     have hkd : (k : Int) < (dn : Int) := by omega
     have hk0 : (0 : Int) ≤ (k : Int) := by omega
     have hk2 : Ext E E.drew := Ext.drew E
     have HKEEP := Lib.hid (fun (w' : World) (h : Ext E w') => (⟨h.cellSome e0, h.cellSome e1, h.cellSome b0, h.cellSome b1, h⟩ : w'.cell? ⟨db, doff + k * 2, none⟩ = some (.int .i64 dx) ∧ w'.cell? ⟨db, doff + k * 2 + 1, none⟩ = some (.int .i64 dy) ∧ w'.cell? ⟨gz, 0, none⟩ = some (.int .i64 r1) ∧ w'.cell? ⟨gz, 1, none⟩ = some (.int .i64 r2) ∧ Ext E w'))
     refine wp_region_held_drew (S := (fun w' => w'.cell? ⟨db, doff + k * 2, none⟩ = some (.int .i64 dx) ∧ w'.cell? ⟨db, doff + k * 2 + 1, none⟩ = some (.int .i64 dy) ∧ w'.cell? ⟨gz, 0, none⟩ = some (.int .i64 r1) ∧ w'.cell? ⟨gz, 1, none⟩ = some (.int .i64 r2) ∧ Ext E w')) (by kernel_rfl) ?_ (fun hHeld => ?_)
     ·exact HKEEP.out _ hk2
     refine tk 0 ?_
     refine tk 1 ?_
     refine tk 2 ?_
     refine tk 3 ?_
     refine tk 4 ?_
     refine tk 5 ?_
     refine tk 6 ?_
     refine tk 7 ?_
     refine rd (i := 8) (h := fun K hK => ?_)
     go_simp
     (go_at_call 147; refine (HCM.out _).mono ?_; rintro e w4 ⟨rfl, hx4⟩; have hk2 := hk2.trans hx4)
     go_wp2_with fail
     refine hK.out _ _ ?_ (fun hHeld => ?_)
     ·exact HKEEP.out _ hk2
     clear hK K
     try simp only [Act.put, sA, sB, sC]
     refine tk 9 ?_
     refine tk 10 ?_
     refine wpAnyH_done (by kernel_rfl) ?_ _
     have X5 := Lib.hid (XE.out.trans hk2)
     clear hk2
     by_cases hc0 : cm < 0
     ·have HF := Lib.hid (show (List.range nc).all (boundS A Y D) = false from allR_false hlt (by rw [HB.out]; simp; omega))
      go_wp2_with fail
      go_ret
      exact ⟨ret_bool (by rw [HE.out, HF.out]), HX0.out.trans X5.out⟩
     ·have HT := Lib.hid (show (List.range (k + 1)).all (boundS A Y D) = true by rw [allR_succ, HA.out, HB.out]; simp; omega)
      go_wp2_with fail
      go_roundg (g1 - 1)
      case measure => have := HK.out; omega
      case rel => exact ⟨k + 1, Lib.hid (by have := HK.out; omega), by go_num, HT, X5⟩
  ·have hkn : nc = k := by have := HK.out; omega
   subst hkn
   go_wp2_with fail
   go_ret
   exact ⟨ret_bool (by rw [HE.out, HA.out]), HX0.out.trans HX.out⟩
end
end Go.Proofs.YthjjfkeacobikaaGreat
namespace Go.Proofs.YthjjfkeacobikaaGreat
set_option maxRecDepth 100000
open Go.RowKit
section
variable {w : World} {a : Option Addr} {na ca : Nat} {b : Option Addr} {nb cb : Nat} {c : Option Addr} {nc cc : Nat} {A : List (List Int)} {B : List Int} {C : List (Int × Int)}
 {xa : Option Addr} {xn xc : Nat} {ya : Option Addr} {yn yc : Nat} {ra : Option Addr} {rn rc : Nat} {r : LpR}
def optS (A : List (List Int)) (B : List Int) (C : List (Int × Int)) (r : LpR) : Bool := feasB A B C.length r.X && (decide (r.Y.length = B.length) && ((List.range C.length).all (boundS A r.Y C) && meetB B C r))
set_option maxHeartbeats 16000000 in
theorem s_l5Optimal (h : LpC w a na ca b nb cb c nc cc A B C) (h' : LrC w xa xn xc ya yn yc ra rn rc r) (ok : okLP A B C = true) :
 Calls Tryz.prog 230 #[lpW a na ca b nb cb c nc cc, lrW r xa xn xc ya yn yc ra rn rc] w fun e w' => e = .returned (.bool (optS A B C r)) ∧ Ext w w' := by
 obtain ⟨r1, r2, r3, r4, r5, r6⟩ := okLP_rows h ok
 subst r3
 have T0 := Lib.hid (show Two w ((w.alloc (lpBox a nb ca b nb cb c nc cc)).alloc (lrBox r xa xn xc ya yn yc ra rn rc)) a nb ca b nb cb c nc cc xa xn xc ya yn yc ra rn rc r A B C from ⟨Ext.refl _, (h.ext (Ext.alloc _ _)).ext (Ext.alloc _ _), (h'.ext (Ext.alloc _ _)).ext (Ext.alloc _ _)⟩)
 have hy1 := h'.y.hcap
 have hy2 := h'.y.hmax
 have hc1 := h.c.hcap
 have hc2 := h.c.hmax
 have hb1 := h.b.hcap
 have hb2 := h.b.hmax
 have HOK := Lib.hid ok
 have HFB6 := Lib.hid (fitL_small r6)
 obtain ⟨st, rX, rY, rr, rv, rp⟩ := r
 obtain ⟨v1, v2⟩ := rv
 have HLY := Lib.hid h'.y.hlen
 obtain ⟨fv, hfv⟩ : ∃ f, f = feasB A B C.length rX := ⟨_, rfl⟩
 have HE := Lib.hid (show optS A B C ⟨st, rX, rY, rr, (v1, v2), rp⟩ = (fv && (decide (yn = nb) && ((List.range C.length).all (boundS A rY C) && meetB B C ⟨st, rX, rY, rr, (v1, v2), rp⟩))) by
  unfold optS; rw [hfv, h.b.hlen]; simp only; rw [show rY.length = yn from h'.y.hlen])
 have HF := Lib.hid (fun (W : World) (t : Two w W a nb ca b nb cb c nc cc xa xn xc ya yn yc ra rn rc ⟨st, rX, rY, rr, (v1, v2), rp⟩ A B C) => s_IsFeasible t.lp HOK.out t.lr.x)
 simp only [← hfv] at HF
 obtain ⟨dv, hdv⟩ : ∃ d, d = (List.range C.length).all (boundS A rY C) := ⟨_, rfl⟩
 have HD := Lib.hid (fun (W : World) (t : Two w W a nb ca b nb cb c nc cc xa xn xc ya yn yc ra rn rc ⟨st, rX, rY, rr, (v1, v2), rp⟩ A B C) => s_l5Dual t.lp HOK.out t.lr.y t.lp.c (Nat.le_refl _))
 simp only [← hdv] at HD
 rw [← hdv] at HE
 clear h h' ok r4 r5 r6 hfv hdv
 obtain ⟨V, hV⟩ : ∃ v, v = optS A B C ⟨st, rX, rY, rr, (v1, v2), rp⟩ := ⟨_, rfl⟩
 rw [← hV]
 have HE1 := Lib.hid (hV.trans HE.out)
 clear hV HE
 cases fv
 ·have HZ := Lib.hid (show false = V by rw [HE1.out]; rfl)
  go_enter Tryz.func230, Tryz.ntmps230
  obtain ⟨p0, p1, p2⟩ := T0.out.p
  obtain ⟨q0, q1, q2, q3, q4, q5⟩ := T0.out.q
  go_wp2_with fail
  refine (HF.out _ T0.out).mono ?_
  rintro e w1 ⟨rfl, hx⟩
  have T1 := Lib.hid (T0.out.grow hx)
  clear hx p0 p1 p2 q0 q1 q2 q3 q4 q5
  go_wp2_with fail
  go_ret
  exact ⟨ret_bool HZ.out, T1.out.all⟩
 ·by_cases hyn : yn = nb
  ·subst hyn
   have hne : ((yn : Int) != (yn : Int)) = false := by simp
   cases dv
   ·have HZ := Lib.hid (show false = V by rw [HE1.out]; simp)
    go_enter Tryz.func230, Tryz.ntmps230
    obtain ⟨p0, p1, p2⟩ := T0.out.p
    obtain ⟨q0, q1, q2, q3, q4, q5⟩ := T0.out.q
    go_wp2_with fail
    refine (HF.out _ T0.out).mono ?_
    rintro e w1 ⟨rfl, hx⟩
    have T1 := Lib.hid (T0.out.grow hx)
    clear hx p0 p1 p2 q0 q1 q2 q3 q4 q5
    obtain ⟨p0, p1, p2⟩ := T1.out.p
    obtain ⟨q0, q1, q2, q3, q4, q5⟩ := T1.out.q
    go_wp2_with fail
    refine (HD.out _ T1.out).mono ?_
    rintro e w2 ⟨rfl, hx⟩
    have T2 := Lib.hid (T1.out.grow hx)
    clear hx p0 p1 p2 q0 q1 q2 q3 q4 q5
    go_wp2_with fail
    go_ret
    exact ⟨ret_bool HZ.out, T2.out.all⟩
   ·obtain ⟨dx, hdx⟩ : ∃ d, d = dotL C rX := ⟨_, rfl⟩
    obtain ⟨dy, hdy⟩ : ∃ d, d = dotL (wholeL B) rY := ⟨_, rfl⟩
    have HM := Lib.hid (show V = meetO dx dy (v1, v2) by
     rw [HE1.out, hdx, hdy]; simp only [Bool.true_and, decide_true]; rw [meetB_eq]; simp only; rw [dotL_comm rY])
    have HDX := Lib.hid (fun (W : World) (t : Two w W a yn ca b yn cb c nc cc xa xn xc ya yn yc ra rn rc ⟨st, rX, rY, rr, (v1, v2), rp⟩ A B C) => s_DotRat t.lp.c t.lr.x)
    have HDY := Lib.hid (fun (W : World) (t : Two w W a yn ca b yn cb c nc cc xa xn xc ya yn yc ra rn rc ⟨st, rX, rY, rr, (v1, v2), rp⟩ A B C) => s_l5Dot t.lp.b HFB6.out (by omega) t.lr.y)
    simp only [← hdx] at HDX
    simp only [← hdy] at HDY
    clear hdx hdy
    obtain ⟨x1, x2, xok, hxx⟩ : ∃ x1 x2 xok, optR dx = ((x1, x2), xok) := ⟨_, _, _, rfl⟩
    obtain ⟨y1, y2, yok, hyy⟩ : ∃ y1 y2 yok, optR dy = ((y1, y2), yok) := ⟨_, _, _, rfl⟩
    have HXX := Lib.hid hxx
    have HYY := Lib.hid hyy
    simp only [hxx] at HDX
    simp only [hyy] at HDY
    clear hxx hyy
    go_enter Tryz.func230, Tryz.ntmps230
    obtain ⟨p0, p1, p2⟩ := T0.out.p
    obtain ⟨q0, q1, q2, q3, q4, q5⟩ := T0.out.q
    go_wp2_with fail
    refine (HF.out _ T0.out).mono ?_
    rintro e w1 ⟨rfl, hx⟩
    have T1 := Lib.hid (T0.out.grow hx)
    clear hx p0 p1 p2 q0 q1 q2 q3 q4 q5
    obtain ⟨p0, p1, p2⟩ := T1.out.p
    obtain ⟨q0, q1, q2, q3, q4, q5⟩ := T1.out.q
    go_wp2_with fail
    refine (HD.out _ T1.out).mono ?_
    rintro e w2 ⟨rfl, hx⟩
    have T2 := Lib.hid (T1.out.grow hx)
    clear hx p0 p1 p2 q0 q1 q2 q3 q4 q5
    obtain ⟨p0, p1, p2⟩ := T2.out.p
    obtain ⟨q0, q1, q2, q3, q4, q5⟩ := T2.out.q
    go_wp2_with fail
    refine (HDX.out _ T2.out).mono ?_
    rintro e w3 ⟨rfl, hx⟩
    obtain ⟨E, hE⟩ : ∃ E, E = w3.alloc (.cells #[.int .i64 x1, .int .i64 x2] 43) := ⟨_, rfl⟩
    obtain ⟨gx, hgx⟩ : ∃ g, g = w3.heap.size := ⟨_, rfl⟩
    have hxE : Ext w3 E := by rw [hE]; exact Ext.alloc _ _
    have TE := Lib.hid ((T2.out.grow hx).grow hxE)
    have HB0 := Lib.hid (show Boxed w3 E gx x1 x2 by rw [hE, hgx]; exact Boxed.new (Ext.refl _) _ _)
    go_upto_region 4 with fail
    rw [← hE, ← hgx]
    clear hE hxE hx hgx p0 p1 p2 q0 q1 q2 q3 q4 q5
    obtain ⟨p0, p1, p2⟩ := TE.out.p
    obtain ⟨q0, q1, q2, q3, q4, q5⟩ := TE.out.q
    go_wp2_with fail
    refine (HDY.out _ TE.out).mono ?_
    rintro e w4 ⟨rfl, hx⟩
    obtain ⟨F, hF⟩ : ∃ F, F = w4.alloc (.cells #[.int .i64 y1, .int .i64 y2] 43) := ⟨_, rfl⟩
    obtain ⟨gy, hgy⟩ : ∃ g, g = w4.heap.size := ⟨_, rfl⟩
    have hxF : Ext w4 F := by rw [hF]; exact Ext.alloc _ _
    have TW := Lib.hid ((TE.out.grow hx).grow hxF)
    have HB2 := Lib.hid (HB0.out.grow (hx.trans hxF))
    have HB1 := Lib.hid (show Boxed w4 F gy y1 y2 by rw [hF, hgy]; exact Boxed.new (Ext.refl _) _ _)
    go_upto_region 5 with fail
    rw [← hF, ← hgy]
    clear hF hxF hx hgy p0 p1 p2 q0 q1 q2 q3 q4 q5
    obtain ⟨p0, p1, p2⟩ := TW.out.p
    obtain ⟨q0, q1, q2, q3, q4, q5⟩ := TW.out.q
    have c0 := HB2.out.c0
    have c1 := HB2.out.c1
    have g0 := HB1.out.c0
    have g1' := HB1.out.c1
    cases dx with
    | none =>
      have hdk : xok = false := by have := HXX.out; simp only [optR] at this; simpa using (congrArg Prod.snd this).symm
      subst hdk
      go_wp2_with fail
      go_ret
      exact ⟨ret_bool (by rw [HM.out, (meetO_no _ _).1]), TW.out.all⟩
    | some xv =>
      have hdk : xok = true := by have := HXX.out; simp only [optR] at this; simpa using (congrArg Prod.snd this).symm
      have hdv2 : xv = (x1, x2) := by have := HXX.out; simp only [optR] at this; simpa using congrArg Prod.fst this
      subst hdk hdv2
      cases dy with
      | none =>
        have hdk : yok = false := by have := HYY.out; simp only [optR] at this; simpa using (congrArg Prod.snd this).symm
        subst hdk
        go_wp2_with fail
        go_ret
        exact ⟨ret_bool (by rw [HM.out, (meetO_no _ _).2]), TW.out.all⟩
      | some yv =>
        have hdk : yok = true := by have := HYY.out; simp only [optR] at this; simpa using (congrArg Prod.snd this).symm
        have hdv2 : yv = (y1, y2) := by have := HYY.out; simp only [optR] at this; simpa using congrArg Prod.fst this
        subst hdk hdv2
        have HM2 := Lib.hid (show V = (((x1 == y1) && (x2 == y2)) && ((x1 == v1) && (x2 == v2))) by rw [HM.out, meetO_some])
        cases h1 : (x1 == y1)
        all_goals
         cases h2 : (x2 == y2)
        all_goals
         have HM3 := Lib.hid HM2.out
         rw [h1, h2] at HM3
        all_goals try (
         have HF := Lib.hid (show V = false by rw [HM3.out]; rfl)
         go_wp2_with fail
         go_ret
         exact ⟨ret_bool HF.out.symm, TW.out.all⟩)
        cases h3 : (x1 == v1)
        all_goals
         cases h4 : (x2 == v2)
        all_goals
         rw [h3, h4] at HM3
         go_wp2_with fail
         go_ret
         exact ⟨ret_bool (by rw [HM3.out]; rfl), TW.out.all⟩
  ·have hne : ((yn : Int) != (nb : Int)) = true := by simp; omega
   have HZ := Lib.hid (show false = V by rw [HE1.out, decide_eq_false hyn]; rfl)
   go_enter Tryz.func230, Tryz.ntmps230
   obtain ⟨p0, p1, p2⟩ := T0.out.p
   obtain ⟨q0, q1, q2, q3, q4, q5⟩ := T0.out.q
   go_wp2_with fail
   refine (HF.out _ T0.out).mono ?_
   rintro e w1 ⟨rfl, hx⟩
   have T1 := Lib.hid (T0.out.grow hx)
   clear hx p0 p1 p2 q0 q1 q2 q3 q4 q5
   obtain ⟨p0, p1, p2⟩ := T1.out.p
   obtain ⟨q0, q1, q2, q3, q4, q5⟩ := T1.out.q
   go_wp2_with fail
   go_ret
   exact ⟨ret_bool HZ.out, T1.out.all⟩
end
end Go.Proofs.YthjjfkeacobikaaGreat
namespace Go.Proofs.YthjjfkeacobikaaGreat
set_option maxRecDepth 100000
open Go.RowKit
theorem cmpR_zero {v : Int × Int} (hv : valR v = true) : decide (0 ≤ cmpR (0, 1) v) = decide (v.1 ≤ 0) := by
 have hb := valR_bd hv
 unfold cmpR
 rw [if_pos (by rw [hv]; decide)]
 simp only
 by_cases h : v.1 ≤ 0
 ·rw [if_neg (by omega), decide_eq_true h]
  split <;> rfl
 ·rw [if_pos (by omega), decide_eq_false h]; rfl
theorem boundS_zero (A : List (List Int)) (Y : List (Int × Int)) {n : Nat} {D : List (Int × Int)} (hD : ∀ j, j < n → D[j]?.getD (0, 0) = (0, 1)) : (List.range n).all (boundS A Y D) = (List.range n).all (noF A Y) := by
 rw [Bool.eq_iff_iff, List.all_eq_true, List.all_eq_true]
 have key : ∀ j, j < n → boundS A Y D j = noF A Y j := by
  intro j hj
  unfold boundS noF noO
  rw [hD j hj]
  cases hd : dotL Y (wholeL (colL A j)) with
  | none => rfl
  | some v => exact cmpR_zero (dotL_spec hd).2.1
 constructor
 ·intro h j hj; rw [← key j (List.mem_range.1 hj)]; exact h j hj
 ·intro h j hj; rw [key j (List.mem_range.1 hj)]; exact h j hj
theorem replR_at {n j : Nat} (h : j < n) : (List.replicate n ((0 : Int), (1 : Int)))[j]?.getD (0, 0) = (0, 1) := by rw [List.getElem?_replicate, if_pos h]; rfl
section
variable {w : World} {a : Option Addr} {na ca : Nat} {b : Option Addr} {nb cb : Nat} {c : Option Addr} {nc cc : Nat} {A : List (List Int)} {B : List Int} {C : List (Int × Int)}
 {xa : Option Addr} {xn xc : Nat} {ya : Option Addr} {yn yc : Nat} {ra : Option Addr} {rn rc : Nat} {r : LpR}
set_option maxHeartbeats 16000000 in
theorem s_CheckLP1 (h : LpC w a na ca b nb cb c nc cc A B C) (h' : LrC w xa xn xc ya yn yc ra rn rc r) (ok : okLP A B C = true) (hs : r.status = 1) :
 Calls Tryz.prog 162 #[lpW a na ca b nb cb c nc cc, lrW r xa xn xc ya yn yc ra rn rc] w fun e w' => e = .returned (.bool (checkG boundS A B C r)) ∧ Ext w w' := by
 obtain ⟨r1, r2, r3, r4, r5, r6⟩ := okLP_rows h ok
 subst r3
 have T0 := Lib.hid (show Two w ((w.alloc (lpBox a nb ca b nb cb c nc cc)).alloc (lrBox r xa xn xc ya yn yc ra rn rc)) a nb ca b nb cb c nc cc xa xn xc ya yn yc ra rn rc r A B C from ⟨Ext.refl _, (h.ext (Ext.alloc _ _)).ext (Ext.alloc _ _), (h'.ext (Ext.alloc _ _)).ext (Ext.alloc _ _)⟩)
 have hy1 := h'.y.hcap
 have hy2 := h'.y.hmax
 have hr1 := h'.ray.hcap
 have hr2 := h'.ray.hmax
 have hc1 := h.c.hcap
 have hc2 := h.c.hmax
 have hb1 := h.b.hcap
 have hb2 := h.b.hmax
 have HOK := Lib.hid ok
 have HFB6 := Lib.hid (fitL_small r6)
 have HR5 := Lib.hid r5
 obtain ⟨st, rX, rY, rr, rv, rp⟩ := r
 obtain ⟨v1, v2⟩ := rv
 simp only at hs
 subst hs
 have HLY := Lib.hid h'.y.hlen
 have HLB := Lib.hid h.b.hlen
 have HLC := Lib.hid h.c.hlen
 have HLR := Lib.hid h'.ray.hlen
 have HV := Lib.hid (s_IsValidLP T0.out.lp)
 rw [ok] at HV
 obtain ⟨V, hV⟩ : ∃ v, v = checkG boundS A B C ⟨1, rX, rY, rr, (v1, v2), rp⟩ := ⟨_, rfl⟩
 rw [← hV]
 have HVE := Lib.hid (show V = optS A B C ⟨1, rX, rY, rr, (v1, v2), rp⟩ by rw [hV]; unfold checkG optS; rw [if_pos rfl])
 have HOP := Lib.hid (fun (W : World) (t : Two w W a nb ca b nb cb c nc cc xa xn xc ya yn yc ra rn rc ⟨1, rX, rY, rr, (v1, v2), rp⟩ A B C) => s_l5Optimal t.lp t.lr HOK.out)
 simp only [← HVE.out] at HOP
 clear h h' ok r4 r5 r6
 clear hV
 go_enter Tryz.func162, Tryz.ntmps162
 obtain ⟨p0, p1, p2⟩ := T0.out.p
 obtain ⟨q0, q1, q2, q3, q4, q5⟩ := T0.out.q
 go_wp2_with fail
 refine HV.out.mono ?_
 rintro e w1 ⟨rfl, hx⟩
 have T1 := Lib.hid (T0.out.grow hx)
 clear hx p0 p1 p2 q0 q1 q2 q3 q4 q5
 obtain ⟨p0, p1, p2⟩ := T1.out.p
 obtain ⟨q0, q1, q2, q3, q4, q5⟩ := T1.out.q
 have T1F := Lib.hid (T1.out.ext.cellSome (v := .int .i64 rp) (a := ⟨w.heap.size + 1, 6, none⟩) (by simp))
 have q6 := T1F.out
 go_wp2_with fail
 refine (HOP.out _ T1.out).mono ?_
 rintro e w2 ⟨rfl, hx⟩
 have T2 := Lib.hid (T1.out.grow hx)
 clear hx p0 p1 p2 q0 q1 q2 q3 q4 q5 q6
 go_wp2_with fail
 go_ret
 exact ⟨rfl, T2.out.all⟩
set_option maxHeartbeats 16000000 in
theorem s_CheckLP2 (h : LpC w a na ca b nb cb c nc cc A B C) (h' : LrC w xa xn xc ya yn yc ra rn rc r) (ok : okLP A B C = true) (hs : r.status = 2) :
 Calls Tryz.prog 162 #[lpW a na ca b nb cb c nc cc, lrW r xa xn xc ya yn yc ra rn rc] w fun e w' => e = .returned (.bool (checkG boundS A B C r)) ∧ Ext w w' := by
 obtain ⟨r1, r2, r3, r4, r5, r6⟩ := okLP_rows h ok
 subst r3
 have T0 := Lib.hid (show Two w ((w.alloc (lpBox a nb ca b nb cb c nc cc)).alloc (lrBox r xa xn xc ya yn yc ra rn rc)) a nb ca b nb cb c nc cc xa xn xc ya yn yc ra rn rc r A B C from ⟨Ext.refl _, (h.ext (Ext.alloc _ _)).ext (Ext.alloc _ _), (h'.ext (Ext.alloc _ _)).ext (Ext.alloc _ _)⟩)
 have hy1 := h'.y.hcap
 have hy2 := h'.y.hmax
 have hr1 := h'.ray.hcap
 have hr2 := h'.ray.hmax
 have hc1 := h.c.hcap
 have hc2 := h.c.hmax
 have hb1 := h.b.hcap
 have hb2 := h.b.hmax
 have HOK := Lib.hid ok
 have HFB6 := Lib.hid (fitL_small r6)
 have HR5 := Lib.hid r5
 obtain ⟨st, rX, rY, rr, rv, rp⟩ := r
 obtain ⟨v1, v2⟩ := rv
 simp only at hs
 subst hs
 have HLY := Lib.hid h'.y.hlen
 have HLB := Lib.hid h.b.hlen
 have HLC := Lib.hid h.c.hlen
 have HLR := Lib.hid h'.ray.hlen
 have HV := Lib.hid (s_IsValidLP T0.out.lp)
 rw [ok] at HV
 obtain ⟨V, hV⟩ : ∃ v, v = checkG boundS A B C ⟨2, rX, rY, rr, (v1, v2), rp⟩ := ⟨_, rfl⟩
 rw [← hV]
 obtain ⟨dv, hdv⟩ : ∃ d, d = (List.range C.length).all (boundS A rY (List.replicate nc (0, 1))) := ⟨_, rfl⟩
 obtain ⟨dy, hdy⟩ : ∃ d, d = dotL (wholeL B) rY := ⟨_, rfl⟩
 have HVE := Lib.hid (show V = (decide (yn = nb) && (dv && posO dy)) by
  rw [hV, hdv, hdy]; unfold checkG; rw [if_neg (by simp), if_pos rfl]; simp only; rw [proofNo_eq, HLB.out, show rY.length = yn from HLY.out, dotL_comm rY, boundS_zero A rY (fun j hj => replR_at (by rw [← HLC.out]; exact hj))])
 have HDU := Lib.hid (fun (W : World) (t : Two w W a nb ca b nb cb c nc cc xa xn xc ya yn yc ra rn rc ⟨2, rX, rY, rr, (v1, v2), rp⟩ A B C) (za : Option Addr) (zn zc : Nat) (hz : Rats W za zn zc (List.replicate nc (0, 1))) (hzn : nc ≤ zn) => s_l5Dual t.lp HOK.out t.lr.y hz hzn)
 have HDY := Lib.hid (fun (W : World) (t : Two w W a nb ca b nb cb c nc cc xa xn xc ya yn yc ra rn rc ⟨2, rX, rY, rr, (v1, v2), rp⟩ A B C) => s_l5Dot t.lp.b HFB6.out (by omega) t.lr.y)
 simp only [← hdv] at HDU
 simp only [← hdy] at HDY
 obtain ⟨y1, y2, yok, hyy⟩ : ∃ y1 y2 yok, optR dy = ((y1, y2), yok) := ⟨_, _, _, rfl⟩
 simp only [hyy] at HDY
 have HYY := Lib.hid (show posO dy = (yok && decide (0 < y1)) by
  cases dy with
  | none => simp only [optR] at hyy; cases hyy; rfl
  | some v => obtain ⟨z1, z2⟩ := v; simp only [optR, Option.getD_some, Option.isSome_some, Prod.mk.injEq] at hyy; obtain ⟨⟨rfl, rfl⟩, rfl⟩ := hyy; rfl)
 clear h h' ok r4 r5 r6
 clear hV hdv hdy hyy
 have HS1 : ((2 : Int) == 1) = false := by decide
 go_enter Tryz.func162, Tryz.ntmps162
 obtain ⟨p0, p1, p2⟩ := T0.out.p
 obtain ⟨q0, q1, q2, q3, q4, q5⟩ := T0.out.q
 go_wp2_with fail
 refine HV.out.mono ?_
 rintro e w1 ⟨rfl, hx⟩
 have T1 := Lib.hid (T0.out.grow hx)
 clear hx p0 p1 p2 q0 q1 q2 q3 q4 q5
 obtain ⟨p0, p1, p2⟩ := T1.out.p
 obtain ⟨q0, q1, q2, q3, q4, q5⟩ := T1.out.q
 go_wp2_with fail
 refine (HDY.out _ T1.out).mono ?_
 rintro e w2 ⟨rfl, hx⟩
 obtain ⟨E, hE⟩ : ∃ E, E = w2.alloc (.cells #[.int .i64 y1, .int .i64 y2] 43) := ⟨_, rfl⟩
 obtain ⟨gx, hgx⟩ : ∃ g, g = w2.heap.size := ⟨_, rfl⟩
 have hxE : Ext w2 E := by rw [hE]; exact Ext.alloc _ _
 have TE := Lib.hid ((T1.out.grow hx).grow hxE)
 have HB0 := Lib.hid (show Boxed w2 E gx y1 y2 by rw [hE, hgx]; exact Boxed.new (Ext.refl _) _ _)
 go_upto_region 8 with fail
 rw [← hE, ← hgx]
 clear hE hxE hx hgx p0 p1 p2 q0 q1 q2 q3 q4 q5
 obtain ⟨p0, p1, p2⟩ := TE.out.p
 obtain ⟨q0, q1, q2, q3, q4, q5⟩ := TE.out.q
 have b0 := HB0.out.c0
 have b1 := HB0.out.c1
 have hk2 : Ext E E.drew := Ext.drew E
 have HKEEP := Lib.hid (fun (w' : World) (h : Ext E w') => (⟨h.cellSome p0, h.cellSome p1, h.cellSome p2, h.cellSome q2, h.cellSome b0, h.cellSome b1, h⟩ : w'.cell? ⟨w.heap.size, 0, none⟩ = some (.slice a nb ca) ∧ w'.cell? ⟨w.heap.size, 1, none⟩ = some (.slice b nb cb) ∧ w'.cell? ⟨w.heap.size, 2, none⟩ = some (.slice c nc cc) ∧ w'.cell? ⟨w.heap.size + 1, 2, none⟩ = some (.slice ya yn yc) ∧ w'.cell? ⟨gx, 0, none⟩ = some (.int .i64 y1) ∧ w'.cell? ⟨gx, 1, none⟩ = some (.int .i64 y2) ∧ Ext E w'))
 by_cases hyn : yn = nb
 ·have hne : ((yn : Int) == (nb : Int)) = true := by simp; omega
  have HYN := Lib.hid hyn
  clear hyn
  cases dv
  ·have HZ := Lib.hid (show false = V by rw [HVE.out]; simp)
   refine wp_region_held_drew (S := (fun w' => w'.cell? ⟨w.heap.size, 0, none⟩ = some (.slice a nb ca) ∧ w'.cell? ⟨w.heap.size, 1, none⟩ = some (.slice b nb cb) ∧ w'.cell? ⟨w.heap.size, 2, none⟩ = some (.slice c nc cc) ∧ w'.cell? ⟨w.heap.size + 1, 2, none⟩ = some (.slice ya yn yc) ∧ w'.cell? ⟨gx, 0, none⟩ = some (.int .i64 y1) ∧ w'.cell? ⟨gx, 1, none⟩ = some (.int .i64 y2) ∧ Ext E w')) (by kernel_rfl) ?_ (fun hHeld => ?_)
   ·exact HKEEP.out _ hk2
   refine tk 0 ?_
   refine tk 1 ?_
   refine tk 2 ?_
   refine tk 3 ?_
   refine tk 4 ?_
   refine tk 5 ?_
   refine tk 6 ?_
   refine tk 7 ?_
   refine tk 8 ?_
   refine tk 9 ?_
   refine tk 10 ?_
   refine tk 11 ?_
   refine tk 12 ?_
   refine tk 13 ?_
   refine rd (i := 14) (h := fun K hK => ?_)
   go_simp
   (go_at_call 181; refine (s_l5Zeros nc (by omega)).mono ?_; rintro e w3 ⟨⟨v3, rfl, ho3⟩, hx3⟩; have hk2 := hk2.trans hx3; obtain ⟨a3, n3, c3, rfl, hn3⟩ := ho3.var; have hn4 : nc ≤ n3 := by (have h1 := hn3.out; rw [List.length_replicate] at h1; omega))
   go_wp2_with fail
   refine hK.out _ _ ?_ (fun hHeld => ?_)
   ·exact HKEEP.out _ hk2
   clear hK K
   try simp only [Act.put, sA, sB, sC]
   refine rd (i := 15) (h := fun K hK => ?_)
   go_simp
   (go_at_call 232; refine (HDU.out _ (TE.out.grow hk2) _ _ _ ho3.rats hn4).mono ?_; rintro e w4 ⟨rfl, hx4⟩; have hk2 := hk2.trans hx4)
   go_wp2_with fail
   refine hK.out _ _ ?_ (fun hHeld => ?_)
   ·exact HKEEP.out _ hk2
   clear hK K
   try simp only [Act.put, sA, sB, sC]
   refine tk 16 ?_
   refine tk 17 ?_
   refine sk 18 ?_
   refine tk 19 ?_
   refine tk 20 ?_
   refine sk 21 ?_
   refine sk 22 ?_
   refine sk 23 ?_
   refine tk 24 ?_
   refine tk 25 ?_
   refine wpAnyH_done (by kernel_rfl) ?_ _
   go_wp2_with fail
   go_ret
   exact ⟨ret_bool HZ.out, (TE.out.grow hk2).all⟩
  ·cases yok
   ·have HZ := Lib.hid (show false = V by rw [HVE.out, HYY.out, decide_eq_true HYN.out]; simp)
    refine wp_region_held_drew (S := (fun w' => w'.cell? ⟨w.heap.size, 0, none⟩ = some (.slice a nb ca) ∧ w'.cell? ⟨w.heap.size, 1, none⟩ = some (.slice b nb cb) ∧ w'.cell? ⟨w.heap.size, 2, none⟩ = some (.slice c nc cc) ∧ w'.cell? ⟨w.heap.size + 1, 2, none⟩ = some (.slice ya yn yc) ∧ w'.cell? ⟨gx, 0, none⟩ = some (.int .i64 y1) ∧ w'.cell? ⟨gx, 1, none⟩ = some (.int .i64 y2) ∧ Ext E w')) (by kernel_rfl) ?_ (fun hHeld => ?_)
    ·exact HKEEP.out _ hk2
    refine tk 0 ?_
    refine tk 1 ?_
    refine tk 2 ?_
    refine tk 3 ?_
    refine tk 4 ?_
    refine tk 5 ?_
    refine tk 6 ?_
    refine tk 7 ?_
    refine tk 8 ?_
    refine tk 9 ?_
    refine tk 10 ?_
    refine tk 11 ?_
    refine tk 12 ?_
    refine tk 13 ?_
    refine rd (i := 14) (h := fun K hK => ?_)
    go_simp
    (go_at_call 181; refine (s_l5Zeros nc (by omega)).mono ?_; rintro e w3 ⟨⟨v3, rfl, ho3⟩, hx3⟩; have hk2 := hk2.trans hx3; obtain ⟨a3, n3, c3, rfl, hn3⟩ := ho3.var; have hn4 : nc ≤ n3 := by (have h1 := hn3.out; rw [List.length_replicate] at h1; omega))
    go_wp2_with fail
    refine hK.out _ _ ?_ (fun hHeld => ?_)
    ·exact HKEEP.out _ hk2
    clear hK K
    try simp only [Act.put, sA, sB, sC]
    refine rd (i := 15) (h := fun K hK => ?_)
    go_simp
    (go_at_call 232; refine (HDU.out _ (TE.out.grow hk2) _ _ _ ho3.rats hn4).mono ?_; rintro e w4 ⟨rfl, hx4⟩; have hk2 := hk2.trans hx4)
    go_wp2_with fail
    refine hK.out _ _ ?_ (fun hHeld => ?_)
    ·exact HKEEP.out _ hk2
    clear hK K
    try simp only [Act.put, sA, sB, sC]
    refine tk 16 ?_
    refine tk 17 ?_
    refine tk 18 ?_
    refine tk 19 ?_
    refine tk 20 ?_
    refine sk 21 ?_
    refine sk 22 ?_
    refine sk 23 ?_
    refine tk 24 ?_
    refine tk 25 ?_
    refine wpAnyH_done (by kernel_rfl) ?_ _
    go_wp2_with fail
    go_ret
    exact ⟨ret_bool HZ.out, (TE.out.grow hk2).all⟩
   ·have HZ := Lib.hid (show decide (0 < y1) = V by rw [HVE.out, HYY.out, decide_eq_true HYN.out]; simp)
    refine wp_region_held_drew (S := (fun w' => w'.cell? ⟨w.heap.size, 0, none⟩ = some (.slice a nb ca) ∧ w'.cell? ⟨w.heap.size, 1, none⟩ = some (.slice b nb cb) ∧ w'.cell? ⟨w.heap.size, 2, none⟩ = some (.slice c nc cc) ∧ w'.cell? ⟨w.heap.size + 1, 2, none⟩ = some (.slice ya yn yc) ∧ w'.cell? ⟨gx, 0, none⟩ = some (.int .i64 y1) ∧ w'.cell? ⟨gx, 1, none⟩ = some (.int .i64 y2) ∧ Ext E w')) (by kernel_rfl) ?_ (fun hHeld => ?_)
    ·exact HKEEP.out _ hk2
    refine tk 0 ?_
    refine tk 1 ?_
    refine tk 2 ?_
    refine tk 3 ?_
    refine tk 4 ?_
    refine tk 5 ?_
    refine tk 6 ?_
    refine tk 7 ?_
    refine tk 8 ?_
    refine tk 9 ?_
    refine tk 10 ?_
    refine tk 11 ?_
    refine tk 12 ?_
    refine tk 13 ?_
    refine rd (i := 14) (h := fun K hK => ?_)
    go_simp
    (go_at_call 181; refine (s_l5Zeros nc (by omega)).mono ?_; rintro e w3 ⟨⟨v3, rfl, ho3⟩, hx3⟩; have hk2 := hk2.trans hx3; obtain ⟨a3, n3, c3, rfl, hn3⟩ := ho3.var; have hn4 : nc ≤ n3 := by (have h1 := hn3.out; rw [List.length_replicate] at h1; omega))
    go_wp2_with fail
    refine hK.out _ _ ?_ (fun hHeld => ?_)
    ·exact HKEEP.out _ hk2
    clear hK K
    try simp only [Act.put, sA, sB, sC]
    refine rd (i := 15) (h := fun K hK => ?_)
    go_simp
    (go_at_call 232; refine (HDU.out _ (TE.out.grow hk2) _ _ _ ho3.rats hn4).mono ?_; rintro e w4 ⟨rfl, hx4⟩; have hk2 := hk2.trans hx4)
    go_wp2_with fail
    refine hK.out _ _ ?_ (fun hHeld => ?_)
    ·exact HKEEP.out _ hk2
    clear hK K
    try simp only [Act.put, sA, sB, sC]
    refine tk 16 ?_
    refine tk 17 ?_
    refine tk 18 ?_
    refine tk 19 ?_
    refine tk 20 ?_
    refine tk 21 ?_
    refine tk 22 ?_
    refine tk 23 ?_
    refine tk 24 ?_
    refine tk 25 ?_
    refine wpAnyH_done (by kernel_rfl) ?_ _
    go_wp2_with fail
    go_ret
    exact ⟨ret_bool HZ.out, (TE.out.grow hk2).all⟩
 ·have hne : ((yn : Int) == (nb : Int)) = false := by simp; omega
  have HZ := Lib.hid (show false = V by rw [HVE.out, decide_eq_false hyn]; rfl)
  clear hyn
  refine wp_region_held_drew (S := (fun w' => w'.cell? ⟨w.heap.size, 0, none⟩ = some (.slice a nb ca) ∧ w'.cell? ⟨w.heap.size, 1, none⟩ = some (.slice b nb cb) ∧ w'.cell? ⟨w.heap.size, 2, none⟩ = some (.slice c nc cc) ∧ w'.cell? ⟨w.heap.size + 1, 2, none⟩ = some (.slice ya yn yc) ∧ w'.cell? ⟨gx, 0, none⟩ = some (.int .i64 y1) ∧ w'.cell? ⟨gx, 1, none⟩ = some (.int .i64 y2) ∧ Ext E w')) (by kernel_rfl) ?_ (fun hHeld => ?_)
  ·exact HKEEP.out _ hk2
  refine tk 0 ?_
  refine tk 1 ?_
  refine tk 2 ?_
  refine tk 3 ?_
  refine tk 4 ?_
  refine tk 5 ?_
  refine tk 6 ?_
  refine tk 7 ?_
  refine sk 8 ?_
  refine sk 9 ?_
  refine sk 10 ?_
  refine sk 11 ?_
  refine sk 12 ?_
  refine sk 13 ?_
  refine sk 14 ?_
  refine sk 15 ?_
  refine tk 16 ?_
  refine tk 17 ?_
  refine sk 18 ?_
  refine tk 19 ?_
  refine tk 20 ?_
  refine sk 21 ?_
  refine sk 22 ?_
  refine sk 23 ?_
  refine tk 24 ?_
  refine tk 25 ?_
  refine wpAnyH_done (by kernel_rfl) ?_ _
  go_wp2_with fail
  go_ret
  exact ⟨ret_bool HZ.out, (TE.out.grow hk2).all⟩
set_option maxHeartbeats 16000000 in
theorem s_CheckLP3 (h : LpC w a na ca b nb cb c nc cc A B C) (h' : LrC w xa xn xc ya yn yc ra rn rc r) (ok : okLP A B C = true) (hs : r.status = 3) :
 Calls Tryz.prog 162 #[lpW a na ca b nb cb c nc cc, lrW r xa xn xc ya yn yc ra rn rc] w fun e w' => e = .returned (.bool (checkG boundS A B C r)) ∧ Ext w w' := by
 obtain ⟨r1, r2, r3, r4, r5, r6⟩ := okLP_rows h ok
 subst r3
 have T0 := Lib.hid (show Two w ((w.alloc (lpBox a nb ca b nb cb c nc cc)).alloc (lrBox r xa xn xc ya yn yc ra rn rc)) a nb ca b nb cb c nc cc xa xn xc ya yn yc ra rn rc r A B C from ⟨Ext.refl _, (h.ext (Ext.alloc _ _)).ext (Ext.alloc _ _), (h'.ext (Ext.alloc _ _)).ext (Ext.alloc _ _)⟩)
 have hy1 := h'.y.hcap
 have hy2 := h'.y.hmax
 have hr1 := h'.ray.hcap
 have hr2 := h'.ray.hmax
 have hc1 := h.c.hcap
 have hc2 := h.c.hmax
 have hb1 := h.b.hcap
 have hb2 := h.b.hmax
 have HOK := Lib.hid ok
 have HFB6 := Lib.hid (fitL_small r6)
 have HR5 := Lib.hid r5
 obtain ⟨st, rX, rY, rr, rv, rp⟩ := r
 obtain ⟨v1, v2⟩ := rv
 simp only at hs
 subst hs
 have HLY := Lib.hid h'.y.hlen
 have HLB := Lib.hid h.b.hlen
 have HLC := Lib.hid h.c.hlen
 have HLR := Lib.hid h'.ray.hlen
 have HV := Lib.hid (s_IsValidLP T0.out.lp)
 rw [ok] at HV
 obtain ⟨V, hV⟩ : ∃ v, v = checkG boundS A B C ⟨3, rX, rY, rr, (v1, v2), rp⟩ := ⟨_, rfl⟩
 rw [← hV]
 obtain ⟨fv, hfv⟩ : ∃ f, f = feasB A B C.length rX := ⟨_, rfl⟩
 obtain ⟨pv, hpv⟩ : ∃ f, f = posV rr := ⟨_, rfl⟩
 obtain ⟨gv, hgv⟩ : ∃ f, f = givesB A rr (List.replicate nb 0) := ⟨_, rfl⟩
 obtain ⟨dx, hdx⟩ : ∃ d, d = dotL C rr := ⟨_, rfl⟩
 have HVE := Lib.hid (show V = (fv && ((decide (rn = nc) && pv) && (gv && negO dx))) by
  rw [hV, hfv, hpv, hgv, hdx]; unfold checkG; rw [if_neg (by simp), if_neg (by simp), if_pos rfl]; simp only; rw [rayB_eq, HLB.out, HLC.out, show rr.length = rn from HLR.out])
 have HF := Lib.hid (fun (W : World) (t : Two w W a nb ca b nb cb c nc cc xa xn xc ya yn yc ra rn rc ⟨3, rX, rY, rr, (v1, v2), rp⟩ A B C) => s_IsFeasible t.lp HOK.out t.lr.x)
 have HN := Lib.hid (fun (W : World) (t : Two w W a nb ca b nb cb c nc cc xa xn xc ya yn yc ra rn rc ⟨3, rX, rY, rr, (v1, v2), rp⟩ A B C) => s_l5NotNegative t.lr.ray)
 have hmk := mk_ints nb (by omega)
 have HGV := Lib.hid (fun (W : World) (t : Two w W a nb ca b nb cb c nc cc xa xn xc ya yn yc ra rn rc ⟨3, rX, rY, rr, (v1, v2), rp⟩ A B C) => s_l5Gives (b := b) (nb := nb) (cb := cb) (c := c) (nc := nc) (cc := cc) (t.grow (Ext.alloc W (.cells (intCells (List.replicate nb 0)) 3))).lp.a (t.grow (Ext.alloc W (.cells (intCells (List.replicate nb 0)) 3))).lr.ray (Row.ints (show Row (W.alloc (.cells (intCells (List.replicate nb 0)) 3)) W.heap.size 3 (List.replicate nb 0) from heap_alloc_new _ _) (by simp) (Nat.le_refl nb) (by omega)) (Nat.le_refl _) HR5.out)
 have HDX := Lib.hid (fun (W : World) (t : Two w W a nb ca b nb cb c nc cc xa xn xc ya yn yc ra rn rc ⟨3, rX, rY, rr, (v1, v2), rp⟩ A B C) => s_DotRat t.lp.c t.lr.ray)
 simp only [← hfv] at HF
 simp only [← hpv] at HN
 simp only [← hgv] at HGV
 simp only [← hdx] at HDX
 obtain ⟨x1, x2, xok, hxx⟩ : ∃ y1 y2 yok, optR dx = ((y1, y2), yok) := ⟨_, _, _, rfl⟩
 simp only [hxx] at HDX
 have HXX := Lib.hid (show negO dx = (xok && decide (x1 < 0)) by
  cases dx with
  | none => simp only [optR] at hxx; cases hxx; rfl
  | some v => obtain ⟨z1, z2⟩ := v; simp only [optR, Option.getD_some, Option.isSome_some, Prod.mk.injEq] at hxx; obtain ⟨⟨rfl, rfl⟩, rfl⟩ := hxx; rfl)
 clear h h' ok r4 r5 r6
 clear hV hfv hpv hgv hdx hxx
 have HS1 : ((3 : Int) == 1) = false := by decide
 have HS2 : ((3 : Int) == 2) = false := by decide
 go_enter Tryz.func162, Tryz.ntmps162
 obtain ⟨p0, p1, p2⟩ := T0.out.p
 obtain ⟨q0, q1, q2, q3, q4, q5⟩ := T0.out.q
 go_wp2_with fail
 refine HV.out.mono ?_
 rintro e w1 ⟨rfl, hx⟩
 have T1 := Lib.hid (T0.out.grow hx)
 clear hx p0 p1 p2 q0 q1 q2 q3 q4 q5
 obtain ⟨p0, p1, p2⟩ := T1.out.p
 obtain ⟨q0, q1, q2, q3, q4, q5⟩ := T1.out.q
 go_wp2_with fail
 refine (HDX.out _ T1.out).mono ?_
 rintro e w2 ⟨rfl, hx⟩
 obtain ⟨E, hE⟩ : ∃ E, E = w2.alloc (.cells #[.int .i64 x1, .int .i64 x2] 43) := ⟨_, rfl⟩
 obtain ⟨gx, hgx⟩ : ∃ g, g = w2.heap.size := ⟨_, rfl⟩
 have hxE : Ext w2 E := by rw [hE]; exact Ext.alloc _ _
 have TE := Lib.hid ((T1.out.grow hx).grow hxE)
 have HB0 := Lib.hid (show Boxed w2 E gx x1 x2 by rw [hE, hgx]; exact Boxed.new (Ext.refl _) _ _)
 go_upto_region 11 with fail
 rw [← hE, ← hgx]
 clear hE hxE hx hgx p0 p1 p2 q0 q1 q2 q3 q4 q5
 obtain ⟨p0, p1, p2⟩ := TE.out.p
 obtain ⟨q0, q1, q2, q3, q4, q5⟩ := TE.out.q
 have b0 := HB0.out.c0
 have b1 := HB0.out.c1
 have hk2 : Ext E E.drew := Ext.drew E
 have HKEEP := Lib.hid (fun (w' : World) (h : Ext E w') => (⟨h.cellSome p0, h.cellSome p1, h.cellSome p2, h.cellSome q1, h.cellSome q3, h.cellSome b0, h.cellSome b1, h⟩ : w'.cell? ⟨w.heap.size, 0, none⟩ = some (.slice a nb ca) ∧ w'.cell? ⟨w.heap.size, 1, none⟩ = some (.slice b nb cb) ∧ w'.cell? ⟨w.heap.size, 2, none⟩ = some (.slice c nc cc) ∧ w'.cell? ⟨w.heap.size + 1, 1, none⟩ = some (.slice xa xn xc) ∧ w'.cell? ⟨w.heap.size + 1, 3, none⟩ = some (.slice ra rn rc) ∧ w'.cell? ⟨gx, 0, none⟩ = some (.int .i64 x1) ∧ w'.cell? ⟨gx, 1, none⟩ = some (.int .i64 x2) ∧ Ext E w'))
 cases fv
 ·have HZ := Lib.hid (show false = V by rw [HVE.out]; rfl)
  refine wp_region_held_drew (S := (fun w' => w'.cell? ⟨w.heap.size, 0, none⟩ = some (.slice a nb ca) ∧ w'.cell? ⟨w.heap.size, 1, none⟩ = some (.slice b nb cb) ∧ w'.cell? ⟨w.heap.size, 2, none⟩ = some (.slice c nc cc) ∧ w'.cell? ⟨w.heap.size + 1, 1, none⟩ = some (.slice xa xn xc) ∧ w'.cell? ⟨w.heap.size + 1, 3, none⟩ = some (.slice ra rn rc) ∧ w'.cell? ⟨gx, 0, none⟩ = some (.int .i64 x1) ∧ w'.cell? ⟨gx, 1, none⟩ = some (.int .i64 x2) ∧ Ext E w')) (by kernel_rfl) ?_ (fun hHeld => ?_)
  ·exact HKEEP.out _ hk2
  refine tk 0 ?_
  refine tk 1 ?_
  refine tk 2 ?_
  refine rd (i := 3) (h := fun K hK => ?_)
  go_simp
  (go_at_call 234; refine (HF.out _ (TE.out.grow hk2)).mono ?_; rintro e w3 ⟨rfl, hx3⟩; have hk2 := hk2.trans hx3)
  go_wp2_with fail
  refine hK.out _ _ ?_ (fun hHeld => ?_)
  ·exact HKEEP.out _ hk2
  clear hK K
  try simp only [Act.put, sA, sB, sC]
  refine tk 4 ?_
  refine sk 5 ?_
  refine sk 6 ?_
  refine sk 7 ?_
  refine sk 8 ?_
  refine sk 9 ?_
  refine sk 10 ?_
  refine sk 11 ?_
  refine tk 12 ?_
  refine tk 13 ?_
  refine sk 14 ?_
  refine sk 15 ?_
  refine sk 16 ?_
  refine tk 17 ?_
  refine tk 18 ?_
  refine sk 19 ?_
  refine sk 20 ?_
  refine sk 21 ?_
  refine sk 22 ?_
  refine sk 23 ?_
  refine sk 24 ?_
  refine sk 25 ?_
  refine sk 26 ?_
  refine tk 27 ?_
  refine tk 28 ?_
  refine sk 29 ?_
  refine tk 30 ?_
  refine tk 31 ?_
  refine sk 32 ?_
  refine sk 33 ?_
  refine sk 34 ?_
  refine tk 35 ?_
  refine tk 36 ?_
  refine wpAnyH_done (by kernel_rfl) ?_ _
  go_wp2_with fail
  go_ret
  exact ⟨ret_bool HZ.out, (TE.out.grow hk2).all⟩
 ·by_cases hrn : rn = nc
  ·have hne : ((rn : Int) == (nc : Int)) = true := by simp; omega
   have HRN := Lib.hid hrn
   clear hrn
   cases pv
   ·have HZ := Lib.hid (show false = V by rw [HVE.out]; simp)
    refine wp_region_held_drew (S := (fun w' => w'.cell? ⟨w.heap.size, 0, none⟩ = some (.slice a nb ca) ∧ w'.cell? ⟨w.heap.size, 1, none⟩ = some (.slice b nb cb) ∧ w'.cell? ⟨w.heap.size, 2, none⟩ = some (.slice c nc cc) ∧ w'.cell? ⟨w.heap.size + 1, 1, none⟩ = some (.slice xa xn xc) ∧ w'.cell? ⟨w.heap.size + 1, 3, none⟩ = some (.slice ra rn rc) ∧ w'.cell? ⟨gx, 0, none⟩ = some (.int .i64 x1) ∧ w'.cell? ⟨gx, 1, none⟩ = some (.int .i64 x2) ∧ Ext E w')) (by kernel_rfl) ?_ (fun hHeld => ?_)
    ·exact HKEEP.out _ hk2
    refine tk 0 ?_
    refine tk 1 ?_
    refine tk 2 ?_
    refine rd (i := 3) (h := fun K hK => ?_)
    go_simp
    (go_at_call 234; refine (HF.out _ (TE.out.grow hk2)).mono ?_; rintro e w3 ⟨rfl, hx3⟩; have hk2 := hk2.trans hx3)
    go_wp2_with fail
    refine hK.out _ _ ?_ (fun hHeld => ?_)
    ·exact HKEEP.out _ hk2
    clear hK K
    try simp only [Act.put, sA, sB, sC]
    refine tk 4 ?_
    refine tk 5 ?_
    refine tk 6 ?_
    refine tk 7 ?_
    refine tk 8 ?_
    refine tk 9 ?_
    refine tk 10 ?_
    refine tk 11 ?_
    refine tk 12 ?_
    refine tk 13 ?_
    refine tk 14 ?_
    refine tk 15 ?_
    refine rd (i := 16) (h := fun K hK => ?_)
    go_simp
    (go_at_call 235; refine (HN.out _ (TE.out.grow hk2)).mono ?_; rintro e w4 ⟨rfl, hx4⟩; have hk2 := hk2.trans hx4)
    go_wp2_with fail
    refine hK.out _ _ ?_ (fun hHeld => ?_)
    ·exact HKEEP.out _ hk2
    clear hK K
    try simp only [Act.put, sA, sB, sC]
    refine tk 17 ?_
    refine tk 18 ?_
    refine sk 19 ?_
    refine sk 20 ?_
    refine sk 21 ?_
    refine sk 22 ?_
    refine sk 23 ?_
    refine sk 24 ?_
    refine sk 25 ?_
    refine sk 26 ?_
    refine tk 27 ?_
    refine tk 28 ?_
    refine sk 29 ?_
    refine tk 30 ?_
    refine tk 31 ?_
    refine sk 32 ?_
    refine sk 33 ?_
    refine sk 34 ?_
    refine tk 35 ?_
    refine tk 36 ?_
    refine wpAnyH_done (by kernel_rfl) ?_ _
    go_wp2_with fail
    go_ret
    exact ⟨ret_bool HZ.out, (TE.out.grow hk2).all⟩
   ·cases gv
    ·have HZ := Lib.hid (show false = V by rw [HVE.out]; simp)
     refine wp_region_held_drew (S := (fun w' => w'.cell? ⟨w.heap.size, 0, none⟩ = some (.slice a nb ca) ∧ w'.cell? ⟨w.heap.size, 1, none⟩ = some (.slice b nb cb) ∧ w'.cell? ⟨w.heap.size, 2, none⟩ = some (.slice c nc cc) ∧ w'.cell? ⟨w.heap.size + 1, 1, none⟩ = some (.slice xa xn xc) ∧ w'.cell? ⟨w.heap.size + 1, 3, none⟩ = some (.slice ra rn rc) ∧ w'.cell? ⟨gx, 0, none⟩ = some (.int .i64 x1) ∧ w'.cell? ⟨gx, 1, none⟩ = some (.int .i64 x2) ∧ Ext E w')) (by kernel_rfl) ?_ (fun hHeld => ?_)
     ·exact HKEEP.out _ hk2
     refine tk 0 ?_
     refine tk 1 ?_
     refine tk 2 ?_
     refine rd (i := 3) (h := fun K hK => ?_)
     go_simp
     (go_at_call 234; refine (HF.out _ (TE.out.grow hk2)).mono ?_; rintro e w3 ⟨rfl, hx3⟩; have hk2 := hk2.trans hx3)
     go_wp2_with fail
     refine hK.out _ _ ?_ (fun hHeld => ?_)
     ·exact HKEEP.out _ hk2
     clear hK K
     try simp only [Act.put, sA, sB, sC]
     refine tk 4 ?_
     refine tk 5 ?_
     refine tk 6 ?_
     refine tk 7 ?_
     refine tk 8 ?_
     refine tk 9 ?_
     refine tk 10 ?_
     refine tk 11 ?_
     refine tk 12 ?_
     refine tk 13 ?_
     refine tk 14 ?_
     refine tk 15 ?_
     refine rd (i := 16) (h := fun K hK => ?_)
     go_simp
     (go_at_call 235; refine (HN.out _ (TE.out.grow hk2)).mono ?_; rintro e w4 ⟨rfl, hx4⟩; have hk2 := hk2.trans hx4)
     go_wp2_with fail
     refine hK.out _ _ ?_ (fun hHeld => ?_)
     ·exact HKEEP.out _ hk2
     clear hK K
     try simp only [Act.put, sA, sB, sC]
     refine tk 17 ?_
     refine tk 18 ?_
     refine tk 19 ?_
     refine tk 20 ?_
     refine tk 21 ?_
     refine tk 22 ?_
     refine tk 23 ?_
     refine tk 24 ?_
     have TG := Lib.hid (TE.out.grow hk2)
     have hk9 := hk2
     have hk2 := hk9.trans (Ext.alloc w4 (.cells (intCells (List.replicate nb 0)) 3))
     refine rd (i := 25) (h := fun K hK => ?_)
     go_simp
     refine hK.out _ _ ?_ (fun hHeld => ?_)
     ·exact HKEEP.out _ hk2
     clear hK K
     try simp only [Act.put, sA, sB, sC]
     refine rd (i := 26) (h := fun K hK => ?_)
     go_simp
     (go_at_call 236; refine (HGV.out _ TG.out).mono ?_; rintro e w5 ⟨rfl, hx5⟩; have hk2 := hk2.trans hx5)
     go_wp2_with fail
     refine hK.out _ _ ?_ (fun hHeld => ?_)
     ·exact HKEEP.out _ hk2
     clear hK K
     try simp only [Act.put, sA, sB, sC]
     refine tk 27 ?_
     refine tk 28 ?_
     refine sk 29 ?_
     refine tk 30 ?_
     refine tk 31 ?_
     refine sk 32 ?_
     refine sk 33 ?_
     refine sk 34 ?_
     refine tk 35 ?_
     refine tk 36 ?_
     refine wpAnyH_done (by kernel_rfl) ?_ _
     go_wp2_with fail
     go_ret
     exact ⟨ret_bool HZ.out, (TE.out.grow hk2).all⟩
    ·cases xok
     ·have HZ := Lib.hid (show false = V by rw [HVE.out, HXX.out, decide_eq_true HRN.out]; simp)
      refine wp_region_held_drew (S := (fun w' => w'.cell? ⟨w.heap.size, 0, none⟩ = some (.slice a nb ca) ∧ w'.cell? ⟨w.heap.size, 1, none⟩ = some (.slice b nb cb) ∧ w'.cell? ⟨w.heap.size, 2, none⟩ = some (.slice c nc cc) ∧ w'.cell? ⟨w.heap.size + 1, 1, none⟩ = some (.slice xa xn xc) ∧ w'.cell? ⟨w.heap.size + 1, 3, none⟩ = some (.slice ra rn rc) ∧ w'.cell? ⟨gx, 0, none⟩ = some (.int .i64 x1) ∧ w'.cell? ⟨gx, 1, none⟩ = some (.int .i64 x2) ∧ Ext E w')) (by kernel_rfl) ?_ (fun hHeld => ?_)
      ·exact HKEEP.out _ hk2
      refine tk 0 ?_
      refine tk 1 ?_
      refine tk 2 ?_
      refine rd (i := 3) (h := fun K hK => ?_)
      go_simp
      (go_at_call 234; refine (HF.out _ (TE.out.grow hk2)).mono ?_; rintro e w3 ⟨rfl, hx3⟩; have hk2 := hk2.trans hx3)
      go_wp2_with fail
      refine hK.out _ _ ?_ (fun hHeld => ?_)
      ·exact HKEEP.out _ hk2
      clear hK K
      try simp only [Act.put, sA, sB, sC]
      refine tk 4 ?_
      refine tk 5 ?_
      refine tk 6 ?_
      refine tk 7 ?_
      refine tk 8 ?_
      refine tk 9 ?_
      refine tk 10 ?_
      refine tk 11 ?_
      refine tk 12 ?_
      refine tk 13 ?_
      refine tk 14 ?_
      refine tk 15 ?_
      refine rd (i := 16) (h := fun K hK => ?_)
      go_simp
      (go_at_call 235; refine (HN.out _ (TE.out.grow hk2)).mono ?_; rintro e w4 ⟨rfl, hx4⟩; have hk2 := hk2.trans hx4)
      go_wp2_with fail
      refine hK.out _ _ ?_ (fun hHeld => ?_)
      ·exact HKEEP.out _ hk2
      clear hK K
      try simp only [Act.put, sA, sB, sC]
      refine tk 17 ?_
      refine tk 18 ?_
      refine tk 19 ?_
      refine tk 20 ?_
      refine tk 21 ?_
      refine tk 22 ?_
      refine tk 23 ?_
      refine tk 24 ?_
      have TG := Lib.hid (TE.out.grow hk2)
      have hk9 := hk2
      have hk2 := hk9.trans (Ext.alloc w4 (.cells (intCells (List.replicate nb 0)) 3))
      refine rd (i := 25) (h := fun K hK => ?_)
      go_simp
      refine hK.out _ _ ?_ (fun hHeld => ?_)
      ·exact HKEEP.out _ hk2
      clear hK K
      try simp only [Act.put, sA, sB, sC]
      refine rd (i := 26) (h := fun K hK => ?_)
      go_simp
      (go_at_call 236; refine (HGV.out _ TG.out).mono ?_; rintro e w5 ⟨rfl, hx5⟩; have hk2 := hk2.trans hx5)
      go_wp2_with fail
      refine hK.out _ _ ?_ (fun hHeld => ?_)
      ·exact HKEEP.out _ hk2
      clear hK K
      try simp only [Act.put, sA, sB, sC]
      refine tk 27 ?_
      refine tk 28 ?_
      refine tk 29 ?_
      refine tk 30 ?_
      refine tk 31 ?_
      refine sk 32 ?_
      refine sk 33 ?_
      refine sk 34 ?_
      refine tk 35 ?_
      refine tk 36 ?_
      refine wpAnyH_done (by kernel_rfl) ?_ _
      go_wp2_with fail
      go_ret
      exact ⟨ret_bool HZ.out, (TE.out.grow hk2).all⟩
     ·have HZ := Lib.hid (show decide (x1 < 0) = V by rw [HVE.out, HXX.out, decide_eq_true HRN.out]; simp)
      refine wp_region_held_drew (S := (fun w' => w'.cell? ⟨w.heap.size, 0, none⟩ = some (.slice a nb ca) ∧ w'.cell? ⟨w.heap.size, 1, none⟩ = some (.slice b nb cb) ∧ w'.cell? ⟨w.heap.size, 2, none⟩ = some (.slice c nc cc) ∧ w'.cell? ⟨w.heap.size + 1, 1, none⟩ = some (.slice xa xn xc) ∧ w'.cell? ⟨w.heap.size + 1, 3, none⟩ = some (.slice ra rn rc) ∧ w'.cell? ⟨gx, 0, none⟩ = some (.int .i64 x1) ∧ w'.cell? ⟨gx, 1, none⟩ = some (.int .i64 x2) ∧ Ext E w')) (by kernel_rfl) ?_ (fun hHeld => ?_)
      ·exact HKEEP.out _ hk2
      refine tk 0 ?_
      refine tk 1 ?_
      refine tk 2 ?_
      refine rd (i := 3) (h := fun K hK => ?_)
      go_simp
      (go_at_call 234; refine (HF.out _ (TE.out.grow hk2)).mono ?_; rintro e w3 ⟨rfl, hx3⟩; have hk2 := hk2.trans hx3)
      go_wp2_with fail
      refine hK.out _ _ ?_ (fun hHeld => ?_)
      ·exact HKEEP.out _ hk2
      clear hK K
      try simp only [Act.put, sA, sB, sC]
      refine tk 4 ?_
      refine tk 5 ?_
      refine tk 6 ?_
      refine tk 7 ?_
      refine tk 8 ?_
      refine tk 9 ?_
      refine tk 10 ?_
      refine tk 11 ?_
      refine tk 12 ?_
      refine tk 13 ?_
      refine tk 14 ?_
      refine tk 15 ?_
      refine rd (i := 16) (h := fun K hK => ?_)
      go_simp
      (go_at_call 235; refine (HN.out _ (TE.out.grow hk2)).mono ?_; rintro e w4 ⟨rfl, hx4⟩; have hk2 := hk2.trans hx4)
      go_wp2_with fail
      refine hK.out _ _ ?_ (fun hHeld => ?_)
      ·exact HKEEP.out _ hk2
      clear hK K
      try simp only [Act.put, sA, sB, sC]
      refine tk 17 ?_
      refine tk 18 ?_
      refine tk 19 ?_
      refine tk 20 ?_
      refine tk 21 ?_
      refine tk 22 ?_
      refine tk 23 ?_
      refine tk 24 ?_
      have TG := Lib.hid (TE.out.grow hk2)
      have hk9 := hk2
      have hk2 := hk9.trans (Ext.alloc w4 (.cells (intCells (List.replicate nb 0)) 3))
      refine rd (i := 25) (h := fun K hK => ?_)
      go_simp
      refine hK.out _ _ ?_ (fun hHeld => ?_)
      ·exact HKEEP.out _ hk2
      clear hK K
      try simp only [Act.put, sA, sB, sC]
      refine rd (i := 26) (h := fun K hK => ?_)
      go_simp
      (go_at_call 236; refine (HGV.out _ TG.out).mono ?_; rintro e w5 ⟨rfl, hx5⟩; have hk2 := hk2.trans hx5)
      go_wp2_with fail
      refine hK.out _ _ ?_ (fun hHeld => ?_)
      ·exact HKEEP.out _ hk2
      clear hK K
      try simp only [Act.put, sA, sB, sC]
      refine tk 27 ?_
      refine tk 28 ?_
      refine tk 29 ?_
      refine tk 30 ?_
      refine tk 31 ?_
      refine tk 32 ?_
      refine tk 33 ?_
      refine tk 34 ?_
      refine tk 35 ?_
      refine tk 36 ?_
      refine wpAnyH_done (by kernel_rfl) ?_ _
      go_wp2_with fail
      go_ret
      exact ⟨ret_bool HZ.out, (TE.out.grow hk2).all⟩
  ·have hne : ((rn : Int) == (nc : Int)) = false := by simp; omega
   have HZ := Lib.hid (show false = V by rw [HVE.out, decide_eq_false hrn]; rfl)
   clear hrn
   refine wp_region_held_drew (S := (fun w' => w'.cell? ⟨w.heap.size, 0, none⟩ = some (.slice a nb ca) ∧ w'.cell? ⟨w.heap.size, 1, none⟩ = some (.slice b nb cb) ∧ w'.cell? ⟨w.heap.size, 2, none⟩ = some (.slice c nc cc) ∧ w'.cell? ⟨w.heap.size + 1, 1, none⟩ = some (.slice xa xn xc) ∧ w'.cell? ⟨w.heap.size + 1, 3, none⟩ = some (.slice ra rn rc) ∧ w'.cell? ⟨gx, 0, none⟩ = some (.int .i64 x1) ∧ w'.cell? ⟨gx, 1, none⟩ = some (.int .i64 x2) ∧ Ext E w')) (by kernel_rfl) ?_ (fun hHeld => ?_)
   ·exact HKEEP.out _ hk2
   refine tk 0 ?_
   refine tk 1 ?_
   refine tk 2 ?_
   refine rd (i := 3) (h := fun K hK => ?_)
   go_simp
   (go_at_call 234; refine (HF.out _ (TE.out.grow hk2)).mono ?_; rintro e w3 ⟨rfl, hx3⟩; have hk2 := hk2.trans hx3)
   go_wp2_with fail
   refine hK.out _ _ ?_ (fun hHeld => ?_)
   ·exact HKEEP.out _ hk2
   clear hK K
   try simp only [Act.put, sA, sB, sC]
   refine tk 4 ?_
   refine tk 5 ?_
   refine tk 6 ?_
   refine tk 7 ?_
   refine tk 8 ?_
   refine tk 9 ?_
   refine tk 10 ?_
   refine tk 11 ?_
   refine tk 12 ?_
   refine tk 13 ?_
   refine sk 14 ?_
   refine sk 15 ?_
   refine sk 16 ?_
   refine tk 17 ?_
   refine tk 18 ?_
   refine sk 19 ?_
   refine sk 20 ?_
   refine sk 21 ?_
   refine sk 22 ?_
   refine sk 23 ?_
   refine sk 24 ?_
   refine sk 25 ?_
   refine sk 26 ?_
   refine tk 27 ?_
   refine tk 28 ?_
   refine sk 29 ?_
   refine tk 30 ?_
   refine tk 31 ?_
   refine sk 32 ?_
   refine sk 33 ?_
   refine sk 34 ?_
   refine tk 35 ?_
   refine tk 36 ?_
   refine wpAnyH_done (by kernel_rfl) ?_ _
   go_wp2_with fail
   go_ret
   exact ⟨ret_bool HZ.out, (TE.out.grow hk2).all⟩
set_option maxHeartbeats 4000000 in
theorem s_CheckLP (h : LpC w a na ca b nb cb c nc cc A B C) (h' : LrC w xa xn xc ya yn yc ra rn rc r) (ok : okLP A B C = true) :
 Calls Tryz.prog 162 #[lpW a na ca b nb cb c nc cc, lrW r xa xn xc ya yn yc ra rn rc] w fun e w' => e = .returned (.bool (checkG boundS A B C r)) ∧ Ext w w' := by
 by_cases h1 : r.status = 1
 ·exact s_CheckLP1 h h' ok h1
 by_cases h2 : r.status = 2
 ·exact s_CheckLP2 h h' ok h2
 by_cases h3 : r.status = 3
 ·exact s_CheckLP3 h h' ok h3
 have HE := Lib.hid (show checkG boundS A B C r = false by unfold checkG; rw [if_neg h1, if_neg h2, if_neg h3])
 have T0 := Lib.hid (show Two w ((w.alloc (lpBox a na ca b nb cb c nc cc)).alloc (lrBox r xa xn xc ya yn yc ra rn rc)) a na ca b nb cb c nc cc xa xn xc ya yn yc ra rn rc r A B C from ⟨Ext.refl _, (h.ext (Ext.alloc _ _)).ext (Ext.alloc _ _), (h'.ext (Ext.alloc _ _)).ext (Ext.alloc _ _)⟩)
 have HV := Lib.hid (s_IsValidLP T0.out.lp)
 rw [ok] at HV
 obtain ⟨st, rX, rY, rr, rv, rp⟩ := r
 obtain ⟨v1, v2⟩ := rv
 simp only at h1 h2 h3
 have e1 : (st == 1) = false := by simp; omega
 have e2 : (st == 2) = false := by simp; omega
 have e3 : (st == 3) = false := by simp; omega
 clear h h' h1 h2 h3
 go_enter Tryz.func162, Tryz.ntmps162
 obtain ⟨p0, p1, p2⟩ := T0.out.p
 obtain ⟨q0, q1, q2, q3, q4, q5⟩ := T0.out.q
 go_wp2_with fail
 refine HV.out.mono ?_
 rintro e w1 ⟨rfl, hx⟩
 have T1 := Lib.hid (T0.out.grow hx)
 clear hx p0 p1 p2 q0 q1 q2 q3 q4 q5
 obtain ⟨p0, p1, p2⟩ := T1.out.p
 obtain ⟨q0, q1, q2, q3, q4, q5⟩ := T1.out.q
 go_wp2_with fail
 go_ret
 exact ⟨ret_bool HE.out.symm, T1.out.all⟩
end
end Go.Proofs.YthjjfkeacobikaaGreat
namespace Go.Proofs.YthjjfkeacobikaaGreat
set_option maxRecDepth 100000
open Go.RowKit
set_option maxHeartbeats 4000000 in
theorem s_AddScaled {w : World} {k1 k2 : Int} {a b : Option Addr} {n cap n' cap' : Nat} {A B : List (Int × Int)} (h : Rats w a n cap A) (h' : Rats w b n' cap' B) (hbig : n ≤ 1048576) :
 Calls Tryz.prog 145 #[.slice a n cap, ratV k1 k2, .slice b n' cap'] w fun e w' => (∃ v, e = .returned (.tuple #[v, .bool (sclL A (k1, k2) B).isSome]) ∧ OwnR w' w.heap.size v ((sclL A (k1, k2) B).getD [])) ∧ Ext w w' := by
 have HL := Lib.hid h.hlen
 have HL' := Lib.hid h'.hlen
 have hmax := h.hmax
 have hcap := h.hcap
 have hmax' := h'.hmax
 have hcap' := h'.hcap
 have HA := Lib.hid h
 have HB' := Lib.hid h'
 have HX := Lib.hid (Ext.alloc w (.cells #[.int .i64 k1, .int .i64 k2] 43))
 clear h h'
 by_cases hne : n = n'
 ·subst hne
  have HS := Lib.hid (show sclL A (k1, k2) B = runT (sclF A (k1, k2) B) n by unfold sclL; rw [HL.out, HL'.out, if_pos rfl])
  have HO := Lib.hid (OwnR.made (w.alloc (.cells #[.int .i64 k1, .int .i64 k2] 43)) (w.heap.size + 1) (by simp))
  go_enter Tryz.func145, Tryz.ntmps145
  go_wp2_with fail
  go_loopg [8, 9] n (fun gk o i wr => ∃ (k : Nat) (a1 : Option Addr) (n1 p1 : Nat) (r : List (Int × Int)), Hid (gk + k = n) ∧ i = .int .i64 (k : Int) ∧ o = .slice a1 n1 p1 ∧ Hid (runT (sclF A (k1, k2) B) k = some r) ∧ Hid (OwnR wr (w.heap.size + 1) (.slice a1 n1 p1) r) ∧ Hid (Ext (w.alloc (.cells #[.int .i64 k1, .int .i64 k2] 43)) wr))
  case atStart => exact ⟨0, _, _, _, [], Lib.hid (by omega), rfl, rfl, Lib.hid rfl, Lib.hid (by simpa using HO.out), Lib.hid (Ext.alloc _ _)⟩
  case round =>
   obtain ⟨k, a1, n1, p1, r, HK, rfl, rfl, HR, HO1, HX1⟩ := hrel
   have hszr := HX1.out.size
   rw [World.size_alloc] at hszr
   by_cases hlt : k < n
   ·have hkc0 : wr.cell? ⟨w.heap.size, 0, none⟩ = some (.int .i64 k1) := HX1.out.cellSome (by simp)
    have hkc1 : wr.cell? ⟨w.heap.size, 1, none⟩ = some (.int .i64 k2) := HX1.out.cellSome (by simp)
    obtain ⟨ab, aoff, ax, ay, ha, hax, hac0, hac1⟩ := ((HA.out.ext HX.out).ext HX1.out).at hlt
    obtain ⟨bb, boff, bx, by', hb, hbx, hbc0, hbc1⟩ := ((HB'.out.ext HX.out).ext HX1.out).at hlt
    subst ha hb
    have HAX := Lib.hid hax
    have HBX := Lib.hid hbx
    obtain ⟨p, q, one, hm⟩ : ∃ p q ok, mulR (k1, k2) (bx, by') = ((p, q), ok) := ⟨_, _, _, rfl⟩
    have HM := Lib.hid hm
    obtain ⟨p2, q2, two, hs2⟩ : ∃ u v ok, addR (ax, ay) (p, q) = ((u, v), ok) := ⟨_, _, _, rfl⟩
    have HS2 := Lib.hid hs2
    clear hax hbx hm hs2
    go_upto_region 7 with fail
    go_cut [10, 11] (fun sx so wx => ∃ g : Nat, sx = .pointer (some ⟨g, 0, none⟩) ∧ so = .bool one ∧ Hid (Boxed wr wx g p q))
    case first =>
     have hk2 : Ext wr wr.drew := Ext.drew wr
     have hka : Ext wr (wr.alloc (.cells #[.int .i64 0, .int .i64 0] 43)).drew := (Ext.alloc _ _).trans (Ext.drew _)
     have HKEEP := Lib.hid (fun (w' : World) (h : Ext wr w') => (⟨h.cellSome hkc0, h.cellSome hkc1, h.cellSome hbc0, h.cellSome hbc1, h⟩ : w'.cell? ⟨w.heap.size, 0, none⟩ = some (.int .i64 k1) ∧ w'.cell? ⟨w.heap.size, 1, none⟩ = some (.int .i64 k2) ∧ w'.cell? ⟨bb, boff + k * 2, none⟩ = some (.int .i64 bx) ∧ w'.cell? ⟨bb, boff + k * 2 + 1, none⟩ = some (.int .i64 by') ∧ Ext wr w'))
     go_region_held3 (fun w' => w'.cell? ⟨w.heap.size, 0, none⟩ = some (.int .i64 k1) ∧ w'.cell? ⟨w.heap.size, 1, none⟩ = some (.int .i64 k2) ∧ w'.cell? ⟨bb, boff + k * 2, none⟩ = some (.int .i64 bx) ∧ w'.cell? ⟨bb, boff + k * 2 + 1, none⟩ = some (.int .i64 by') ∧ Ext wr w')
      (first
        | with_reducible exact HKEEP.out _ hk2
        | with_reducible exact HKEEP.out _ hka
        | with_reducible exact HKEEP.out _ ((hk2.setCell (by first | (simp; done) | (simp; omega)) _).setCell (by first | (simp; done) | (simp; omega)) _)
        | with_reducible exact HKEEP.out _ (hk2.trans (Ext.alloc _ _))
        | with_reducible exact HKEEP.out _ (hBB.put _ _).ext)
      (first
        | (go_at_call 211
           (with_reducible refine (s_MulRat k1 k2 bx by' _).mono ?_)
           rw [HM.out]
           rintro e w3 ⟨rfl, hx_w3⟩
           first | (with_reducible have hBB := Boxed.grow hBB hx_w3) | (with_reducible have hBB := Boxed.firstD hx_w3) | (with_reducible have hBB := Boxed.laterD hk2 hx_w3) | skip
           first | (have b0_ := hBB.c0; have b1_ := hBB.c1; have fb_ := hBB.free) | skip
           have hk2 : Ext wr w3 := by first | with_reducible exact hk2.trans hx_w3 | with_reducible exact hka.trans hx_w3 | with_reducible exact (hk2.trans (Ext.alloc _ _)).trans hx_w3
           have hk2s := hk2.size)
        | fail)
     all_goals (go_wp2_with fail; go_meet; first | exact ⟨_, rfl, rfl, Lib.hid (hBB.put _ _)⟩ | exact ⟨_, rfl, rfl, Lib.hid (Boxed.new hk2 _ _)⟩ | exact ⟨_, rfl, rfl, Lib.hid (Boxed.new' hk2 _ _ (by simp))⟩)
    obtain ⟨g, rfl, rfl, HB1⟩ := hcut
    have g0 := HB1.out.c0
    have g1 := HB1.out.c1
    replace hac0 := HB1.out.ext.cellSome hac0
    replace hac1 := HB1.out.ext.cellSome hac1
    clear hkc0 hkc1 hbc0 hbc1
    go_upto_region 8 with fail
    go_cut [12, 13] (fun sx so wx => ∃ g2 : Nat, sx = .pointer (some ⟨g2, 0, none⟩) ∧ so = .bool two ∧ Hid (Boxed wc wx g2 p2 q2))
    case first =>
     have hk2 : Ext wc wc.drew := Ext.drew wc
     have hka : Ext wc (wc.alloc (.cells #[.int .i64 0, .int .i64 0] 43)).drew := (Ext.alloc _ _).trans (Ext.drew _)
     have HKEEP := Lib.hid (fun (w' : World) (h : Ext wc w') => (⟨h.cellSome hac0, h.cellSome hac1, h.cellSome g0, h.cellSome g1, h⟩ : w'.cell? ⟨ab, aoff + k * 2, none⟩ = some (.int .i64 ax) ∧ w'.cell? ⟨ab, aoff + k * 2 + 1, none⟩ = some (.int .i64 ay) ∧ w'.cell? ⟨g, 0, none⟩ = some (.int .i64 p) ∧ w'.cell? ⟨g, 1, none⟩ = some (.int .i64 q) ∧ Ext wc w'))
     go_region_held3 (fun w' => w'.cell? ⟨ab, aoff + k * 2, none⟩ = some (.int .i64 ax) ∧ w'.cell? ⟨ab, aoff + k * 2 + 1, none⟩ = some (.int .i64 ay) ∧ w'.cell? ⟨g, 0, none⟩ = some (.int .i64 p) ∧ w'.cell? ⟨g, 1, none⟩ = some (.int .i64 q) ∧ Ext wc w')
      (first
        | with_reducible exact HKEEP.out _ hk2
        | with_reducible exact HKEEP.out _ hka
        | with_reducible exact HKEEP.out _ ((hk2.setCell (by first | (simp; done) | (simp; omega)) _).setCell (by first | (simp; done) | (simp; omega)) _)
        | with_reducible exact HKEEP.out _ (hk2.trans (Ext.alloc _ _))
        | with_reducible exact HKEEP.out _ (hBB.put _ _).ext)
      (first
        | (go_at_call 37
           (with_reducible refine (s_AddRat ax ay p q _).mono ?_)
           rw [HS2.out]
           rintro e w4 ⟨rfl, hx_w4⟩
           first | (with_reducible have hBB := Boxed.grow hBB hx_w4) | (with_reducible have hBB := Boxed.firstD hx_w4) | (with_reducible have hBB := Boxed.laterD hk2 hx_w4) | skip
           first | (have b0_ := hBB.c0; have b1_ := hBB.c1; have fb_ := hBB.free) | skip
           have hk2 : Ext wc w4 := by first | with_reducible exact hk2.trans hx_w4 | with_reducible exact hka.trans hx_w4 | with_reducible exact (hk2.trans (Ext.alloc _ _)).trans hx_w4
           have hk2s := hk2.size)
        | fail)
     all_goals (go_wp2_with fail; go_meet; first | exact ⟨_, rfl, rfl, Lib.hid (hBB.put _ _)⟩ | exact ⟨_, rfl, rfl, Lib.hid (Boxed.new hk2 _ _)⟩ | exact ⟨_, rfl, rfl, Lib.hid (Boxed.new' hk2 _ _ (by simp))⟩)
    obtain ⟨g2, rfl, rfl, HB2⟩ := hcut
    have X2 := Lib.hid ((HX1.out.trans HB1.out.ext).trans HB2.out.ext)
    have HO2 := Lib.hid ((HO1.out.ext HB1.out.ext).ext HB2.out.ext)
    have h0 := HB2.out.c0
    have h1 := HB2.out.c1
    have HF := Lib.hid (show sclF A (k1, k2) B k = if (one && two) = true then some (p2, q2) else none by unfold sclF; rw [HAX.out, HBX.out, HM.out]; simp only; rw [HS2.out]; simp only [Bool.and_eq_true])
    clear hac0 hac1 g0 g1
    cases hb12 : (one && two)
    ·have HN := Lib.hid (show runT (sclF A (k1, k2) B) n = none from runT_fail HR.out (by rw [HF.out, hb12]; rfl) hlt)
     cases one
     case' true => (have h2 : two = false := by simpa using hb12); subst h2
     all_goals
      clear hb12
      go_wp2_with fail
      have hszz := X2.out.size
      rw [World.size_alloc] at hszz
      go_ret2
      exact ⟨⟨_, ret_tup (by rw [HS.out, HN.out]; rfl), by rw [HS.out, HN.out]; exact OwnR.made _ _ (by omega)⟩, HX.out.trans (X2.out.trans (Ext.alloc _ _))⟩
    ·obtain ⟨rfl, rfl⟩ : one = true ∧ two = true := by simpa using hb12
     have HR2 := Lib.hid (runT_some (x := (p2, q2)) HR.out (by rw [HF.out]; rfl))
     have HLR := Lib.hid (runT_len HR.out)
     have hszc := X2.out.size
     rw [World.size_alloc] at hszc
     clear hb12
     go_wp2_with (first
      | (at_builtin; refine append_rats rfl _ _ rfl (w.heap.size + 1) (.slice a1 n1 p1) _ rfl (HO2.out.ext (Ext.alloc _ _)) _ 1 _ [(p2, q2)] rfl (Rats.one' _ _ _ _ _ (by simp)) (by rw [HLR.out]; omega) (by simp; omega) ?_; intro v2 w4 ho hg hnear; obtain ⟨a2, n2, c2, rfl, HN2⟩ := ho.var; have HO4 := Lib.hid ho; have X5 := Lib.hid (ext_grown (X2.out.trans (Ext.alloc _ _)) hg (fun j hj => by have := (HO2.out.lt j hj).1; simpa using this)); clear ho hg hnear))
     go_roundg (gk - 1)
     case measure => have := HK.out; omega
     case rel => exact ⟨k + 1, a2, n2, c2, _, Lib.hid (by have := HK.out; omega), by go_num, rfl, HR2, HO4, X5⟩
   ·have hkn : k = n := by have := HK.out; omega
    subst hkn
    go_wp2_with fail
    go_ret2
    exact ⟨⟨_, ret_tup (by rw [HS.out, HR.out]; rfl), by rw [HS.out, HR.out]; exact HO1.out.mono (Nat.le_succ _)⟩, HX.out.trans HX1.out⟩
 ·have HN := Lib.hid (show sclL A (k1, k2) B = none by unfold sclL; rw [HL.out, HL'.out, if_neg hne])
  go_enter Tryz.func145, Tryz.ntmps145
  go_wp2_with fail
  have HO := Lib.hid (OwnR.made (w.alloc (.cells #[.int .i64 k1, .int .i64 k2] 43)) w.heap.size (by simp))
  go_ret2
  exact ⟨⟨_, ret_tup (by rw [HN.out]; rfl), by rw [HN.out]; simpa using HO.out⟩, HX.out.trans (Ext.alloc _ _)⟩
set_option maxHeartbeats 4000000 in
theorem s_l4Copy {w : World} {a : Option Addr} {n cap : Nat} {l : List (Int × Int)} (h : Rats w a n cap l) (hb : n ≤ 1099511627776) :
 Calls Tryz.prog 163 #[.slice a n cap] w fun e w' => (∃ v, e = .returned v ∧ OwnR w' w.heap.size v l) ∧ Ext w w' := by
 have HI := Lib.hid (h.ext (Ext.alloc w (.cells #[] 43)))
 have HO := Lib.hid (OwnR.made w w.heap.size (Nat.le_refl _))
 clear h
 go_enter Tryz.func163, Tryz.ntmps163
 go_wp2_with (first | (at_builtin; refine append_rats rfl _ _ rfl w.heap.size _ _ rfl HO.out _ n _ l rfl HI.out (by simpa using hb) (by simp) ?_; intro v' w1 ho hg hnear))
 go_ret
 exact ⟨⟨_, rfl, by simpa using ho⟩, ext_grown (Ext.alloc _ _) hg (fun k hk => Nat.le_of_eq (Option.some.inj (show some w.heap.size = some k from hk)))⟩
set_option maxHeartbeats 8000000 in
theorem s_l6Divide {w : World} {k1 k2 : Int} {a : Option Addr} {n cap : Nat} {A : List (Int × Int)} (h : Rats w a n cap A) (hbig : n ≤ 1048576) :
 Calls Tryz.prog 144 #[.slice a n cap, ratV k1 k2] w fun e w' => (∃ v, e = .returned (.tuple #[v, .bool (divL A (k1, k2)).isSome]) ∧ OwnR w' w.heap.size v ((divL A (k1, k2)).getD [])) ∧ Ext w w' := by
 have HL := Lib.hid h.hlen
 have hmax := h.hmax
 have hcap := h.hcap
 have HA := Lib.hid h
 have HX := Lib.hid (Ext.alloc w (.cells #[.int .i64 k1, .int .i64 k2] 43))
 have HS := Lib.hid (show divL A (k1, k2) = runT (divF A (k1, k2)) n by unfold divL; rw [h.hlen])
 have HO := Lib.hid (OwnR.made (w.alloc (.cells #[.int .i64 k1, .int .i64 k2] 43)) (w.heap.size + 1) (by simp))
 clear h
 go_enter Tryz.func144, Tryz.ntmps144
 go_wp2_with fail
 go_loopg [6, 7] n (fun gk o i wr => ∃ (k : Nat) (a1 : Option Addr) (n1 p1 : Nat) (r : List (Int × Int)), Hid (gk + k = n) ∧ i = .int .i64 (k : Int) ∧ o = .slice a1 n1 p1 ∧ Hid (runT (divF A (k1, k2)) k = some r) ∧ Hid (OwnR wr (w.heap.size + 1) (.slice a1 n1 p1) r) ∧ Hid (Ext (w.alloc (.cells #[.int .i64 k1, .int .i64 k2] 43)) wr))
 case atStart => exact ⟨0, _, _, _, [], Lib.hid (by omega), rfl, rfl, Lib.hid rfl, Lib.hid (by simpa using HO.out), Lib.hid (Ext.alloc _ _)⟩
 case round =>
  obtain ⟨k, a1, n1, p1, r, HK, rfl, rfl, HR, HO1, HX1⟩ := hrel
  have hszr := HX1.out.size
  rw [World.size_alloc] at hszr
  by_cases hlt : k < n
  ·have hkc0 : wr.cell? ⟨w.heap.size, 0, none⟩ = some (.int .i64 k1) := HX1.out.cellSome (by simp)
   have hkc1 : wr.cell? ⟨w.heap.size, 1, none⟩ = some (.int .i64 k2) := HX1.out.cellSome (by simp)
   obtain ⟨ab, aoff, ax, ay, ha, hax, hac0, hac1⟩ := ((HA.out.ext HX.out).ext HX1.out).at hlt
   subst ha
   have HAX := Lib.hid hax
   obtain ⟨p, q, one, hm⟩ : ∃ p q ok, divR (ax, ay) (k1, k2) = ((p, q), ok) := ⟨_, _, _, rfl⟩
   have HM := Lib.hid hm
   clear hax hm
   go_upto_region 5 with fail
   go_cut [8, 9] (fun sx so wx => ∃ g : Nat, sx = .pointer (some ⟨g, 0, none⟩) ∧ so = .bool one ∧ Hid (Boxed wr wx g p q))
   case first =>
    have hk2 : Ext wr wr.drew := Ext.drew wr
    have hka : Ext wr (wr.alloc (.cells #[.int .i64 0, .int .i64 0] 43)).drew := (Ext.alloc _ _).trans (Ext.drew _)
    have HKEEP := Lib.hid (fun (w' : World) (h : Ext wr w') => (⟨h.cellSome hkc0, h.cellSome hkc1, h.cellSome hac0, h.cellSome hac1, h⟩ : w'.cell? ⟨w.heap.size, 0, none⟩ = some (.int .i64 k1) ∧ w'.cell? ⟨w.heap.size, 1, none⟩ = some (.int .i64 k2) ∧ w'.cell? ⟨ab, aoff + k * 2, none⟩ = some (.int .i64 ax) ∧ w'.cell? ⟨ab, aoff + k * 2 + 1, none⟩ = some (.int .i64 ay) ∧ Ext wr w'))
    go_region_held3 (fun w' => w'.cell? ⟨w.heap.size, 0, none⟩ = some (.int .i64 k1) ∧ w'.cell? ⟨w.heap.size, 1, none⟩ = some (.int .i64 k2) ∧ w'.cell? ⟨ab, aoff + k * 2, none⟩ = some (.int .i64 ax) ∧ w'.cell? ⟨ab, aoff + k * 2 + 1, none⟩ = some (.int .i64 ay) ∧ Ext wr w')
     (first
       | with_reducible exact HKEEP.out _ hk2
       | with_reducible exact HKEEP.out _ hka
       | with_reducible exact HKEEP.out _ ((hk2.setCell (by first | (simp; done) | (simp; omega)) _).setCell (by first | (simp; done) | (simp; omega)) _)
       | with_reducible exact HKEEP.out _ (hk2.trans (Ext.alloc _ _))
       | with_reducible exact HKEEP.out _ (hBB.put _ _).ext)
     (first
       | (go_at_call 183
          (with_reducible refine (s_DivRat ax ay k1 k2 _).mono ?_)
          rw [HM.out]
          rintro e w3 ⟨rfl, hx_w3⟩
          first | (with_reducible have hBB := Boxed.grow hBB hx_w3) | (with_reducible have hBB := Boxed.firstD hx_w3) | (with_reducible have hBB := Boxed.laterD hk2 hx_w3) | skip
          first | (have b0_ := hBB.c0; have b1_ := hBB.c1; have fb_ := hBB.free) | skip
          have hk2 : Ext wr w3 := by first | with_reducible exact hk2.trans hx_w3 | with_reducible exact hka.trans hx_w3 | with_reducible exact (hk2.trans (Ext.alloc _ _)).trans hx_w3
          have hk2s := hk2.size)
       | fail)
    all_goals (go_wp2_with fail; go_meet; first | exact ⟨_, rfl, rfl, Lib.hid (hBB.put _ _)⟩ | exact ⟨_, rfl, rfl, Lib.hid (Boxed.new hk2 _ _)⟩ | exact ⟨_, rfl, rfl, Lib.hid (Boxed.new' hk2 _ _ (by simp))⟩)
   obtain ⟨g, rfl, rfl, HB1⟩ := hcut
   have g0 := HB1.out.c0
   have g1 := HB1.out.c1
   have X2 := Lib.hid (HX1.out.trans HB1.out.ext)
   have HO2 := Lib.hid (HO1.out.ext HB1.out.ext)
   have HF := Lib.hid (show divF A (k1, k2) k = if one = true then some (p, q) else none by unfold divF; rw [HAX.out, HM.out])
   have hszc := X2.out.size
   rw [World.size_alloc] at hszc
   clear hkc0 hkc1 hac0 hac1
   cases one
   ·have HN := Lib.hid (show runT (divF A (k1, k2)) n = none from runT_fail HR.out (by rw [HF.out]; rfl) hlt)
    go_wp2_with fail
    go_ret2
    exact ⟨⟨_, ret_tup (by rw [HS.out, HN.out]; rfl), by rw [HS.out, HN.out]; exact OwnR.made _ _ (by omega)⟩, HX.out.trans (X2.out.trans (Ext.alloc _ _))⟩
   ·have HR2 := Lib.hid (runT_some (x := (p, q)) HR.out (by rw [HF.out]; rfl))
    have HLR := Lib.hid (runT_len HR.out)
    go_wp2_with (first
     | (at_builtin; refine append_rats rfl _ _ rfl (w.heap.size + 1) (.slice a1 n1 p1) _ rfl (HO2.out.ext (Ext.alloc _ _)) _ 1 _ [(p, q)] rfl (Rats.one' _ _ _ _ _ (by simp)) (by rw [HLR.out]; omega) (by simp; omega) ?_; intro v2 w4 ho hg hnear; obtain ⟨a2, n2, c2, rfl, HN2⟩ := ho.var; have HO4 := Lib.hid ho; have X5 := Lib.hid (ext_grown (X2.out.trans (Ext.alloc _ _)) hg (fun j hj => by have := (HO2.out.lt j hj).1; simpa using this)); clear ho hg hnear))
    go_roundg (gk - 1)
    case measure => have := HK.out; omega
    case rel => exact ⟨k + 1, a2, n2, c2, _, Lib.hid (by have := HK.out; omega), by go_num, rfl, HR2, HO4, X5⟩
  ·have hkn : k = n := by have := HK.out; omega
   subst hkn
   go_wp2_with fail
   go_ret2
   exact ⟨⟨_, ret_tup (by rw [HS.out, HR.out]; rfl), by rw [HS.out, HR.out]; exact HO1.out.mono (Nat.le_succ _)⟩, HX.out.trans HX1.out⟩
section
variable {w : World} {ra : Option Addr} {rn rc : Nat} {ba : Option Addr} {bn bc : Nat} {t : Tb} {n m : Nat} {T0 : Nat → Nat → Rat}
structure TbN (w : World) (ra : Option Addr) (rn rc : Nat) (ba : Option Addr) (bn bc : Nat) (t : Tb) (n m : Nat) : Prop where
 tb : TbC w ra m rc ba m bc t
 rn : rn = m
 bn : bn = m
 cols : t.cols = n
theorem TInv.sizes (h : TInv n m T0 t) (hc : TbC w ra rn rc ba bn bc t) : rn = m ∧ bn = m := ⟨by rw [← hc.rows.hlen]; exact h.len, by rw [← hc.basis.hlen]; exact h.blen⟩
set_option maxHeartbeats 8000000 in
theorem s_l6Good (h : TbC w ra m rc ba m bc t) (hT : TInv n m T0 t) (hn : n ≤ 1000) (hm : m ≤ 1000) :
 Calls Tryz.prog 142 #[tbW ra m rc ba m bc (n : Int)] w fun e w' => e = .returned (.bool true) ∧ Ext w w' := by
 have hx0 := Ext.alloc w (tbBox ra m rc ba m bc (n : Int))
 have HX0 := Lib.hid hx0
 have H := Lib.hid (h.ext hx0)
 have HTB := Lib.hid (show (w.alloc (tbBox ra m rc ba m bc (n : Int))).heap[w.heap.size]? = some (.cells #[.slice ra m rc, .slice ba m bc, .int .i64 (n : Int)] 83 (0, 0)) from heapA_new _ _ _ rfl)
 have h1 := h.rows.hcap
 have h2 := h.rows.hmax
 have h3 := h.basis.hcap
 have h4 := h.basis.hmax
 have HT := Lib.hid hT
 clear h hT hx0
 have hn0 : ¬ (n : Int) < 0 := by omega
 have hn1 : ¬ (n : Int) > 1000 := by omega
 have hmm : ((m : Int) != (m : Int)) = false := by simp
 go_enter Tryz.func142, Tryz.ntmps142
 go_wp2_with fail
 go_loopg [4] m (fun gk ii wr => ∃ k : Nat, Hid (gk + k = m) ∧ ii = .int .i64 (k : Int) ∧ Hid (Ext (w.alloc (tbBox ra m rc ba m bc (n : Int))) wr))
 case atStart => exact ⟨0, Lib.hid (by omega), rfl, Lib.hid (Ext.refl _)⟩
 case round =>
  obtain ⟨g1, h_g1⟩ : ∃ x, x = gk := ⟨_, rfl⟩
  subst h_g1
  obtain ⟨wr1, h_wr1⟩ : ∃ x, x = wr := ⟨_, rfl⟩
  subst h_wr1
  obtain ⟨k, HK, rfl, HX⟩ := hrel
  have p0 := tbox0 (HX.out.blk HTB.out)
  have p1 := tbox1 (HX.out.blk HTB.out)
  have p2 := tbox2 (HX.out.blk HTB.out)
  by_cases hlt : k < m
  ·obtain ⟨zb, zoff, ya, yn, yc, hza, hz0, hrow⟩ := (H.out.ext HX.out).rows.at hlt
   subst hza
   have hyn : yn = n + m + 1 := by rw [← hrow.hlen]; exact (HT.out.row k hlt).1
   have hy1 := hrow.hcap
   have hy2 := hrow.hmax
   obtain ⟨eb, eoff, hea, he0⟩ := (H.out.ext HX.out).basis.at hlt
   subst hea
   obtain ⟨bk, hbk⟩ : ∃ x, x = t.basis[k]?.getD 0 := ⟨_, rfl⟩
   rw [← hbk] at he0
   have hbr : 0 ≤ bk ∧ bk < n + m := by
    rw [hbk, List.getElem?_eq_getElem (by rw [HT.out.blen]; exact hlt)]; exact HT.out.bas _ (List.getElem_mem _)
   have HIN := Lib.hid (fun w' => s_l1In bk 0 ((n : Int) + (m : Int) - 1) w')
   rw [show inB bk 0 ((n : Int) + (m : Int) - 1) = true by unfold inB; simp; omega] at HIN
   have hw1 : IntKind.i64.wrap ((n : Int) + (m : Int)) = (n : Int) + (m : Int) := by rw [IntKind.wrap_i64]; omega
   have hw2 : IntKind.i64.wrap ((n : Int) + (m : Int) + 1) = (n : Int) + (m : Int) + 1 := by rw [IntKind.wrap_i64]; omega
   have hw3 : IntKind.i64.wrap ((n : Int) + (m : Int) - 1) = (n : Int) + (m : Int) - 1 := by rw [IntKind.wrap_i64]; omega
   have hyy : ((yn : Int) != (n : Int) + (m : Int) + 1) = false := by simp; omega
   have hk0 : (0 : Int) ≤ (k : Int) := by omega
   have hk1 : (k : Int) < (m : Int) := by omega
   clear hrow hyn hbk hbr
   go_upto_region 7 with fail
   have hk2 : Ext wr1 wr1.drew := Ext.drew wr1
   have HKEEP := Lib.hid (fun (w' : World) (h : Ext wr1 w') => (⟨h.cellSome p0, h.cellSome p1, h.cellSome p2, h.cellSome hz0, h.cellSome he0, h⟩ : w'.cell? ⟨w.heap.size, 0, none⟩ = some (.slice (some ⟨zb, zoff, none⟩) m rc) ∧ w'.cell? ⟨w.heap.size, 1, none⟩ = some (.slice (some ⟨eb, eoff, none⟩) m bc) ∧ w'.cell? ⟨w.heap.size, 2, none⟩ = some (.int .i64 (n : Int)) ∧ w'.cell? ⟨zb, zoff + k, none⟩ = some (.slice ya yn yc) ∧ w'.cell? ⟨eb, eoff + k, none⟩ = some (.int .i64 bk) ∧ Ext wr1 w'))
   refine wp_region_held_drew (S := (fun w' => w'.cell? ⟨w.heap.size, 0, none⟩ = some (.slice (some ⟨zb, zoff, none⟩) m rc) ∧ w'.cell? ⟨w.heap.size, 1, none⟩ = some (.slice (some ⟨eb, eoff, none⟩) m bc) ∧ w'.cell? ⟨w.heap.size, 2, none⟩ = some (.int .i64 (n : Int)) ∧ w'.cell? ⟨zb, zoff + k, none⟩ = some (.slice ya yn yc) ∧ w'.cell? ⟨eb, eoff + k, none⟩ = some (.int .i64 bk) ∧ Ext wr1 w')) (by kernel_rfl) ?_ (fun hHeld => ?_)
   ·exact HKEEP.out _ hk2
   refine tk 0 ?_
   refine tk 1 ?_
   refine tk 2 ?_
   refine tk 3 ?_
   refine tk 4 ?_
   refine tk 5 ?_
   refine tk 6 ?_
   refine tk 7 ?_
   refine tk 8 ?_
   refine tk 9 ?_
   refine tk 10 ?_
   refine tk 11 ?_
   refine tk 12 ?_
   refine tk 13 ?_
   refine tk 14 ?_
   refine tk 15 ?_
   refine tk 16 ?_
   refine tk 17 ?_
   refine tk 18 ?_
   refine tk 19 ?_
   refine tk 20 ?_
   refine tk 21 ?_
   refine tk 22 ?_
   refine rd (i := 23) (h := fun K hK => ?_)
   go_simp
   (go_at_call 95; refine (HIN.out _).mono ?_; rintro e w3 ⟨rfl, rfl⟩)
   go_wp2_with fail
   refine hK.out _ _ ?_ (fun hHeld => ?_)
   ·exact HKEEP.out _ hk2
   clear hK K
   try simp only [Act.put, sA, sB, sC]
   refine tk 24 ?_
   refine tk 25 ?_
   refine wpAnyH_done (by kernel_rfl) ?_ _
   have HX2 := Lib.hid (HX.out.trans hk2)
   clear hw1 hw2 hw3 hyy p0 p1 p2 hz0 he0
   go_wp2_with fail
   go_roundg (g1 - 1)
   case measure => have := HK.out; omega
   case rel => exact ⟨k + 1, Lib.hid (by have := HK.out; omega), by go_num, HX2⟩
  ·have hkm : m = k := by have := HK.out; omega
   subst hkm
   go_wp2_with fail
   go_ret
   exact ⟨rfl, HX0.out.trans HX.out⟩
end
end Go.Proofs.YthjjfkeacobikaaGreat
