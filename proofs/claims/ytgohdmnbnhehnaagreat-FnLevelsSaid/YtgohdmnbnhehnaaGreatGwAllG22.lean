import Derived.Test.YtgohdmnbnhehnaaGreatGwAllG21
namespace Go.Proofs.YtgohdmnbnhehnaaGreat
set_option linter.unusedVariables false
set_option linter.unusedSimpArgs false
set_option maxRecDepth 100000
open Go.RowKit
theorem fit_small {r : List Int} (h : ∀ x ∈ r, -5000 ≤ x ∧ x ≤ 5000) : ratsL r = wholeL r := by
 unfold ratsL fitL
 rw [if_pos]
 rw [List.all_eq_true]
 intro x hx
 have := h x hx
 simp [inB]; omega
def giveF (A : List (List Int)) (x : List (Int × Int)) (B : List Int) (i : Nat) : Bool := decide (dotL (wholeL (A[i]?.getD [])) x = some (B[i]?.getD 0, 1))
theorem givesB_eq (A : List (List Int)) (x : List (Int × Int)) (B : List Int) : givesB A x B = (List.range A.length).all (giveF A x B) := rfl
set_option maxHeartbeats 8000000 in
theorem i_gives {w : World} {a : Option Addr} {na ca : Nat} {b : Option Addr} {nb cb : Nat} {c : Option Addr} {nc cc : Nat} {A : List (List Int)} (h : IntSS w a na ca A) {xa : Option Addr} {xn xcap : Nat} {X : List (Int × Int)} (hX : Rats w xa xn xcap X)
 {da : Option Addr} {dn dcap : Nat} {D : List Int} (hD : Ints w da dn dcap D) (hdn : na ≤ dn) (hrow : ∀ i, i < na → (A[i]?.getD []).length ≤ 70 ∧ ∀ x ∈ A[i]?.getD [], -5000 ≤ x ∧ x ≤ 5000) :
 Calls Tryz.prog 197 #[lpW a na ca b nb cb c nc cc, .slice xa xn xcap, .slice da dn dcap] w fun e w' => e = .returned (.bool (givesB A X D)) ∧ Ext w w' := by
 have hx0 := Ext.alloc w (lpBox a na ca b nb cb c nc cc)
 have HX0 := Lib.hid hx0
 have HI := Lib.hid (h.ext hx0)
 have HXX := Lib.hid (hX.ext hx0)
 have HDD := Lib.hid (hD.ext hx0)
 have HRW := Lib.hid hrow
 have ha1 := h.hcap
 have ha2 := h.hmax
 have hd1 := hD.hcap
 have hd2 := hD.hmax
 have HLA := Lib.hid h.hlen
 have HE := Lib.hid (show givesB A X D = (List.range na).all (giveF A X D) by rw [givesB_eq, HLA.out])
 clear h hX hD hx0 hrow
 go_enter Tryz.func197, Tryz.ntmps197
 go_wp2_with fail
 go_loopg [14] na (fun gk ii wr => ∃ k : Nat, Hid (gk + k = na) ∧ ii = .int .i64 (k : Int) ∧ Hid ((List.range k).all (giveF A X D) = true) ∧ Hid (Ext (w.alloc (lpBox a na ca b nb cb c nc cc)) wr))
 case atStart => exact ⟨0, Lib.hid (by omega), rfl, Lib.hid rfl, Lib.hid (Ext.refl _)⟩
 case round =>
  obtain ⟨g1, h_g1⟩ : ∃ x, x = gk := ⟨_, rfl⟩
  subst h_g1
  obtain ⟨wr1, h_wr1⟩ : ∃ x, x = wr := ⟨_, rfl⟩
  subst h_wr1
  obtain ⟨k, HK, rfl, HA, HX⟩ := hrel
  have hsz := HX.out.size
  rw [World.size_alloc] at hsz
  by_cases hlt : k < na
  ·obtain ⟨gb, goff, ra, rn, rc, hga, hgc, hrow⟩ := (HI.out.ext HX.out).at hlt
   subst hga
   have hrn : rn ≤ 70 := by rw [← hrow.hlen]; exact (HRW.out k hlt).1
   have HRT := Lib.hid (i_rats hrow (by omega))
   rw [fit_small (HRW.out k hlt).2] at HRT
   clear hrow
   go_wp2_with fail
   refine HRT.out.mono ?_
   rintro e w2 ⟨⟨v2, rfl, ho2⟩, hx2⟩
   obtain ⟨a2, n2, c2, rfl, hn2⟩ := ho2.var
   have X2 := Lib.hid (HX.out.trans hx2)
   have HD := Lib.hid (i_DotRat ho2.rats (HXX.out.ext X2.out))
   clear ho2 hx2 hn2
   obtain ⟨dv, hdv⟩ : ∃ d, d = dotL (wholeL (A[k]?.getD [])) X := ⟨_, rfl⟩
   have HG := Lib.hid (show giveF A X D k = decide (dv = some (D[k]?.getD 0, 1)) by rw [hdv]; rfl)
   rw [← hdv] at HD
   clear hdv
   obtain ⟨db, doff, hda, hdc⟩ := (HDD.out.ext X2.out).at (show k < dn by omega)
   subst hda
   obtain ⟨d, hd⟩ : ∃ d, d = D[k]?.getD 0 := ⟨_, rfl⟩
   rw [← hd] at HG hdc
   clear hd
   cases dv with
   | none =>
     rw [show optR none = ((0, 0), false) from rfl] at HD
     have HF := Lib.hid (show givesB A X D = false by rw [HE.out]; exact allR_false hlt (by rw [HG.out]; rfl))
     go_wp2_with fail
     refine HD.out.mono ?_
     rintro e w3 ⟨rfl, hx3⟩
     have X3 := Lib.hid (X2.out.trans hx3)
     clear hx3 hdc
     obtain ⟨E, hE⟩ : ∃ E, E = w3.alloc (.cells #[.int .i64 0, .int .i64 0] 85) := ⟨_, rfl⟩
     have XE := Lib.hid (show Ext w3 E by rw [hE]; exact Ext.alloc _ _)
     go_upto_region 5 with fail
     rw [← hE]
     clear hE
     have hk2 : Ext E E.drew := Ext.drew E
     refine wp_region_held_drew (S := (fun w' => Ext E w')) (by kernel_rfl) ?_ (fun hHeld => ?_)
     ·exact hk2
     refine tk 0 ?_
     refine tk 1 ?_
     refine tk 2 ?_
     refine sk 3 ?_
     refine sk 4 ?_
     refine sk 5 ?_
     refine sk 6 ?_
     refine sk 7 ?_
     refine sk 8 ?_
     refine sk 9 ?_
     refine tk 10 ?_
     refine wpAnyH_done (by kernel_rfl) ?_ _
     go_wp2_with fail
     go_ret
     exact ⟨ret_bool HF.out.symm, ((HX0.out.trans X3.out).trans XE.out).trans hk2⟩
   | some r =>
     obtain ⟨r1, r2⟩ := r
     rw [show optR (some (r1, r2)) = ((r1, r2), true) from rfl] at HD
     go_wp2_with fail
     refine HD.out.mono ?_
     rintro e w3 ⟨rfl, hx3⟩
     replace hdc := hx3.cellSome hdc
     have X3 := Lib.hid (X2.out.trans hx3)
     clear hx3
     obtain ⟨E, hE⟩ : ∃ E, E = w3.alloc (.cells #[.int .i64 r1, .int .i64 r2] 85) := ⟨_, rfl⟩
     have hxE : Ext w3 E := by rw [hE]; exact Ext.alloc _ _
     have XE := Lib.hid (X3.out.trans hxE)
     have e0 := hxE.cellSome hdc
     have b0 : E.cell? ⟨w3.heap.size, 0, none⟩ = some (.int .i64 r1) := by rw [hE]; simp
     have b1 : E.cell? ⟨w3.heap.size, 1, none⟩ = some (.int .i64 r2) := by rw [hE]; simp
     go_upto_region 5 with fail
     rw [← hE]
     clear hE hdc hxE
     have hkd : (k : Int) < (dn : Int) := by omega
     have hk0 : (0 : Int) ≤ (k : Int) := by omega
     have hk2 : Ext E E.drew := Ext.drew E
     have HKEEP := Lib.hid (fun (w' : World) (h : Ext E w') => (⟨h.cellSome e0, h.cellSome b0, h.cellSome b1, h⟩ : w'.cell? ⟨db, doff + k, none⟩ = some (.int .i64 d) ∧ w'.cell? ⟨w3.heap.size, 0, none⟩ = some (.int .i64 r1) ∧ w'.cell? ⟨w3.heap.size, 1, none⟩ = some (.int .i64 r2) ∧ Ext E w'))
     have HG2 := Lib.hid (show giveF A X D k = ((r1 == d) && (r2 == 1)) by rw [HG.out, Bool.eq_iff_iff]; simp)
     cases hx1 : (r1 == d)
     all_goals
      cases hy1 : (r2 == 1)
     all_goals
      have HG3 := Lib.hid HG2.out
      rw [hx1, hy1] at HG3
      go_region_held3 (fun w' => w'.cell? ⟨db, doff + k, none⟩ = some (.int .i64 d) ∧ w'.cell? ⟨w3.heap.size, 0, none⟩ = some (.int .i64 r1) ∧ w'.cell? ⟨w3.heap.size, 1, none⟩ = some (.int .i64 r2) ∧ Ext E w')
       (first
         | with_reducible exact HKEEP.out _ hk2)
       (first
         | (go_at_call 87
            (with_reducible refine (i_whole _ _).mono ?_)
            rintro e w5 ⟨rfl, hx5⟩
            have hk2 : Ext E w5 := hk2.trans hx5)
         | fail)
      have X5 := Lib.hid (XE.out.trans hk2)
      clear hk2
     all_goals try (
      have HF := Lib.hid (show givesB A X D = false by rw [HE.out]; exact allR_false hlt (by rw [HG3.out]; rfl))
      go_wp2_with fail
      go_ret
      exact ⟨ret_bool HF.out.symm, HX0.out.trans X5.out⟩)
     have HT := Lib.hid (show (List.range (k + 1)).all (giveF A X D) = true by rw [allR_succ, HA.out, HG3.out]; rfl)
     go_wp2_with fail
     go_roundg (g1 - 1)
     case measure => have := HK.out; omega
     case rel => exact ⟨k + 1, Lib.hid (by have := HK.out; omega), by go_num, HT, X5⟩
  ·have hkn : na = k := by have := HK.out; omega
   subst hkn
   go_wp2_with fail
   go_ret
   exact ⟨ret_bool (by rw [HE.out, HA.out]), HX0.out.trans HX.out⟩
section
variable {w : World} {a : Option Addr} {na ca : Nat} {b : Option Addr} {nb cb : Nat} {c : Option Addr} {nc cc : Nat} {A : List (List Int)} {B : List Int} {C : List (Int × Int)}
theorem okLP_rows (h : LpC w a na ca b nb cb c nc cc A B C) (ok : okLP A B C = true) : nc ≤ 70 ∧ na ≤ 8 ∧ nb = na ∧ (∀ i, i < na → (A[i]?.getD []).length = nc) ∧ (∀ i, i < na → (A[i]?.getD []).length ≤ 70 ∧ ∀ x ∈ A[i]?.getD [], -5000 ≤ x ∧ x ≤ 5000) ∧ ∀ x ∈ B, -5000 ≤ x ∧ x ≤ 5000 := by
 have l1 := h.a.hlen
 have l2 := h.b.hlen
 have l3 := h.c.hlen
 rw [okLP_eq] at ok
 simp only [Bool.and_eq_true, decide_eq_true_eq, List.all_eq_true, okRowI, inB] at ok
 obtain ⟨h1, h2, h3, h4, h5, h6⟩ := ok
 have key : ∀ i, i < na → (A[i]?.getD []).length = nc ∧ ∀ x ∈ A[i]?.getD [], -5000 ≤ x ∧ x ≤ 5000 := by
  intro i hi
  rw [List.getElem?_eq_getElem (by omega), Option.getD_some]
  have := h5 _ (List.getElem_mem (l := A) (n := i) (by omega))
  exact ⟨by omega, this.2⟩
 exact ⟨by omega, by omega, by omega, fun i hi => (key i hi).1, fun i hi => ⟨by have := (key i hi).1; omega, (key i hi).2⟩, h6⟩
set_option maxHeartbeats 4000000 in
theorem i_IsFeasible (h : LpC w a na ca b nb cb c nc cc A B C) {xa : Option Addr} {xn xcap : Nat} {X : List (Int × Int)} (hX : Rats w xa xn xcap X) :
 Calls Tryz.prog 193 #[lpW a na ca b nb cb c nc cc, .slice xa xn xcap] w fun e w' => e = .returned (.bool (okLP A B C && feasB A B C.length X)) ∧ Ext w w' := by
 have hx0 := Ext.alloc w (lpBox a na ca b nb cb c nc cc)
 have HX0 := Lib.hid hx0
 have H := Lib.hid (h.ext hx0)
 have HXX := Lib.hid (hX.ext hx0)
 have HLC := Lib.hid h.c.hlen
 have HLA := Lib.hid h.a.hlen
 have hc1 := h.c.hcap
 have hc2 := h.c.hmax
 have HO := Lib.hid (fun ok => okLP_rows h ok)
 have HV := Lib.hid (i_IsValidLP H.out)
 clear h hX hx0
 cases hok : okLP A B C
 ·rw [hok] at HV
  clear hok
  go_enter Tryz.func193, Tryz.ntmps193
  go_wp2_with fail
  refine HV.out.mono ?_
  rintro e w1 ⟨rfl, hx⟩
  have X1 := Lib.hid (HX0.out.trans hx)
  clear hx
  go_wp2_with fail
  go_ret
  exact ⟨rfl, X1.out⟩
 ·rw [hok] at HV
  have HR := Lib.hid (HO.out hok)
  obtain ⟨r1, r2, r3, _, _, _⟩ := HO.out hok
  subst r3
  have HN := Lib.hid (fun (w' : World) (hx : Ext (w.alloc (lpBox a nb ca b nb cb c nc cc)) w') => i_notNegative (HXX.out.ext hx) nc)
  have HE := Lib.hid (show (true && feasB A B C.length X) = ((decide (X.length = nc) && posV X) && givesB A X B) by unfold feasB; rw [HLC.out, Bool.true_and, Bool.and_assoc])
  clear hok
  cases hn : (decide (X.length = nc) && posV X)
  ·rw [hn] at HN HE
   clear hn
   go_enter Tryz.func193, Tryz.ntmps193
   go_wp2_with fail
   refine HV.out.mono ?_
   rintro e w1 ⟨rfl, hx⟩
   have hcc : w1.cell? ⟨w.heap.size, 2, none⟩ = some (.slice c nc cc) := hx.cellSome (by simp)
   have X1 := Lib.hid hx
   clear hx
   go_wp2_with fail
   refine (HN.out _ X1.out).mono ?_
   rintro e w2 ⟨rfl, hx⟩
   have X2 := Lib.hid ((HX0.out.trans X1.out).trans hx)
   clear hx
   go_wp2_with fail
   go_ret
   exact ⟨ret_bool (by rw [HE.out]; rfl), X2.out⟩
  ·rw [hn] at HN HE
   clear hn
   go_enter Tryz.func193, Tryz.ntmps193
   go_wp2_with fail
   refine HV.out.mono ?_
   rintro e w1 ⟨rfl, hx⟩
   have hca : w1.cell? ⟨w.heap.size, 0, none⟩ = some (.slice a nb ca) := hx.cellSome (by simp)
   have hcb : w1.cell? ⟨w.heap.size, 1, none⟩ = some (.slice b nb cb) := hx.cellSome (by simp)
   have hcc : w1.cell? ⟨w.heap.size, 2, none⟩ = some (.slice c nc cc) := hx.cellSome (by simp)
   have X1 := Lib.hid hx
   clear hx
   go_wp2_with fail
   refine (HN.out _ X1.out).mono ?_
   rintro e w2 ⟨rfl, hx⟩
   replace hca := hx.cellSome hca
   replace hcb := hx.cellSome hcb
   replace hcc := hx.cellSome hcc
   have X2 := Lib.hid (X1.out.trans hx)
   clear hx
   have HG := Lib.hid (i_gives (b := b) (nb := nb) (cb := cb) (c := c) (nc := nc) (cc := cc) (H.out.ext X2.out).a (HXX.out.ext X2.out) (H.out.ext X2.out).b (Nat.le_refl _) HR.out.2.2.2.2.1)
   go_wp2_with fail
   refine HG.out.mono ?_
   rintro e w3 ⟨rfl, hx⟩
   have X3 := Lib.hid ((HX0.out.trans X2.out).trans hx)
   clear hx
   go_wp2_with fail
   go_ret
   exact ⟨ret_bool (by rw [HE.out]; rfl), X3.out⟩
end
end Go.Proofs.YtgohdmnbnhehnaaGreat
namespace Go.Proofs.YtgohdmnbnhehnaaGreat
set_option linter.unusedVariables false
set_option linter.unusedSimpArgs false
set_option maxRecDepth 100000
open Go.RowKit
structure LrC (w : World) (xa : Option Addr) (xn xc : Nat) (ya : Option Addr) (yn yc : Nat) (ra : Option Addr) (rn rc : Nat) (r : LpR) : Prop where
 x : Rats w xa xn xc r.X
 y : Rats w ya yn yc r.Y
 ray : Rats w ra rn rc r.ray
theorem LrC.ext {w w' : World} {xa : Option Addr} {xn xc : Nat} {ya : Option Addr} {yn yc : Nat} {ra : Option Addr} {rn rc : Nat} {r : LpR} (h : LrC w xa xn xc ya yn yc ra rn rc r) (hx : Ext w w') : LrC w' xa xn xc ya yn yc ra rn rc r := ⟨h.x.ext hx, h.y.ext hx, h.ray.ext hx⟩
abbrev lrW (r : LpR) (xa : Option Addr) (xn xc : Nat) (ya : Option Addr) (yn yc : Nat) (ra : Option Addr) (rn rc : Nat) : Value :=
 .agg #[.int .i64 r.status, .slice xa xn xc, .slice ya yn yc, .slice ra rn rc, .int .i64 r.value.1, .int .i64 r.value.2, .int .i64 r.pivots]
abbrev lrBox (r : LpR) (xa : Option Addr) (xn xc : Nat) (ya : Option Addr) (yn yc : Nat) (ra : Option Addr) (rn rc : Nat) : Obj :=
 .cells #[.int .i64 r.status, .slice xa xn xc, .slice ya yn yc, .slice ra rn rc, .int .i64 r.value.1, .int .i64 r.value.2, .int .i64 r.pivots] 87
theorem colL_small {A : List (List Int)} (h : ∀ i, i < A.length → ∀ x ∈ A[i]?.getD [], -5000 ≤ x ∧ x ≤ 5000) (j : Nat) : ∀ x ∈ colL A j, -5000 ≤ x ∧ x ≤ 5000 := by
 intro x hx
 obtain ⟨r, hr, rfl⟩ := List.mem_map.1 hx
 obtain ⟨i, hi, rfl⟩ := List.mem_iff_getElem.1 hr
 by_cases hj : j < A[i].length
 ·rw [List.getElem?_eq_getElem hj]
  exact h i hi _ (by rw [List.getElem?_eq_getElem hi]; exact List.getElem_mem _)
 ·rw [List.getElem?_eq_none (by omega)]; simp
theorem colL_len (A : List (List Int)) (j : Nat) : (colL A j).length = A.length := by simp [colL]
theorem boundI_none {A : List (List Int)} {Y C : List (Int × Int)} {j : Nat} (h : dotL Y (wholeL (colL A j)) = none) : boundI A Y C j = false := by unfold boundI; rw [h]
theorem boundI_some {A : List (List Int)} {Y C : List (Int × Int)} {j : Nat} {v c : Int × Int} (h : dotL Y (wholeL (colL A j)) = some v) (hc : C[j]?.getD (0, 0) = c) : boundI A Y C j = ((subR c v).2 && decide (0 ≤ (subR c v).1.1)) := by unfold boundI; rw [h, hc]
def meetO (x y : Option (Int × Int)) (v : Int × Int) : Bool := match x, y with | some x, some y => decide (x = y) && decide (x = v) | _, _ => false
theorem meetB_eq (B : List Int) (C : List (Int × Int)) (r : LpR) : meetB B C r = meetO (dotL C r.X) (dotL r.Y (wholeL B)) r.value := rfl
theorem meetO_no (x : Option (Int × Int)) (v : Int × Int) : meetO none x v = false ∧ meetO x none v = false := by cases x <;> exact ⟨rfl, rfl⟩
theorem meetO_some (x1 x2 y1 y2 v1 v2 : Int) : meetO (some (x1, x2)) (some (y1, y2)) (v1, v2) = (((x1 == y1) && (x2 == y2)) && ((x1 == v1) && (x2 == v2))) := by
 simp only [meetO]; rw [Bool.eq_iff_iff]; simp
section
variable {w : World} {a : Option Addr} {na ca : Nat} {b : Option Addr} {nb cb : Nat} {c : Option Addr} {nc cc : Nat} {A : List (List Int)} {B : List Int} {C : List (Int × Int)}
 {xa : Option Addr} {xn xc : Nat} {ya : Option Addr} {yn yc : Nat} {ra : Option Addr} {rn rc : Nat} {r : LpR}
structure Two (w W : World) (a : Option Addr) (na ca : Nat) (b : Option Addr) (nb cb : Nat) (c : Option Addr) (nc cc : Nat) (xa : Option Addr) (xn xc : Nat) (ya : Option Addr) (yn yc : Nat) (ra : Option Addr) (rn rc : Nat) (r : LpR) (A : List (List Int)) (B : List Int) (C : List (Int × Int)) : Prop where
 ext : Ext ((w.alloc (lpBox a na ca b nb cb c nc cc)).alloc (lrBox r xa xn xc ya yn yc ra rn rc)) W
 lp : LpC W a na ca b nb cb c nc cc A B C
 lr : LrC W xa xn xc ya yn yc ra rn rc r
theorem Two.grow {W W' : World} (h : Two w W a na ca b nb cb c nc cc xa xn xc ya yn yc ra rn rc r A B C) (hx : Ext W W') : Two w W' a na ca b nb cb c nc cc xa xn xc ya yn yc ra rn rc r A B C := ⟨h.ext.trans hx, h.lp.ext hx, h.lr.ext hx⟩
theorem Two.all {W : World} (h : Two w W a na ca b nb cb c nc cc xa xn xc ya yn yc ra rn rc r A B C) : Ext w W := ((Ext.alloc _ _).trans (Ext.alloc _ _)).trans h.ext
theorem Two.p {W : World} (h : Two w W a na ca b nb cb c nc cc xa xn xc ya yn yc ra rn rc r A B C) : W.cell? ⟨w.heap.size, 0, none⟩ = some (.slice a na ca) ∧ W.cell? ⟨w.heap.size, 1, none⟩ = some (.slice b nb cb) ∧ W.cell? ⟨w.heap.size, 2, none⟩ = some (.slice c nc cc) :=
 ⟨h.ext.cellSome (by simp), h.ext.cellSome (by simp), h.ext.cellSome (by simp)⟩
theorem Two.q {W : World} (h : Two w W a na ca b nb cb c nc cc xa xn xc ya yn yc ra rn rc r A B C) : W.cell? ⟨w.heap.size + 1, 0, none⟩ = some (.int .i64 r.status) ∧ W.cell? ⟨w.heap.size + 1, 1, none⟩ = some (.slice xa xn xc) ∧ W.cell? ⟨w.heap.size + 1, 2, none⟩ = some (.slice ya yn yc) ∧ W.cell? ⟨w.heap.size + 1, 3, none⟩ = some (.slice ra rn rc) ∧ W.cell? ⟨w.heap.size + 1, 4, none⟩ = some (.int .i64 r.value.1) ∧ W.cell? ⟨w.heap.size + 1, 5, none⟩ = some (.int .i64 r.value.2) :=
 ⟨h.ext.cellSome (by simp), h.ext.cellSome (by simp), h.ext.cellSome (by simp), h.ext.cellSome (by simp), h.ext.cellSome (by simp), h.ext.cellSome (by simp)⟩
set_option maxHeartbeats 16000000 in
theorem i_CheckLP1 (h : LpC w a na ca b nb cb c nc cc A B C) (h' : LrC w xa xn xc ya yn yc ra rn rc r) (ok : okLP A B C = true) (hs : r.status = 1) :
 Calls Tryz.prog 137 #[lpW a na ca b nb cb c nc cc, lrW r xa xn xc ya yn yc ra rn rc] w fun e w' => e = .returned (.bool (checkG boundI A B C r)) ∧ Ext w w' := by
 obtain ⟨r1, r2, r3, r4, r5, r6⟩ := okLP_rows h ok
 subst r3
 have T0 := Lib.hid (show Two w ((w.alloc (lpBox a nb ca b nb cb c nc cc)).alloc (lrBox r xa xn xc ya yn yc ra rn rc)) a nb ca b nb cb c nc cc xa xn xc ya yn yc ra rn rc r A B C from ⟨Ext.refl _, (h.ext (Ext.alloc _ _)).ext (Ext.alloc _ _), (h'.ext (Ext.alloc _ _)).ext (Ext.alloc _ _)⟩)
 have hy1 := h'.y.hcap
 have hy2 := h'.y.hmax
 have hc1 := h.c.hcap
 have hc2 := h.c.hmax
 have hb1 := h.b.hcap
 have hb2 := h.b.hmax
 have HLC := Lib.hid h.c.hlen
 have HLB := Lib.hid h.b.hlen
 have HLA := Lib.hid h.a.hlen
 have HLY := Lib.hid h'.y.hlen
 have HE := Lib.hid (show checkG boundI A B C r = (feasB A B C.length r.X && (decide (r.Y.length = B.length) && ((List.range C.length).all (boundI A r.Y C) && meetB B C r))) by unfold checkG; rw [if_pos hs])
 have HR4 := Lib.hid r4
 have HCS := Lib.hid (fun j => colL_small (A := A) (fun i hi => (r5 i (by have := h.a.hlen; omega)).2) j)
 have HBS := Lib.hid r6
 obtain ⟨st, rX, rY, rr, rv, rp⟩ := r
 obtain ⟨v1, v2⟩ := rv
 simp only at hs HE HLY
 subst hs
 have HV := Lib.hid (i_IsValidLP T0.out.lp)
 rw [ok] at HV
 clear h h' r4 r5 r6
 have HFB := Lib.hid (fun (W : World) (t : Two w W a nb ca b nb cb c nc cc xa xn xc ya yn yc ra rn rc ⟨1, rX, rY, rr, (v1, v2), rp⟩ A B C) => i_IsFeasible t.lp t.lr.x)
 rw [ok] at HFB
 simp only [Bool.true_and] at HFB
 cases hf : feasB A B C.length rX
 ·rw [hf] at HFB HE
  clear hf
  go_enter Tryz.func137, Tryz.ntmps137
  go_wp2_with fail
  refine HV.out.mono ?_
  rintro e w1 ⟨rfl, hx⟩
  have T1 := Lib.hid (T0.out.grow hx)
  obtain ⟨p0, p1, p2⟩ := T1.out.p
  obtain ⟨q0, q1, q2, q3, q4, q5⟩ := T1.out.q
  clear hx
  go_wp2_with fail
  refine (HFB.out _ T1.out).mono ?_
  rintro e w2 ⟨rfl, hx⟩
  have T2 := Lib.hid (T1.out.grow hx)
  clear hx
  go_wp2_with fail
  go_ret
  exact ⟨ret_bool (by rw [HE.out]; rfl), T2.out.all⟩
 ·rw [hf] at HFB HE
  clear hf
  by_cases hyb : yn = nb
  ·subst hyb
   have hyy : ((yn : Int) != (yn : Int)) = false := by simp
   have HE2 := Lib.hid (show checkG boundI A B C ⟨1, rX, rY, rr, (v1, v2), rp⟩ = ((List.range nc).all (boundI A rY C) && meetB B C ⟨1, rX, rY, rr, (v1, v2), rp⟩) by rw [HE.out, HLY.out, HLB.out, HLC.out, decide_eq_true rfl]; rfl)
   go_enter Tryz.func137, Tryz.ntmps137
   go_wp2_with fail
   refine HV.out.mono ?_
   rintro e w1 ⟨rfl, hx⟩
   have T1 := Lib.hid (T0.out.grow hx)
   obtain ⟨p0, p1, p2⟩ := T1.out.p
   obtain ⟨q0, q1, q2, q3, q4, q5⟩ := T1.out.q
   clear hx
   go_wp2_with fail
   refine (HFB.out _ T1.out).mono ?_
   rintro e w2 ⟨rfl, hx⟩
   have T2 := Lib.hid (T1.out.grow hx)
   clear hx p0 p1 p2 q0 q1 q2 q3 q4 q5
   obtain ⟨p0, p1, p2⟩ := T2.out.p
   obtain ⟨q0, q1, q2, q3, q4, q5⟩ := T2.out.q
   go_wp2_with fail
   go_loopg [46] nc (fun gk ii wr => ∃ k : Nat, Hid (gk + k = nc) ∧ ii = .int .i64 (k : Int) ∧ Hid ((List.range k).all (boundI A rY C) = true) ∧ Hid (Two w wr a yn ca b yn cb c nc cc xa xn xc ya yn yc ra rn rc ⟨1, rX, rY, rr, (v1, v2), rp⟩ A B C))
   case atStart => exact ⟨0, Lib.hid (by omega), rfl, Lib.hid rfl, T2⟩
   case round =>
    obtain ⟨g1, h_g1⟩ : ∃ x, x = gk := ⟨_, rfl⟩
    subst h_g1
    obtain ⟨wr1, h_wr1⟩ : ∃ x, x = wr := ⟨_, rfl⟩
    subst h_wr1
    obtain ⟨k, HK, rfl, HA, T⟩ := hrel
    clear p0 p1 p2 q0 q1 q2 q3 q4 q5
    by_cases hlt : k < nc
    ·obtain ⟨zb, zoff, cx, cy, hza, hxy, hz0, hz1⟩ := T.out.lp.c.at hlt
     subst hza
     have HXY := Lib.hid hxy
     clear hxy
     obtain ⟨E, hE⟩ : ∃ E, E = wr1.alloc (.cells #[.int .i64 cx, .int .i64 cy] 85) := ⟨_, rfl⟩
     have hxE : Ext wr1 E := by rw [hE]; exact Ext.alloc _ _
     have TE := Lib.hid (T.out.grow hxE)
     have HB0 := Lib.hid (show Boxed wr1 E wr1.heap.size cx cy by rw [hE]; exact Boxed.new (Ext.refl _) _ _)
     go_upto_region 10 with fail
     rw [← hE]
     clear hE hxE hz0 hz1
     obtain ⟨p0, p1, p2⟩ := TE.out.p
     obtain ⟨q0, q1, q2, q3, q4, q5⟩ := TE.out.q
     have HCL := Lib.hid (colL_len A k)
     obtain ⟨dv, hdv⟩ : ∃ d, d = dotL rY (wholeL (colL A k)) := ⟨_, rfl⟩
     have HDV := Lib.hid hdv.symm
     obtain ⟨d1, d2, dok, hdd⟩ : ∃ x y ok, optR dv = ((x, y), ok) := ⟨_, _, _, rfl⟩
     have HDD := Lib.hid hdd
     have HRC := Lib.hid (show ratsL (colL A k) = wholeL (colL A k) from fit_small (HCS.out k))
     clear hdv hdd
     go_upto_region 10 with fail
     go_cut [7, 8] (fun sx so wx => ∃ g : Nat, sx = .pointer (some ⟨g, 0, none⟩) ∧ so = .bool dok ∧ Hid (Boxed E wx g d1 d2))
     case first =>
      have hk2 : Ext E E.drew := Ext.drew E
      have hka : Ext E (E.alloc (.cells #[.int .i64 0, .int .i64 0] 85)).drew := (Ext.alloc _ _).trans (Ext.drew _)
      have HKEEP := Lib.hid (fun (w' : World) (h : Ext E w') => (⟨h.cellSome p0, h.cellSome p1, h.cellSome p2, h.cellSome q2, h⟩ : w'.cell? ⟨w.heap.size, 0, none⟩ = some (.slice a yn ca) ∧ w'.cell? ⟨w.heap.size, 1, none⟩ = some (.slice b yn cb) ∧ w'.cell? ⟨w.heap.size, 2, none⟩ = some (.slice (some ⟨zb, zoff, none⟩) nc cc) ∧ w'.cell? ⟨w.heap.size + 1, 2, none⟩ = some (.slice ya yn yc) ∧ Ext E w'))
      go_region_held3 (fun w' => w'.cell? ⟨w.heap.size, 0, none⟩ = some (.slice a yn ca) ∧ w'.cell? ⟨w.heap.size, 1, none⟩ = some (.slice b yn cb) ∧ w'.cell? ⟨w.heap.size, 2, none⟩ = some (.slice (some ⟨zb, zoff, none⟩) nc cc) ∧ w'.cell? ⟨w.heap.size + 1, 2, none⟩ = some (.slice ya yn yc) ∧ Ext E w')
       (first
         | with_reducible exact HKEEP.out _ hk2
         | with_reducible exact HKEEP.out _ hka
         | with_reducible exact HKEEP.out _ ((hk2.setCell (by first | (simp; done) | (simp; omega)) _).setCell (by first | (simp; done) | (simp; omega)) _)
         | with_reducible exact HKEEP.out _ (hk2.trans (Ext.alloc _ _))
         | with_reducible exact HKEEP.out _ (hBB.put _ _).ext)
       (first
         | (go_at_call 195
            (with_reducible refine (i_column (b := b) (nb := yn) (cb := cb) (c := some ⟨zb, zoff, none⟩) (nc := nc) (cc := cc) (TE.out.lp.a.ext (by first | with_reducible exact hk2 | with_reducible exact hka | with_reducible exact hk2.trans (Ext.alloc _ _))) HR4.out hlt (by omega) (by omega)).mono ?_)
            rintro e w3 ⟨⟨v3, rfl, ho3⟩, hx_w3⟩
            obtain ⟨a3, n3, c3, rfl, hn3⟩ := ho3.var
            first | (with_reducible have hBB := Boxed.grow hBB hx_w3) | (with_reducible have hBB := Boxed.firstD hx_w3) | (with_reducible have hBB := Boxed.laterD hk2 hx_w3) | skip
            first | (have b0_ := hBB.c0; have b1_ := hBB.c1; have fb_ := hBB.free) | skip
            have hk2 : Ext E w3 := by first | with_reducible exact hk2.trans hx_w3 | with_reducible exact hka.trans hx_w3 | with_reducible exact (hk2.trans (Ext.alloc _ _)).trans hx_w3
            have hk2s := hk2.size)
         | (go_at_call 67
            (with_reducible refine (i_rats (by first | with_reducible exact ho3.ints | with_reducible exact (ho3.ext (Ext.alloc _ _)).ints) (by have := hn3.out; have := HCL.out; have := HLA.out; omega)).mono ?_)
            rw [HRC.out]
            rintro e w4 ⟨⟨v4, rfl, ho4⟩, hx_w4⟩
            obtain ⟨a4, n4, c4, rfl, hn4⟩ := ho4.var
            first | (with_reducible have hBB := Boxed.grow hBB hx_w4) | (with_reducible have hBB := Boxed.firstD hx_w4) | (with_reducible have hBB := Boxed.laterD hk2 hx_w4) | skip
            first | (have b0_ := hBB.c0; have b1_ := hBB.c1; have fb_ := hBB.free) | skip
            have hk2 : Ext E w4 := by first | with_reducible exact hk2.trans hx_w4 | with_reducible exact hka.trans hx_w4 | with_reducible exact (hk2.trans (Ext.alloc _ _)).trans hx_w4
            have hk2s := hk2.size)
         | (go_at_call 194
            (with_reducible refine (i_DotRat (TE.out.lr.y.ext (by first | with_reducible exact hk2 | with_reducible exact hka | with_reducible exact hk2.trans (Ext.alloc _ _))) (by first | with_reducible exact ho4.rats | with_reducible exact (ho4.ext (Ext.alloc _ _)).rats)).mono ?_)
            rw [HDV.out, HDD.out]
            rintro e w5 ⟨rfl, hx_w5⟩
            first | (with_reducible have hBB := Boxed.grow hBB hx_w5) | (with_reducible have hBB := Boxed.firstD hx_w5) | (with_reducible have hBB := Boxed.laterD hk2 hx_w5) | skip
            first | (have b0_ := hBB.c0; have b1_ := hBB.c1; have fb_ := hBB.free) | skip
            have hk2 : Ext E w5 := by first | with_reducible exact hk2.trans hx_w5 | with_reducible exact hka.trans hx_w5 | with_reducible exact (hk2.trans (Ext.alloc _ _)).trans hx_w5
            have hk2s := hk2.size)
         | fail)
      all_goals (go_wp2_with fail; go_meet; first | exact ⟨_, rfl, rfl, Lib.hid (hBB.put _ _)⟩ | exact ⟨_, rfl, rfl, Lib.hid (Boxed.new hk2 _ _)⟩ | exact ⟨_, rfl, rfl, Lib.hid (Boxed.new' hk2 _ _ (by simp))⟩)
     obtain ⟨g, rfl, rfl, HB1⟩ := hcut
     have HB2 := Lib.hid (HB0.out.grow HB1.out.ext)
     have TW := Lib.hid (TE.out.grow HB1.out.ext)
     clear p0 p1 p2 q0 q1 q2 q3 q4 q5
     have c0 := HB2.out.c0
     have c1 := HB2.out.c1
     have g0 := HB1.out.c0
     have g1' := HB1.out.c1
     obtain ⟨l1, l2, lok, hll⟩ : ∃ x y ok, subR (cx, cy) (d1, d2) = ((x, y), ok) := ⟨_, _, _, rfl⟩
     have HSB := Lib.hid (i_SubRat cx cy d1 d2 wc)
     rw [hll] at HSB
     have HLL := Lib.hid hll
     clear hll
     go_wp2_with fail
     refine HSB.out.mono ?_
     rintro e w6 ⟨rfl, hx⟩
     have TX := Lib.hid ((TW.out.grow hx).grow (Ext.alloc _ (.cells #[.int .i64 l1, .int .i64 l2] 85)))
     clear hx
     cases dv with
     | none =>
       have hdk : dok = false := by have := HDD.out; simp only [optR] at this; simpa using (congrArg Prod.snd this).symm
       subst hdk
       have HF := Lib.hid (show checkG boundI A B C ⟨1, rX, rY, rr, (v1, v2), rp⟩ = false by rw [HE2.out, allR_false hlt (boundI_none HDV.out)]; rfl)
       go_wp2_with fail
       go_ret
       exact ⟨ret_bool HF.out.symm, TX.out.all⟩
     | some dvv =>
       have hdk : dok = true := by have := HDD.out; simp only [optR] at this; simpa using (congrArg Prod.snd this).symm
       have hdv2 : dvv = (d1, d2) := by have := HDD.out; simp only [optR] at this; simpa using congrArg Prod.fst this
       subst hdk hdv2
       have HBI := Lib.hid (show boundI A rY C k = (lok && decide (0 ≤ l1)) by rw [boundI_some HDV.out HXY.out, HLL.out])
       cases lok
       ·have HF := Lib.hid (show checkG boundI A B C ⟨1, rX, rY, rr, (v1, v2), rp⟩ = false by rw [HE2.out, allR_false hlt (by rw [HBI.out]; rfl)]; rfl)
        go_wp2_with fail
        go_ret
        exact ⟨ret_bool HF.out.symm, TX.out.all⟩
       ·by_cases hl0 : l1 < 0
        ·have HF := Lib.hid (show checkG boundI A B C ⟨1, rX, rY, rr, (v1, v2), rp⟩ = false by rw [HE2.out, allR_false hlt (by rw [HBI.out, decide_eq_false (by omega)]; rfl)]; rfl)
         go_wp2_with fail
         go_ret
         exact ⟨ret_bool HF.out.symm, TX.out.all⟩
        ·have HT := Lib.hid (show (List.range (k + 1)).all (boundI A rY C) = true by rw [allR_succ, HA.out, HBI.out, decide_eq_true (by omega)]; rfl)
         go_wp2_with fail
         go_roundg (g1 - 1)
         case measure => have := HK.out; omega
         case rel => exact ⟨k + 1, Lib.hid (by have := HK.out; omega), by go_num, HT, TX⟩
    ·have hkn : nc = k := by have := HK.out; omega
     subst hkn
     have HE3 := Lib.hid (show checkG boundI A B C ⟨1, rX, rY, rr, (v1, v2), rp⟩ = meetB B C ⟨1, rX, rY, rr, (v1, v2), rp⟩ by rw [HE2.out, HA.out]; rfl)
     obtain ⟨p0, p1, p2⟩ := T.out.p
     obtain ⟨q0, q1, q2, q3, q4, q5⟩ := T.out.q
     obtain ⟨dx, hdx⟩ : ∃ d, d = dotL C rX := ⟨_, rfl⟩
     obtain ⟨dy, hdy⟩ : ∃ d, d = dotL rY (wholeL B) := ⟨_, rfl⟩
     have HM := Lib.hid (show meetB B C ⟨1, rX, rY, rr, (v1, v2), rp⟩ = meetO dx dy (v1, v2) by rw [meetB_eq, hdx, hdy])
     obtain ⟨x1, x2, xok, hxx⟩ : ∃ x y ok, optR dx = ((x, y), ok) := ⟨_, _, _, rfl⟩
     obtain ⟨y1, y2, yok, hyy2⟩ : ∃ x y ok, optR dy = ((x, y), ok) := ⟨_, _, _, rfl⟩
     have HXX := Lib.hid hxx
     have HYY := Lib.hid hyy2
     have HDX := Lib.hid (i_DotRat T.out.lp.c T.out.lr.x)
     have HDY := Lib.hid hdy.symm
     rw [← hdx, hxx] at HDX
     have HRB := Lib.hid (show ratsL B = wholeL B from fit_small HBS.out)
     clear hdx hdy hxx hyy2
     go_wp2_with fail
     refine HDX.out.mono ?_
     rintro e w3 ⟨rfl, hx⟩
     clear p0 p1 p2 q0 q1 q2 q3 q4 q5
     obtain ⟨E, hE⟩ : ∃ E, E = w3.alloc (.cells #[.int .i64 x1, .int .i64 x2] 85) := ⟨_, rfl⟩
     have hxE : Ext w3 E := by rw [hE]; exact Ext.alloc _ _
     have TE := Lib.hid ((T.out.grow hx).grow hxE)
     have HB0 := Lib.hid (show Boxed w3 E w3.heap.size x1 x2 by rw [hE]; exact Boxed.new (Ext.refl _) _ _)
     go_upto_region 16 with fail
     rw [← hE]
     clear hE hxE hx
     obtain ⟨p0, p1, p2⟩ := TE.out.p
     obtain ⟨q0, q1, q2, q3, q4, q5⟩ := TE.out.q
     go_upto_region 16 with fail
     go_cut [13, 14] (fun sx so wx => ∃ g : Nat, sx = .pointer (some ⟨g, 0, none⟩) ∧ so = .bool yok ∧ Hid (Boxed E wx g y1 y2))
     case first =>
      have hk2 : Ext E E.drew := Ext.drew E
      have hka : Ext E (E.alloc (.cells #[.int .i64 0, .int .i64 0] 85)).drew := (Ext.alloc _ _).trans (Ext.drew _)
      have HKEEP := Lib.hid (fun (w' : World) (h : Ext E w') => (⟨h.cellSome p1, h.cellSome q2, h⟩ : w'.cell? ⟨w.heap.size, 1, none⟩ = some (.slice b yn cb) ∧ w'.cell? ⟨w.heap.size + 1, 2, none⟩ = some (.slice ya yn yc) ∧ Ext E w'))
      go_region_held3 (fun w' => w'.cell? ⟨w.heap.size, 1, none⟩ = some (.slice b yn cb) ∧ w'.cell? ⟨w.heap.size + 1, 2, none⟩ = some (.slice ya yn yc) ∧ Ext E w')
       (first
         | with_reducible exact HKEEP.out _ hk2
         | with_reducible exact HKEEP.out _ hka
         | with_reducible exact HKEEP.out _ ((hk2.setCell (by first | (simp; done) | (simp; omega)) _).setCell (by first | (simp; done) | (simp; omega)) _)
         | with_reducible exact HKEEP.out _ (hk2.trans (Ext.alloc _ _))
         | with_reducible exact HKEEP.out _ (hBB.put _ _).ext)
       (first
         | (go_at_call 67
            (with_reducible refine (i_rats (TE.out.lp.b.ext (by first | with_reducible exact hk2 | with_reducible exact hka | with_reducible exact hk2.trans (Ext.alloc _ _))) (by omega)).mono ?_)
            rw [HRB.out]
            rintro e w4 ⟨⟨v4, rfl, ho4⟩, hx_w4⟩
            obtain ⟨a4, n4, c4, rfl, hn4⟩ := ho4.var
            first | (with_reducible have hBB := Boxed.grow hBB hx_w4) | (with_reducible have hBB := Boxed.firstD hx_w4) | (with_reducible have hBB := Boxed.laterD hk2 hx_w4) | skip
            first | (have b0_ := hBB.c0; have b1_ := hBB.c1; have fb_ := hBB.free) | skip
            have hk2 : Ext E w4 := by first | with_reducible exact hk2.trans hx_w4 | with_reducible exact hka.trans hx_w4 | with_reducible exact (hk2.trans (Ext.alloc _ _)).trans hx_w4
            have hk2s := hk2.size)
         | (go_at_call 194
            (with_reducible refine (i_DotRat (TE.out.lr.y.ext (by first | with_reducible exact hk2 | with_reducible exact hka | with_reducible exact hk2.trans (Ext.alloc _ _))) (by first | with_reducible exact ho4.rats | with_reducible exact (ho4.ext (Ext.alloc _ _)).rats)).mono ?_)
            rw [HDY.out, HYY.out]
            rintro e w5 ⟨rfl, hx_w5⟩
            first | (with_reducible have hBB := Boxed.grow hBB hx_w5) | (with_reducible have hBB := Boxed.firstD hx_w5) | (with_reducible have hBB := Boxed.laterD hk2 hx_w5) | skip
            first | (have b0_ := hBB.c0; have b1_ := hBB.c1; have fb_ := hBB.free) | skip
            have hk2 : Ext E w5 := by first | with_reducible exact hk2.trans hx_w5 | with_reducible exact hka.trans hx_w5 | with_reducible exact (hk2.trans (Ext.alloc _ _)).trans hx_w5
            have hk2s := hk2.size)
         | fail)
      all_goals (go_wp2_with fail; go_meet; first | exact ⟨_, rfl, rfl, Lib.hid (hBB.put _ _)⟩ | exact ⟨_, rfl, rfl, Lib.hid (Boxed.new hk2 _ _)⟩ | exact ⟨_, rfl, rfl, Lib.hid (Boxed.new' hk2 _ _ (by simp))⟩)
     obtain ⟨g, rfl, rfl, HB1⟩ := hcut
     have HB2 := Lib.hid (HB0.out.grow HB1.out.ext)
     have TW := Lib.hid (TE.out.grow HB1.out.ext)
     clear p0 p1 p2 q0 q1 q2 q3 q4 q5
     obtain ⟨p0, p1, p2⟩ := TW.out.p
     obtain ⟨q0, q1, q2, q3, q4, q5⟩ := TW.out.q
     have c0 := HB2.out.c0
     have c1 := HB2.out.c1
     have g0 := HB1.out.c0
     have g1' := HB1.out.c1
     cases dx with
     | none =>
       have hdk : xok = false := by have := HXX.out; simp only [optR] at this; simpa using (congrArg Prod.snd this).symm
       subst hdk
       go_wp2_with fail
       go_ret
       exact ⟨ret_bool (by rw [HE3.out, HM.out, (meetO_no _ _).1]), TW.out.all⟩
     | some xv =>
       have hdk : xok = true := by have := HXX.out; simp only [optR] at this; simpa using (congrArg Prod.snd this).symm
       have hdv2 : xv = (x1, x2) := by have := HXX.out; simp only [optR] at this; simpa using congrArg Prod.fst this
       subst hdk hdv2
       cases dy with
       | none =>
         have hdk : yok = false := by have := HYY.out; simp only [optR] at this; simpa using (congrArg Prod.snd this).symm
         subst hdk
         go_wp2_with fail
         go_ret
         exact ⟨ret_bool (by rw [HE3.out, HM.out, (meetO_no _ _).2]), TW.out.all⟩
       | some yv =>
         have hdk : yok = true := by have := HYY.out; simp only [optR] at this; simpa using (congrArg Prod.snd this).symm
         have hdv2 : yv = (y1, y2) := by have := HYY.out; simp only [optR] at this; simpa using congrArg Prod.fst this
         subst hdk hdv2
         have HM2 := Lib.hid (show checkG boundI A B C ⟨1, rX, rY, rr, (v1, v2), rp⟩ = (((x1 == y1) && (x2 == y2)) && ((x1 == v1) && (x2 == v2))) by rw [HE3.out, HM.out, meetO_some])
         cases h1 : (x1 == y1)
         all_goals
          cases h2 : (x2 == y2)
         all_goals
          have HM3 := Lib.hid HM2.out
          rw [h1, h2] at HM3
         all_goals try (
          have HF := Lib.hid (show checkG boundI A B C ⟨1, rX, rY, rr, (v1, v2), rp⟩ = false by rw [HM3.out]; rfl)
          go_wp2_with fail
          go_ret
          exact ⟨ret_bool HF.out.symm, TW.out.all⟩)
         cases h3 : (x1 == v1)
         all_goals
          cases h4 : (x2 == v2)
         all_goals
          rw [h3, h4] at HM3
          go_wp2_with fail
          go_ret
          exact ⟨ret_bool (by rw [HM3.out]; rfl), TW.out.all⟩
  ·have hyy : ((yn : Int) != (nb : Int)) = true := by simp; omega
   have HF := Lib.hid (show checkG boundI A B C ⟨1, rX, rY, rr, (v1, v2), rp⟩ = false by rw [HE.out, HLY.out, HLB.out, decide_eq_false hyb]; rfl)
   go_enter Tryz.func137, Tryz.ntmps137
   go_wp2_with fail
   refine HV.out.mono ?_
   rintro e w1 ⟨rfl, hx⟩
   have T1 := Lib.hid (T0.out.grow hx)
   obtain ⟨p0, p1, p2⟩ := T1.out.p
   obtain ⟨q0, q1, q2, q3, q4, q5⟩ := T1.out.q
   clear hx
   go_wp2_with fail
   refine (HFB.out _ T1.out).mono ?_
   rintro e w2 ⟨rfl, hx⟩
   have T2 := Lib.hid (T1.out.grow hx)
   clear hx p0 p1 p2 q0 q1 q2 q3 q4 q5
   obtain ⟨p0, p1, p2⟩ := T2.out.p
   obtain ⟨q0, q1, q2, q3, q4, q5⟩ := T2.out.q
   go_wp2_with fail
   go_ret
   exact ⟨ret_bool HF.out.symm, T2.out.all⟩
end
end Go.Proofs.YtgohdmnbnhehnaaGreat
namespace Go.Proofs.YtgohdmnbnhehnaaGreat
set_option linter.unusedVariables false
set_option linter.unusedSimpArgs false
set_option maxRecDepth 100000
open Go.RowKit
def noO (x : Option (Int × Int)) : Bool := match x with | none => false | some v => decide (v.1 ≤ 0)
def posO (x : Option (Int × Int)) : Bool := match x with | none => false | some v => decide (0 < v.1)
def negO (x : Option (Int × Int)) : Bool := match x with | none => false | some v => decide (v.1 < 0)
def noF (A : List (List Int)) (Y : List (Int × Int)) (j : Nat) : Bool := noO (dotL Y (wholeL (colL A j)))
theorem proofNo_eq (A : List (List Int)) (B : List Int) (n : Nat) (Y : List (Int × Int)) : proofNo A B n Y = ((List.range n).all (noF A Y) && posO (dotL Y (wholeL B))) := rfl
theorem rayB_eq (A : List (List Int)) (B : List Int) (C : List (Int × Int)) (ray : List (Int × Int)) : rayB A B C ray = ((decide (ray.length = C.length) && posV ray) && (givesB A ray (List.replicate B.length 0) && negO (dotL C ray))) := by
 unfold rayB; rw [Bool.and_assoc]; rfl
section
variable {w : World} {a : Option Addr} {na ca : Nat} {b : Option Addr} {nb cb : Nat} {c : Option Addr} {nc cc : Nat} {A : List (List Int)} {B : List Int} {C : List (Int × Int)}
 {xa : Option Addr} {xn xc : Nat} {ya : Option Addr} {yn yc : Nat} {ra : Option Addr} {rn rc : Nat} {r : LpR}
set_option maxHeartbeats 16000000 in
theorem i_CheckLP2 (h : LpC w a na ca b nb cb c nc cc A B C) (h' : LrC w xa xn xc ya yn yc ra rn rc r) (ok : okLP A B C = true) (hs : r.status = 2) :
 Calls Tryz.prog 137 #[lpW a na ca b nb cb c nc cc, lrW r xa xn xc ya yn yc ra rn rc] w fun e w' => e = .returned (.bool (checkG boundI A B C r)) ∧ Ext w w' := by
 obtain ⟨r1, r2, r3, r4, r5, r6⟩ := okLP_rows h ok
 subst r3
 have T0 := Lib.hid (show Two w ((w.alloc (lpBox a nb ca b nb cb c nc cc)).alloc (lrBox r xa xn xc ya yn yc ra rn rc)) a nb ca b nb cb c nc cc xa xn xc ya yn yc ra rn rc r A B C from ⟨Ext.refl _, (h.ext (Ext.alloc _ _)).ext (Ext.alloc _ _), (h'.ext (Ext.alloc _ _)).ext (Ext.alloc _ _)⟩)
 have hy1 := h'.y.hcap
 have hy2 := h'.y.hmax
 have hc1 := h.c.hcap
 have hc2 := h.c.hmax
 have hb1 := h.b.hcap
 have hb2 := h.b.hmax
 have HLC := Lib.hid h.c.hlen
 have HLB := Lib.hid h.b.hlen
 have HLA := Lib.hid h.a.hlen
 have HLY := Lib.hid h'.y.hlen
 have HE := Lib.hid (show checkG boundI A B C r = (decide (r.Y.length = B.length) && proofNo A B C.length r.Y) by unfold checkG; rw [if_neg (by omega), if_pos hs])
 have HR4 := Lib.hid r4
 have HCS := Lib.hid (fun j => colL_small (A := A) (fun i hi => (r5 i (by have := h.a.hlen; omega)).2) j)
 have HBS := Lib.hid r6
 obtain ⟨st, rX, rY, rr, rv, rp⟩ := r
 obtain ⟨v1, v2⟩ := rv
 simp only at hs HE HLY
 subst hs
 have HV := Lib.hid (i_IsValidLP T0.out.lp)
 rw [ok] at HV
 clear h h' r4 r5 r6
 have HS0 : ((2 : Int) == 1) = false := by decide
 by_cases hyb : yn = nb
 ·subst hyb
  have hyy : ((yn : Int) != (yn : Int)) = false := by simp
  have HE2 := Lib.hid (show checkG boundI A B C ⟨2, rX, rY, rr, (v1, v2), rp⟩ = ((List.range nc).all (noF A rY) && posO (dotL rY (wholeL B))) by rw [HE.out, HLY.out, HLB.out, HLC.out, decide_eq_true rfl, proofNo_eq]; rfl)
  go_enter Tryz.func137, Tryz.ntmps137
  go_wp2_with fail
  refine HV.out.mono ?_
  rintro e w1 ⟨rfl, hx⟩
  have T1 := Lib.hid (T0.out.grow hx)
  obtain ⟨p0, p1, p2⟩ := T1.out.p
  obtain ⟨q0, q1, q2, q3, q4, q5⟩ := T1.out.q
  clear hx
  go_wp2_with fail
  go_loopg [123] nc (fun gk ii wr => ∃ k : Nat, Hid (gk + k = nc) ∧ ii = .int .i64 (k : Int) ∧ Hid ((List.range k).all (noF A rY) = true) ∧ Hid (Two w wr a yn ca b yn cb c nc cc xa xn xc ya yn yc ra rn rc ⟨2, rX, rY, rr, (v1, v2), rp⟩ A B C))
  case atStart => exact ⟨0, Lib.hid (by omega), rfl, Lib.hid rfl, T1⟩
  case round =>
   obtain ⟨g1, h_g1⟩ : ∃ x, x = gk := ⟨_, rfl⟩
   subst h_g1
   obtain ⟨wr1, h_wr1⟩ : ∃ x, x = wr := ⟨_, rfl⟩
   subst h_wr1
   obtain ⟨k, HK, rfl, HA, T⟩ := hrel
   clear p0 p1 p2 q0 q1 q2 q3 q4 q5
   by_cases hlt : k < nc
   ·go_upto_region 24 with fail
    obtain ⟨p0, p1, p2⟩ := T.out.p
    obtain ⟨q0, q1, q2, q3, q4, q5⟩ := T.out.q
    have HCL := Lib.hid (colL_len A k)
    obtain ⟨dv, hdv⟩ : ∃ d, d = dotL rY (wholeL (colL A k)) := ⟨_, rfl⟩
    have HDV := Lib.hid hdv.symm
    obtain ⟨d1, d2, dok, hdd⟩ : ∃ x y ok, optR dv = ((x, y), ok) := ⟨_, _, _, rfl⟩
    have HDD := Lib.hid hdd
    have HRC := Lib.hid (show ratsL (colL A k) = wholeL (colL A k) from fit_small (HCS.out k))
    have HNF := Lib.hid (show noF A rY k = noO dv by unfold noF; rw [hdv])
    clear hdv hdd
    go_upto_region 24 with fail
    go_cut [16, 17] (fun sx so wx => ∃ g : Nat, sx = .pointer (some ⟨g, 0, none⟩) ∧ so = .bool dok ∧ Hid (Boxed wr1 wx g d1 d2))
    case first =>
     have hk2 : Ext wr1 wr1.drew := Ext.drew wr1
     have hka : Ext wr1 (wr1.alloc (.cells #[.int .i64 0, .int .i64 0] 85)).drew := (Ext.alloc _ _).trans (Ext.drew _)
     have HKEEP := Lib.hid (fun (w' : World) (h : Ext wr1 w') => (⟨h.cellSome p0, h.cellSome p1, h.cellSome p2, h.cellSome q2, h⟩ : w'.cell? ⟨w.heap.size, 0, none⟩ = some (.slice a yn ca) ∧ w'.cell? ⟨w.heap.size, 1, none⟩ = some (.slice b yn cb) ∧ w'.cell? ⟨w.heap.size, 2, none⟩ = some (.slice c nc cc) ∧ w'.cell? ⟨w.heap.size + 1, 2, none⟩ = some (.slice ya yn yc) ∧ Ext wr1 w'))
     go_region_held3 (fun w' => w'.cell? ⟨w.heap.size, 0, none⟩ = some (.slice a yn ca) ∧ w'.cell? ⟨w.heap.size, 1, none⟩ = some (.slice b yn cb) ∧ w'.cell? ⟨w.heap.size, 2, none⟩ = some (.slice c nc cc) ∧ w'.cell? ⟨w.heap.size + 1, 2, none⟩ = some (.slice ya yn yc) ∧ Ext wr1 w')
      (first
        | with_reducible exact HKEEP.out _ hk2
        | with_reducible exact HKEEP.out _ hka
        | with_reducible exact HKEEP.out _ ((hk2.setCell (by first | (simp; done) | (simp; omega)) _).setCell (by first | (simp; done) | (simp; omega)) _)
        | with_reducible exact HKEEP.out _ (hk2.trans (Ext.alloc _ _))
        | with_reducible exact HKEEP.out _ (hBB.put _ _).ext)
      (first
        | (go_at_call 195
           (with_reducible refine (i_column (b := b) (nb := yn) (cb := cb) (c := c) (nc := nc) (cc := cc) (T.out.lp.a.ext (by first | with_reducible exact hk2 | with_reducible exact hka | with_reducible exact hk2.trans (Ext.alloc _ _))) HR4.out hlt (by omega) (by omega)).mono ?_)
           rintro e w3 ⟨⟨v3, rfl, ho3⟩, hx_w3⟩
           obtain ⟨a3, n3, c3, rfl, hn3⟩ := ho3.var
           first | (with_reducible have hBB := Boxed.grow hBB hx_w3) | (with_reducible have hBB := Boxed.firstD hx_w3) | (with_reducible have hBB := Boxed.laterD hk2 hx_w3) | skip
           first | (have b0_ := hBB.c0; have b1_ := hBB.c1; have fb_ := hBB.free) | skip
           have hk2 : Ext wr1 w3 := by first | with_reducible exact hk2.trans hx_w3 | with_reducible exact hka.trans hx_w3 | with_reducible exact (hk2.trans (Ext.alloc _ _)).trans hx_w3
           have hk2s := hk2.size)
        | (go_at_call 67
           (with_reducible refine (i_rats (by first | with_reducible exact ho3.ints | with_reducible exact (ho3.ext (Ext.alloc _ _)).ints) (by have := hn3.out; have := HCL.out; have := HLA.out; omega)).mono ?_)
           rw [HRC.out]
           rintro e w4 ⟨⟨v4, rfl, ho4⟩, hx_w4⟩
           obtain ⟨a4, n4, c4, rfl, hn4⟩ := ho4.var
           first | (with_reducible have hBB := Boxed.grow hBB hx_w4) | (with_reducible have hBB := Boxed.firstD hx_w4) | (with_reducible have hBB := Boxed.laterD hk2 hx_w4) | skip
           first | (have b0_ := hBB.c0; have b1_ := hBB.c1; have fb_ := hBB.free) | skip
           have hk2 : Ext wr1 w4 := by first | with_reducible exact hk2.trans hx_w4 | with_reducible exact hka.trans hx_w4 | with_reducible exact (hk2.trans (Ext.alloc _ _)).trans hx_w4
           have hk2s := hk2.size)
        | (go_at_call 194
           (with_reducible refine (i_DotRat (T.out.lr.y.ext (by first | with_reducible exact hk2 | with_reducible exact hka | with_reducible exact hk2.trans (Ext.alloc _ _))) (by first | with_reducible exact ho4.rats | with_reducible exact (ho4.ext (Ext.alloc _ _)).rats)).mono ?_)
           rw [HDV.out, HDD.out]
           rintro e w5 ⟨rfl, hx_w5⟩
           first | (with_reducible have hBB := Boxed.grow hBB hx_w5) | (with_reducible have hBB := Boxed.firstD hx_w5) | (with_reducible have hBB := Boxed.laterD hk2 hx_w5) | skip
           first | (have b0_ := hBB.c0; have b1_ := hBB.c1; have fb_ := hBB.free) | skip
           have hk2 : Ext wr1 w5 := by first | with_reducible exact hk2.trans hx_w5 | with_reducible exact hka.trans hx_w5 | with_reducible exact (hk2.trans (Ext.alloc _ _)).trans hx_w5
           have hk2s := hk2.size)
        | fail)
     all_goals (go_wp2_with fail; go_meet; first | exact ⟨_, rfl, rfl, Lib.hid (hBB.put _ _)⟩ | exact ⟨_, rfl, rfl, Lib.hid (Boxed.new hk2 _ _)⟩ | exact ⟨_, rfl, rfl, Lib.hid (Boxed.new' hk2 _ _ (by simp))⟩)
    obtain ⟨g, rfl, rfl, HB1⟩ := hcut
    have TW := Lib.hid (T.out.grow HB1.out.ext)
    clear p0 p1 p2 q0 q1 q2 q3 q4 q5
    have g0 := HB1.out.c0
    cases dv with
    | none =>
      have hdk : dok = false := by have := HDD.out; simp only [optR] at this; simpa using (congrArg Prod.snd this).symm
      subst hdk
      have HF := Lib.hid (show checkG boundI A B C ⟨2, rX, rY, rr, (v1, v2), rp⟩ = false by rw [HE2.out, allR_false hlt (by rw [HNF.out]; rfl)]; rfl)
      go_wp2_with fail
      go_ret
      exact ⟨ret_bool HF.out.symm, TW.out.all⟩
    | some dvv =>
      have hdk : dok = true := by have := HDD.out; simp only [optR] at this; simpa using (congrArg Prod.snd this).symm
      have hdv2 : dvv = (d1, d2) := by have := HDD.out; simp only [optR] at this; simpa using congrArg Prod.fst this
      subst hdk hdv2
      by_cases hl0 : d1 > 0
      ·have HF := Lib.hid (show checkG boundI A B C ⟨2, rX, rY, rr, (v1, v2), rp⟩ = false by rw [HE2.out, allR_false hlt (by rw [HNF.out]; exact decide_eq_false (by omega))]; rfl)
       go_wp2_with fail
       go_ret
       exact ⟨ret_bool HF.out.symm, TW.out.all⟩
      ·have HT := Lib.hid (show (List.range (k + 1)).all (noF A rY) = true by rw [allR_succ, HA.out, HNF.out, Bool.true_and]; exact decide_eq_true (by omega))
       go_wp2_with fail
       go_roundg (g1 - 1)
       case measure => have := HK.out; omega
       case rel => exact ⟨k + 1, Lib.hid (by have := HK.out; omega), by go_num, HT, TW⟩
   ·have hkn : nc = k := by have := HK.out; omega
    subst hkn
    have HE3 := Lib.hid (show checkG boundI A B C ⟨2, rX, rY, rr, (v1, v2), rp⟩ = posO (dotL rY (wholeL B)) by rw [HE2.out, HA.out]; rfl)
    obtain ⟨dy, hdy⟩ : ∃ d, d = dotL rY (wholeL B) := ⟨_, rfl⟩
    rw [← hdy] at HE3
    obtain ⟨y1, y2, yok, hyy2⟩ : ∃ x y ok, optR dy = ((x, y), ok) := ⟨_, _, _, rfl⟩
    have HYY := Lib.hid hyy2
    have HDY := Lib.hid hdy.symm
    have HRB := Lib.hid (show ratsL B = wholeL B from fit_small HBS.out)
    clear hdy hyy2
    go_upto_region 28 with fail
    obtain ⟨p0, p1, p2⟩ := T.out.p
    obtain ⟨q0, q1, q2, q3, q4, q5⟩ := T.out.q
    go_upto_region 28 with fail
    go_cut [18, 19] (fun sx so wx => ∃ g : Nat, sx = .pointer (some ⟨g, 0, none⟩) ∧ so = .bool yok ∧ Hid (Boxed wr1 wx g y1 y2))
    case first =>
     have hk2 : Ext wr1 wr1.drew := Ext.drew wr1
     have hka : Ext wr1 (wr1.alloc (.cells #[.int .i64 0, .int .i64 0] 85)).drew := (Ext.alloc _ _).trans (Ext.drew _)
     have HKEEP := Lib.hid (fun (w' : World) (h : Ext wr1 w') => (⟨h.cellSome p1, h.cellSome q2, h⟩ : w'.cell? ⟨w.heap.size, 1, none⟩ = some (.slice b yn cb) ∧ w'.cell? ⟨w.heap.size + 1, 2, none⟩ = some (.slice ya yn yc) ∧ Ext wr1 w'))
     go_region_held3 (fun w' => w'.cell? ⟨w.heap.size, 1, none⟩ = some (.slice b yn cb) ∧ w'.cell? ⟨w.heap.size + 1, 2, none⟩ = some (.slice ya yn yc) ∧ Ext wr1 w')
      (first
        | with_reducible exact HKEEP.out _ hk2
        | with_reducible exact HKEEP.out _ hka
        | with_reducible exact HKEEP.out _ ((hk2.setCell (by first | (simp; done) | (simp; omega)) _).setCell (by first | (simp; done) | (simp; omega)) _)
        | with_reducible exact HKEEP.out _ (hk2.trans (Ext.alloc _ _))
        | with_reducible exact HKEEP.out _ (hBB.put _ _).ext)
      (first
        | (go_at_call 67
           (with_reducible refine (i_rats (T.out.lp.b.ext (by first | with_reducible exact hk2 | with_reducible exact hka | with_reducible exact hk2.trans (Ext.alloc _ _))) (by omega)).mono ?_)
           rw [HRB.out]
           rintro e w4 ⟨⟨v4, rfl, ho4⟩, hx_w4⟩
           obtain ⟨a4, n4, c4, rfl, hn4⟩ := ho4.var
           first | (with_reducible have hBB := Boxed.grow hBB hx_w4) | (with_reducible have hBB := Boxed.firstD hx_w4) | (with_reducible have hBB := Boxed.laterD hk2 hx_w4) | skip
           first | (have b0_ := hBB.c0; have b1_ := hBB.c1; have fb_ := hBB.free) | skip
           have hk2 : Ext wr1 w4 := by first | with_reducible exact hk2.trans hx_w4 | with_reducible exact hka.trans hx_w4 | with_reducible exact (hk2.trans (Ext.alloc _ _)).trans hx_w4
           have hk2s := hk2.size)
        | (go_at_call 194
           (with_reducible refine (i_DotRat (T.out.lr.y.ext (by first | with_reducible exact hk2 | with_reducible exact hka | with_reducible exact hk2.trans (Ext.alloc _ _))) (by first | with_reducible exact ho4.rats | with_reducible exact (ho4.ext (Ext.alloc _ _)).rats)).mono ?_)
           rw [HDY.out, HYY.out]
           rintro e w5 ⟨rfl, hx_w5⟩
           first | (with_reducible have hBB := Boxed.grow hBB hx_w5) | (with_reducible have hBB := Boxed.firstD hx_w5) | (with_reducible have hBB := Boxed.laterD hk2 hx_w5) | skip
           first | (have b0_ := hBB.c0; have b1_ := hBB.c1; have fb_ := hBB.free) | skip
           have hk2 : Ext wr1 w5 := by first | with_reducible exact hk2.trans hx_w5 | with_reducible exact hka.trans hx_w5 | with_reducible exact (hk2.trans (Ext.alloc _ _)).trans hx_w5
           have hk2s := hk2.size)
        | fail)
     all_goals (go_wp2_with fail; go_meet; first | exact ⟨_, rfl, rfl, Lib.hid (hBB.put _ _)⟩ | exact ⟨_, rfl, rfl, Lib.hid (Boxed.new hk2 _ _)⟩ | exact ⟨_, rfl, rfl, Lib.hid (Boxed.new' hk2 _ _ (by simp))⟩)
    obtain ⟨g, rfl, rfl, HB1⟩ := hcut
    have TW := Lib.hid (T.out.grow HB1.out.ext)
    clear p0 p1 p2 q0 q1 q2 q3 q4 q5
    have g0 := HB1.out.c0
    cases dy with
    | none =>
      have hdk : yok = false := by have := HYY.out; simp only [optR] at this; simpa using (congrArg Prod.snd this).symm
      subst hdk
      go_wp2_with fail
      go_ret
      exact ⟨ret_bool (by rw [HE3.out]; rfl), TW.out.all⟩
    | some yv =>
      have hdk : yok = true := by have := HYY.out; simp only [optR] at this; simpa using (congrArg Prod.snd this).symm
      have hdv2 : yv = (y1, y2) := by have := HYY.out; simp only [optR] at this; simpa using congrArg Prod.fst this
      subst hdk hdv2
      by_cases hy0 : y1 > 0
      ·go_wp2_with fail
       go_ret
       exact ⟨ret_bool (by rw [HE3.out]; exact (decide_eq_true hy0).symm), TW.out.all⟩
      ·go_wp2_with fail
       go_ret
       exact ⟨ret_bool (by rw [HE3.out]; exact (decide_eq_false (by omega)).symm), TW.out.all⟩
 ·have hyy : ((yn : Int) != (nb : Int)) = true := by simp; omega
  have HF := Lib.hid (show checkG boundI A B C ⟨2, rX, rY, rr, (v1, v2), rp⟩ = false by rw [HE.out, HLY.out, HLB.out, decide_eq_false hyb]; rfl)
  go_enter Tryz.func137, Tryz.ntmps137
  go_wp2_with fail
  refine HV.out.mono ?_
  rintro e w1 ⟨rfl, hx⟩
  have T1 := Lib.hid (T0.out.grow hx)
  obtain ⟨p0, p1, p2⟩ := T1.out.p
  obtain ⟨q0, q1, q2, q3, q4, q5⟩ := T1.out.q
  clear hx
  go_wp2_with fail
  go_ret
  exact ⟨ret_bool HF.out.symm, T1.out.all⟩
end
end Go.Proofs.YtgohdmnbnhehnaaGreat
