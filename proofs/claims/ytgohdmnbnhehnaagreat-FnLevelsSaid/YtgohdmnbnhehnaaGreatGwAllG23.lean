import Derived.Test.YtgohdmnbnhehnaaGreatGwAllG22
import Derived.Test.YtgohdmnbnhehnaaGreatGwAllG21
import Derived.Outline
namespace Go.Proofs.YtgohdmnbnhehnaaGreat
set_option linter.unusedVariables false
set_option linter.unusedSimpArgs false
set_option maxRecDepth 100000
open Go.RowKit
section
variable {w : World} {a : Option Addr} {na ca : Nat} {b : Option Addr} {nb cb : Nat} {c : Option Addr} {nc cc : Nat} {A : List (List Int)} {B : List Int} {C : List (Int × Int)}
 {xa : Option Addr} {xn xc : Nat} {ya : Option Addr} {yn yc : Nat} {ra : Option Addr} {rn rc : Nat} {r : LpR}
set_option maxHeartbeats 16000000 in
theorem i_CheckLP3 (h : LpC w a na ca b nb cb c nc cc A B C) (h' : LrC w xa xn xc ya yn yc ra rn rc r) (ok : okLP A B C = true) (hs : r.status = 3) :
 Calls Tryz.prog 137 #[lpW a na ca b nb cb c nc cc, lrW r xa xn xc ya yn yc ra rn rc] w fun e w' => e = .returned (.bool (checkG boundI A B C r)) ∧ Ext w w' := by
 obtain ⟨r1, r2, r3, r4, r5, r6⟩ := okLP_rows h ok
 subst r3
 have T0 := Lib.hid (show Two w ((w.alloc (lpBox a nb ca b nb cb c nc cc)).alloc (lrBox r xa xn xc ya yn yc ra rn rc)) a nb ca b nb cb c nc cc xa xn xc ya yn yc ra rn rc r A B C from ⟨Ext.refl _, (h.ext (Ext.alloc _ _)).ext (Ext.alloc _ _), (h'.ext (Ext.alloc _ _)).ext (Ext.alloc _ _)⟩)
 have hy1 := h'.y.hcap
 have hy2 := h'.y.hmax
 have hc1 := h.c.hcap
 have hc2 := h.c.hmax
 have hb1 := h.b.hcap
 have hb2 := h.b.hmax
 have HLC := Lib.hid h.c.hlen
 have HLB := Lib.hid h.b.hlen
 have HLA := Lib.hid h.a.hlen
 have HLY := Lib.hid h'.y.hlen
 have HE := Lib.hid (show checkG boundI A B C r = (feasB A B C.length r.X && rayB A B C r.ray) by unfold checkG; rw [if_neg (by omega), if_neg (by omega), if_pos hs])
 have HR4 := Lib.hid r4
 have HR5 := Lib.hid r5
 have HCS := Lib.hid (fun j => colL_small (A := A) (fun i hi => (r5 i (by have := h.a.hlen; omega)).2) j)
 have HBS := Lib.hid r6
 obtain ⟨st, rX, rY, rr, rv, rp⟩ := r
 obtain ⟨v1, v2⟩ := rv
 simp only at hs HE HLY
 subst hs
 have HV := Lib.hid (i_IsValidLP T0.out.lp)
 rw [ok] at HV
 clear h h' r4 r5 r6
 have HFB := Lib.hid (fun (W : World) (t : Two w W a nb ca b nb cb c nc cc xa xn xc ya yn yc ra rn rc ⟨3, rX, rY, rr, (v1, v2), rp⟩ A B C) => i_IsFeasible t.lp t.lr.x)
 rw [ok] at HFB
 simp only [Bool.true_and] at HFB
 have HS1 : ((3 : Int) == 1) = false := by decide
 have HS2 : ((3 : Int) == 2) = false := by decide
 cases hf : feasB A B C.length rX
 ·rw [hf] at HFB HE
  clear hf
  go_enter Tryz.func137, Tryz.ntmps137
  go_wp2_with fail
  refine HV.out.mono ?_
  rintro e w1 ⟨rfl, hx⟩
  have T1 := Lib.hid (T0.out.grow hx)
  obtain ⟨p0, p1, p2⟩ := T1.out.p
  obtain ⟨q0, q1, q2, q3, q4, q5⟩ := T1.out.q
  clear hx
  go_upto_region 31 with fail
  have hk2 : Ext w1 w1.drew := Ext.drew w1
  refine wp_region_held_drew (S := (fun w' => w'.cell? ⟨w.heap.size, 0, none⟩ = some (.slice a nb ca) ∧ w'.cell? ⟨w.heap.size, 1, none⟩ = some (.slice b nb cb) ∧ w'.cell? ⟨w.heap.size, 2, none⟩ = some (.slice c nc cc) ∧ w'.cell? ⟨w.heap.size + 1, 1, none⟩ = some (.slice xa xn xc) ∧ w'.cell? ⟨w.heap.size + 1, 3, none⟩ = some (.slice ra rn rc) ∧ Ext w1 w')) (by kernel_rfl) ?_ (fun hHeld => ?_)
  ·exact ⟨hk2.cellSome p0, hk2.cellSome p1, hk2.cellSome p2, hk2.cellSome q1, hk2.cellSome q3, hk2⟩
  refine tk 0 ?_
  refine tk 1 ?_
  refine tk 2 ?_
  refine rd (i := 3) (h := fun K hK => ?_)
  go_simp
  (go_at_call 193; refine (HFB.out _ (T1.out.grow hk2)).mono ?_; rintro e w3 ⟨rfl, hx3⟩; have hk2 := hk2.trans hx3)
  go_wp2_with fail
  refine hK.out _ _ ?_ (fun hHeld => ?_)
  ·exact ⟨hk2.cellSome p0, hk2.cellSome p1, hk2.cellSome p2, hk2.cellSome q1, hk2.cellSome q3, hk2⟩
  clear hK K
  try simp only [Act.put, sA, sB, sC]
  refine tk 4 ?_
  refine tk 5 ?_
  refine sk 6 ?_
  refine sk 7 ?_
  refine sk 8 ?_
  refine sk 9 ?_
  refine sk 10 ?_
  refine sk 11 ?_
  refine sk 12 ?_
  refine tk 13 ?_
  refine tk 14 ?_
  refine sk 15 ?_
  refine sk 16 ?_
  refine sk 17 ?_
  refine sk 18 ?_
  refine sk 19 ?_
  refine sk 20 ?_
  refine sk 21 ?_
  refine sk 22 ?_
  refine sk 23 ?_
  refine tk 24 ?_
  refine wpAnyH_done (by kernel_rfl) ?_ _
  go_wp2_with fail
  go_ret
  exact ⟨ret_bool (by rw [HE.out]; rfl), (T1.out.grow hk2).all⟩
 ·rw [hf] at HFB HE
  clear hf
  have HE2 := Lib.hid (show checkG boundI A B C ⟨3, rX, rY, rr, (v1, v2), rp⟩ = ((decide (rr.length = nc) && posV rr) && (givesB A rr (List.replicate nb 0) && negO (dotL C rr))) by rw [HE.out, rayB_eq, HLC.out, HLB.out, Bool.true_and])
  have HNN := Lib.hid (fun (W : World) (t : Two w W a nb ca b nb cb c nc cc xa xn xc ya yn yc ra rn rc ⟨3, rX, rY, rr, (v1, v2), rp⟩ A B C) => i_notNegative t.lr.ray nc)
  cases hn : (decide (rr.length = nc) && posV rr)
  ·rw [hn] at HE2
   simp only [hn] at HNN
   clear hn
   go_enter Tryz.func137, Tryz.ntmps137
   go_wp2_with fail
   refine HV.out.mono ?_
   rintro e w1 ⟨rfl, hx⟩
   have T1 := Lib.hid (T0.out.grow hx)
   obtain ⟨p0, p1, p2⟩ := T1.out.p
   obtain ⟨q0, q1, q2, q3, q4, q5⟩ := T1.out.q
   clear hx
   go_upto_region 31 with fail
   have hk2 : Ext w1 w1.drew := Ext.drew w1
   refine wp_region_held_drew (S := (fun w' => w'.cell? ⟨w.heap.size, 0, none⟩ = some (.slice a nb ca) ∧ w'.cell? ⟨w.heap.size, 1, none⟩ = some (.slice b nb cb) ∧ w'.cell? ⟨w.heap.size, 2, none⟩ = some (.slice c nc cc) ∧ w'.cell? ⟨w.heap.size + 1, 1, none⟩ = some (.slice xa xn xc) ∧ w'.cell? ⟨w.heap.size + 1, 3, none⟩ = some (.slice ra rn rc) ∧ Ext w1 w')) (by kernel_rfl) ?_ (fun hHeld => ?_)
   ·exact ⟨hk2.cellSome p0, hk2.cellSome p1, hk2.cellSome p2, hk2.cellSome q1, hk2.cellSome q3, hk2⟩
   refine tk 0 ?_
   refine tk 1 ?_
   refine tk 2 ?_
   refine rd (i := 3) (h := fun K hK => ?_)
   go_simp
   (go_at_call 193; refine (HFB.out _ (T1.out.grow hk2)).mono ?_; rintro e w3 ⟨rfl, hx3⟩; have hk2 := hk2.trans hx3)
   go_wp2_with fail
   refine hK.out _ _ ?_ (fun hHeld => ?_)
   ·exact ⟨hk2.cellSome p0, hk2.cellSome p1, hk2.cellSome p2, hk2.cellSome q1, hk2.cellSome q3, hk2⟩
   clear hK K
   try simp only [Act.put, sA, sB, sC]
   refine tk 4 ?_
   refine tk 5 ?_
   refine tk 6 ?_
   refine tk 7 ?_
   refine tk 8 ?_
   refine tk 9 ?_
   refine tk 10 ?_
   refine rd (i := 11) (h := fun K hK => ?_)
   go_simp
   (go_at_call 196; refine (HNN.out _ (T1.out.grow hk2)).mono ?_; rintro e w4 ⟨rfl, hx4⟩; have hk2 := hk2.trans hx4)
   go_wp2_with fail
   refine hK.out _ _ ?_ (fun hHeld => ?_)
   ·exact ⟨hk2.cellSome p0, hk2.cellSome p1, hk2.cellSome p2, hk2.cellSome q1, hk2.cellSome q3, hk2⟩
   clear hK K
   try simp only [Act.put, sA, sB, sC]
   refine tk 12 ?_
   refine tk 13 ?_
   refine tk 14 ?_
   refine sk 15 ?_
   refine sk 16 ?_
   refine sk 17 ?_
   refine sk 18 ?_
   refine sk 19 ?_
   refine sk 20 ?_
   refine sk 21 ?_
   refine sk 22 ?_
   refine sk 23 ?_
   refine tk 24 ?_
   refine wpAnyH_done (by kernel_rfl) ?_ _
   go_wp2_with fail
   go_ret
   exact ⟨ret_bool (by rw [HE2.out]; rfl), (T1.out.grow hk2).all⟩
  ·rw [hn] at HE2
   simp only [hn] at HNN
   clear hn
   have hmk := mk_ints nb (by omega)
   have HGV := Lib.hid (fun (W : World) (t : Two w W a nb ca b nb cb c nc cc xa xn xc ya yn yc ra rn rc ⟨3, rX, rY, rr, (v1, v2), rp⟩ A B C) => i_gives (b := b) (nb := nb) (cb := cb) (c := c) (nc := nc) (cc := cc) (t.grow (Ext.alloc W (.cells (intCells (List.replicate nb 0)) 3))).lp.a (t.grow (Ext.alloc W (.cells (intCells (List.replicate nb 0)) 3))).lr.ray (Row.ints (show Row (W.alloc (.cells (intCells (List.replicate nb 0)) 3)) W.heap.size 3 (List.replicate nb 0) from heap_alloc_new _ _) (by simp) (Nat.le_refl nb) (by omega)) (Nat.le_refl _) HR5.out)
   obtain ⟨gv, hgv⟩ : ∃ g, g = givesB A rr (List.replicate nb 0) := ⟨_, rfl⟩
   rw [← hgv] at HE2
   simp only [← hgv] at HGV
   clear hgv
   go_enter Tryz.func137, Tryz.ntmps137
   go_wp2_with fail
   refine HV.out.mono ?_
   rintro e w1 ⟨rfl, hx⟩
   have T1 := Lib.hid (T0.out.grow hx)
   obtain ⟨p0, p1, p2⟩ := T1.out.p
   obtain ⟨q0, q1, q2, q3, q4, q5⟩ := T1.out.q
   clear hx
   go_upto_region 31 with fail
   have hk2 : Ext w1 w1.drew := Ext.drew w1
   refine wp_region_held_drew (S := (fun w' => w'.cell? ⟨w.heap.size, 0, none⟩ = some (.slice a nb ca) ∧ w'.cell? ⟨w.heap.size, 1, none⟩ = some (.slice b nb cb) ∧ w'.cell? ⟨w.heap.size, 2, none⟩ = some (.slice c nc cc) ∧ w'.cell? ⟨w.heap.size + 1, 1, none⟩ = some (.slice xa xn xc) ∧ w'.cell? ⟨w.heap.size + 1, 3, none⟩ = some (.slice ra rn rc) ∧ Ext w1 w')) (by kernel_rfl) ?_ (fun hHeld => ?_)
   ·exact ⟨hk2.cellSome p0, hk2.cellSome p1, hk2.cellSome p2, hk2.cellSome q1, hk2.cellSome q3, hk2⟩
   refine tk 0 ?_
   refine tk 1 ?_
   refine tk 2 ?_
   refine rd (i := 3) (h := fun K hK => ?_)
   go_simp
   (go_at_call 193; refine (HFB.out _ (T1.out.grow hk2)).mono ?_; rintro e w3 ⟨rfl, hx3⟩; have hk2 := hk2.trans hx3)
   go_wp2_with fail
   refine hK.out _ _ ?_ (fun hHeld => ?_)
   ·exact ⟨hk2.cellSome p0, hk2.cellSome p1, hk2.cellSome p2, hk2.cellSome q1, hk2.cellSome q3, hk2⟩
   clear hK K
   try simp only [Act.put, sA, sB, sC]
   refine tk 4 ?_
   refine tk 5 ?_
   refine tk 6 ?_
   refine tk 7 ?_
   refine tk 8 ?_
   refine tk 9 ?_
   refine tk 10 ?_
   refine rd (i := 11) (h := fun K hK => ?_)
   go_simp
   (go_at_call 196; refine (HNN.out _ (T1.out.grow hk2)).mono ?_; rintro e w4 ⟨rfl, hx4⟩; have hk2 := hk2.trans hx4)
   go_wp2_with fail
   refine hK.out _ _ ?_ (fun hHeld => ?_)
   ·exact ⟨hk2.cellSome p0, hk2.cellSome p1, hk2.cellSome p2, hk2.cellSome q1, hk2.cellSome q3, hk2⟩
   clear hK K
   try simp only [Act.put, sA, sB, sC]
   refine tk 12 ?_
   refine tk 13 ?_
   refine tk 14 ?_
   refine tk 15 ?_
   refine tk 16 ?_
   refine tk 17 ?_
   refine tk 18 ?_
   refine tk 19 ?_
   refine tk 20 ?_
   have TG := Lib.hid (T1.out.grow hk2)
   have hk9 := hk2
   have hk2 := hk9.trans (Ext.alloc w4 (.cells (intCells (List.replicate nb 0)) 3))
   refine rd (i := 21) (h := fun K hK => ?_)
   go_simp
   refine hK.out _ _ ?_ (fun hHeld => ?_)
   ·exact ⟨hk2.cellSome p0, hk2.cellSome p1, hk2.cellSome p2, hk2.cellSome q1, hk2.cellSome q3, hk2⟩
   clear hK K
   try simp only [Act.put, sA, sB, sC]
   refine rd (i := 22) (h := fun K hK => ?_)
   go_simp
   (go_at_call 197; refine (HGV.out _ TG.out).mono ?_; rintro e w5 ⟨rfl, hx5⟩; have hk2 := hk2.trans hx5)
   go_wp2_with fail
   refine hK.out _ _ ?_ (fun hHeld => ?_)
   ·exact ⟨hk2.cellSome p0, hk2.cellSome p1, hk2.cellSome p2, hk2.cellSome q1, hk2.cellSome q3, hk2⟩
   clear hK K
   try simp only [Act.put, sA, sB, sC]
   refine tk 23 ?_
   refine tk 24 ?_
   refine wpAnyH_done (by kernel_rfl) ?_ _
   have TW := Lib.hid (T1.out.grow hk2)
   clear hk2 hk9 p0 p1 p2 q0 q1 q2 q3 q4 q5
   obtain ⟨p0, p1, p2⟩ := TW.out.p
   obtain ⟨q0, q1, q2, q3, q4, q5⟩ := TW.out.q
   cases gv
   ·go_wp2_with fail
    go_ret
    exact ⟨ret_bool (by rw [HE2.out]; rfl), TW.out.all⟩
   ·obtain ⟨dx, hdx⟩ : ∃ d, d = dotL C rr := ⟨_, rfl⟩
    have HDX := Lib.hid (i_DotRat TW.out.lp.c TW.out.lr.ray)
    have HE3 := Lib.hid (show checkG boundI A B C ⟨3, rX, rY, rr, (v1, v2), rp⟩ = negO dx by rw [HE2.out, hdx]; rfl)
    rw [← hdx] at HDX
    clear hdx
    cases dx with
    | none =>
      rw [show optR none = ((0, 0), false) from rfl] at HDX
      go_wp2_with fail
      refine HDX.out.mono ?_
      rintro e w6 ⟨rfl, hx⟩
      have TX := Lib.hid ((TW.out.grow hx).grow (Ext.alloc _ (.cells #[.int .i64 0, .int .i64 0] 85)))
      clear hx
      go_wp2_with fail
      go_ret
      exact ⟨ret_bool (by rw [HE3.out]; rfl), TX.out.all⟩
    | some v =>
      obtain ⟨x1, x2⟩ := v
      rw [show optR (some (x1, x2)) = ((x1, x2), true) from rfl] at HDX
      go_wp2_with fail
      refine HDX.out.mono ?_
      rintro e w6 ⟨rfl, hx⟩
      have TX := Lib.hid ((TW.out.grow hx).grow (Ext.alloc _ (.cells #[.int .i64 x1, .int .i64 x2] 85)))
      clear hx
      by_cases hx0 : x1 < 0
      ·go_wp2_with fail
       go_ret
       exact ⟨ret_bool (by rw [HE3.out]; exact (decide_eq_true hx0).symm), TX.out.all⟩
      ·go_wp2_with fail
       go_ret
       exact ⟨ret_bool (by rw [HE3.out]; rfl), TX.out.all⟩
set_option maxHeartbeats 4000000 in
theorem i_CheckLP (h : LpC w a na ca b nb cb c nc cc A B C) (h' : LrC w xa xn xc ya yn yc ra rn rc r) (ok : okLP A B C = true) :
 Calls Tryz.prog 137 #[lpW a na ca b nb cb c nc cc, lrW r xa xn xc ya yn yc ra rn rc] w fun e w' => e = .returned (.bool (checkG boundI A B C r)) ∧ Ext w w' := by
 by_cases h1 : r.status = 1
 ·exact i_CheckLP1 h h' ok h1
 by_cases h2 : r.status = 2
 ·exact i_CheckLP2 h h' ok h2
 by_cases h3 : r.status = 3
 ·exact i_CheckLP3 h h' ok h3
 have HE := Lib.hid (show checkG boundI A B C r = false by unfold checkG; rw [if_neg h1, if_neg h2, if_neg h3])
 have T0 := Lib.hid (show Two w ((w.alloc (lpBox a na ca b nb cb c nc cc)).alloc (lrBox r xa xn xc ya yn yc ra rn rc)) a na ca b nb cb c nc cc xa xn xc ya yn yc ra rn rc r A B C from ⟨Ext.refl _, (h.ext (Ext.alloc _ _)).ext (Ext.alloc _ _), (h'.ext (Ext.alloc _ _)).ext (Ext.alloc _ _)⟩)
 have HV := Lib.hid (i_IsValidLP T0.out.lp)
 rw [ok] at HV
 obtain ⟨st, rX, rY, rr, rv, rp⟩ := r
 obtain ⟨v1, v2⟩ := rv
 simp only at h1 h2 h3
 have e1 : (st == 1) = false := by simp; omega
 have e2 : (st == 2) = false := by simp; omega
 have e3 : (st == 3) = false := by simp; omega
 clear h h' h1 h2 h3
 go_enter Tryz.func137, Tryz.ntmps137
 go_wp2_with fail
 refine HV.out.mono ?_
 rintro e w1 ⟨rfl, hx⟩
 have T1 := Lib.hid (T0.out.grow hx)
 obtain ⟨p0, p1, p2⟩ := T1.out.p
 obtain ⟨q0, q1, q2, q3, q4, q5⟩ := T1.out.q
 clear hx
 go_wp2_with fail
 go_ret
 exact ⟨ret_bool HE.out.symm, T1.out.all⟩
end
end Go.Proofs.YtgohdmnbnhehnaaGreat
namespace Go.Proofs.YtgohdmnbnhehnaaGreat
set_option linter.unusedVariables false
set_option linter.unusedSimpArgs false
set_option maxRecDepth 100000
open Go.RowKit
theorem map_snoc {α β : Type} (f : α → β) {l : List α} {k : Nat} {d : α} (h : k < l.length) : (l.take k).map f ++ [f (l[k]?.getD d)] = (l.take (k + 1)).map f := by
 rw [List.take_succ_eq_append_getElem h, List.map_append, List.getElem?_eq_getElem h]; rfl
theorem rangeMap_snoc {β : Type} (f : Nat → β) (k : Nat) : (List.range k).map f ++ [f k] = (List.range (k + 1)).map f := by rw [List.range_succ]; simp
theorem unitL_eq (m i : Nat) : unitL m i = (List.range m).map fun k => if k = i then ((1 : Int), (1 : Int)) else (0, 1) := rfl
section
variable {w : World} {a : Option Addr} {na ca : Nat} {b : Option Addr} {nb cb : Nat} {c : Option Addr} {nc cc : Nat} {A : List (List Int)} {B : List Int} {C : List (Int × Int)}
set_option maxHeartbeats 16000000 in
theorem i_StartTableau (h : LpC w a na ca b nb cb c nc cc A B C) (ok : okLP A B C = true) :
 Calls Tryz.prog 188 #[lpW a na ca b nb cb c nc cc] w fun e w' => (∃ va vb vs, e = .returned (.agg #[va, vb, .int .i64 (nc : Int)]) ∧ OwnT w' w.heap.size va vb vs (startT A B nc)) ∧ Ext w w' := by
 obtain ⟨r1, r2, r3, r4, r5, r6⟩ := okLP_rows h ok
 subst r3
 have hx0 := (Ext.alloc w (lpBox a nb ca b nb cb c nc cc)).trans (Ext.alloc _ (.cells #[.slice none 0 0, .slice none 0 0, .int .i64 0] 142))
 obtain ⟨W, hW⟩ : ∃ W, W = (w.alloc (lpBox a nb ca b nb cb c nc cc)).alloc (.cells #[.slice none 0 0, .slice none 0 0, .int .i64 0] 142) := ⟨_, rfl⟩
 rw [← hW] at hx0
 have HX0 := Lib.hid hx0
 have H := Lib.hid (h.ext hx0)
 have HV := Lib.hid (i_IsValidLP H.out)
 rw [ok] at HV
 have HGB := Lib.hid (show W.heap[w.heap.size + 1]? = some (.cells #[.slice none 0 0, .slice none 0 0, .int .i64 0] 142 (0, 0)) by rw [hW]; exact heapA_new _ _ _ (by simp))
 have HTB := Lib.hid (show W.heap[w.heap.size]? = some (.cells #[.slice a nb ca, .slice b nb cb, .slice c nc cc] 67 (0, 0)) by rw [hW, heapA_old _ _ _ (by simp)]; exact heapA_new _ _ _ rfl)
 have HSW := Lib.hid (show W.heap.size = w.heap.size + 1 + 1 by rw [hW]; simp)
 have ha1 := h.a.hcap
 have ha2 := h.a.hmax
 have hb1 := h.b.hcap
 have hb2 := h.b.hmax
 have hc1 := h.c.hcap
 have hc2 := h.c.hmax
 have HLA := Lib.hid h.a.hlen
 have HLB := Lib.hid h.b.hlen
 have HR4 := Lib.hid r4
 have HR5 := Lib.hid r5
 have HR6 := Lib.hid r6
 clear h hx0 ok r4 r5 r6
 go_enter Tryz.func188, Tryz.ntmps188
 go_upto_region 1 with fail
 rw [← hW]
 clear hW
 have p0 := tbox0 HTB.out
 have p1 := tbox1 HTB.out
 have p2 := tbox2 HTB.out
 go_wp2_with fail
 refine HV.out.mono ?_
 rintro e w1 ⟨rfl, hx⟩
 have X1 := Lib.hid hx
 have H1 := Lib.hid (H.out.ext hx)
 clear hx p0 p1 p2
 have P0 := Lib.hid (tbox0 (X1.out.blk HTB.out))
 have P1 := Lib.hid (tbox1 (X1.out.blk HTB.out))
 have P2 := Lib.hid (tbox2 (X1.out.blk HTB.out))
 have p2 := P2.out
 have hs1 : w.heap.size + 1 + 1 ≤ w1.heap.size := by have := X1.out.size; have := HSW.out; omega
 obtain ⟨E, hE⟩ : ∃ E, E = w1.alloc (.cells #[.slice none 0 0, .slice none 0 0, .int .i64 (nc : Int)] 142) := ⟨_, rfl⟩
 have XE := Lib.hid (show Ext w1 E by rw [hE]; exact Ext.alloc _ _)
 have HT0 := Lib.hid (show TbO E w1.heap.size w1.heap.size (.slice none 0 0) (.slice none 0 0) (nc : Int) [] [] [] by
  rw [hE]; exact ⟨heapA_new _ _ _ rfl, Nat.le_refl _, World.ownsRow_nil _ _ _ 1, RowsR.nil _ _, OwnI.nil _ _⟩)
 go_upto_region 4 with fail
 rw [← hE]
 clear hE p2
 have p0 := XE.out.cellSome P0.out
 go_wp2_with fail
 go_loopg [23] nb (fun gk ii wr => ∃ (k : Nat) (va vb : Value) (vs : List Value), Hid (gk + k = nb) ∧ ii = .int .i64 (k : Int) ∧ Hid (TbO wr w1.heap.size w1.heap.size va vb (nc : Int) vs ((List.range k).map (startRow A B)) ((List.range k).map fun i => ((nc + i : Nat) : Int))) ∧ Hid (Ext w1 wr))
 case atStart => exact ⟨0, _, _, _, Lib.hid (by omega), rfl, HT0, XE⟩
 case round =>
  obtain ⟨g1, h_g1⟩ : ∃ x, x = gk := ⟨_, rfl⟩
  subst h_g1
  obtain ⟨wr1, h_wr1⟩ : ∃ x, x = wr := ⟨_, rfl⟩
  subst h_wr1
  obtain ⟨k, va, vb, vs, HK, rfl, T, HX⟩ := hrel
  clear p0
  have hsr := HX.out.size
  by_cases hlt : k < nb
  ·obtain ⟨zb, zoff, ya, yn, yc, hza, hz0, hrow⟩ := (H1.out.ext HX.out).a.at hlt
   subst hza
   obtain rfl : yn = nc := by rw [← hrow.hlen]; exact HR4.out k hlt
   have hy1 := hrow.hcap
   have hy2 := hrow.hmax
   obtain ⟨eb, eoff, hea, he0⟩ := H1.out.b.at hlt
   subst hea
   obtain ⟨bk, hbk⟩ : ∃ x, x = B[k]?.getD 0 := ⟨_, rfl⟩
   rw [← hbk] at he0
   have HE0 := Lib.hid he0
   have HBK := Lib.hid hbk
   have hbb : -5000 ≤ bk ∧ bk ≤ 5000 := by
    rw [hbk, List.getElem?_eq_getElem (by rw [HLB.out]; exact hlt)]; exact HR6.out _ (List.getElem_mem _)
   obtain ⟨hbb0, hbb1⟩ := hbb
   obtain ⟨sd, hsd⟩ : ∃ s, s = sideI bk := ⟨_, rfl⟩
   have HSD := Lib.hid hsd
   have hsd0 : (bk < 0 ∧ sd = -1) ∨ (¬ bk < 0 ∧ sd = 1) := by rw [hsd]; exact sideI_cases bk
   have hsb : -1 ≤ sd ∧ sd ≤ 1 := by omega
   obtain ⟨hsb0, hsb1⟩ := hsb
   have p1 := HX.out.cellSome P1.out
   have he1 := HX.out.cellSome HE0.out
   have HROW := Lib.hid hrow
   clear hrow hbk hsd he0
   go_upto_if 33 with fail
   go_cut [6] (fun s6 wx => s6 = .int .i64 sd ∧ wr1 = wx)
   case first =>
    rcases hsd0 with ⟨hneg, rfl⟩ | ⟨hneg, rfl⟩
    all_goals
     go_wp2_with fail
     go_meet
     exact ⟨rfl, rfl⟩
   obtain ⟨rfl, rfl⟩ := hcut
   clear hsd0
   have HO0 := Lib.hid (OwnR.made wr1 wr1.heap.size (Nat.le_refl _))
   go_wp2_with fail
   go_loopg [7, 37] yn (fun gk oo ii wr => ∃ (j : Nat) (a1 : Option Addr) (n1 q1 : Nat), Hid (gk + j = yn) ∧ ii = .int .i64 (j : Int) ∧ oo = .slice a1 n1 q1 ∧ Hid (OwnR wr wr1.heap.size (.slice a1 n1 q1) (((A[k]?.getD []).take j).map fun x => (sd * x, (1 : Int)))) ∧ Hid (Ext wr1 wr))
   case atStart => exact ⟨0, _, _, _, Lib.hid (by omega), rfl, rfl, HO0, Lib.hid (Ext.alloc _ _)⟩
   case round =>
    obtain ⟨g2, h_g2⟩ : ∃ x, x = gk := ⟨_, rfl⟩
    subst h_g2
    obtain ⟨wr2, h_wr2⟩ : ∃ x, x = wr := ⟨_, rfl⟩
    subst h_wr2
    obtain ⟨j, a1, n1, q1, HJ, rfl, rfl, HO1, HX1⟩ := hrel
    clear p1 he1 hz0
    by_cases hjl : j < yn
    ·obtain ⟨xb, xoff, hxa, hx0⟩ := (HROW.out.ext HX1.out).at hjl
     subst hxa
     obtain ⟨x, hx⟩ : ∃ x, x = (A[k]?.getD [])[j]?.getD 0 := ⟨_, rfl⟩
     rw [← hx] at hx0
     have HJL := Lib.hid (show j < (A[k]?.getD []).length by rw [HR4.out k hlt]; exact hjl)
     have hxb : -5000 ≤ x ∧ x ≤ 5000 := by
      rw [hx, List.getElem?_eq_getElem HJL.out]; exact (HR5.out k hlt).2 _ (List.getElem_mem _)
     obtain ⟨hxb0, hxb1⟩ := hxb
     have hm1 : sd * x = x ∨ sd * x = -x ∨ sd * x = 0 := by
      have : sd = -1 ∨ sd = 0 ∨ sd = 1 := by omega
      rcases this with h1 | h1 | h1 <;> subst h1 <;> omega
     have hm2 : -5000 ≤ sd * x ∧ sd * x ≤ 5000 := by rcases hm1 with h1 | h1 | h1 <;> rw [h1] <;> omega
     obtain ⟨z, hz⟩ : ∃ z, z = sd * x := ⟨_, rfl⟩
     have hwz2 : wrap64 (sd * x) = z := by rw [hz]; unfold wrap64; omega
     have HSN := Lib.hid (show ((A[k]?.getD []).take j).map (fun x => (sd * x, (1 : Int))) ++ [(z, 1)] = ((A[k]?.getD []).take (j + 1)).map (fun x => (sd * x, (1 : Int))) by
      rw [hz, hx]; exact map_snoc (fun x => (sd * x, (1 : Int))) HJL.out)
     have HLL := Lib.hid (show (((A[k]?.getD []).take j).map (fun x => (sd * x, (1 : Int)))).length = j by rw [List.length_map, List.length_take]; have := HJL.out; omega)
     clear hx hz hm1 hm2
     go_wp2_with fail
     rw [hwz2]
     clear hwz2
     refine (i_whole z _).mono ?_
     rintro e w3 ⟨rfl, hx⟩
     have X3 := Lib.hid (HX1.out.trans hx)
     have HO3 := Lib.hid (HO1.out.ext hx)
     have hs3 := X3.out.size
     clear hx
     go_wp2_with (first
      | (at_builtin; refine append_rats rfl _ _ rfl wr1.heap.size (.slice a1 n1 q1) _ rfl (HO3.out.ext (Ext.alloc _ _)) _ 1 _ [(z, 1)] rfl (Rats.one' _ _ _ _ _ (by simp)) (by rw [HLL.out]; omega) (by simp; omega) ?_; intro v5 w5 ho hg hnear; have X5 := Lib.hid (ext_grown (X3.out.trans (Ext.alloc _ _)) hg (fun j hj => (HO3.out.lt j hj).1)); obtain ⟨a5, n5, p5, rfl, HN5⟩ := ho.var; have HO5 := Lib.hid ho; clear ho hg hnear))
     go_roundg (g2 - 1)
     case measure => have := HJ.out; omega
     case rel => exact ⟨j + 1, a5, n5, p5, Lib.hid (by have := HJ.out; omega), by go_num, rfl, Lib.hid (by rw [← HSN.out]; exact HO5.out), X5⟩
    ·have hjn : yn = j := by have := HJ.out; omega
     have HT2 := Lib.hid (show OwnR wr2 wr1.heap.size (.slice a1 n1 q1) ((A[k]?.getD []).map (fun x => (sd * x, (1 : Int)))) by
      have h1 := HO1.out
      rw [List.take_of_length_le (by rw [HR4.out k hlt]; omega)] at h1; exact h1)
     have HLN := Lib.hid (show ((A[k]?.getD []).map (fun x => (sd * x, (1 : Int)))).length = yn by rw [List.length_map]; exact HR4.out k hlt)
     have p0 := (HX.out.trans HX1.out).cellSome P0.out
     have HJN := Lib.hid hjn
     clear hjn
     go_wp2_with fail
     go_loopg [7, 52] nb (fun gk oo ii wr => ∃ (i : Nat) (a1 : Option Addr) (n1 q1 : Nat), Hid (gk + i = nb) ∧ ii = .int .i64 (i : Int) ∧ oo = .slice a1 n1 q1 ∧ Hid (OwnR wr wr1.heap.size (.slice a1 n1 q1) ((A[k]?.getD []).map (fun x => (sd * x, (1 : Int))) ++ (List.range i).map fun i => if i = k then ((1 : Int), (1 : Int)) else (0, 1))) ∧ Hid (Ext wr1 wr))
     case atStart => exact ⟨0, _, _, _, Lib.hid (by omega), rfl, rfl, Lib.hid (by simpa using HT2.out), HX1⟩
     case round =>
      obtain ⟨g3, h_g3⟩ : ∃ x, x = gk := ⟨_, rfl⟩
      subst h_g3
      obtain ⟨wr3, h_wr3⟩ : ∃ x, x = wr := ⟨_, rfl⟩
      subst h_wr3
      obtain ⟨i, a3, n3, q3, HI, rfl, rfl, HO3, HX3⟩ := hrel
      clear p0
      by_cases hil : i < nb
      ·have HLL := Lib.hid (show ((A[k]?.getD []).map (fun x => (sd * x, (1 : Int))) ++ (List.range i).map fun i => if i = k then ((1 : Int), (1 : Int)) else (0, 1)).length = yn + i by rw [List.length_append, HLN.out]; simp)
       obtain ⟨un, hun⟩ : ∃ u : Int, u = if i = k then 1 else 0 := ⟨_, rfl⟩
       have HSN := Lib.hid (show (List.range i).map (fun i => if i = k then ((1 : Int), (1 : Int)) else (0, 1)) ++ [(un, 1)] = (List.range (i + 1)).map fun i => if i = k then ((1 : Int), (1 : Int)) else (0, 1) by
        rw [← rangeMap_snoc, hun]; congr 2; split <;> rfl)
       have hik : ((i : Int) == (k : Int)) = decide (i = k) := by by_cases h : i = k <;> simp [h] <;> omega
       go_upto_if 57 with fail
       go_cut [11] (fun s11 wx => s11 = .int .i64 un ∧ wr3 = wx)
       case first =>
        by_cases hikk : i = k
        ·have hu1 : un = 1 := by rw [hun, if_pos hikk]
         have hd : decide (i = k) = true := decide_eq_true hikk
         rw [hd]
         subst hu1
         clear hun hikk hik hd
         go_wp2_with fail
         go_meet
         exact ⟨rfl, rfl⟩
        ·have hu1 : un = 0 := by rw [hun, if_neg hikk]
         have hd : decide (i = k) = false := decide_eq_false hikk
         rw [hd]
         subst hu1
         clear hun hikk hik hd
         go_wp2_with fail
         go_meet
         exact ⟨rfl, rfl⟩
       obtain ⟨rfl, rfl⟩ := hcut
       clear hun hik
       go_wp2_with fail
       refine (i_whole un _).mono ?_
       rintro e w3 ⟨rfl, hx⟩
       have X3 := Lib.hid (HX3.out.trans hx)
       have HO4 := Lib.hid (HO3.out.ext hx)
       have hs3 := X3.out.size
       clear hx
       go_wp2_with (first
        | (at_builtin; refine append_rats rfl _ _ rfl wr1.heap.size (.slice a3 n3 q3) _ rfl (HO4.out.ext (Ext.alloc _ _)) _ 1 _ [(un, 1)] rfl (Rats.one' _ _ _ _ _ (by simp)) (by rw [HLL.out]; omega) (by simp; omega) ?_; intro v5 w5 ho hg hnear; have X5 := Lib.hid (ext_grown (X3.out.trans (Ext.alloc _ _)) hg (fun j hj => (HO4.out.lt j hj).1)); obtain ⟨a5, n5, p5, rfl, HN5⟩ := ho.var; have HO5 := Lib.hid ho; clear ho hg hnear))
       go_roundg (g3 - 1)
       case measure => have := HI.out; omega
       case rel => exact ⟨i + 1, a5, n5, p5, Lib.hid (by have := HI.out; omega), by go_num, rfl, Lib.hid (by have := HO5.out; rw [List.append_assoc, HSN.out] at this; exact this), X5⟩
      ·have hin : i = nb := by have := HI.out; omega
       subst hin
       obtain ⟨z2, hz2⟩ : ∃ z, z = sd * bk := ⟨_, rfl⟩
       have hm1 : sd * bk = bk ∨ sd * bk = -bk ∨ sd * bk = 0 := by
        have : sd = -1 ∨ sd = 0 ∨ sd = 1 := by omega
        rcases this with h1 | h1 | h1 <;> subst h1 <;> omega
       have hwr : IntKind.i64.wrap (sd * bk) = z2 := by
        rw [IntKind.wrap_i64, hz2]; rcases hm1 with h1 | h1 | h1 <;> rw [h1] <;> omega
       have HRE := Lib.hid (show ((A[k]?.getD []).map (fun x => (sd * x, (1 : Int))) ++ (List.range i).map fun i => if i = k then ((1 : Int), (1 : Int)) else (0, 1)) ++ [(z2, 1)] = startRow A B k by
        unfold startRow; rw [← HBK.out, ← HSD.out, hz2, HLA.out, unitL_eq])
       have HLL := Lib.hid (show ((A[k]?.getD []).map (fun x => (sd * x, (1 : Int))) ++ (List.range i).map fun i => if i = k then ((1 : Int), (1 : Int)) else (0, 1)).length = yn + i by rw [List.length_append, HLN.out]; simp)
       have HVL := Lib.hid (show vs.length = k by rw [T.out.rows.len]; simp)
       have t0 := tbox0 T.out.box
       have p1 := HX.out.cellSome P1.out
       have he1 := HX.out.cellSome HE0.out
       have hk0 : (0 : Int) ≤ (k : Int) := by omega
       have hk1 : (k : Int) < (i : Int) := by omega
       clear hz2 hm1
       go_upto_region 24 with fail
       have hk3 : Ext wr3 wr3.drew := Ext.drew wr3
       have hk2 : Ext wr1 wr3.drew := HX3.out.trans hk3
       have HKEEP := Lib.hid (fun (w' : World) (h : Ext wr1 w') => (⟨h.cellSome t0, h.cellSome p1, h.cellSome he1, HX.out.trans h⟩ : w'.cell? ⟨w1.heap.size, 0, none⟩ = some va ∧ w'.cell? ⟨w.heap.size, 1, none⟩ = some (.slice (some ⟨eb, eoff, none⟩) i cb) ∧ w'.cell? ⟨eb, eoff + k, none⟩ = some (.int .i64 bk) ∧ Ext w1 w'))
       refine late_begin (M := [16]) (S := fun w' => w'.cell? ⟨w1.heap.size, 0, none⟩ = some va ∧ w'.cell? ⟨w.heap.size, 1, none⟩ = some (.slice (some ⟨eb, eoff, none⟩) i cb) ∧ w'.cell? ⟨eb, eoff + k, none⟩ = some (.int .i64 bk) ∧ Ext w1 w') (by kernel_rfl) ?_
       have hHeld := HKEEP.out _ hk2
       refine lp 0 ?_
       refine ll 1 ?_
       refine lp 2 ?_
       refine lp 3 ?_
       refine lp 4 ?_
       refine ll 5 ?_
       refine lp 6 ?_
       refine lp 7 ?_
       refine ll 8 ?_
       refine lp 9 ?_
       refine late_step (i := 10) (oi := ?_) ?_ ?_ ?_ (fun K hK => ?_)
       rotate_left
       ·simp only [gA, gB, gC]; rfl
       ·kernel_rfl
       ·kernel_rfl
       go_simp
       go_at_call 87
       refine (i_whole _ _).mono ?_
       rintro e w5 ⟨rfl, hx5⟩
       have hk3 : Ext wr3 w5 := hk3.trans hx5
       have hk2 : Ext wr1 w5 := hk2.trans hx5
       have hs5 := hk2.size
       go_wp2_with fail
       refine hK.out _ _ (fun _ => HKEEP.out _ hk2) ?_
       have hHeld := HKEEP.out _ hk2
       clear hK K
       try simp only [Act.put, sA, sB, sC]
       refine late_step (i := 11) (oi := ?_) ?_ ?_ ?_ (fun K hK => ?_)
       rotate_left
       ·simp only [gA, gB, gC]; rfl
       ·kernel_rfl
       ·kernel_rfl
       go_simp
       refine hK.out _ _ (fun _ => HKEEP.out _ (hk2.trans (Ext.alloc _ _))) ?_
       clear hK K
       try simp only [Act.put, sA, sB, sC]
       refine late_step (i := 12) (oi := ?_) ?_ ?_ ?_ (fun K hK => ?_)
       rotate_left
       ·simp only [gA, gB, gC]; rfl
       ·kernel_rfl
       ·kernel_rfl
       refine wp_append_rats _ _ (by rfl) wr1.heap.size (.slice a3 n3 q3) _ (by rfl) ((HO3.out.ext hk3).ext (Ext.alloc _ _)) _ 1 _ [(z2, 1)] (by rfl) (Rats.one' _ _ _ _ _ rfl) (by rw [HLL.out]; omega) (by simp; omega) ?_
       intro v6 w6 ho hg hnear
       obtain ⟨a6, n6, q6, rfl, HN6⟩ := ho.var
       have HO6 := Lib.hid ho
       have hk6 : Ext wr1 w6 := ext_grown (hk2.trans (Ext.alloc _ _)) hg (fun j hj => (HO3.out.lt j hj).1)
       have hs6 := hk6.size
       clear ho hg hnear
       refine hK.out _ _ (fun _ => HKEEP.out _ hk6) ?_
       have hHeld := HKEEP.out _ hk6
       clear hK K
       try simp only [Act.put, sA, sB, sC]
       refine late_step (i := 13) (oi := ?_) ?_ ?_ ?_ (fun K hK => ?_)
       rotate_left
       ·simp only [gA, gB, gC]; rfl
       ·kernel_rfl
       ·kernel_rfl
       go_simp
       refine hK.out _ _ (fun _ => HKEEP.out _ (hk6.trans (Ext.alloc _ _))) ?_
       clear hK K
       try simp only [Act.put, sA, sB, sC]
       refine late_step (i := 14) (oi := ?_) ?_ ?_ ?_ (fun K hK => ?_)
       rotate_left
       ·simp only [gA, gB, gC]; rfl
       ·kernel_rfl
       ·kernel_rfl
       refine wp_append_ratrow _ _ (by rfl) w1.heap.size va vs (by rfl) ((T.out.a.ext hk6).ext (Ext.alloc _ _)) _ _ 1 (by rfl) (by simp; rfl) rfl (by rw [HVL.out]; omega) (by simp; omega) ?_
       intro v7 w7 ho hg hnear
       obtain ⟨a7, n7, q7, rfl, HN7⟩ := ho.var
       have HO7 := Lib.hid ho
       have HG7 := Lib.hid hg
       have hbx := T.out.boxA (hk6.trans (Ext.alloc _ _)) hg
       have c07 := tbox0 hbx
       have cf7 := tboxf hbx
       have hX7 : Ext w1 w7 := ext_grown ((HX.out.trans hk6).trans (Ext.alloc _ _)) hg (fun j hj => (T.out.a.lt j hj).1)
       clear ho hg hnear hbx
       refine hK.out _ _ (fun _ => And.intro c07 (And.intro (hX7.cellSome P1.out) (And.intro (hX7.cellSome HE0.out) hX7))) ?_
       have hHeld := And.intro c07 (And.intro (hX7.cellSome P1.out) (And.intro (hX7.cellSome HE0.out) hX7))
       clear hK K
       try simp only [Act.put, sA, sB, sC]
       refine lp 15 ?_
       refine late_one (i := 16) (oi := ?_) (w' := ?_) ?_ ?_ ?_ ?_ ?_ ?_ ?_
       rotate_left 2
       ·simp only [gA, gB, gC]; rfl
       ·kernel_rfl
       ·kernel_rfl
       ·exact of_decide_eq_true (by kernel_rfl)
       ·rfl
       ·go_simp; (try with_reducible rfl)
       try simp only [Act.put, sA, sB, sC]
       refine late_done (by kernel_rfl) ?_ _
       have HT8 := Lib.hid (T.out.pushA (hk6.trans (Ext.alloc _ _)) (HO6.out.ext (Ext.alloc _ _)) hsr HG7.out HO7.out)
       have HX8 := Lib.hid (hX7.setCell (p := ⟨w1.heap.size, 0, none⟩) (Nat.le_refl _) (.slice a7 n7 q7))
       obtain ⟨W8, hW8⟩ : ∃ x, x = w7.setCell ⟨w1.heap.size, 0, none⟩ (.slice a7 n7 q7) := ⟨_, rfl⟩
       rw [← hW8] at HT8 HX8
       go_upto_region 25 with fail
       rw [← hW8]
       clear hW8 c07 cf7 hHeld
       have b1 := tbox1 HT8.out.box
       have b2 := tbox2 HT8.out.box
       have bf := tboxf HT8.out.box
       have hl8 := lt_of_block HT8.out.box
       have HVB := Lib.hid (show ((List.range k).map fun i => ((yn + i : Nat) : Int)).length = k by simp)
       go_wp2_with (first
        | (at_builtin; refine append_ints rfl _ _ rfl w1.heap.size vb _ rfl (HT8.out.b.ext (Ext.alloc _ _)) _ 1 _ [(yn : Int) + (k : Int)] rfl (Ints.oneS _ _ _ _ (by simp)) (by rw [HVB.out]; omega) (by simp; omega) ?_; intro v9 w9 ho hg hnear; obtain ⟨a9, n9, q9, rfl, HN9⟩ := ho.var; have HO9 := Lib.hid ho; have HG9 := Lib.hid hg; have hbx := HT8.out.boxB (Ext.alloc _ _) hg; have c09 := tbox1 hbx; have cf9 := tboxf hbx; have hX9 : Ext w1 w9 := ext_grown (Ext.trans HX8.out (Ext.alloc _ _)) hg (fun j hj => (HT8.out.b.lt j hj).1); clear ho hg hnear hbx))
       have HT9 := Lib.hid (HT8.out.pushB (Ext.alloc _ _) HG9.out HO9.out)
       have HXN := Lib.hid (hX9.setCell (p := ⟨w1.heap.size, 1, none⟩) (Nat.le_refl _) (.slice a9 n9 q9))
       go_roundg (g1 - 1)
       case measure => have := HK.out; omega
       case rel => exact ⟨k + 1, _, _, _, Lib.hid (by have := HK.out; omega), by go_num, Lib.hid (by
        have h1 := HT9.out
        rw [HRE.out, rangeMap_snoc] at h1
        have h2 : ((List.range k).map fun i => ((yn + i : Nat) : Int)) ++ [(yn : Int) + (k : Int)] = (List.range (k + 1)).map fun i => ((yn + i : Nat) : Int) := by
         rw [← rangeMap_snoc]; simp
        rw [h2] at h1
        exact h1), HXN⟩
  ·have hkn : nb = k := by have := HK.out; omega
   subst hkn
   have HTN := Lib.hid (show OwnT wr1 w1.heap.size va vb vs (startT A B nc) by have := T.out.own; unfold startT; rw [HLA.out]; exact this)
   have t0 := tbox0 T.out.box
   have t1 := tbox1 T.out.box
   have t2 := tbox2 T.out.box
   obtain ⟨a7, n7, c7, rfl, HN7⟩ := T.out.a.var
   obtain ⟨a8, n8, c8, rfl, HN8⟩ := T.out.b.var
   have xw := X1.out.trans HX.out
   have r0 := tbox0 (xw.blk HGB.out)
   have r1 := tbox1 (xw.blk HGB.out)
   have r2 := tbox2 (xw.blk HGB.out)
   have rf := tboxf (xw.blk HGB.out)
   have XW := Lib.hid xw
   clear xw
   go_wp2_with fail
   refine bodyPost_ret (v := .agg #[.slice a7 n7 c7, .slice a8 n8 c8, .int .i64 (nc : Int)]) (by simp [results, Tryz.results188, go_sem, r0, r1, r2, rf]) rfl ⟨⟨_, _, vs, rfl, ?_⟩, (HX0.out.trans XW.out).set3 (Nat.le_succ _) _ _ _⟩
   exact (HTN.out.keepAll fun k hk => set3_other _ _ _ _ _ _ (by omega)).mono (by omega)
end
end Go.Proofs.YtgohdmnbnhehnaaGreat
namespace Go.Proofs.YtgohdmnbnhehnaaGreat
set_option linter.unusedVariables false
set_option linter.unusedSimpArgs false
open Go.RowKit
theorem driveN_succ (n : Nat) (s : Tb × Nat) (k : Nat) : driveN n s (k + 1) = (driveN n s k).bind fun s' => driveF n s' k := rfl
section
variable {n : Nat} {s : Tb × Nat} {k : Nat} {tt : Tb} {lf : Nat}
theorem drive_stay (h : driveN n s k = some (tt, lf)) (hb : tt.basis[k]?.getD 0 < n) : driveN n s (k + 1) = some (tt, lf) := by
 rw [driveN_succ, h, Option.bind_some]; unfold driveF; rw [if_pos hb]
theorem drive_none (h : driveN n s k = some (tt, lf)) (hb : ¬ tt.basis[k]?.getD 0 < n) (ha : ((tt.row k).take n).all (fun c => !offZ c) = true) : driveN n s (k + 1) = some (tt, lf) := by
 rw [driveN_succ, h, Option.bind_some]; unfold driveF; rw [if_neg hb]; simp only; rw [indexF_none ha, if_pos (by omega)]
theorem drive_piv (h : driveN n s k = some (tt, lf)) (hb : ¬ tt.basis[k]?.getD 0 < n) {j : Nat} (hj : j < n) (hl : j < (tt.row k).length) (h0 : ((tt.row k).take j).all (fun c => !offZ c) = true) (h1 : offZ ((tt.row k)[j]?.getD (0, 0)) = true) (hlf : lf ≤ 1000) :
 driveN n s (k + 1) = (pivS tt (1000 - lf) k j).map fun x => (x.1, 1000 - x.2) := by
 have hi : indexF offZ ((tt.row k).take n) = j := by
  refine indexF_at (d := (0, 0)) (by simp; omega) (by rw [List.take_take, Nat.min_eq_left (by omega)]; exact h0) ?_
  rw [List.getElem?_take_of_lt hj]; exact h1
 rw [driveN_succ, h, Option.bind_some]; unfold driveF; rw [if_neg hb]; simp only; rw [hi, if_neg (by omega)]
 unfold pivS
 cases lf with
 | zero => rw [if_pos (by omega)]; rfl
 | succ f =>
   rw [if_neg (by omega)]
   simp only
   cases pivotT tt k j with
   | none => rfl
   | some t' => simp only [Option.map_some]; congr 2; omega
theorem drive_left (h : driveN n s k = some (tt, lf)) (hb : ¬ tt.basis[k]?.getD 0 < n) {j : Nat} (hj : j < n) (hl : j < (tt.row k).length) (h0 : ((tt.row k).take j).all (fun c => !offZ c) = true) (h1 : offZ ((tt.row k)[j]?.getD (0, 0)) = true) (hlf : lf ≤ 1000) :
 ((driveN n s (k + 1)).map fun x => (x.1, 1000 - x.2)) = pivS tt (1000 - lf) k j := by
 rw [drive_piv h hb hj hl h0 h1 hlf]
 unfold pivS
 split
 ·rfl
 ·next hn =>
  cases pivotT tt k j with
  | none => rfl
  | some t' => simp only [Option.map_some]; congr 2; omega
theorem driveN_stuck (h : driveN n s k = none) : ∀ {m : Nat}, k ≤ m → driveN n s m = none := by
 intro m hm
 obtain ⟨d, rfl⟩ : ∃ d, m = k + d := ⟨m - k, by omega⟩
 clear hm
 induction d with
 | zero => exact h
 | succ d ih => rw [show k + (d + 1) = (k + d) + 1 by omega, driveN_succ, ih]; rfl
end
theorem Left.more {S : Nat} {a b c : World} {o : Option (Tb × Nat)} (hx : Ext a b) (h : Left S b c o) : Left S a c o := ⟨(Mod.of hx).trans h.1, h.2⟩
theorem offZ_snoc {l : List (Int × Int)} {j : Nat} {p : Int × Int} (hj : j < l.length) (hp : l[j]?.getD (0, 0) = p) (h0 : (l.take j).all (fun c => !offZ c) = true) (h1 : offZ p = false) : (l.take (j + 1)).all (fun c => !offZ c) = true := by
 rw [take_snocR hj, List.all_append, h0, hp]; simp [h1]
theorem offZ_eq (p q : Int) : offZ (p, q) = !((p == 0) && (q == 1)) := by unfold offZ; rw [Bool.eq_iff_iff]; simp
theorem enterT_range (cs : List (Int × Int)) (m : Nat) : enterT cs m = -1 ∨ ∃ j : Nat, enterT cs m = j ∧ j < m := by
 unfold enterT
 split
 ·exact Or.inl rfl
 ·unfold indexF
  split
  ·next i hi =>
   right
   refine ⟨i, rfl, ?_⟩
   have := (List.findIdx?_eq_some_iff_getElem.1 hi).1
   rw [List.length_take] at this
   omega
  ·exact Or.inl rfl
theorem phase_col {n m : Nat} {T0 : Nat → Nat → Rat} {cost : List (Int × Int)} : ∀ {f : Nat} {t : Tb} {p : Ph}, TInv n m T0 t → phaseT cost f t = some p → p.col = -1 ∨ ∃ j : Nat, p.col = j ∧ j < n := by
 intro f
 induction f with
 | zero =>
   intro t p ht h
   unfold phaseT at h
   cases hc : costT t cost with
   | none => rw [hc] at h; cases h
   | some cs =>
     rw [hc] at h
     simp only at h
     split at h
     ·cases h; exact Or.inl rfl
     ·split at h
      ·cases h; rw [ht.cols]; exact enterT_range cs n
      ·cases h
 | succ f ih =>
   intro t p ht h
   unfold phaseT at h
   cases hc : costT t cost with
   | none => rw [hc] at h; cases h
   | some cs =>
     rw [hc] at h
     simp only at h
     split at h
     ·cases h; exact Or.inl rfl
     ·split at h
      ·cases h; rw [ht.cols]; exact enterT_range cs n
      ·cases hp : pivotT t (leaveT t (enterT cs t.cols)) (enterT cs t.cols) with
       | none => rw [hp] at h; cases h
       | some t' => rw [hp] at h; exact ih (pivotT_inv ht hp) h
theorem rayN_yes {t : Tb} {n col k : Nat} (h : t.basis[k]?.getD 0 < n) : rayN t n col (k + 1) = (rayN t n col k).set (t.basis[k]?.getD 0).toNat (negR (t.at k col)) := by simp only [rayN]; rw [if_pos h]
theorem rayN_no {t : Tb} {n col k : Nat} (h : ¬ t.basis[k]?.getD 0 < n) : rayN t n col (k + 1) = rayN t n col k := by simp only [rayN]; rw [if_neg h]
theorem rayN_len (t : Tb) (n col : Nat) : ∀ k, (rayN t n col k).length = n
 | 0 => by simp [rayN]
 | k + 1 => by
   by_cases h : t.basis[k]?.getD 0 < n
   ·rw [rayN_yes h, List.length_set]; exact rayN_len t n col k
   ·rw [rayN_no h]; exact rayN_len t n col k
theorem rayN_zero (t : Tb) (n col : Nat) : rayN t n col 0 = (List.replicate n ((0 : Int), (1 : Int))).set col (1, 1) := by
 simp only [rayN]
 apply List.ext_getElem
 ·simp
 ·intro i h1 h2
  rw [List.getElem_set]
  simp only [List.getElem_map, List.getElem_range, List.getElem_replicate]
  by_cases h : i = col
  ·rw [if_pos h, if_pos h.symm]
  ·rw [if_neg h, if_neg (fun e => h e.symm)]
theorem Rats.take {w : World} {a : Option Addr} {n cap : Nat} {l : List (Int × Int)} (h : Rats w a n cap l) {k : Nat} (hk : k ≤ n) : Rats w a k cap (l.take k) :=
 ⟨by rw [List.length_take, h.hlen]; omega, Nat.le_trans hk h.hcap, h.hmax, fun j hj => by
  obtain ⟨b, off, e, hc⟩ := h.cell j (by omega)
  refine ⟨b, off, e, fun i hi => ?_⟩
  rw [List.getElem?_take_of_lt hi]
  exact hc i (by omega)⟩
structure LrB (w W : World) (g : Nat) (s : Int) (vx vy vr : Value) (p q piv : Int) : Prop where
 ext : Ext w W
 hg : w.heap.size ≤ g
 box : W.heap[g]? = some (.cells #[.int .i64 s, vx, vy, vr, .int .i64 p, .int .i64 q, .int .i64 piv] 87 (0, 0))
abbrev lrZ : Obj := .cells #[.int .i64 0, .slice none 0 0, .slice none 0 0, .slice none 0 0, .int .i64 0, .int .i64 0, .int .i64 0] 87
theorem LrB.new {w W : World} (h : Ext w W) : LrB w (W.alloc lrZ) W.heap.size 0 (.slice none 0 0) (.slice none 0 0) (.slice none 0 0) 0 0 0 := ⟨h.trans (Ext.alloc _ _), h.size, heapA_new _ _ _ rfl⟩
theorem LrB.grow {w W W' : World} {g : Nat} {s : Int} {vx vy vr : Value} {p q piv : Int} (h : LrB w W g s vx vy vr p q piv) (hx : Ext W W') : LrB w W' g s vx vy vr p q piv := ⟨h.ext.trans hx, h.hg, (hx.block _ (lt_of_block h.box)).trans h.box⟩
theorem LrB.put {w W : World} {g : Nat} {s : Int} {vx vy vr : Value} {p q piv : Int} (h : LrB w W g s vx vy vr p q piv) (s' : Int) (vx' vy' vr' : Value) (p' q' piv' : Int) :
 LrB w (((((((W.setCell ⟨g, 0, none⟩ (.int .i64 s')).setCell ⟨g, 1, none⟩ vx').setCell ⟨g, 2, none⟩ vy').setCell ⟨g, 3, none⟩ vr').setCell ⟨g, 4, none⟩ (.int .i64 p')).setCell ⟨g, 5, none⟩ (.int .i64 q')).setCell ⟨g, 6, none⟩ (.int .i64 piv')) g s' vx' vy' vr' p' q' piv' := by
 refine ⟨((((((h.ext.setCell (p := ⟨g, 0, none⟩) h.hg _).setCell (p := ⟨g, 1, none⟩) h.hg _).setCell (p := ⟨g, 2, none⟩) h.hg _).setCell (p := ⟨g, 3, none⟩) h.hg _).setCell (p := ⟨g, 4, none⟩) h.hg _).setCell (p := ⟨g, 5, none⟩) h.hg _).setCell (p := ⟨g, 6, none⟩) h.hg _, h.hg, ?_⟩
 have b0 := heap_setCell_same W g 0 _ _ (.int .i64 s') h.box
 have b1 := heap_setCell_same _ g 1 _ _ vx' b0
 have b2 := heap_setCell_same _ g 2 _ _ vy' b1
 have b3 := heap_setCell_same _ g 3 _ _ vr' b2
 have b4 := heap_setCell_same _ g 4 _ _ (.int .i64 p') b3
 have b5 := heap_setCell_same _ g 5 _ _ (.int .i64 q') b4
 have b6 := heap_setCell_same _ g 6 _ _ (.int .i64 piv') b5
 rw [b6]; rfl
section
variable {w W : World} {g : Nat} {s : Int} {vx vy vr : Value} {p q piv : Int}
theorem LrB.c0 (h : LrB w W g s vx vy vr p q piv) : W.cell? ⟨g, 0, none⟩ = some (.int .i64 s) := by rw [cell_of_row W g _ _ _ _ h.box]; rfl
theorem LrB.c1 (h : LrB w W g s vx vy vr p q piv) : W.cell? ⟨g, 1, none⟩ = some vx := by rw [cell_of_row W g _ _ _ _ h.box]; rfl
theorem LrB.c2 (h : LrB w W g s vx vy vr p q piv) : W.cell? ⟨g, 2, none⟩ = some vy := by rw [cell_of_row W g _ _ _ _ h.box]; rfl
theorem LrB.c3 (h : LrB w W g s vx vy vr p q piv) : W.cell? ⟨g, 3, none⟩ = some vr := by rw [cell_of_row W g _ _ _ _ h.box]; rfl
theorem LrB.c4 (h : LrB w W g s vx vy vr p q piv) : W.cell? ⟨g, 4, none⟩ = some (.int .i64 p) := by rw [cell_of_row W g _ _ _ _ h.box]; rfl
theorem LrB.c5 (h : LrB w W g s vx vy vr p q piv) : W.cell? ⟨g, 5, none⟩ = some (.int .i64 q) := by rw [cell_of_row W g _ _ _ _ h.box]; rfl
theorem LrB.c6 (h : LrB w W g s vx vy vr p q piv) : W.cell? ⟨g, 6, none⟩ = some (.int .i64 piv) := by rw [cell_of_row W g _ _ _ _ h.box]; rfl
theorem LrB.free (h : LrB w W g s vx vy vr p q piv) (k : Nat) : W.frozen? ⟨g, k, none⟩ = false := frozen_of_row W g k _ _ h.box
end
theorem LrB.firstD {w w' : World} (h : Ext (w.alloc lrZ).drew w') : LrB w w' w.heap.size 0 (.slice none 0 0) (.slice none 0 0) (.slice none 0 0) 0 0 0 :=
 LrB.grow ⟨(Ext.alloc _ _).trans (Ext.drew _), Nat.le_refl _, heap_alloc_new w _⟩ h
theorem OwnI.mod {w w' : World} {S b : Nat} {v : Value} {l : List Int} (h : OwnI w b v l) (hm : Mod S w w') {c : Array Value} {z : Nat × Nat} (hb : w.heap[S]? = some (.cells c 189 z)) : OwnI w' b v l :=
 h.keep fun k hk => hm.block k (h.lt k hk).2 fun e => (ownsRow_ne h hb (by decide)) (by rw [hk, e])
theorem OwnR.onRats {w : World} {base b : Nat} {a : Option Addr} {n cap : Nat} {l : List (Int × Int)} (h : OwnR w b (.slice a n cap) l) (hb : base ≤ b) : On base w (fun W => Rats W a n cap l) :=
 fun w2 h2 => (h.keep fun k hk => h2 k (Nat.le_trans hb (h.lt k hk).1) (h.lt k hk).2).rats
theorem OwnR.onTake {w : World} {base b : Nat} {a : Option Addr} {n cap : Nat} {l : List (Int × Int)} (h : OwnR w b (.slice a n cap) l) (hb : base ≤ b) {k : Nat} (hk : k ≤ n) : On base w (fun W => Rats W a k cap (l.take k)) :=
 fun w2 h2 => (h.onRats hb w2 h2).take hk
theorem Rats.nilR (w : World) : Rats w none 0 0 [] := ⟨rfl, Nat.le_refl _, by omega, fun k hk => absurd hk (by omega)⟩
structure LrOw (w : World) (base : Nat) (xa : Option Addr) (xn xc : Nat) (ya : Option Addr) (yn yc : Nat) (ra : Option Addr) (rn rc : Nat) (r : LpR) : Prop where
 x : On base w fun W => Rats W xa xn xc r.X
 y : On base w fun W => Rats W ya yn yc r.Y
 ray : On base w fun W => Rats W ra rn rc r.ray
theorem LrOw.here {w : World} {base : Nat} {xa : Option Addr} {xn xc : Nat} {ya : Option Addr} {yn yc : Nat} {ra : Option Addr} {rn rc : Nat} {r : LpR} (h : LrOw w base xa xn xc ya yn yc ra rn rc r) : LrC w xa xn xc ya yn yc ra rn rc r := ⟨h.x.here, h.y.here, h.ray.here⟩
theorem LrOw.ext {w w' : World} {base : Nat} {xa : Option Addr} {xn xc : Nat} {ya : Option Addr} {yn yc : Nat} {ra : Option Addr} {rn rc : Nat} {r : LpR} (h : LrOw w base xa xn xc ya yn yc ra rn rc r) (hx : Ext w w') : LrOw w' base xa xn xc ya yn yc ra rn rc r := ⟨h.x.ext hx, h.y.ext hx, h.ray.ext hx⟩
theorem LrOw.keep {w w' : World} {base : Nat} {xa : Option Addr} {xn xc : Nat} {ya : Option Addr} {yn yc : Nat} {ra : Option Addr} {rn rc : Nat} {r : LpR} (h : LrOw w base xa xn xc ya yn yc ra rn rc r) (hs : w.heap.size ≤ w'.heap.size) (hk : ∀ k, base ≤ k → k < w.heap.size → w'.heap[k]? = w.heap[k]?) : LrOw w' base xa xn xc ya yn yc ra rn rc r :=
 ⟨h.x.keep hs hk, h.y.keep hs hk, h.ray.keep hs hk⟩
theorem LrOw.mono {w : World} {base base' : Nat} {xa : Option Addr} {xn xc : Nat} {ya : Option Addr} {yn yc : Nat} {ra : Option Addr} {rn rc : Nat} {r : LpR} (h : LrOw w base xa xn xc ya yn yc ra rn rc r) (hb : base' ≤ base) : LrOw w base' xa xn xc ya yn yc ra rn rc r := ⟨h.x.mono hb, h.y.mono hb, h.ray.mono hb⟩
theorem LrOw.zero (w : World) (base : Nat) (s : Int) : LrOw w base none 0 0 none 0 0 none 0 0 (lpZero s) := ⟨fun w _ => Rats.nilR w, fun w _ => Rats.nilR w, fun w _ => Rats.nilR w⟩
end Go.Proofs.YtgohdmnbnhehnaaGreat
