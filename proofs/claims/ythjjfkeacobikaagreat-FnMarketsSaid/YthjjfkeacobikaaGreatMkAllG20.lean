import Derived.Test.YthjjfkeacobikaaGreatMkAllG19
import Derived.Test.YthjjfkeacobikaaGreatMkAllG17
import Derived.Test.YthjjfkeacobikaaGreatMkAllG11
import Derived.Test.YthjjfkeacobikaaGreatMkAllG31
import Derived.Test.YthjjfkeacobikaaGreatMkAllG9
import Derived.Test.YthjjfkeacobikaaGreatMkAllG12
import Derived.Test.YthjjfkeacobikaaGreatMkAllG1
namespace Go.Proofs.YthjjfkeacobikaaGreat
set_option linter.unusedVariables false
set_option linter.unusedSimpArgs false
set_option maxRecDepth 100000
open Go.RowKit
set_option maxHeartbeats 1000000 in
theorem i_GrandValue {w : World} {p : Int} {a : Option Addr} {n cap : Nat} {V : List Int} (h : Ints w a n cap V) :
 Calls Tryz.prog 131 #[pair p a n cap] w fun e w' => e = .returned (.int .i64 (grandV p V)) ∧ Ext w w' := by
 have hi := h.alloc (.cells #[.int .i64 p, .slice a n cap] 29)
 have HX := Lib.hid (Ext.alloc w (.cells #[.int .i64 p, .slice a n cap] 29))
 have HL := Lib.hid h.hlen
 have HI := Lib.hid hi
 have HV := Lib.hid (i_IsValidGame (p := p) hi)
 clear h hi
 cases hv : gameOk p V
 ·rw [hv] at HV
  have HG := Lib.hid (grandV_no hv)
  clear hv
  go_enter Tryz.func131, Tryz.ntmps131
  go_wp2_with fail
  refine HV.out.mono ?_
  rintro e w1 ⟨rfl, hx⟩
  have X1 := Lib.hid (HX.out.trans hx)
  clear hx
  go_wp2_with fail
  go_ret
  exact ⟨ret_int HG.out.symm, X1.out⟩
 ·rw [hv] at HV
  obtain ⟨q, rfl, h1, h5, hlen, _, hbd⟩ := gameOk_len hv
  have hN := cN_le q h5
  obtain ⟨u, rfl⟩ : ∃ u, n = u + 1 := ⟨n - 1, by have := HL.out; omega⟩
  have HG := Lib.hid (show grandV (q : Int) V = V[u]?.getD 0 by rw [grandV_ok hv, HL.out]; rfl)
  have hu32 : u ≤ 31 := by have := HL.out; omega
  clear hv hlen hbd hN
  go_enter Tryz.func131, Tryz.ntmps131
  go_wp2_with fail
  refine HV.out.mono ?_
  rintro e w1 ⟨rfl, hx⟩
  have c1 : w1.cell? ⟨w.heap.size, 1, none⟩ = some (.slice a (u + 1) cap) := hx.cellSome (by simp)
  obtain ⟨b, off, rfl, hc⟩ := (HI.out.ext hx).at (show u < u + 1 by omega)
  have hlen1 : ((u + 1 : Nat) : Int) - 1 = (u : Int) := by omega
  have X1 := Lib.hid (HX.out.trans hx)
  clear hx
  go_wp2_with fail
  go_ret
  exact ⟨ret_int HG.out.symm, X1.out⟩
def codeI (ok : Bool) (g : Int) (r : LpR) : Int := if ok = false then 0 else if r.status ≠ 1 then 3 else if 0 < cmpR (negR r.value) (g, 1) then 2 else if ((slackR g r).2 && (lastR g r).2) = true then 1 else 3
def codeS (ok : Bool) (g : Int) (r : LpR) : Int := if ok = false then 0 else if r.status ≠ 1 then 3 else if (slackR g r).2 = false then 3 else if (slackR g r).1.1 < 0 then 2 else if (lastR g r).2 = true then 1 else 3
def CoR (w : World) (base : Nat) (e : Ending) (code : Int) (pt : List (Int × Int)) : Prop :=
 ∃ pa pn pc wa wn wc, e = .returned (.agg #[.int .i64 code, .slice pa pn pc, .slice wa wn wc]) ∧ (code = 1 → OwnR w base (.slice pa pn pc) pt)
theorem cbox3 {w : World} {g : Nat} {a b c : Value} {t : TypeId} (hb : w.heap[g]? = some (.cells #[a, b, c] t (0, 0))) :
 w.cell? ⟨g, 0, none⟩ = some a ∧ w.cell? ⟨g, 1, none⟩ = some b ∧ w.cell? ⟨g, 2, none⟩ = some c ∧ ∀ k, w.frozen? ⟨g, k, none⟩ = false := by
 refine ⟨?_, ?_, ?_, fun k => frozen_of_row w g k _ _ hb⟩ <;> rw [cell_of_row w g _ _ _ _ hb] <;> rfl
theorem coreOut {w W : World} {r : Nat} {x0 x1 x2 : Value} {t : TypeId} (hb : W.heap[r]? = some (.cells #[x0, x1, x2] t (0, 0))) (hX : Ext w W) (hr : w.heap.size ≤ r) (v0 v1 v2 : Value) :
 Ext w (((W.setCell ⟨r, 0, none⟩ v0).setCell ⟨r, 1, none⟩ v1).setCell ⟨r, 2, none⟩ v2) ∧ (((W.setCell ⟨r, 0, none⟩ v0).setCell ⟨r, 1, none⟩ v1).setCell ⟨r, 2, none⟩ v2).cell? ⟨r, 0, none⟩ = some v0 ∧ (((W.setCell ⟨r, 0, none⟩ v0).setCell ⟨r, 1, none⟩ v1).setCell ⟨r, 2, none⟩ v2).cell? ⟨r, 1, none⟩ = some v1 ∧ (((W.setCell ⟨r, 0, none⟩ v0).setCell ⟨r, 1, none⟩ v1).setCell ⟨r, 2, none⟩ v2).cell? ⟨r, 2, none⟩ = some v2 ∧
  ∀ b, b ≠ r → (((W.setCell ⟨r, 0, none⟩ v0).setCell ⟨r, 1, none⟩ v1).setCell ⟨r, 2, none⟩ v2).heap[b]? = W.heap[b]? := by
 have h1 := heap_setCell_same W r 0 _ t v0 hb
 have h2 := heap_setCell_same _ r 1 _ t v1 h1
 have h3 := heap_setCell_same _ r 2 _ t v2 h2
 obtain ⟨c0, c1, c2, _⟩ := cbox3 (a := v0) (b := v1) (c := v2) h3
 exact ⟨((hX.setCell (p := ⟨r, 0, none⟩) hr _).setCell (p := ⟨r, 1, none⟩) hr _).setCell (p := ⟨r, 2, none⟩) hr _, c0, c1, c2, fun b hb2 => (heap_setCell_other _ _ _ _ hb2).trans ((heap_setCell_other _ _ _ _ hb2).trans (heap_setCell_other _ _ _ _ hb2))⟩
theorem getD_bdF {V : List Int} (hb : ∀ x ∈ V, -500 ≤ x ∧ x ≤ 500) (k : Nat) : -500 ≤ V[k]?.getD 0 ∧ V[k]?.getD 0 ≤ 500 := by
 by_cases h : k < V.length
 ·rw [List.getElem?_eq_getElem h]; exact hb _ (List.getElem_mem h)
 ·rw [List.getElem?_eq_none (by omega)]; simp
set_option maxHeartbeats 16000000 in
theorem i_FindCore {w : World} {p : Int} {a : Option Addr} {n cap : Nat} {V : List Int} (h : Ints w a n cap V) :
 Calls Tryz.prog 97 #[pair p a n cap] w fun e w' => CoR w' w.heap.size e (codeI (gameOk p V) (grandV p V) (solveG boundI (coreA p.toNat n) (coreB p.toNat) (coreC V))) (ptR (grandV p V) (solveG boundI (coreA p.toNat n) (coreB p.toNat) (coreC V))) ∧ Ext w w' := by
 obtain ⟨W, hW⟩ : ∃ W, W = (w.alloc (.cells #[.int .i64 p, .slice a n cap] 29)).alloc (.cells #[.int .i64 0, .slice none 0 0, .slice none 0 0] 38) := ⟨_, rfl⟩
 have hws : W.heap.size = w.heap.size + 2 := by rw [hW]; simp
 have hX : Ext w W := by rw [hW]; exact (Ext.alloc _ _).trans (Ext.alloc _ _)
 have HRB := Lib.hid (show W.heap[w.heap.size + 1]? = some (.cells #[.int .i64 0, .slice none 0 0, .slice none 0 0] 38 (0, 0)) by rw [hW]; exact heapA_new _ _ _ (by simp))
 have HP0 := Lib.hid (show W.cell? ⟨w.heap.size, 0, none⟩ = some (.int .i64 p) by rw [hW]; exact Ext.cellSome (Ext.alloc _ _) (by simp))
 have HP1 := Lib.hid (show W.cell? ⟨w.heap.size, 1, none⟩ = some (.slice a n cap) by rw [hW]; exact Ext.cellSome (Ext.alloc _ _) (by simp))
 have HI := Lib.hid (h.ext hX)
 have HX := Lib.hid hX
 have HBL := Lib.hid (i_BalancedLP (p := p) HI.out)
 obtain ⟨g, hg0⟩ : ∃ g, g = grandV p V := ⟨_, rfl⟩
 obtain ⟨r, hr0⟩ : ∃ r, r = solveG boundI (coreA p.toNat n) (coreB p.toNat) (coreC V) := ⟨_, rfl⟩
 have HG := Lib.hid hg0
 have HRR := Lib.hid hr0
 rw [← hg0, ← hr0]
 have HEND := Lib.hid (fun (w' : World) (hx : Ext W w') (code : Int) (x1 x2 : Value) => coreOut (w := w) ((hx.block _ (by omega)).trans HRB.out) (HX.out.trans hx) (Nat.le_succ _) (.int .i64 code) x1 x2)
 have HRX := Lib.hid (fun (w' : World) (hx : Ext W w') => cbox3 ((hx.block _ (by omega)).trans HRB.out))
 clear h hX hg0 hr0
 cases hgo : gameOk p V
 ·rw [hgo] at HBL
  have HC := Lib.hid (show codeI false g r = 0 from rfl)
  clear hgo
  go_enter Tryz.func97, Tryz.ntmps97
  go_wp2_with fail
  rw [← hW]
  refine HBL.out.mono ?_
  rintro e w1 ⟨⟨la, lna, lca, lb, lnb, lcb, lc, lnc, lcc, rfl, _⟩, hx⟩
  unfold lpW
  obtain ⟨w2, hw2⟩ : ∃ E, E = w1.alloc (lpBox la lna lca lb lnb lcb lc lnc lcc) := ⟨_, rfl⟩
  have X2 : Ext W w2 := by rw [hw2]; exact hx.trans (Ext.alloc _ _)
  obtain ⟨q0, q1, q2, qf⟩ := HRX.out w2 X2
  obtain ⟨z, z0, z1, z2, _⟩ := HEND.out w2 X2 0 (.slice none 0 0) (.slice none 0 0)
  have HZ := Lib.hid z
  go_upto_region 2 with fail
  rw [← hw2]
  clear hx hw2 hW z
  go_wp2_with fail
  refine bodyPost_ret (v := .agg #[.int .i64 0, .slice none 0 0, .slice none 0 0]) (by simp [results, Tryz.results97, go_sem, z0, z1, z2]) rfl ⟨⟨_, _, _, _, _, _, by rw [HC.out], fun h => by rw [HC.out] at h; cases h⟩, HZ.out⟩
 ·rw [hgo] at HBL
  obtain ⟨q, hpq, hq1, hq5, hVl, _, hVb⟩ := gameOk_len hgo
  have hgb : -500 ≤ g ∧ g ≤ 500 := by rw [HG.out, grandV_ok hgo]; exact getD_bdF hVb _
  have HPQ := Lib.hid hpq
  clear hgo hVl hVb hpq
  go_enter Tryz.func97, Tryz.ntmps97
  go_wp2_with fail
  rw [← hW]
  refine HBL.out.mono ?_
  rintro e w1 ⟨⟨la, lna, lca, lb, lnb, lcb, lc, lnc, lcc, rfl, hlp⟩, hx⟩
  unfold lpW
  obtain ⟨w2, hw2⟩ : ∃ E, E = w1.alloc (lpBox la lna lca lb lnb lcb lc lnc lcc) := ⟨_, rfl⟩
  have hx2 : Ext w1 w2 := by rw [hw2]; exact Ext.alloc _ _
  have X2 := Lib.hid (hx.trans hx2)
  have HSV := Lib.hid (i_SolveLP ((hlp rfl).ext hx2))
  rw [← HRR.out] at HSV
  have t0 := tbox0 (show w2.heap[w1.heap.size]? = some (.cells #[.slice la lna lca, .slice lb lnb lcb, .slice lc lnc lcc] 109 (0, 0)) by rw [hw2]; exact heapA_new _ _ _ rfl)
  have t1 := tbox1 (show w2.heap[w1.heap.size]? = some (.cells #[.slice la lna lca, .slice lb lnb lcb, .slice lc lnc lcc] 109 (0, 0)) by rw [hw2]; exact heapA_new _ _ _ rfl)
  have t2 := tbox2 (show w2.heap[w1.heap.size]? = some (.cells #[.slice la lna lca, .slice lb lnb lcb, .slice lc lnc lcc] 109 (0, 0)) by rw [hw2]; exact heapA_new _ _ _ rfl)
  go_upto_region 2 with fail
  rw [← hw2]
  clear hx hx2 hlp hw2 hW
  go_wp2_with fail
  refine HSV.out.mono ?_
  have HST := Lib.hid (fun (hs : r.status = 1) => show r.Y.length = q ∧ valR r.value = true ∧ ∀ k, k < r.Y.length → valR (r.Y[k]?.getD (0, 0)) = true by
   have := solveG_val (bound := boundI) (A := coreA p.toNat n) (B := coreB p.toNat) (C := coreC V) (by rw [← HRR.out]; exact hs)
   rw [← HRR.out] at this
   refine ⟨?_, this.2.2.2.2⟩
   rw [this.2.2.2.1]
   unfold coreB
   rw [List.length_replicate, HPQ.out, Int.toNat_natCast])
  rintro e w3 ⟨⟨xa, xn, xc, ya, yn, yc, ra, rn, rc, rfl, hlr⟩, hx3⟩
  obtain ⟨w4, hw4⟩ : ∃ E, E = w3.alloc (lrBox r xa xn xc ya yn yc ra rn rc) := ⟨_, rfl⟩
  have hx4 : Ext w3 w4 := by rw [hw4]; exact Ext.alloc _ _
  have X4 := Lib.hid ((X2.out.trans hx3).trans hx4)
  have HLR := Lib.hid (hlr.here.ext hx4)
  have HB5 := Lib.hid (show w4.heap[w3.heap.size]? = some (lrBox r xa xn xc ya yn yc ra rn rc) by rw [hw4]; exact heapA_new _ _ _ rfl)
  obtain ⟨rs, rX, rY, rr, ⟨rv1, rv2⟩, rp⟩ := r
  unfold lrW
  go_upto_region 5 with fail
  rw [← hw4]
  clear hlr hx3 hx4 hw4 t0 t1 t2
  generalize w3.heap.size = b5 at HB5 ⊢
  have hb5l := lt_of_block HB5.out
  obtain ⟨l0, l1, l2, l3, l4, l5, l6, lf⟩ := lbox HB5.out
  try simp only at l0 l1 l2 l3 l4 l5 l6
  by_cases hs : rs = 1
  ·obtain ⟨hyl, hvv, hyv⟩ := HST.out hs
   try simp only at hyl hvv hyv
   subst hs
   have hvb := valR_bd hvv
   try simp only at hvb
   have HGV := Lib.hid (fun (w' : World) (hx : Ext W w') => i_GrandValue (p := p) (HI.out.ext hx))
   simp only [← HG.out] at HGV
   have b0 := X4.out.cellSome HP0.out
   have b1 := X4.out.cellSome HP1.out
   have HYV := Lib.hid hyv
   have HYL := Lib.hid hyl
   clear hvv hyv hyl
   go_wp2_with fail
   refine (HGV.out _ X4.out).mono ?_
   rintro e w5 ⟨rfl, hx5⟩
   go_wp2_with fail
   refine (i_whole g _).mono ?_
   rintro e w6 ⟨rfl, hx6⟩
   obtain ⟨w7, hw7⟩ : ∃ E, E = w6.alloc (.cells #[.int .i64 g, .int .i64 1] 43) := ⟨_, rfl⟩
   have hx7 : Ext w4 w7 := by rw [hw7]; exact (hx5.trans hx6).trans (Ext.alloc _ _)
   have X7 := Lib.hid (X4.out.trans hx7)
   have HBX := Lib.hid (hx7.blk HB5.out)
   have e0 : w7.cell? ⟨w6.heap.size, 0, none⟩ = some (.int .i64 g) := by rw [hw7]; simp
   have e1 : w7.cell? ⟨w6.heap.size, 1, none⟩ = some (.int .i64 1) := by rw [hw7]; simp
   have HY7 := Lib.hid (HLR.out.y.ext hx7)
   obtain ⟨m0, m1, m2, m3, m4, m5, m6, mf⟩ := lbox HBX.out
   try simp only at m0 m1 m2 m3 m4 m5 m6
   go_upto_region 8 with fail
   rw [← hw7]
   clear hx5 hx6 hx7 hw7 l0 l1 l2 l3 l4 l5 l6 lf b0 b1
   generalize w6.heap.size = b6 at e0 e1 ⊢
   obtain ⟨Z, hZ⟩ : ∃ z, z = cmpR (-rv1, rv2) (g, 1) := ⟨_, rfl⟩
   have HZC := Lib.hid hZ
   clear hZ
   go_wp2_with fail
   have hk2 : Ext w7 w7.drew := Ext.drew w7
   have hka := hk2
   have HKEEP := Lib.hid (fun (w' : World) (h : Ext w7 w') => (⟨h.cellSome m4, h.cellSome m5, h.cellSome e0, h.cellSome e1, h⟩ : w'.cell? ⟨b5, 4, none⟩ = some (.int .i64 rv1) ∧ w'.cell? ⟨b5, 5, none⟩ = some (.int .i64 rv2) ∧ w'.cell? ⟨b6, 0, none⟩ = some (.int .i64 g) ∧ w'.cell? ⟨b6, 1, none⟩ = some (.int .i64 1) ∧ Ext w7 w'))
   go_wp2_with fail
   go_region_held3 (fun w' => w'.cell? ⟨b5, 4, none⟩ = some (.int .i64 rv1) ∧ w'.cell? ⟨b5, 5, none⟩ = some (.int .i64 rv2) ∧ w'.cell? ⟨b6, 0, none⟩ = some (.int .i64 g) ∧ w'.cell? ⟨b6, 1, none⟩ = some (.int .i64 1) ∧ Ext w7 w')
    (with_reducible exact HKEEP.out _ hk2)
    (first
      | (go_at_call 137
         (with_reducible refine (i_minus rv1 rv2 _ (by omega) (by omega)).mono ?_)
         rintro e w8 ⟨rfl, hx_w8⟩
         have hk2 : Ext w7 w8 := hk2.trans hx_w8
         have hs_w8 := hk2.size)
      | (go_at_call 38
         (with_reducible refine (i_CompareRat (-rv1) rv2 g 1 _).mono ?_)
         rw [← HZC.out]
         rintro e w9 ⟨rfl, hx_w9⟩
         have hk2 : Ext w7 w9 := hk2.trans hx_w9
         have hs_w9 := hk2.size)
      | fail)
   clear HKEEP hka
   have X9 := X7.out.trans hk2
   have HB9 := Lib.hid (hk2.blk HBX.out)
   obtain ⟨k0, k1, k2, k3, k4, k5, k6, kf⟩ := lbox HB9.out
   try simp only at k0 k1 k2 k3 k4 k5 k6
   have f0 := hk2.cellSome e0
   have f1 := hk2.cellSome e1
   have HY9 := Lib.hid (HY7.out.ext hk2)
   have HXX9 := Lib.hid X9
   clear m0 m1 m2 m3 m4 m5 m6 mf e0 e1 hk2
   by_cases hz : 0 < Z
   ·have HC := Lib.hid (show codeI true g ⟨1, rX, rY, rr, (rv1, rv2), rp⟩ = 2 by
     unfold codeI
     rw [if_neg (by simp), if_neg (by simp), if_pos (by show 0 < cmpR (-rv1, rv2) (g, 1); rw [← HZC.out]; exact hz)])
    obtain ⟨q0, q1, q2, qf⟩ := HRX.out w9 X9
    obtain ⟨z, z0, z1, z2, zo⟩ := HEND.out w9 X9 2 (.slice none 0 0) (.slice xa xn xc)
    have HZ := Lib.hid z
    have HZO := Lib.hid zo
    clear z zo
    go_wp2_with fail
    refine bodyPost_ret (v := .agg #[.int .i64 2, .slice none 0 0, .slice xa xn xc]) (by simp [results, Tryz.results97, go_sem, z0, z1, z2]) rfl ⟨⟨_, _, _, _, _, _, by rw [HC.out], fun h => by rw [HC.out] at h; cases h⟩, HZ.out⟩
   ·have hq100 : yn ≤ 100000 := by have h1 := HY9.out.hlen; have h2 := HYL.out; (try simp only at h1); omega
    have HMA := Lib.hid (i_minusAll HY9.out hq100 (fun k => by
     by_cases hk : k < rY.length
     ·have := valR_bd (HYV.out k hk); omega
     ·rw [List.getElem?_eq_none (by omega)]; simp))
    clear X9
    go_wp2_with fail
    refine HMA.out.mono ?_
    rintro e w10 ⟨⟨v, rfl, ho⟩, hx10⟩
    obtain ⟨a10, n10, p10, rfl, HN10⟩ := ho.var
    have HO10 := Lib.hid ho
    have HB10 := Lib.hid (hx10.blk HB9.out)
    obtain ⟨m0, m1, m2, m3, m4, m5, m6, mf⟩ := lbox HB10.out
    try simp only at m0 m1 m2 m3 m4 m5 m6
    have e0 := hx10.cellSome f0
    have e1 := hx10.cellSome f1
    have X10 := Lib.hid (HXX9.out.trans hx10)
    obtain ⟨s1, s2, one, hsl⟩ : ∃ s1 s2 o, addR (g, 1) (rv1, rv2) = ((s1, s2), o) := ⟨_, _, _, rfl⟩
    have HSL := Lib.hid hsl
    clear ho hx10 k0 k1 k2 k3 k4 k5 k6 kf f0 f1 hsl
    go_wp2_with fail
    refine (i_AddRat g 1 rv1 rv2 _).mono ?_
    rw [HSL.out]
    rintro e w11 ⟨rfl, hx11⟩
    obtain ⟨w12, hw12⟩ : ∃ E, E = w11.alloc (.cells #[.int .i64 s1, .int .i64 s2] 43) := ⟨_, rfl⟩
    have hx12 : Ext w10 w12 := by rw [hw12]; exact hx11.trans (Ext.alloc _ _)
    have X12 := Lib.hid (X10.out.trans hx12)
    have d0 : w12.cell? ⟨w11.heap.size, 0, none⟩ = some (.int .i64 s1) := by rw [hw12]; simp
    have d1 : w12.cell? ⟨w11.heap.size, 1, none⟩ = some (.int .i64 s2) := by rw [hw12]; simp
    have HO12 := Lib.hid (HO10.out.ext hx12)
    have hpl : (rY.map negR).length = q := by rw [List.length_map]; exact HYL.out
    have HN10Q := Lib.hid (show n10 = q by rw [← HN10.out]; exact hpl)
    obtain ⟨u, hu⟩ : ∃ u : Nat, u + 1 = n10 := ⟨n10 - 1, by have := HN10Q.out; omega⟩
    have hu1 : (n10 : Int) - 1 = (u : Int) := by omega
    have hun : u < n10 := by omega
    have hwu : IntKind.i64.wrap ((n10 : Int) - 1) = (u : Int) := by rw [hu1, IntKind.wrap_i64]; have := HO12.out.rats.hcap; have := HO12.out.rats.hmax; omega
    have hu0 : (0 : Int) ≤ (u : Int) := by omega
    have hul : (u : Int) < (n10 : Int) := by omega
    obtain ⟨xb, xo, x1, x2, rfl, hxe, hxc, hxd⟩ := HO12.out.rats.at hun
    obtain ⟨l1, l2, two, hls⟩ : ∃ l1 l2 o, addR (x1, x2) (s1, s2) = ((l1, l2), o) := ⟨_, _, _, rfl⟩
    have HLS := Lib.hid hls
    have HLA := Lib.hid (show lastR g ⟨1, rX, rY, rr, (rv1, rv2), rp⟩ = ((l1, l2), two) by
     unfold lastR slackR negY
     simp only
     rw [hpl, ← HN10Q.out, show n10 - 1 = u by omega, hxe, HSL.out, hls])
    have HPT := Lib.hid (show ptR g ⟨1, rX, rY, rr, (rv1, rv2), rp⟩ = (rY.map negR).set u (l1, l2) by
     unfold ptR negY
     simp only
     rw [HLA.out, hpl, ← HN10Q.out, show n10 - 1 = u by omega])
    have HUL := Lib.hid (show u < (rY.map negR).length by rw [hpl, ← HN10Q.out]; exact hun)
    have HSK := Lib.hid (show slackR g ⟨1, rX, rY, rr, (rv1, rv2), rp⟩ = ((s1, s2), one) from HSL.out)
    have HC0 := Lib.hid (show codeI true g ⟨1, rX, rY, rr, (rv1, rv2), rp⟩ = if (one && two) = true then 1 else 3 by
     unfold codeI
     rw [if_neg (by simp), if_neg (by simp), if_neg (by show ¬ 0 < cmpR (-rv1, rv2) (g, 1); rw [← HZC.out]; omega), HSK.out, HLA.out])
    have hc10 := HO12.out.rats.hcap
    have hm10 := HO12.out.rats.hmax
    go_upto_region 12 with fail
    rw [← hw12]
    clear hw12 hx12 hx11 hls hxe hu hu1 hpl m0 m1 m2 m3 m4 m5 m6 mf e0 e1
    generalize w11.heap.size = b8 at d0 d1 ⊢
    go_upto_region 12 with fail
    go_cut [10, 11] (fun sx so wx => ∃ gb : Nat, sx = .pointer (some ⟨gb, 0, none⟩) ∧ so = .bool two ∧ Hid (Boxed w12 wx gb l1 l2))
    case first =>
     have hk2 : Ext w12 w12.drew := Ext.drew w12
     have hka : Ext w12 (w12.alloc (.cells #[.int .i64 0, .int .i64 0] 43)).drew := (Ext.alloc _ _).trans (Ext.drew _)
     have HKEEP := Lib.hid (fun (w' : World) (h : Ext w12 w') => (⟨h.cellSome hxc, h.cellSome hxd, h.cellSome d0, h.cellSome d1, h⟩ : w'.cell? ⟨xb, xo + u * 2, none⟩ = some (.int .i64 x1) ∧ w'.cell? ⟨xb, xo + u * 2 + 1, none⟩ = some (.int .i64 x2) ∧ w'.cell? ⟨b8, 0, none⟩ = some (.int .i64 s1) ∧ w'.cell? ⟨b8, 1, none⟩ = some (.int .i64 s2) ∧ Ext w12 w'))
     go_region_held3 (fun w' => w'.cell? ⟨xb, xo + u * 2, none⟩ = some (.int .i64 x1) ∧ w'.cell? ⟨xb, xo + u * 2 + 1, none⟩ = some (.int .i64 x2) ∧ w'.cell? ⟨b8, 0, none⟩ = some (.int .i64 s1) ∧ w'.cell? ⟨b8, 1, none⟩ = some (.int .i64 s2) ∧ Ext w12 w')
      (first
        | with_reducible exact HKEEP.out _ hk2
        | with_reducible exact HKEEP.out _ hka
        | with_reducible exact HKEEP.out _ ((hk2.setCell (by first | (simp; done) | (simp; omega)) _).setCell (by first | (simp; done) | (simp; omega)) _)
        | with_reducible exact HKEEP.out _ (hk2.trans (Ext.alloc _ _))
        | with_reducible exact HKEEP.out _ (hBB.put _ _).ext)
      (first
        | (go_at_call 169
           (with_reducible refine (i_AddRat _ _ _ _ _).mono ?_)
           rw [HLS.out]
           rintro e w14 ⟨rfl, hx_w14⟩
           first | (with_reducible have hBB := Boxed.grow hBB hx_w14) | (with_reducible have hBB := Boxed.firstD hx_w14) | (with_reducible have hBB := Boxed.laterD hk2 hx_w14) | skip
           first | (have b0_ := hBB.c0; have b1_ := hBB.c1; have fb_ := hBB.free) | skip
           have hk2 : Ext w12 w14 := by first | with_reducible exact hk2.trans hx_w14 | with_reducible exact hka.trans hx_w14 | with_reducible exact (hk2.trans (Ext.alloc _ _)).trans hx_w14
           have hk2s := hk2.size)
        | fail)
     all_goals (go_wp2_with fail; go_meet; first | exact ⟨_, rfl, rfl, Lib.hid (hBB.put _ _)⟩ | exact ⟨_, rfl, rfl, Lib.hid (Boxed.new hk2 _ _)⟩ | exact ⟨_, rfl, rfl, Lib.hid (Boxed.new' hk2 _ _ (by simp))⟩)
    obtain ⟨gb, rfl, rfl, HB⟩ := hcut
    have XC := X12.out.trans HB.out.ext
    have g0 := HB.out.c0
    have g1 := HB.out.c1
    have HOC := Lib.hid (HO12.out.ext HB.out.ext)
    have HXC := Lib.hid XC
    clear hxc hxd d0 d1
    cases one
    ·have HC := Lib.hid (show codeI true g ⟨1, rX, rY, rr, (rv1, rv2), rp⟩ = 3 by rw [HC0.out]; rfl)
     obtain ⟨q0, q1, q2, qf⟩ := HRX.out wc XC
     obtain ⟨z, z0, z1, z2, zo⟩ := HEND.out wc XC 3 (.slice none 0 0) (.slice none 0 0)
     have HZ := Lib.hid z
     have HZO := Lib.hid zo
     clear z zo
     go_wp2_with fail
     refine bodyPost_ret (v := .agg #[.int .i64 3, .slice none 0 0, .slice none 0 0]) (by simp [results, Tryz.results97, go_sem, z0, z1, z2]) rfl ⟨⟨_, _, _, _, _, _, by rw [HC.out], fun h => by rw [HC.out] at h; cases h⟩, HZ.out⟩
    cases two
    ·have HC := Lib.hid (show codeI true g ⟨1, rX, rY, rr, (rv1, rv2), rp⟩ = 3 by rw [HC0.out]; rfl)
     obtain ⟨q0, q1, q2, qf⟩ := HRX.out wc XC
     obtain ⟨z, z0, z1, z2, zo⟩ := HEND.out wc XC 3 (.slice none 0 0) (.slice none 0 0)
     have HZ := Lib.hid z
     have HZO := Lib.hid zo
     clear z zo
     go_wp2_with fail
     refine bodyPost_ret (v := .agg #[.int .i64 3, .slice none 0 0, .slice none 0 0]) (by simp [results, Tryz.results97, go_sem, z0, z1, z2]) rfl ⟨⟨_, _, _, _, _, _, by rw [HC.out], fun h => by rw [HC.out] at h; cases h⟩, HZ.out⟩
    ·have HC := Lib.hid (show codeI true g ⟨1, rX, rY, rr, (rv1, rv2), rp⟩ = 1 by rw [HC0.out]; rfl)
     obtain ⟨gp, hgp, hgb, hgf, hgl⟩ := HOC.out.block hun
     simp only [Option.some.injEq, Addr.mk.injEq, and_true] at hgp
     obtain ⟨rfl, rfl⟩ := hgp
     obtain ⟨y0, y1, y2, y3, hyq, _, hyc, hyd⟩ := HOC.out.rats.at hun
     simp only [Option.some.injEq, Addr.mk.injEq, and_true] at hyq
     obtain ⟨rfl, rfl⟩ := hyq
     rw [Nat.zero_add] at hyc hyd
     have HOP := Lib.hid (HOC.out.set HUL.out l1 l2)
     have hwg : W.heap.size ≤ xb := by have := HXX9.out.size; omega
     have XP : Ext W ((wc.setCell ⟨xb, u * 2, none⟩ (.int .i64 l1)).setCell ⟨xb, u * 2 + 1, none⟩ (.int .i64 l2)) := (XC.setCell (p := ⟨xb, u * 2, none⟩) hwg _).setCell (p := ⟨xb, u * 2 + 1, none⟩) hwg _
     obtain ⟨wp, hwp⟩ : ∃ E, E = (wc.setCell ⟨xb, u * 2, none⟩ (.int .i64 l1)).setCell ⟨xb, u * 2 + 1, none⟩ (.int .i64 l2) := ⟨_, rfl⟩
     rw [← hwp] at HOP XP
     rw [← HPT.out] at HOP
     go_upto_region 16 with fail
     rw [← hwp]
     clear hwp hyc hyd hgf g0 g1 XC
     obtain ⟨q0, q1, q2, qf⟩ := HRX.out wp XP
     obtain ⟨z, z0, z1, z2, zo⟩ := HEND.out wp XP 1 (.slice (some ⟨xb, 0, none⟩) n10 p10) (.slice none 0 0)
     have HZ := Lib.hid z
     have HZO := Lib.hid zo
     clear z zo
     go_wp2_with fail
     refine bodyPost_ret (v := .agg #[.int .i64 1, .slice (some ⟨xb, 0, none⟩) n10 p10, .slice none 0 0]) (by simp [results, Tryz.results97, go_sem, z0, z1, z2]) rfl ⟨⟨_, _, _, _, _, _, by rw [HC.out], fun _ => (HOP.out.mono (by have := HXX9.out.size; omega)).keep fun k hk => HZO.out k (by have := (HOP.out.lt k hk).1; have := HXX9.out.size; omega)⟩, HZ.out⟩
  ·have HC := Lib.hid (show codeI true g ⟨rs, rX, rY, rr, (rv1, rv2), rp⟩ = 3 by unfold codeI; rw [if_neg (by simp), if_pos hs])
   have hsb : (rs != 1) = true := by simp [hs]
   have X4' := X4.out
   obtain ⟨q0, q1, q2, qf⟩ := HRX.out w4 X4'
   obtain ⟨z, z0, z1, z2, zo⟩ := HEND.out w4 X4' 3 (.slice none 0 0) (.slice none 0 0)
   have HZ := Lib.hid z
   have HZO := Lib.hid zo
   clear z zo
   go_wp2_with fail
   refine bodyPost_ret (v := .agg #[.int .i64 3, .slice none 0 0, .slice none 0 0]) (by simp [results, Tryz.results97, go_sem, z0, z1, z2]) rfl ⟨⟨_, _, _, _, _, _, by rw [HC.out], fun h => by rw [HC.out] at h; cases h⟩, HZ.out⟩
theorem ent_core {n N i j : Nat} (hi : i < n) (hi5 : i < 5) (hj : j < N - 1) : ent (coreA n N) i j = bitI (bit ((1 + j : Nat) : Int) i) := by
 unfold ent coreA memM
 rw [List.getElem?_map, List.getElem?_range hi, Option.map_some, Option.getD_some]
 unfold memR seqI
 rw [List.getElem?_map, List.getElem?_map, List.getElem?_range hj]
 simp only [Option.map_some, Option.getD_some]
 rw [hasP_bit _ _ (by omega) (by omega)]
 norm_cast
theorem vote_code {g : Int} {r : LpR} {c : Int} (h : codeS true g r = c) (h12 : c = 1 ∨ c = 2) : r.status = 1 ∧ (slackR g r).2 = true ∧ (c = 2 ↔ (slackR g r).1.1 < 0) := by
 unfold codeS at h
 rw [if_neg (by simp)] at h
 split at h
 ·omega
 ·next h1 =>
  split at h
  ·omega
  ·next h2 =>
   have h1 : r.status = 1 := Decidable.not_not.1 h1
   have h2 : (slackR g r).2 = true := by cases hh : (slackR g r).2 with
    | true => rfl
    | false => exact absurd hh h2
   split at h
   ·next h3 => exact ⟨h1, h2, by omega⟩
   ·next h3 =>
    refine ⟨h1, h2, ?_⟩
    split at h <;> omega
theorem bitI_rat (b : Bool) : ((bitI b : Int) : Rat) = if b = true then 1 else 0 := by cases b <;> rfl
theorem sumN_mul (c : Rat) (f : Nat → Rat) : ∀ m, sumN (fun k => c * f k) m = c * sumN f m
 | 0 => by simp only [sumN]; grind
 | m + 1 => by simp only [sumN]; rw [sumN_mul c f m]; grind
theorem sumN_swap (f : Nat → Nat → Rat) (m : Nat) : ∀ n, sumN (fun j => sumN (fun i => f i j) m) n = sumN (fun i => sumN (fun j => f i j) n) m
 | 0 => by
   simp only [sumN]
   exact (sumN_zero fun _ _ => rfl).symm
 | n + 1 => by
   simp only [sumN]
   rw [sumN_swap f m n]
   have := sumN_lin (fun i => sumN (fun j => f i j) n) (fun i => f i n) 1 m
   simp only [Rat.one_mul] at this
   rw [this]
theorem core_bound {n N : Nat} (hn : n ≤ 5) (hN : N ≤ 32) {V : List Int} (hV : V.length = N) {r : LpR} (hc : Cert (coreA n N) (coreB n) (coreC V) r) {Y : Nat → Rat}
 (hY : ∀ j, j < N - 1 → ((V[1 + j]?.getD 0 : Int) : Rat) ≤ sumN (fun i => Y i * ((bitI (bit ((1 + j : Nat) : Int) i) : Int) : Rat)) n) : - sumN Y n ≤ val r.value := by
 have hAl : (coreA n N).length = n := by unfold coreA memM; simp
 have hCl : (coreC V).length = N - 1 := by unfold coreC; rw [List.length_map, List.length_drop, hV]
 have hent : ∀ i j, i < n → j < N - 1 → ent (coreA n N) i j = bitI (bit ((1 + j : Nat) : Int) i) := fun i j hi hj => ent_core hi (by omega) hj
 have hcv : ∀ j, j < N - 1 → vrow (coreC V) j = - ((V[1 + j]?.getD 0 : Int) : Rat) := fun j hj => by
  have hl : 1 + j < V.length := by omega
  have e : (coreC V)[j]?.getD (0, 0) = (-(V[1 + j]?.getD 0), 1) := by
   unfold coreC
   rw [List.getElem?_map, List.getElem?_drop, List.getElem?_eq_getElem hl]
   rfl
  unfold vrow
  rw [e, val_whole, Rat.intCast_neg]
 rw [hc.cx, hCl]
 have h1 : sumN (fun j => vrow (coreC V) j * vrow r.X j) (N - 1) = sumN (fun j => - (((V[1 + j]?.getD 0 : Int) : Rat) * vrow r.X j)) (N - 1) := sumN_congr fun j hj => by rw [hcv j hj]; grind
 rw [h1, sumN_neg]
 have h2 : sumN (fun j => ((V[1 + j]?.getD 0 : Int) : Rat) * vrow r.X j) (N - 1) ≤ sumN (fun j => sumN (fun i => Y i * ((ent (coreA n N) i j : Rat) * vrow r.X j)) n) (N - 1) := sumN_le fun j hj => by
  have hx := hc.x0 j (by omega)
  have e : sumN (fun i => Y i * ((ent (coreA n N) i j : Rat) * vrow r.X j)) n = vrow r.X j * sumN (fun i => Y i * ((bitI (bit ((1 + j : Nat) : Int) i) : Int) : Rat)) n := by
   rw [← sumN_mul]
   exact sumN_congr fun i hi => by rw [hent i j hi hj]; grind
  rw [e]
  have := hY j hj
  have h3 := Rat.mul_le_mul_of_nonneg_left this hx
  grind
 have h3 : sumN (fun j => sumN (fun i => Y i * ((ent (coreA n N) i j : Rat) * vrow r.X j)) n) (N - 1) = sumN Y n := by
  rw [sumN_swap]
  refine sumN_congr fun i hi => ?_
  rw [sumN_mul]
  have := hc.row i (by omega)
  rw [hCl] at this
  rw [this]
  have hb : (coreB n)[i]?.getD 0 = 1 := by unfold coreB; simp [hi]
  rw [hb]
  grind
 rw [h3] at h2
 grind
abbrev triple (x y : Int) (a : Option Addr) (n cap : Nat) : Value := .agg #[.int .i64 x, .int .i64 y, .slice a n cap]
def validM (s b : Int) (L : List (List Int)) : Bool :=
 (decide (1 ≤ s) && decide (s ≤ 5) && decide (1 ≤ b) && decide (b ≤ 5 - s) && decide ((L.length : Int) = s)) && L.all (fun r => r.all (inB · 0 100) && decide ((r.length : Int) = b))
theorem go_IsValidMarket11 : IsGo Tryz.prog 103 := isGo Tryz.func103 (by kernel_rfl) (by kernel_rfl)
theorem go_IsValidMarket1 : IsGo Tryz.prog 102 := isGo Tryz.func102 (by kernel_rfl) (by kernel_rfl)
set_option maxHeartbeats 400000 in
theorem i_IsValidMarket11 (x : Int) (w : World) : Calls Tryz.prog 103 #[.int .i64 x] w fun e w' => e = .returned (.bool (!inB x 0 100)) ∧ w = w' := by
 go_enter Tryz.func103, Tryz.ntmps103
 go_wp2_with (first | (go_at_call 80; refine (i_within _ _ _ _).mono ?_; rintro e w' ⟨rfl, rfl⟩))
 go_ret
 exact ⟨rfl, rfl⟩
theorem asks_IsValidMarket11 (w : World) : Asks Tryz.prog w 103 #[] (fun x => !inB x 0 100) :=
 fun x w1 _ => (i_IsValidMarket11 x w1).mono fun e w' ⟨he, hw⟩ => ⟨he, hw ▸ Ext.refl _⟩
def badRow (b : Int) (r : List Int) : Bool := !decide ((r.length : Int) = b) || r.any (fun x => !inB x 0 100)
set_option maxHeartbeats 400000 in
theorem i_IsValidMarket1 {w : World} {m : Nat} {b : Int} {a : Option Addr} {n cap : Nat} {l : List Int} (hb : w.cell? ⟨m, 1, none⟩ = some (.int .i64 b)) (h : Ints w a n cap l) :
 Calls Tryz.prog 102 #[.slice a n cap, .pointer (some ⟨m, 0, none⟩)] w fun e w' => e = .returned (.bool (badRow b l)) ∧ Ext w w' := by
 have hne : ((n : Int) != b) = !decide ((n : Int) = b) := by by_cases h : (n : Int) = b <;> simp [h]
 have HC := Lib.hid (containsFunc_ints h go_IsValidMarket11 (asks_IsValidMarket11 _))
 have HL := Lib.hid h.hlen
 cases hd : decide ((n : Int) = b)
 ·rw [hd] at hne
  have HD := Lib.hid hd
  clear hd
  go_enter Tryz.func102, Tryz.ntmps102
  go_wp2_with fail
  go_ret
  refine ⟨ret_bool ?_, Ext.refl _⟩
  unfold badRow
  rw [HL.out, HD.out]; simp
 ·rw [hd] at hne
  have HD := Lib.hid hd
  clear hd
  go_enter Tryz.func102, Tryz.ntmps102
  go_wp2_with fail
  refine HC.out.mono ?_
  rintro e w1 ⟨rfl, hx⟩
  go_wp2
  go_ret
  refine ⟨ret_bool ?_, hx⟩
  unfold badRow
  rw [HL.out, HD.out]; simp
theorem validM_any (s b : Int) (L : List (List Int)) : validM s b L = ((decide (1 ≤ s) && decide (s ≤ 5) && decide (1 ≤ b) && decide (b ≤ 5 - s) && decide ((L.length : Int) = s)) && !L.any (badRow b)) := by
 unfold validM badRow
 congr 1
 rw [List.not_any_eq_all_not]
 congr 1
 funext r
 rw [Bool.not_or, Bool.not_not, List.not_any_eq_all_not, Bool.and_comm]
 simp
set_option maxHeartbeats 1000000 in
theorem i_IsValidMarket {w : World} {x y : Int} {a : Option Addr} {n cap : Nat} {L : List (List Int)} (h : IntSS w a n cap L) :
 Calls Tryz.prog 36 #[triple x y a n cap] w fun e w' => e = .returned (.bool (validM x y L)) ∧ Ext w w' := by
 have h1 := h.alloc (.cells #[.int .i64 x, .int .i64 y, .slice a n cap] 52)
 have HX := Lib.hid (Ext.alloc w (.cells #[.int .i64 x, .int .i64 y, .slice a n cap] 52))
 have HL := Lib.hid h.hlen
 have HC := Lib.hid (containsFunc_intss (ca := #[.pointer (some ⟨w.heap.size, 0, none⟩)]) (p := badRow y) h1 go_IsValidMarket1 (fun l a n c w1 hx hi => i_IsValidMarket1 (hx.cellSome (by simp)) hi))
 clear h h1
 by_cases hall : 1 ≤ x ∧ x ≤ 5 ∧ 1 ≤ y ∧ y ≤ 5 - x ∧ (n : Int) = x
 ·obtain ⟨p1, p2, p3, p4, p5⟩ := hall
  have hne : ((n : Int) != x) = false := by simp [p5]
  have HP := Lib.hid p5
  clear p5
  go_enter Tryz.func36, Tryz.ntmps36
  go_wp2_with fail
  refine HC.out.mono ?_
  rintro e w1 ⟨rfl, hx⟩
  go_wp2
  go_ret
  refine ⟨ret_bool ?_, HX.out.trans hx⟩
  rw [validM_any, HL.out]
  have := HP.out
  simp [p1, p2, p3, p4, this]
 ·have HN := Lib.hid (show validM x y L = false by unfold validM; rw [HL.out]; simp only [Bool.and_eq_false_iff, decide_eq_false_iff_not]; omega)
  have hx5 : x < 1 ∨ y < 1 ∨ 5 < x ∨ 5 - x < y ∨ ((n : Int) ≠ x) := by omega
  have hgo : Calls Tryz.prog 36 #[triple x y a n cap] w fun e w' => e = .returned (.bool false) ∧ Ext w w' := by
   by_cases q1 : x < 1
   ·go_enter Tryz.func36, Tryz.ntmps36
    go_wp2_with fail
    go_ret
    exact ⟨rfl, HX.out⟩
   by_cases q2 : y < 1
   ·go_enter Tryz.func36, Tryz.ntmps36
    go_wp2_with fail
    go_ret
    exact ⟨rfl, HX.out⟩
   by_cases q3 : 5 < x
   ·go_enter Tryz.func36, Tryz.ntmps36
    go_wp2_with fail
    go_ret
    exact ⟨rfl, HX.out⟩
   by_cases q4 : 5 - x < y
   ·go_enter Tryz.func36, Tryz.ntmps36
    go_wp2_with fail
    go_ret
    exact ⟨rfl, HX.out⟩
   have hne : ((n : Int) != x) = true := by simp; omega
   clear hx5 hall
   go_enter Tryz.func36, Tryz.ntmps36
   go_wp2_with fail
   go_ret
   exact ⟨rfl, HX.out⟩
  rw [HN.out]
  exact hgo
def goodRow (b : Int) (r : List Int) : Bool := small r 100 && decide ((r.length : Int) = b)
theorem goodRow_bad {b : Int} (h1 : 1 ≤ b) (h5 : b ≤ 5) (r : List Int) : goodRow b r = !badRow b r := by
 unfold goodRow badRow
 rw [small_any]
 by_cases h : (r.length : Int) = b
 ·have hi : inB r.length 1 5 = true := by unfold inB; simp; omega
  rw [hi, decide_eq_true h]; simp
 ·rw [decide_eq_false h]; simp
set_option maxHeartbeats 1000000 in
theorem s_IsValidMarket {w : World} {x y : Int} {a : Option Addr} {n cap : Nat} {L : List (List Int)} (h : IntSS w a n cap L) :
 Calls Tryz.prog 99 #[triple x y a n cap] w fun e w' => e = .returned (.bool (validM x y L)) ∧ Ext w w' := by
 have h1 := h.alloc (.cells #[.int .i64 x, .int .i64 y, .slice a n cap] 52)
 have HX := Lib.hid (Ext.alloc w (.cells #[.int .i64 x, .int .i64 y, .slice a n cap] 52))
 have HL := Lib.hid h.hlen
 have hcap := h.hcap
 have hmax := h.hmax
 clear h
 cases q1 : inB x 1 5
 ·have HN := Lib.hid (show validM x y L = false by unfold validM inB at *; simp only [Bool.and_eq_false_iff, decide_eq_false_iff_not] at q1 ⊢; omega)
  rw [HN.out]
  go_enter Tryz.func99, Tryz.ntmps99
  go_wp2_with (first | (go_at_call 95; refine (s_l1In _ _ _ _).mono ?_; rintro e w' ⟨rfl, rfl⟩))
  go_ret
  exact ⟨rfl, HX.out⟩
 have p1 : 1 ≤ x ∧ x ≤ 5 := by unfold inB at q1; simpa using q1
 obtain ⟨p1, p2⟩ := p1
 cases q2 : inB y 1 (5 - x)
 ·have HN := Lib.hid (show validM x y L = false by unfold validM inB at *; simp only [Bool.and_eq_false_iff, decide_eq_false_iff_not] at q2 ⊢; omega)
  rw [HN.out]
  go_enter Tryz.func99, Tryz.ntmps99
  go_wp2_with (first | (go_at_call 95; refine (s_l1In _ _ _ _).mono ?_; rintro e w' ⟨rfl, rfl⟩))
  go_ret
  exact ⟨rfl, HX.out⟩
 have p3 : 1 ≤ y ∧ y ≤ 5 - x := by unfold inB at q2; simpa using q2
 obtain ⟨p3, p4⟩ := p3
 by_cases q3 : (n : Int) = x
 ·have hne : ((n : Int) != x) = false := by simp [q3]
  have HP := Lib.hid q3
  clear q3
  go_enter Tryz.func99, Tryz.ntmps99
  go_wp2_with (first | (go_at_call 95; refine (s_l1In _ _ _ _).mono ?_; rintro e w' ⟨rfl, rfl⟩))
  go_loopw [3] (fun i wr => ∃ k : Nat, k ≤ n ∧ i = .int .i64 k ∧ Hid ((L.take k).all (goodRow y) = true) ∧ Drew (w.alloc (.cells #[.int .i64 x, .int .i64 y, .slice a n cap] 52)) wr) (fun i _ => n - (intOf i).toNat)
  case atStart => exact ⟨0, Nat.zero_le _, rfl, Lib.hid rfl, Drew.refl _⟩
  case round =>
   obtain ⟨k, hk, rfl, HA, hx⟩ := hrel
   have c1 : wr.cell? ⟨w.heap.size, 1, none⟩ = some (.int .i64 y) := hx.ext.cellSome (by simp)
   have c2 : wr.cell? ⟨w.heap.size, 2, none⟩ = some (.slice a n cap) := hx.ext.cellSome (by simp)
   have HX2 := Lib.hid (HX.out.trans hx.ext)
   have HX3 := Lib.hid hx
   by_cases hlt : k < n
   ·obtain ⟨b, off, a', n', c', rfl, hc, hr⟩ := (h1.ext hx.ext).at hlt
    have hq := fun j => quiet_same (s_l18Small 100 (hr.drewN j))
    have HR := Lib.hid hr.hlen
    clear hr hx
    have HQ := Lib.hid hq
    clear hq
    cases hs : small (L[k]?.getD []) 100
    ·have HS := Lib.hid hs
     rw [hs] at HQ
     clear hs
     go_wp2
     go_quiet ((go_at_call 157; exact HQ.out _))
     go_wp2
     go_ret
     refine ⟨ret_bool ?_, below_drewN HX2.out _⟩
     symm
     rw [validM_any]
     have hkl : k < L.length := by have := HL.out; omega
     have : L.any (badRow y) = true := by
      rw [List.any_eq_true]
      refine ⟨L[k], List.getElem_mem hkl, ?_⟩
      have h2 := goodRow_bad p3 (by omega) L[k]
      have h3 : goodRow y L[k] = false := by unfold goodRow; have := HS.out; simp only [hkl, List.getElem?_eq_getElem, Option.getD_some] at this; rw [this]; rfl
      rw [h3] at h2
      simpa using h2.symm
     rw [this]; simp
    ·have HS := Lib.hid hs
     rw [hs] at HQ
     clear hs
     by_cases hb : (n' : Int) = y
     ·have hne : ((n' : Int) != y) = false := by simp [hb]
      have HB := Lib.hid hb
      clear hb
      go_wp2
      go_quiet ((go_at_call 157; exact HQ.out _))
      go_wp2
      go_roundw
      case rel => exact ⟨k + 1, by omega, by go_num, Lib.hid (by rw [takeL_snoc (by have := HL.out; omega), List.all_append, HA.out]; simp [goodRow, HS.out, HR.out, HB.out]), HX3.out.trans ⟨_, rfl⟩⟩
      case measure => simp [intOf]; omega
     ·have hne : ((n' : Int) != y) = true := by simp [hb]
      have HB := Lib.hid hb
      clear hb
      go_wp2
      go_quiet ((go_at_call 157; exact HQ.out _))
      go_wp2
      go_ret
      refine ⟨ret_bool ?_, below_drewN HX2.out _⟩
      symm
      rw [validM_any]
      have hkl : k < L.length := by have := HL.out; omega
      have : L.any (badRow y) = true := by
       rw [List.any_eq_true]
       refine ⟨L[k], List.getElem_mem hkl, ?_⟩
       have := HR.out
       simp only [hkl, List.getElem?_eq_getElem, Option.getD_some] at this
       unfold badRow
       rw [this, decide_eq_false HB.out]; rfl
      rw [this]; simp
   ·clear hx
    go_wp2
    go_ret
    refine ⟨ret_bool ?_, HX2.out⟩
    symm
    have := HA.out
    rw [List.take_of_length_le (by have := HL.out; omega)] at this
    rw [validM_any, HL.out]
    have h2 : L.any (badRow y) = false := by
     rw [List.any_eq_false]
     intro r hr
     have h3 := List.all_eq_true.1 this r hr
     rw [goodRow_bad p3 (by omega)] at h3
     simpa using h3
    rw [h2]
    have hp := HP.out
    simp [p1, p2, p3, p4, hp]
 ·have hne : ((n : Int) != x) = true := by simp [q3]
  have HN := Lib.hid (show validM x y L = false by unfold validM; rw [HL.out]; simp only [Bool.and_eq_false_iff, decide_eq_false_iff_not]; omega)
  rw [HN.out]
  clear q3
  go_enter Tryz.func99, Tryz.ntmps99
  go_wp2_with (first | (go_at_call 95; refine (s_l1In _ _ _ _).mono ?_; rintro e w' ⟨rfl, rfl⟩))
  go_ret
  exact ⟨rfl, HX.out⟩
end Go.Proofs.YthjjfkeacobikaaGreat
