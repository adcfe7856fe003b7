import Derived.Test.YthjjfkeacobikaaGreatMkAllG20
import Derived.Test.YthjjfkeacobikaaGreatMkAllG24
import Derived.Test.YthjjfkeacobikaaGreatMkAllG34
import Derived.Test.YthjjfkeacobikaaGreatMkAllG4
set_option linter.unusedVariables false
set_option linter.unusedSimpArgs false
namespace Go.Proofs.YthjjfkeacobikaaGreat
set_option maxRecDepth 100000
open Go.RowKit
theorem negs_snoc {Y : List (Int × Int)} {k : Nat} (h : k < Y.length) : (Y.take k).map negR ++ [negR (Y[k]?.getD (0, 0))] = (Y.take (k + 1)).map negR := by rw [take_snocR h, List.map_append]; rfl
theorem cell_sameF {w w' : World} {b : Nat} (h : w'.heap[b]? = w.heap[b]?) (o : Nat) : w'.cell? ⟨b, o, none⟩ = w.cell? ⟨b, o, none⟩ := by simp only [World.cell?, h]
set_option maxHeartbeats 16000000 in
theorem s_FindCore {w : World} {p : Int} {a : Option Addr} {n cap : Nat} {V : List Int} (h : Ints w a n cap V) :
 Calls Tryz.prog 20 #[pair p a n cap] w fun e w' => CoR w' w.heap.size e (codeS (gameOk p V) (grandV p V) (solveG boundI (coreA p.toNat n) (coreB p.toNat) (coreC V))) (ptR (grandV p V) (solveG boundI (coreA p.toNat n) (coreB p.toNat) (coreC V))) ∧ Ext w w' := by
 obtain ⟨W, hW⟩ : ∃ W, W = (w.alloc (.cells #[.int .i64 p, .slice a n cap] 29)).alloc (.cells #[.int .i64 0, .slice none 0 0, .slice none 0 0] 38) := ⟨_, rfl⟩
 have hws : W.heap.size = w.heap.size + 2 := by rw [hW]; simp
 have hX : Ext w W := by rw [hW]; exact (Ext.alloc _ _).trans (Ext.alloc _ _)
 have HRB := Lib.hid (show W.heap[w.heap.size + 1]? = some (.cells #[.int .i64 0, .slice none 0 0, .slice none 0 0] 38 (0, 0)) by rw [hW]; exact heapA_new _ _ _ (by simp))
 have HP0 := Lib.hid (show W.cell? ⟨w.heap.size, 0, none⟩ = some (.int .i64 p) by rw [hW]; exact Ext.cellSome (Ext.alloc _ _) (by simp))
 have HP1 := Lib.hid (show W.cell? ⟨w.heap.size, 1, none⟩ = some (.slice a n cap) by rw [hW]; exact Ext.cellSome (Ext.alloc _ _) (by simp))
 have HI := Lib.hid (h.ext hX)
 have HX := Lib.hid hX
 have HBL := Lib.hid (s_BalancedLP (p := p) HI.out)
 obtain ⟨g, hg0⟩ : ∃ g, g = grandV p V := ⟨_, rfl⟩
 obtain ⟨r, hr0⟩ : ∃ r, r = solveG boundI (coreA p.toNat n) (coreB p.toNat) (coreC V) := ⟨_, rfl⟩
 have HG := Lib.hid hg0
 have HRR := Lib.hid hr0
 rw [← hg0, ← hr0]
 have HEND := Lib.hid (fun (w' : World) (hx : Ext W w') (code : Int) (x1 x2 : Value) => coreOut (w := w) ((hx.block _ (by omega)).trans HRB.out) (HX.out.trans hx) (Nat.le_succ _) (.int .i64 code) x1 x2)
 have HRX := Lib.hid (fun (w' : World) (hx : Ext W w') => cbox3 ((hx.block _ (by omega)).trans HRB.out))
 clear h hX hg0 hr0
 cases hgo : gameOk p V
 ·rw [hgo] at HBL
  have HC := Lib.hid (show codeS false g r = 0 from rfl)
  clear hgo
  go_enter Tryz.func20, Tryz.ntmps20
  go_wp2_with fail
  rw [← hW]
  refine HBL.out.mono ?_
  rintro e w1 ⟨⟨la, lna, lca, lb, lnb, lcb, lc, lnc, lcc, rfl, _⟩, hx⟩
  unfold lpW
  obtain ⟨w2, hw2⟩ : ∃ E, E = w1.alloc (lpBox la lna lca lb lnb lcb lc lnc lcc) := ⟨_, rfl⟩
  have X2 : Ext W w2 := by rw [hw2]; exact hx.trans (Ext.alloc _ _)
  obtain ⟨q0, q1, q2, qf⟩ := HRX.out w2 X2
  obtain ⟨z, z0, z1, z2, _⟩ := HEND.out w2 X2 0 (.slice none 0 0) (.slice none 0 0)
  have HZ := Lib.hid z
  go_upto_region 2 with fail
  rw [← hw2]
  clear hx hw2 hW z
  go_wp2_with fail
  refine bodyPost_ret (v := .agg #[.int .i64 0, .slice none 0 0, .slice none 0 0]) (by simp [results, Tryz.results20, go_sem, z0, z1, z2]) rfl ⟨⟨_, _, _, _, _, _, by rw [HC.out], fun h => by rw [HC.out] at h; cases h⟩, HZ.out⟩
 rw [hgo] at HBL
 have HSE := Lib.hid (core_both hgo (coreA p.toNat n) (coreB p.toNat))
 obtain ⟨q, hpq, hq1, hq5, hVl, _, hVb⟩ := gameOk_len hgo
 have hgb : -500 ≤ g ∧ g ≤ 500 := by rw [HG.out, grandV_ok hgo]; exact getD_bdF hVb _
 have HPQ := Lib.hid hpq
 clear hgo hVl hVb hpq
 go_enter Tryz.func20, Tryz.ntmps20
 go_wp2_with fail
 rw [← hW]
 refine HBL.out.mono ?_
 rintro e w1 ⟨⟨la, lna, lca, lb, lnb, lcb, lc, lnc, lcc, rfl, hlp⟩, hx⟩
 unfold lpW
 obtain ⟨w2, hw2⟩ : ∃ E, E = w1.alloc (lpBox la lna lca lb lnb lcb lc lnc lcc) := ⟨_, rfl⟩
 have hx2 : Ext w1 w2 := by rw [hw2]; exact Ext.alloc _ _
 have X2 := Lib.hid (hx.trans hx2)
 have HSV := Lib.hid (s_SolveLP ((hlp rfl).ext hx2))
 rw [← HSE.out, ← HRR.out] at HSV
 have hb3 : w2.heap[w1.heap.size]? = some (.cells #[.slice la lna lca, .slice lb lnb lcb, .slice lc lnc lcc] 109 (0, 0)) := by rw [hw2]; exact heapA_new _ _ _ rfl
 have t0 := tbox0 hb3
 have t1 := tbox1 hb3
 have t2 := tbox2 hb3
 go_upto_region 2 with fail
 rw [← hw2]
 clear hx hx2 hlp hw2 hW hb3
 go_wp2_with fail
 refine HSV.out.mono ?_
 have HST := Lib.hid (fun (hs : r.status = 1) => show r.Y.length = q ∧ valR r.value = true ∧ ∀ k, k < r.Y.length → valR (r.Y[k]?.getD (0, 0)) = true by
  have := solveG_val (bound := boundI) (A := coreA p.toNat n) (B := coreB p.toNat) (C := coreC V) (by rw [← HRR.out]; exact hs)
  rw [← HRR.out] at this
  refine ⟨?_, this.2.2.2.2⟩
  rw [this.2.2.2.1]
  unfold coreB
  rw [List.length_replicate, HPQ.out, Int.toNat_natCast])
 rintro e w3 ⟨⟨xa, xn, xc, ya, yn, yc, ra, rn, rc, rfl, hlr⟩, hx3⟩
 obtain ⟨w4, hw4⟩ : ∃ E, E = w3.alloc (lrBox r xa xn xc ya yn yc ra rn rc) := ⟨_, rfl⟩
 have hx4 : Ext w3 w4 := by rw [hw4]; exact Ext.alloc _ _
 have X4 := Lib.hid ((X2.out.trans hx3).trans hx4)
 have HLR := Lib.hid (hlr.here.ext hx4)
 have HB5 := Lib.hid (show w4.heap[w3.heap.size]? = some (lrBox r xa xn xc ya yn yc ra rn rc) by rw [hw4]; exact heapA_new _ _ _ rfl)
 obtain ⟨rs, rX, rY, rr, ⟨rv1, rv2⟩, rp⟩ := r
 unfold lrW
 go_upto_region 5 with fail
 rw [← hw4]
 clear hlr hx3 hx4 hw4 t0 t1 t2
 generalize w3.heap.size = b5 at HB5 ⊢
 obtain ⟨l0, l1, l2, l3, l4, l5, l6, lf⟩ := lbox HB5.out
 try simp only at l0 l1 l2 l3 l4 l5 l6
 have HGV := Lib.hid (fun (w' : World) (hx : Ext W w') => s_GrandValue (p := p) (HI.out.ext hx))
 simp only [← HG.out] at HGV
 have b0 := X4.out.cellSome HP0.out
 have b1 := X4.out.cellSome HP1.out
 obtain ⟨s1, s2, one, hsl⟩ : ∃ s1 s2 o, addR (g, 1) (rv1, rv2) = ((s1, s2), o) := ⟨_, _, _, rfl⟩
 have HSL := Lib.hid hsl
 have HSK := Lib.hid (show slackR g ⟨rs, rX, rY, rr, (rv1, rv2), rp⟩ = ((s1, s2), one) from hsl)
 clear hsl
 go_upto_region 5 with fail
 go_cut [6, 7] (fun sx so wx => ∃ g6 : Nat, sx = .pointer (some ⟨g6, 0, none⟩) ∧ so = .bool one ∧ Hid (Boxed w4 wx g6 s1 s2))
 case first =>
  have hk2 : Ext w4 w4.drew := Ext.drew w4
  have hka : Ext w4 (w4.alloc (.cells #[.int .i64 0, .int .i64 0] 43)).drew := (Ext.alloc _ _).trans (Ext.drew _)
  have HKEEP := Lib.hid (fun (w' : World) (h : Ext w4 w') => (⟨h.cellSome b0, h.cellSome b1, h.cellSome l4, h.cellSome l5, h⟩ : w'.cell? ⟨w.heap.size, 0, none⟩ = some (.int .i64 p) ∧ w'.cell? ⟨w.heap.size, 1, none⟩ = some (.slice a n cap) ∧ w'.cell? ⟨b5, 4, none⟩ = some (.int .i64 rv1) ∧ w'.cell? ⟨b5, 5, none⟩ = some (.int .i64 rv2) ∧ Ext w4 w'))
  go_region_held3 (fun w' => w'.cell? ⟨w.heap.size, 0, none⟩ = some (.int .i64 p) ∧ w'.cell? ⟨w.heap.size, 1, none⟩ = some (.slice a n cap) ∧ w'.cell? ⟨b5, 4, none⟩ = some (.int .i64 rv1) ∧ w'.cell? ⟨b5, 5, none⟩ = some (.int .i64 rv2) ∧ Ext w4 w')
   (first
     | with_reducible exact HKEEP.out _ hk2
     | with_reducible exact HKEEP.out _ hka
     | with_reducible exact HKEEP.out _ ((hk2.setCell (by first | (simp; done) | (simp; omega)) _).setCell (by first | (simp; done) | (simp; omega)) _)
     | with_reducible exact HKEEP.out _ (hk2.trans (Ext.alloc _ _))
     | with_reducible exact HKEEP.out _ (hBB.put _ _).ext)
   (first
     | (go_at_call 87
        (with_reducible refine (HGV.out _ (X4.out.trans (by first | with_reducible exact hk2 | with_reducible exact hka | with_reducible exact hk2.trans (Ext.alloc _ _)))).mono ?_)
        rintro e w5 ⟨rfl, hx_w5⟩
        first | (with_reducible have hBB := Boxed.grow hBB hx_w5) | (with_reducible have hBB := Boxed.firstD hx_w5) | (with_reducible have hBB := Boxed.laterD hk2 hx_w5) | skip
        first | (have b0_ := hBB.c0; have b1_ := hBB.c1; have fb_ := hBB.free) | skip
        have hk2 : Ext w4 w5 := by first | with_reducible exact hk2.trans hx_w5 | with_reducible exact hka.trans hx_w5 | with_reducible exact (hk2.trans (Ext.alloc _ _)).trans hx_w5
        have hk2s := hk2.size)
     | (go_at_call 86
        (with_reducible refine (s_l3Int _ _).mono ?_)
        rintro e w6 ⟨rfl, hx_w6⟩
        first | (with_reducible have hBB := Boxed.grow hBB hx_w6) | (with_reducible have hBB := Boxed.firstD hx_w6) | (with_reducible have hBB := Boxed.laterD hk2 hx_w6) | skip
        first | (have b0_ := hBB.c0; have b1_ := hBB.c1; have fb_ := hBB.free) | skip
        have hk2 : Ext w4 w6 := by first | with_reducible exact hk2.trans hx_w6 | with_reducible exact hka.trans hx_w6 | with_reducible exact (hk2.trans (Ext.alloc _ _)).trans hx_w6
        have hk2s := hk2.size)
     | (go_at_call 37
        (with_reducible refine (s_AddRat _ _ _ _ _).mono ?_)
        rw [HSL.out]
        rintro e w7 ⟨rfl, hx_w7⟩
        first | (with_reducible have hBB := Boxed.grow hBB hx_w7) | (with_reducible have hBB := Boxed.firstD hx_w7) | (with_reducible have hBB := Boxed.laterD hk2 hx_w7) | skip
        first | (have b0_ := hBB.c0; have b1_ := hBB.c1; have fb_ := hBB.free) | skip
        have hk2 : Ext w4 w7 := by first | with_reducible exact hk2.trans hx_w7 | with_reducible exact hka.trans hx_w7 | with_reducible exact (hk2.trans (Ext.alloc _ _)).trans hx_w7
        have hk2s := hk2.size)
     | fail)
  all_goals (go_wp2_with fail; go_meet; first | exact ⟨_, rfl, rfl, Lib.hid (hBB.put _ _)⟩ | exact ⟨_, rfl, rfl, Lib.hid (Boxed.new hk2 _ _)⟩ | exact ⟨_, rfl, rfl, Lib.hid (Boxed.new' hk2 _ _ (by simp))⟩)
 obtain ⟨g6, rfl, rfl, HB6⟩ := hcut
 have XC := X4.out.trans HB6.out.ext
 have HXC := Lib.hid XC
 have HBC := Lib.hid (HB6.out.ext.blk HB5.out)
 have HYC := Lib.hid (HLR.out.y.ext HB6.out.ext)
 have e0 := HB6.out.c0
 have e1 := HB6.out.c1
 clear l0 l1 l2 l3 l4 l5 l6 lf b0 b1
 obtain ⟨l0, l1, l2, l3, l4, l5, l6, lf⟩ := lbox HBC.out
 try simp only at l0 l1 l2 l3 l4 l5 l6
 by_cases hs : rs = 1
 rotate_left
 ·have HC := Lib.hid (show codeS true g ⟨rs, rX, rY, rr, (rv1, rv2), rp⟩ = 3 by unfold codeS; rw [if_neg (by simp), if_pos hs])
  have hsb : (rs != 1) = true := by simp [hs]
  obtain ⟨q0, q1, q2, qf⟩ := HRX.out wc XC
  obtain ⟨z, z0, z1, z2, zo⟩ := HEND.out wc XC 3 (.slice none 0 0) (.slice none 0 0)
  have HZ := Lib.hid z
  have HZO := Lib.hid zo
  clear z zo
  go_wp2_with fail
  refine bodyPost_ret (v := .agg #[.int .i64 3, .slice none 0 0, .slice none 0 0]) (by simp [results, Tryz.results20, go_sem, z0, z1, z2]) rfl ⟨⟨_, _, _, _, _, _, by rw [HC.out], fun h => by rw [HC.out] at h; cases h⟩, HZ.out⟩
 obtain ⟨hyl, hvv, hyv⟩ := HST.out hs
 try simp only at hyl hvv hyv
 subst hs
 have HYV := Lib.hid hyv
 have HYL := Lib.hid hyl
 clear hvv hyv hyl
 cases one
 ·have HC := Lib.hid (show codeS true g ⟨1, rX, rY, rr, (rv1, rv2), rp⟩ = 3 by unfold codeS; rw [if_neg (by simp), if_neg (by simp), HSK.out]; rfl)
  obtain ⟨q0, q1, q2, qf⟩ := HRX.out wc XC
  obtain ⟨z, z0, z1, z2, zo⟩ := HEND.out wc XC 3 (.slice none 0 0) (.slice none 0 0)
  have HZ := Lib.hid z
  have HZO := Lib.hid zo
  clear z zo
  go_wp2_with fail
  refine bodyPost_ret (v := .agg #[.int .i64 3, .slice none 0 0, .slice none 0 0]) (by simp [results, Tryz.results20, go_sem, z0, z1, z2]) rfl ⟨⟨_, _, _, _, _, _, by rw [HC.out], fun h => by rw [HC.out] at h; cases h⟩, HZ.out⟩
 by_cases hneg : s1 < 0
 ·have HC := Lib.hid (show codeS true g ⟨1, rX, rY, rr, (rv1, rv2), rp⟩ = 2 by unfold codeS; rw [if_neg (by simp), if_neg (by simp), HSK.out]; simp [hneg])
  obtain ⟨q0, q1, q2, qf⟩ := HRX.out wc XC
  obtain ⟨z, z0, z1, z2, zo⟩ := HEND.out wc XC 2 (.slice none 0 0) (.slice xa xn xc)
  have HZ := Lib.hid z
  have HZO := Lib.hid zo
  clear z zo
  go_wp2_with fail
  refine bodyPost_ret (v := .agg #[.int .i64 2, .slice none 0 0, .slice xa xn xc]) (by simp [results, Tryz.results20, go_sem, z0, z1, z2]) rfl ⟨⟨_, _, _, _, _, _, by rw [HC.out], fun h => by rw [HC.out] at h; cases h⟩, HZ.out⟩
 have hyn : yn = q := by have h1 := HYC.out.hlen; have h2 := HYL.out; (try simp only at h1); omega
 have HYN := Lib.hid hyn
 have hyn5 : yn ≤ 5 := by omega
 have hyc := HYC.out.hcap
 have hym := HYC.out.hmax
 clear hyn
 obtain ⟨w8, hw8⟩ : ∃ E, E = wc.alloc (.cells #[.int .i64 1, .slice none 0 0, .slice none 0 0] 38) := ⟨_, rfl⟩
 have hx8 : Ext wc w8 := by rw [hw8]; exact Ext.alloc _ _
 have HB8 := Lib.hid (show w8.heap[wc.heap.size]? = some (.cells #[.int .i64 1, .slice none 0 0, .slice none 0 0] 38 (0, 0)) by rw [hw8]; exact heapA_new _ _ _ rfl)
 have HS8 := Lib.hid (show w8.heap.size = wc.heap.size + 1 by rw [hw8]; simp)
 go_upto_region 11 with fail
 rw [← hw8]
 clear hw8
 have hs8 := hx8.size
 have HX8 := Lib.hid hx8
 obtain ⟨b8, hb8⟩ : ∃ b, b = wc.heap.size := ⟨_, rfl⟩
 have HB8E := Lib.hid hb8
 rw [← hb8] at HB8 HS8
 rw [← hb8]
 clear hx8 hb8
 go_wp2_with fail
 go_loopg [9] yn (fun gk ii wr => ∃ (k : Nat) (a1 : Option Addr) (n1 p1 : Nat), Hid (gk + k = yn) ∧ ii = .int .i64 (k : Int) ∧ Hid (OwnR wr (b8 + 1) (.slice a1 n1 p1) ((rY.take k).map negR)) ∧ Hid (wr.heap[b8]? = some (.cells #[.int .i64 1, .slice a1 n1 p1, .slice none 0 0] 38 (0, 0))) ∧ Hid (Ext wc wr) ∧ Hid (b8 + 1 ≤ wr.heap.size))
 case atStart => exact ⟨0, none, 0, 0, Lib.hid (by omega), rfl, Lib.hid (OwnR.nil _ _), HB8, HX8, Lib.hid (by rw [HS8.out]; exact Nat.le_refl _)⟩
 case round =>
  obtain ⟨g1, h_g1⟩ : ∃ x, x = gk := ⟨_, rfl⟩
  subst h_g1
  obtain ⟨wr, h_wr⟩ : ∃ x, x = wr := ⟨_, rfl⟩
  subst h_wr
  obtain ⟨k, a1, n1, p1, HK, rfl, HO, HBR, HXR, HSR⟩ := hrel
  have HBW := Lib.hid (HXR.out.blk HBC.out)
  clear l0 l1 l2 l3 l4 l5 l6 lf
  obtain ⟨l0, l1, l2, l3, l4, l5, l6, lf⟩ := lbox HBW.out
  try simp only at l0 l1 l2 l3 l4 l5 l6
  obtain ⟨m0, m1, m2, mf⟩ := cbox3 HBR.out
  by_cases hlt : k < yn
  ·obtain ⟨yb, yo, y1, y2, rfl, hye, hy1, hy2⟩ := (HYC.out.ext HXR.out).at hlt
   have hkY : k < rY.length := by rw [HYL.out, ← HYN.out]; exact hlt
   have hyb := valR_bd (HYV.out k hkY)
   try simp only at hye
   rw [hye] at hyb
   try simp only at hyb
   have HSN := Lib.hid (negs_snoc hkY)
   rw [hye] at HSN
   have HTL := Lib.hid (show ((rY.take k).map negR).length = k by rw [List.length_map, List.length_take]; omega)
   have hkd : Ext wr wr.drew := Ext.drew wr
   have HKEEP := Lib.hid (fun (w' : World) (h : Ext wr w') => (⟨h.cellSome m1, h.cellSome l2, h.cellSome hy1, h.cellSome hy2⟩ : w'.cell? ⟨b8, 1, none⟩ = some (.slice a1 n1 p1) ∧ w'.cell? ⟨b5, 2, none⟩ = some (.slice (some ⟨yb, yo, none⟩) yn yc) ∧ w'.cell? ⟨yb, yo + k * 2, none⟩ = some (.int .i64 y1) ∧ w'.cell? ⟨yb, yo + k * 2 + 1, none⟩ = some (.int .i64 y2)))
   have hb5n : b5 ≠ b8 := by have := lt_of_block HBC.out; have := HB8E.out; omega
   have HYB := Lib.hid (show yb < b8 by
    obtain ⟨u1, u2, u3, u4, hu, hu2, hu3, _⟩ := HYC.out.at hlt
    simp only [Option.some.injEq, Addr.mk.injEq, and_true] at hu
    have h1 := World.block_lt_of_cell? _ _ hu3
    have := HB8E.out
    simp only at h1
    omega)
   have hhsr := HSR.out
   clear hye
   go_wp2_with fail
   refine late_begin (M := [11]) (S := fun w' => w'.cell? ⟨b8, 1, none⟩ = some (.slice a1 n1 p1) ∧ w'.cell? ⟨b5, 2, none⟩ = some (.slice (some ⟨yb, yo, none⟩) yn yc) ∧ w'.cell? ⟨yb, yo + k * 2, none⟩ = some (.int .i64 y1) ∧ w'.cell? ⟨yb, yo + k * 2 + 1, none⟩ = some (.int .i64 y2)) (by kernel_rfl) ?_
   have hHeld := HKEEP.out _ hkd
   obtain ⟨wd, hwd⟩ : ∃ y, y = wr.drew := ⟨_, rfl⟩
   rw [← hwd] at hkd hHeld
   rw [← hwd]
   clear hwd
   have hsd := hkd.size
   refine lp 0 ?_
   refine ll 1 ?_
   refine lp 2 ?_
   refine ll 3 ?_
   refine lp 4 ?_
   refine lp 5 ?_
   refine ll 6 ?_
   refine late_step (i := 7) (oi := ?_) ?_ ?_ ?_ (fun K hK => ?_)
   rotate_left
   ·simp only [gA, gB, gC]; rfl
   ·kernel_rfl
   ·kernel_rfl
   go_simp
   go_at_call 88
   refine (s_l7Negated y1 y2 _ (by omega) (by omega)).mono ?_
   rintro e w9 ⟨rfl, hx9⟩
   have hkd : Ext wr w9 := hkd.trans hx9
   have hs9 := hkd.size
   go_wp2_with fail
   refine hK.out _ _ (fun _ => HKEEP.out _ hkd) ?_
   have hHeld := HKEEP.out _ hkd
   clear hK K
   try simp only [Act.put, sA, sB, sC]
   refine late_step (i := 8) (oi := ?_) ?_ ?_ ?_ (fun K hK => ?_)
   rotate_left
   ·simp only [gA, gB, gC]; rfl
   ·kernel_rfl
   ·kernel_rfl
   go_simp
   refine hK.out _ _ (fun _ => HKEEP.out _ (hkd.trans (Ext.alloc _ _))) ?_
   clear hK K
   try simp only [Act.put, sA, sB, sC]
   refine late_step (i := 9) (oi := ?_) ?_ ?_ ?_ (fun K hK => ?_)
   rotate_left
   ·simp only [gA, gB, gC]; rfl
   ·kernel_rfl
   ·kernel_rfl
   refine wp_append_rats _ _ (by rfl) (b8 + 1) (.slice a1 n1 p1) _ (by rfl) ((HO.out.ext hkd).ext (Ext.alloc _ _)) _ 1 _ [(-y1, y2)] (by rfl) (Rats.one' _ _ _ _ _ rfl) (by rw [HTL.out]; omega) (by simp; omega) ?_
   intro v6 w10 ho hg hnear
   obtain ⟨a6, n6, p6, rfl, HN6⟩ := ho.var
   have HO6 := Lib.hid ho
   have hb10 := (hg.block b8 (by have := HSR.out; simp; omega) (fun e => by have := (HO.out.lt b8 e.symm).1; omega)).trans ((hkd.trans (Ext.alloc _ _)).blk HBR.out)
   obtain ⟨u0, u1, u2, uf⟩ := cbox3 hb10
   have HX10 := Lib.hid (ext_grown (HXR.out.trans (hkd.trans (Ext.alloc _ _))) hg (fun j hj => by have := (HO.out.lt j hj).1; have := HB8E.out; omega))
   have hs10 := hg.size
   have hcl2 := (hg.block b5 (by have := lt_of_block HBW.out; simp; omega) (fun e => by have := (HO.out.lt b5 e.symm).1; have := lt_of_block HBC.out; have := HB8E.out; omega)).trans ((hkd.trans (Ext.alloc _ _)).blk HBW.out)
   have hc52 := (lbox hcl2).2.2.1
   have hyq := HX10.out
   have hkw := hkd.trans (Ext.alloc w9 (.cells #[.int .i64 (-y1), .int .i64 y2] 43))
   have hyg := hg.block yb (by have := HYB.out; have := HSR.out; have := hkw.size; omega) (fun e => by have := (HO.out.lt yb e.symm).1; have := HYB.out; omega)
   clear ho hg hnear
   refine hK.out _ _ (fun _ => And.intro u1 (And.intro hc52 (And.intro ((cell_sameF hyg _).trans (hkw.cellSome hy1)) ((cell_sameF hyg _).trans (hkw.cellSome hy2))))) ?_
   have hHeld := And.intro u1 (And.intro hc52 (And.intro ((cell_sameF hyg _).trans (hkw.cellSome hy1)) ((cell_sameF hyg _).trans (hkw.cellSome hy2))))
   clear hK K
   try simp only [Act.put, sA, sB, sC]
   refine lp 10 ?_
   refine late_one (i := 11) (oi := ?_) (w' := ?_) ?_ ?_ ?_ ?_ ?_ ?_ ?_
   rotate_left 2
   ·simp only [gA, gB, gC]; rfl
   ·kernel_rfl
   ·kernel_rfl
   ·exact of_decide_eq_true (by kernel_rfl)
   ·rfl
   ·go_simp; (try with_reducible rfl)
   try simp only [Act.put, sA, sB, sC]
   refine late_done (by kernel_rfl) ?_ _
   have HO11 := Lib.hid (((OwnR.on HO6.out).set (a := ⟨b8, 1, none⟩) (by show b8 < b8 + 1; omega) (.slice a6 n6 p6)).here)
   have HB11 := Lib.hid (show (w10.setCell ⟨b8, 1, none⟩ (.slice a6 n6 p6)).heap[b8]? = some (.cells #[.int .i64 1, .slice a6 n6 p6, .slice none 0 0] 38 (0, 0)) from heap_setCell_same w10 b8 1 _ _ _ hb10)
   have HX11 := Lib.hid (HX10.out.setCell (p := ⟨b8, 1, none⟩) (by show wc.heap.size ≤ b8; have := HB8E.out; omega) (.slice a6 n6 p6))
   obtain ⟨w11, hw11⟩ : ∃ y, y = w10.setCell ⟨b8, 1, none⟩ (.slice a6 n6 p6) := ⟨_, rfl⟩
   rw [← hw11] at HO11 HB11 HX11
   have HS11 := Lib.hid (show b8 + 1 ≤ w11.heap.size by have := lt_of_block HB11.out; omega)
   go_upto_region 13 with fail
   rw [← hw11]
   clear hw11 hHeld hkd hb10 u0 u1 u2 uf hcl2 hc52 hyq hkw hyg l0 l1 l2 l3 l4 l5 l6 lf m0 m1 m2 mf
   go_wp2_with fail
   go_roundg (g1 - 1)
   case measure => have := HK.out; omega
   case rel => exact ⟨k + 1, a6, n6, p6, Lib.hid (by have := HK.out; omega), by go_num, Lib.hid (by rw [← HSN.out]; exact HO11.out), HB11, HX11, HS11⟩
  ·have hkn : k = yn := by have := HK.out; omega
   subst hkn
   have hT : rY.take k = rY := List.take_of_length_le (by rw [HYL.out, ← HYN.out]; exact Nat.le_refl _)
   rw [hT] at HO
   have hn1 : n1 = q := by rw [← HO.out.rats.hlen, List.length_map]; exact HYL.out
   have HN1 := Lib.hid hn1
   have hpl : (rY.map negR).length = q := by rw [List.length_map]; exact HYL.out
   obtain ⟨u, hu⟩ : ∃ u : Nat, u + 1 = q := ⟨q - 1, by omega⟩
   have hun : u < n1 := by omega
   have HPU := Lib.hid (show p - 1 = (u : Int) by have := HPQ.out; omega)
   have hwu : IntKind.i64.wrap (p - 1) = (u : Int) := by rw [HPU.out, IntKind.wrap_i64]; have := HPQ.out; omega
   have hu0 : (0 : Int) ≤ (u : Int) := by omega
   have hul : (u : Int) < (n1 : Int) := by omega
   obtain ⟨xb, hab, hgb, hgf, hgl⟩ := HO.out.block hun
   subst hab
   obtain ⟨y0, y1, x1, x2, hyq, hxe, hxc, hxd⟩ := HO.out.rats.at hun
   simp only [Option.some.injEq, Addr.mk.injEq, and_true] at hyq
   obtain ⟨rfl, rfl⟩ := hyq
   rw [Nat.zero_add] at hxc hxd
   obtain ⟨k1, k2, two, hls⟩ : ∃ l1 l2 o, addR (x1, x2) (s1, s2) = ((l1, l2), o) := ⟨_, _, _, rfl⟩
   have HLS := Lib.hid hls
   have HLA := Lib.hid (show lastR g ⟨1, rX, rY, rr, (rv1, rv2), rp⟩ = ((k1, k2), two) by
    unfold lastR slackR negY
    simp only
    rw [hpl, show q - 1 = u by omega, hxe, HSL.out, hls])
   have HPT := Lib.hid (show ptR g ⟨1, rX, rY, rr, (rv1, rv2), rp⟩ = (rY.map negR).set u (k1, k2) by
    unfold ptR negY
    simp only
    rw [HLA.out, hpl, show q - 1 = u by omega])
   have HUL := Lib.hid (show u < (rY.map negR).length by rw [hpl]; omega)
   have HC0 := Lib.hid (show codeS true g ⟨1, rX, rY, rr, (rv1, rv2), rp⟩ = if two = true then 1 else 3 by
    unfold codeS
    rw [if_neg (by simp), if_neg (by simp), HSK.out, HLA.out]
    simp
    intro h
    omega)
   have e0' := HXR.out.cellSome e0
   have e1' := HXR.out.cellSome e1
   have p0 := (HXC.out.trans HXR.out).cellSome HP0.out
   have hc10 := HO.out.rats.hcap
   have hm10 := HO.out.rats.hmax
   have hsr := HSR.out
   have hwcs := HXR.out.size
   clear hls hxe hu hpl hn1 hT
   go_upto_region 15 with fail
   go_cut [10, 11] (fun sx so wx => ∃ gb : Nat, sx = .pointer (some ⟨gb, 0, none⟩) ∧ so = .bool two ∧ Hid (Boxed wr wx gb k1 k2))
   case first =>
    have hk2 : Ext wr wr.drew := Ext.drew wr
    have hka : Ext wr (wr.alloc (.cells #[.int .i64 0, .int .i64 0] 43)).drew := (Ext.alloc _ _).trans (Ext.drew _)
    have HKEEP := Lib.hid (fun (w' : World) (h : Ext wr w') => (⟨h.cellSome hxc, h.cellSome hxd, h.cellSome m1, h.cellSome p0, h.cellSome e0', h.cellSome e1', h⟩ : w'.cell? ⟨xb, u * 2, none⟩ = some (.int .i64 x1) ∧ w'.cell? ⟨xb, u * 2 + 1, none⟩ = some (.int .i64 x2) ∧ w'.cell? ⟨b8, 1, none⟩ = some (.slice (some ⟨xb, 0, none⟩) n1 p1) ∧ w'.cell? ⟨w.heap.size, 0, none⟩ = some (.int .i64 p) ∧ w'.cell? ⟨g6, 0, none⟩ = some (.int .i64 s1) ∧ w'.cell? ⟨g6, 1, none⟩ = some (.int .i64 s2) ∧ Ext wr w'))
    go_region_held3 (fun w' => w'.cell? ⟨xb, u * 2, none⟩ = some (.int .i64 x1) ∧ w'.cell? ⟨xb, u * 2 + 1, none⟩ = some (.int .i64 x2) ∧ w'.cell? ⟨b8, 1, none⟩ = some (.slice (some ⟨xb, 0, none⟩) n1 p1) ∧ w'.cell? ⟨w.heap.size, 0, none⟩ = some (.int .i64 p) ∧ w'.cell? ⟨g6, 0, none⟩ = some (.int .i64 s1) ∧ w'.cell? ⟨g6, 1, none⟩ = some (.int .i64 s2) ∧ Ext wr w')
     (first
       | with_reducible exact HKEEP.out _ hk2
       | with_reducible exact HKEEP.out _ hka
       | with_reducible exact HKEEP.out _ ((hk2.setCell (by first | (simp; done) | (simp; omega)) _).setCell (by first | (simp; done) | (simp; omega)) _)
       | with_reducible exact HKEEP.out _ (hk2.trans (Ext.alloc _ _))
       | with_reducible exact HKEEP.out _ (hBB.put _ _).ext)
     (first
       | (go_at_call 37
          (with_reducible refine (s_AddRat _ _ _ _ _).mono ?_)
          rw [HLS.out]
          rintro e w14 ⟨rfl, hx_w14⟩
          first | (with_reducible have hBB := Boxed.grow hBB hx_w14) | (with_reducible have hBB := Boxed.firstD hx_w14) | (with_reducible have hBB := Boxed.laterD hk2 hx_w14) | skip
          first | (have b0_ := hBB.c0; have b1_ := hBB.c1; have fb_ := hBB.free) | skip
          have hk2 : Ext wr w14 := by first | with_reducible exact hk2.trans hx_w14 | with_reducible exact hka.trans hx_w14 | with_reducible exact (hk2.trans (Ext.alloc _ _)).trans hx_w14
          have hk2s := hk2.size)
       | fail)
    all_goals (go_wp2_with fail; go_meet; first | exact ⟨_, rfl, rfl, Lib.hid (hBB.put _ _)⟩ | exact ⟨_, rfl, rfl, Lib.hid (Boxed.new hk2 _ _)⟩ | exact ⟨_, rfl, rfl, Lib.hid (Boxed.new' hk2 _ _ (by simp))⟩)
   obtain ⟨gb, rfl, rfl, HB⟩ := hcut
   have XD := (HXC.out.trans HXR.out).trans HB.out.ext
   have HXD := Lib.hid XD
   have f0 := HB.out.c0
   have f1 := HB.out.c1
   have p0' := HB.out.ext.cellSome p0
   have HO2 := Lib.hid (HO.out.ext HB.out.ext)
   have HBD := Lib.hid (HB.out.ext.blk HBR.out)
   obtain ⟨n0, n2, n3, nf⟩ := cbox3 HBD.out
   have hwcs2 := HB.out.ext.size
   clear hxc hxd e0' e1' p0 m0 m1 m2 mf hgf e0 e1 XC
   cases two
   ·have HC := Lib.hid (show codeS true g ⟨1, rX, rY, rr, (rv1, rv2), rp⟩ = 3 by rw [HC0.out]; rfl)
    obtain ⟨q0, q1, q2, qf⟩ := HRX.out wc XD
    obtain ⟨z, z0, z1, z2, zo⟩ := HEND.out wc XD 3 (.slice none 0 0) (.slice none 0 0)
    have HZ := Lib.hid z
    have HZO := Lib.hid zo
    clear z zo
    go_wp2_with fail
    refine bodyPost_ret (v := .agg #[.int .i64 3, .slice none 0 0, .slice none 0 0]) (by simp [results, Tryz.results20, go_sem, z0, z1, z2]) rfl ⟨⟨_, _, _, _, _, _, by rw [HC.out], fun h => by rw [HC.out] at h; cases h⟩, HZ.out⟩
   ·have HC := Lib.hid (show codeS true g ⟨1, rX, rY, rr, (rv1, rv2), rp⟩ = 1 by rw [HC0.out]; rfl)
    obtain ⟨gp, hgp, hgb2, hgf, hgl2⟩ := HO2.out.block hun
    simp only [Option.some.injEq, Addr.mk.injEq, and_true] at hgp
    subst hgp
    obtain ⟨y3, y4, y5, y6, hyq, _, hyc, hyd⟩ := HO2.out.rats.at hun
    simp only [Option.some.injEq, Addr.mk.injEq, and_true] at hyq
    obtain ⟨rfl, rfl⟩ := hyq
    rw [Nat.zero_add] at hyc hyd
    have HOP := Lib.hid (HO2.out.set HUL.out k1 k2)
    have hxb8 : xb ≠ b8 := by omega
    have HBP := Lib.hid (show ((wc.setCell ⟨xb, u * 2, none⟩ (.int .i64 k1)).setCell ⟨xb, u * 2 + 1, none⟩ (.int .i64 k2)).heap[b8]? = some (.cells #[.int .i64 1, .slice (some ⟨xb, 0, none⟩) n1 p1, .slice none 0 0] 38 (0, 0)) from
     ((heap_setCell_other _ _ _ _ (by show b8 ≠ xb; omega)).trans (heap_setCell_other _ _ _ _ (by show b8 ≠ xb; omega))).trans HBD.out)
    have hwg : W.heap.size ≤ xb := by have := HXC.out.size; have := HB8E.out; omega
    have XP : Ext W ((wc.setCell ⟨xb, u * 2, none⟩ (.int .i64 k1)).setCell ⟨xb, u * 2 + 1, none⟩ (.int .i64 k2)) := (XD.setCell (p := ⟨xb, u * 2, none⟩) hwg _).setCell (p := ⟨xb, u * 2 + 1, none⟩) hwg _
    obtain ⟨wp, hwp⟩ : ∃ E, E = (wc.setCell ⟨xb, u * 2, none⟩ (.int .i64 k1)).setCell ⟨xb, u * 2 + 1, none⟩ (.int .i64 k2) := ⟨_, rfl⟩
    rw [← hwp] at HOP XP HBP
    rw [← HPT.out] at HOP
    go_upto_region 19 with fail
    rw [← hwp]
    clear hwp hyc hyd hgf f0 f1 XD n0 n2 n3 nf
    obtain ⟨n0, n2, n3, nf⟩ := cbox3 HBP.out
    obtain ⟨q0, q1, q2, qf⟩ := HRX.out wp XP
    obtain ⟨z, z0, z1, z2, zo⟩ := HEND.out wp XP 1 (.slice (some ⟨xb, 0, none⟩) n1 p1) (.slice none 0 0)
    have HZ := Lib.hid z
    have HZO := Lib.hid zo
    clear z zo
    go_wp2_with fail
    refine bodyPost_ret (v := .agg #[.int .i64 1, .slice (some ⟨xb, 0, none⟩) n1 p1, .slice none 0 0]) (by simp [results, Tryz.results20, go_sem, z0, z1, z2]) rfl ⟨⟨_, _, _, _, _, _, by rw [HC.out], fun _ => (HOP.out.mono (by have := HXC.out.size; have := HB8E.out; omega)).keep fun k hk => HZO.out k (by have := (HOP.out.lt k hk).1; have := HXC.out.size; have := HB8E.out; omega)⟩, HZ.out⟩
end Go.Proofs.YthjjfkeacobikaaGreat
