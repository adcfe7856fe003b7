import Derived.Test.YtgohdmnbnhehnaaGreatStAllG17
import Derived.Test.YtgohdmnbnhehnaaGreatStAllG28
import Derived.Test.YtgohdmnbnhehnaaGreatStAllG11
import Derived.Test.YtgohdmnbnhehnaaGreatStAllG3
import Derived.Test.YtgohdmnbnhehnaaGreatStAllG8
import Derived.Test.YtgohdmnbnhehnaaGreatStAllG7
import Derived.Test.YtgohdmnbnhehnaaGreatStAllG2
namespace Go.Proofs.YtgohdmnbnhehnaaGreat
set_option linter.unusedVariables false
set_option linter.unusedSimpArgs false
set_option maxRecDepth 100000
open Go.RowKit
theorem negs_snoc {Y : List (Int × Int)} {k : Nat} (h : k < Y.length) : (Y.take k).map negR ++ [negR (Y[k]?.getD (0, 0))] = (Y.take (k + 1)).map negR := by rw [take_snocR h, List.map_append]; rfl
theorem cell_sameF {w w' : World} {b : Nat} (h : w'.heap[b]? = w.heap[b]?) (o : Nat) : w'.cell? ⟨b, o, none⟩ = w.cell? ⟨b, o, none⟩ := by simp only [World.cell?, h]
set_option maxHeartbeats 16000000 in
theorem s_FindCore {w : World} {p : Int} {a : Option Addr} {n cap : Nat} {V : List Int} (h : Ints w a n cap V) :
    Calls Tryz.prog 72 #[pair p a n cap] w fun e w' => CoR w' w.heap.size e (codeS (gameOk p V) (grandV p V) (solveG boundI (coreA p.toNat n) (coreB p.toNat) (coreC V))) (ptR (grandV p V) (solveG boundI (coreA p.toNat n) (coreB p.toNat) (coreC V))) ∧ Ext w w' := by
  obtain ⟨W, hW⟩ : ∃ W, W = (w.alloc (.cells #[.int .i64 p, .slice a n cap] 47)).alloc (.cells #[.int .i64 0, .slice none 0 0, .slice none 0 0] 98) := ⟨_, rfl⟩
  have hws : W.heap.size = w.heap.size + 2 := by rw [hW]; simp
  have hX : Ext w W := by rw [hW]; exact (Ext.alloc _ _).trans (Ext.alloc _ _)
  have HRB := Lib.hid (show W.heap[w.heap.size + 1]? = some (.cells #[.int .i64 0, .slice none 0 0, .slice none 0 0] 98 (0, 0)) by rw [hW]; exact heapA_new _ _ _ (by simp))
  have HP0 := Lib.hid (show W.cell? ⟨w.heap.size, 0, none⟩ = some (.int .i64 p) by rw [hW]; exact Ext.cellSome (Ext.alloc _ _) (by simp))
  have HP1 := Lib.hid (show W.cell? ⟨w.heap.size, 1, none⟩ = some (.slice a n cap) by rw [hW]; exact Ext.cellSome (Ext.alloc _ _) (by simp))
  have HI := Lib.hid (h.ext hX)
  have HX := Lib.hid hX
  have HBL := Lib.hid (s_BalancedLP (p := p) HI.out)
  obtain ⟨g, hg0⟩ : ∃ g, g = grandV p V := ⟨_, rfl⟩
  obtain ⟨r, hr0⟩ : ∃ r, r = solveG boundI (coreA p.toNat n) (coreB p.toNat) (coreC V) := ⟨_, rfl⟩
  have HG := Lib.hid hg0
  have HRR := Lib.hid hr0
  rw [← hg0, ← hr0]
  have HEND := Lib.hid (fun (w' : World) (hx : Ext W w') (code : Int) (x1 x2 : Value) => coreOut (w := w) ((hx.block _ (by omega)).trans HRB.out) (HX.out.trans hx) (Nat.le_succ _) (.int .i64 code) x1 x2)
  have HRX := Lib.hid (fun (w' : World) (hx : Ext W w') => cbox3 ((hx.block _ (by omega)).trans HRB.out))
  clear h hX hg0 hr0
  cases hgo : gameOk p V
  · rw [hgo] at HBL
    have HC := Lib.hid (show codeS false g r = 0 from rfl)
    clear hgo
    go_enter Tryz.func72, Tryz.ntmps72
    go_wp2_with fail
    rw [← hW]
    refine HBL.out.mono ?_
    rintro e w1 ⟨⟨la, lna, lca, lb, lnb, lcb, lc, lnc, lcc, rfl, _⟩, hx⟩
    unfold lpW
    obtain ⟨w2, hw2⟩ : ∃ E, E = w1.alloc (lpBox la lna lca lb lnb lcb lc lnc lcc) := ⟨_, rfl⟩
    have X2 : Ext W w2 := by rw [hw2]; exact hx.trans (Ext.alloc _ _)
    obtain ⟨q0, q1, q2, qf⟩ := HRX.out w2 X2
    obtain ⟨z, z0, z1, z2, _⟩ := HEND.out w2 X2 0 (.slice none 0 0) (.slice none 0 0)
    have HZ := Lib.hid z
    go_upto_region 2 with fail
    rw [← hw2]
    clear hx hw2 hW z
    go_wp2_with fail
    refine bodyPost_ret (v := .agg #[.int .i64 0, .slice none 0 0, .slice none 0 0]) (by simp [results, Tryz.results72, go_sem, z0, z1, z2]) rfl ⟨⟨_, _, _, _, _, _, by rw [HC.out], fun h => by rw [HC.out] at h; cases h⟩, HZ.out⟩
  rw [hgo] at HBL
  have HSE := Lib.hid (core_both hgo (coreA p.toNat n) (coreB p.toNat))
  obtain ⟨q, hpq, hq1, hq5, hVl, _, hVb⟩ := gameOk_len hgo
  have hgb : -500 ≤ g ∧ g ≤ 500 := by rw [HG.out, grandV_ok hgo]; exact getD_bdF hVb _
  have HPQ := Lib.hid hpq
  clear hgo hVl hVb hpq
  go_enter Tryz.func72, Tryz.ntmps72
  go_wp2_with fail
  rw [← hW]
  refine HBL.out.mono ?_
  rintro e w1 ⟨⟨la, lna, lca, lb, lnb, lcb, lc, lnc, lcc, rfl, hlp⟩, hx⟩
  unfold lpW
  obtain ⟨w2, hw2⟩ : ∃ E, E = w1.alloc (lpBox la lna lca lb lnb lcb lc lnc lcc) := ⟨_, rfl⟩
  have hx2 : Ext w1 w2 := by rw [hw2]; exact Ext.alloc _ _
  have X2 := Lib.hid (hx.trans hx2)
  have HSV := Lib.hid (s_SolveLP ((hlp rfl).ext hx2))
  rw [← HSE.out, ← HRR.out] at HSV
  have hb3 : w2.heap[w1.heap.size]? = some (.cells #[.slice la lna lca, .slice lb lnb lcb, .slice lc lnc lcc] 67 (0, 0)) := by rw [hw2]; exact heapA_new _ _ _ rfl
  have t0 := tbox0 hb3
  have t1 := tbox1 hb3
  have t2 := tbox2 hb3
  go_upto_region 2 with fail
  rw [← hw2]
  clear hx hx2 hlp hw2 hW hb3
  go_wp2_with fail
  refine HSV.out.mono ?_
  have HST := Lib.hid (fun (hs : r.status = 1) => show r.Y.length = q ∧ valR r.value = true ∧ ∀ k, k < r.Y.length → valR (r.Y[k]?.getD (0, 0)) = true by
    have := solveG_val (bound := boundI) (A := coreA p.toNat n) (B := coreB p.toNat) (C := coreC V) (by rw [← HRR.out]; exact hs)
    rw [← HRR.out] at this
    refine ⟨?_, this.2.2.2.2⟩
    rw [this.2.2.2.1]
    unfold coreB
    rw [List.length_replicate, HPQ.out, Int.toNat_natCast])
  rintro e w3 ⟨⟨xa, xn, xc, ya, yn, yc, ra, rn, rc, rfl, hlr⟩, hx3⟩
  obtain ⟨w4, hw4⟩ : ∃ E, E = w3.alloc (lrBox r xa xn xc ya yn yc ra rn rc) := ⟨_, rfl⟩
  have hx4 : Ext w3 w4 := by rw [hw4]; exact Ext.alloc _ _
  have X4 := Lib.hid ((X2.out.trans hx3).trans hx4)
  have HLR := Lib.hid (hlr.here.ext hx4)
  have HB5 := Lib.hid (show w4.heap[w3.heap.size]? = some (lrBox r xa xn xc ya yn yc ra rn rc) by rw [hw4]; exact heapA_new _ _ _ rfl)
  obtain ⟨rs, rX, rY, rr, ⟨rv1, rv2⟩, rp⟩ := r
  unfold lrW
  go_upto_region 5 with fail
  rw [← hw4]
  clear hlr hx3 hx4 hw4 t0 t1 t2
  generalize w3.heap.size = b5 at HB5 ⊢
  obtain ⟨l0, l1, l2, l3, l4, l5, l6, lf⟩ := lbox HB5.out
  try simp only at l0 l1 l2 l3 l4 l5 l6
  have HGV := Lib.hid (fun (w' : World) (hx : Ext W w') => s_GrandValue (p := p) (HI.out.ext hx))
  simp only [← HG.out] at HGV
  have b0 := X4.out.cellSome HP0.out
  have b1 := X4.out.cellSome HP1.out
  obtain ⟨s1, s2, one, hsl⟩ : ∃ s1 s2 o, addR (g, 1) (rv1, rv2) = ((s1, s2), o) := ⟨_, _, _, rfl⟩
  have HSL := Lib.hid hsl
  have HSK := Lib.hid (show slackR g ⟨rs, rX, rY, rr, (rv1, rv2), rp⟩ = ((s1, s2), one) from hsl)
  clear hsl
  go_upto_region 5 with fail
  go_cut [6, 7] (fun sx so wx => ∃ g6 : Nat, sx = .pointer (some ⟨g6, 0, none⟩) ∧ so = .bool one ∧ Hid (Boxed w4 wx g6 s1 s2))
  case first =>
    have hk2 : Ext w4 w4.drew := Ext.drew w4
    have hka : Ext w4 (w4.alloc (.cells #[.int .i64 0, .int .i64 0] 85)).drew := (Ext.alloc _ _).trans (Ext.drew _)
    have HKEEP := Lib.hid (fun (w' : World) (h : Ext w4 w') => (⟨h.cellSome b0, h.cellSome b1, h.cellSome l4, h.cellSome l5, h⟩ : w'.cell? ⟨w.heap.size, 0, none⟩ = some (.int .i64 p) ∧ w'.cell? ⟨w.heap.size, 1, none⟩ = some (.slice a n cap) ∧ w'.cell? ⟨b5, 4, none⟩ = some (.int .i64 rv1) ∧ w'.cell? ⟨b5, 5, none⟩ = some (.int .i64 rv2) ∧ Ext w4 w'))
    go_region_held3 (fun w' => w'.cell? ⟨w.heap.size, 0, none⟩ = some (.int .i64 p) ∧ w'.cell? ⟨w.heap.size, 1, none⟩ = some (.slice a n cap) ∧ w'.cell? ⟨b5, 4, none⟩ = some (.int .i64 rv1) ∧ w'.cell? ⟨b5, 5, none⟩ = some (.int .i64 rv2) ∧ Ext w4 w')
      (first
        | with_reducible exact HKEEP.out _ hk2
        | with_reducible exact HKEEP.out _ hka
        | with_reducible exact HKEEP.out _ ((hk2.setCell (by first | (simp; done) | (simp; omega)) _).setCell (by first | (simp; done) | (simp; omega)) _)
        | with_reducible exact HKEEP.out _ (hk2.trans (Ext.alloc _ _))
        | with_reducible exact HKEEP.out _ (hBB.put _ _).ext)
      (first
        | (go_at_call 82
           (with_reducible refine (HGV.out _ (X4.out.trans (by first | with_reducible exact hk2 | with_reducible exact hka | with_reducible exact hk2.trans (Ext.alloc _ _)))).mono ?_)
           rintro e w5 ⟨rfl, hx_w5⟩
           first | (with_reducible have hBB := Boxed.grow hBB hx_w5) | (with_reducible have hBB := Boxed.firstD hx_w5) | (with_reducible have hBB := Boxed.laterD hk2 hx_w5) | skip
           first | (have b0_ := hBB.c0; have b1_ := hBB.c1; have fb_ := hBB.free) | skip
           have hk2 : Ext w4 w5 := by first | with_reducible exact hk2.trans hx_w5 | with_reducible exact hka.trans hx_w5 | with_reducible exact (hk2.trans (Ext.alloc _ _)).trans hx_w5
           have hk2s := hk2.size)
        | (go_at_call 81
           (with_reducible refine (s_l3Int _ _).mono ?_)
           rintro e w6 ⟨rfl, hx_w6⟩
           first | (with_reducible have hBB := Boxed.grow hBB hx_w6) | (with_reducible have hBB := Boxed.firstD hx_w6) | (with_reducible have hBB := Boxed.laterD hk2 hx_w6) | skip
           first | (have b0_ := hBB.c0; have b1_ := hBB.c1; have fb_ := hBB.free) | skip
           have hk2 : Ext w4 w6 := by first | with_reducible exact hk2.trans hx_w6 | with_reducible exact hka.trans hx_w6 | with_reducible exact (hk2.trans (Ext.alloc _ _)).trans hx_w6
           have hk2s := hk2.size)
        | (go_at_call 141
           (with_reducible refine (s_AddRat _ _ _ _ _).mono ?_)
           rw [HSL.out]
           rintro e w7 ⟨rfl, hx_w7⟩
           first | (with_reducible have hBB := Boxed.grow hBB hx_w7) | (with_reducible have hBB := Boxed.firstD hx_w7) | (with_reducible have hBB := Boxed.laterD hk2 hx_w7) | skip
           first | (have b0_ := hBB.c0; have b1_ := hBB.c1; have fb_ := hBB.free) | skip
           have hk2 : Ext w4 w7 := by first | with_reducible exact hk2.trans hx_w7 | with_reducible exact hka.trans hx_w7 | with_reducible exact (hk2.trans (Ext.alloc _ _)).trans hx_w7
           have hk2s := hk2.size)
        | fail)
    all_goals (go_wp2_with fail; go_meet; first | exact ⟨_, rfl, rfl, Lib.hid (hBB.put _ _)⟩ | exact ⟨_, rfl, rfl, Lib.hid (Boxed.new hk2 _ _)⟩ | exact ⟨_, rfl, rfl, Lib.hid (Boxed.new' hk2 _ _ (by simp))⟩)
  obtain ⟨g6, rfl, rfl, HB6⟩ := hcut
  have XC := X4.out.trans HB6.out.ext
  have HXC := Lib.hid XC
  have HBC := Lib.hid (HB6.out.ext.blk HB5.out)
  have HYC := Lib.hid (HLR.out.y.ext HB6.out.ext)
  have e0 := HB6.out.c0
  have e1 := HB6.out.c1
  clear l0 l1 l2 l3 l4 l5 l6 lf b0 b1
  obtain ⟨l0, l1, l2, l3, l4, l5, l6, lf⟩ := lbox HBC.out
  try simp only at l0 l1 l2 l3 l4 l5 l6
  by_cases hs : rs = 1
  rotate_left
  · have HC := Lib.hid (show codeS true g ⟨rs, rX, rY, rr, (rv1, rv2), rp⟩ = 3 by unfold codeS; rw [if_neg (by simp), if_pos hs])
    have hsb : (rs != 1) = true := by simp [hs]
    obtain ⟨q0, q1, q2, qf⟩ := HRX.out wc XC
    obtain ⟨z, z0, z1, z2, zo⟩ := HEND.out wc XC 3 (.slice none 0 0) (.slice none 0 0)
    have HZ := Lib.hid z
    have HZO := Lib.hid zo
    clear z zo
    go_wp2_with fail
    refine bodyPost_ret (v := .agg #[.int .i64 3, .slice none 0 0, .slice none 0 0]) (by simp [results, Tryz.results72, go_sem, z0, z1, z2]) rfl ⟨⟨_, _, _, _, _, _, by rw [HC.out], fun h => by rw [HC.out] at h; cases h⟩, HZ.out⟩
  obtain ⟨hyl, hvv, hyv⟩ := HST.out hs
  try simp only at hyl hvv hyv
  subst hs
  have HYV := Lib.hid hyv
  have HYL := Lib.hid hyl
  clear hvv hyv hyl
  cases one
  · have HC := Lib.hid (show codeS true g ⟨1, rX, rY, rr, (rv1, rv2), rp⟩ = 3 by unfold codeS; rw [if_neg (by simp), if_neg (by simp), HSK.out]; rfl)
    obtain ⟨q0, q1, q2, qf⟩ := HRX.out wc XC
    obtain ⟨z, z0, z1, z2, zo⟩ := HEND.out wc XC 3 (.slice none 0 0) (.slice none 0 0)
    have HZ := Lib.hid z
    have HZO := Lib.hid zo
    clear z zo
    go_wp2_with fail
    refine bodyPost_ret (v := .agg #[.int .i64 3, .slice none 0 0, .slice none 0 0]) (by simp [results, Tryz.results72, go_sem, z0, z1, z2]) rfl ⟨⟨_, _, _, _, _, _, by rw [HC.out], fun h => by rw [HC.out] at h; cases h⟩, HZ.out⟩
  by_cases hneg : s1 < 0
  · have HC := Lib.hid (show codeS true g ⟨1, rX, rY, rr, (rv1, rv2), rp⟩ = 2 by unfold codeS; rw [if_neg (by simp), if_neg (by simp), HSK.out]; simp [hneg])
    obtain ⟨q0, q1, q2, qf⟩ := HRX.out wc XC
    obtain ⟨z, z0, z1, z2, zo⟩ := HEND.out wc XC 2 (.slice none 0 0) (.slice xa xn xc)
    have HZ := Lib.hid z
    have HZO := Lib.hid zo
    clear z zo
    go_wp2_with fail
    refine bodyPost_ret (v := .agg #[.int .i64 2, .slice none 0 0, .slice xa xn xc]) (by simp [results, Tryz.results72, go_sem, z0, z1, z2]) rfl ⟨⟨_, _, _, _, _, _, by rw [HC.out], fun h => by rw [HC.out] at h; cases h⟩, HZ.out⟩
  have hyn : yn = q := by have h1 := HYC.out.hlen; have h2 := HYL.out; (try simp only at h1); omega
  have HYN := Lib.hid hyn
  have hyn5 : yn ≤ 5 := by omega
  have hyc := HYC.out.hcap
  have hym := HYC.out.hmax
  clear hyn
  obtain ⟨w8, hw8⟩ : ∃ E, E = wc.alloc (.cells #[.int .i64 1, .slice none 0 0, .slice none 0 0] 98) := ⟨_, rfl⟩
  have hx8 : Ext wc w8 := by rw [hw8]; exact Ext.alloc _ _
  have HB8 := Lib.hid (show w8.heap[wc.heap.size]? = some (.cells #[.int .i64 1, .slice none 0 0, .slice none 0 0] 98 (0, 0)) by rw [hw8]; exact heapA_new _ _ _ rfl)
  have HS8 := Lib.hid (show w8.heap.size = wc.heap.size + 1 by rw [hw8]; simp)
  go_upto_region 11 with fail
  rw [← hw8]
  clear hw8
  have hs8 := hx8.size
  have HX8 := Lib.hid hx8
  obtain ⟨b8, hb8⟩ : ∃ b, b = wc.heap.size := ⟨_, rfl⟩
  have HB8E := Lib.hid hb8
  rw [← hb8] at HB8 HS8
  rw [← hb8]
  clear hx8 hb8
  go_wp2_with fail
  go_loopg [9] yn (fun gk ii wr => ∃ (k : Nat) (a1 : Option Addr) (n1 p1 : Nat), Hid (gk + k = yn) ∧ ii = .int .i64 (k : Int) ∧ Hid (OwnR wr (b8 + 1) (.slice a1 n1 p1) ((rY.take k).map negR)) ∧ Hid (wr.heap[b8]? = some (.cells #[.int .i64 1, .slice a1 n1 p1, .slice none 0 0] 98 (0, 0))) ∧ Hid (Ext wc wr) ∧ Hid (b8 + 1 ≤ wr.heap.size))
  case atStart => exact ⟨0, none, 0, 0, Lib.hid (by omega), rfl, Lib.hid (OwnR.nil _ _), HB8, HX8, Lib.hid (by rw [HS8.out]; exact Nat.le_refl _)⟩
  case round =>
    obtain ⟨g1, h_g1⟩ : ∃ x, x = gk := ⟨_, rfl⟩
    subst h_g1
    obtain ⟨wr, h_wr⟩ : ∃ x, x = wr := ⟨_, rfl⟩
    subst h_wr
    obtain ⟨k, a1, n1, p1, HK, rfl, HO, HBR, HXR, HSR⟩ := hrel
    have HBW := Lib.hid (HXR.out.blk HBC.out)
    clear l0 l1 l2 l3 l4 l5 l6 lf
    obtain ⟨l0, l1, l2, l3, l4, l5, l6, lf⟩ := lbox HBW.out
    try simp only at l0 l1 l2 l3 l4 l5 l6
    obtain ⟨m0, m1, m2, mf⟩ := cbox3 HBR.out
    by_cases hlt : k < yn
    · obtain ⟨yb, yo, y1, y2, rfl, hye, hy1, hy2⟩ := (HYC.out.ext HXR.out).at hlt
      have hkY : k < rY.length := by rw [HYL.out, ← HYN.out]; exact hlt
      have hyb := valR_bd (HYV.out k hkY)
      try simp only at hye
      rw [hye] at hyb
      try simp only at hyb
      have HSN := Lib.hid (negs_snoc hkY)
      rw [hye] at HSN
      have HTL := Lib.hid (show ((rY.take k).map negR).length = k by rw [List.length_map, List.length_take]; omega)
      have hkd : Ext wr wr.drew := Ext.drew wr
      have HKEEP := Lib.hid (fun (w' : World) (h : Ext wr w') => (⟨h.cellSome m1, h.cellSome l2, h.cellSome hy1, h.cellSome hy2⟩ : w'.cell? ⟨b8, 1, none⟩ = some (.slice a1 n1 p1) ∧ w'.cell? ⟨b5, 2, none⟩ = some (.slice (some ⟨yb, yo, none⟩) yn yc) ∧ w'.cell? ⟨yb, yo + k * 2, none⟩ = some (.int .i64 y1) ∧ w'.cell? ⟨yb, yo + k * 2 + 1, none⟩ = some (.int .i64 y2)))
      have hb5n : b5 ≠ b8 := by have := lt_of_block HBC.out; have := HB8E.out; omega
      have HYB := Lib.hid (show yb < b8 by
        obtain ⟨u1, u2, u3, u4, hu, hu2, hu3, _⟩ := HYC.out.at hlt
        simp only [Option.some.injEq, Addr.mk.injEq, and_true] at hu
        have h1 := World.block_lt_of_cell? _ _ hu3
        have := HB8E.out
        simp only at h1
        omega)
      have hhsr := HSR.out
      clear hye
      go_wp2_with fail
      refine late_begin (M := [11]) (S := fun w' => w'.cell? ⟨b8, 1, none⟩ = some (.slice a1 n1 p1) ∧ w'.cell? ⟨b5, 2, none⟩ = some (.slice (some ⟨yb, yo, none⟩) yn yc) ∧ w'.cell? ⟨yb, yo + k * 2, none⟩ = some (.int .i64 y1) ∧ w'.cell? ⟨yb, yo + k * 2 + 1, none⟩ = some (.int .i64 y2)) (by kernel_rfl) ?_
      have hHeld := HKEEP.out _ hkd
      obtain ⟨wd, hwd⟩ : ∃ y, y = wr.drew := ⟨_, rfl⟩
      rw [← hwd] at hkd hHeld
      rw [← hwd]
      clear hwd
      have hsd := hkd.size
      refine late_pure (i := 0) (oi := ?_) (v := ?_) ?_ ?_ ?_ ?_ ?_ ?_ ?_ ?_ ?_
      rotate_left 2
      · simp only [gA, gB, gC]; rfl
      · kernel_rfl
      · kernel_rfl
      · kernel_rfl
      · kernel_rfl
      · exact fun _ _ _ h => h
      · refine Or.inl ⟨by rfl, ?_⟩; intro w hSw; (try dsimp only at hSw); go_simp; (try with_reducible rfl)
      · assumption
      try simp only [Act.put, sA, sB, sC]
      refine late_load (i := 1) (oi := ?_) (v := ?_) ?_ ?_ ?_ ?_ ?_ ?_ ?_ ?_ ?_ ?_ ?_
      rotate_left 2
      · simp only [gA, gB, gC]; rfl
      · kernel_rfl
      · kernel_rfl
      · kernel_rfl
      · kernel_rfl
      · kernel_rfl
      · kernel_rfl
      · exact fun _ _ _ h => h
      · refine Or.inl ⟨by rfl, ?_⟩; intro w hSw; (try dsimp only at hSw); go_simp; (try with_reducible rfl)
      · assumption
      try simp only [Act.put, sA, sB, sC]
      refine late_pure (i := 2) (oi := ?_) (v := ?_) ?_ ?_ ?_ ?_ ?_ ?_ ?_ ?_ ?_
      rotate_left 2
      · simp only [gA, gB, gC]; rfl
      · kernel_rfl
      · kernel_rfl
      · kernel_rfl
      · kernel_rfl
      · exact fun _ _ _ h => h
      · refine Or.inl ⟨by rfl, ?_⟩; intro w hSw; (try dsimp only at hSw); go_simp; (try with_reducible rfl)
      · assumption
      try simp only [Act.put, sA, sB, sC]
      refine late_load (i := 3) (oi := ?_) (v := ?_) ?_ ?_ ?_ ?_ ?_ ?_ ?_ ?_ ?_ ?_ ?_
      rotate_left 2
      · simp only [gA, gB, gC]; rfl
      · kernel_rfl
      · kernel_rfl
      · kernel_rfl
      · kernel_rfl
      · kernel_rfl
      · kernel_rfl
      · exact fun _ _ _ h => h
      · refine Or.inl ⟨by rfl, ?_⟩; intro w hSw; (try dsimp only at hSw); go_simp; (try with_reducible rfl)
      · assumption
      try simp only [Act.put, sA, sB, sC]
      refine late_pure (i := 4) (oi := ?_) (v := ?_) ?_ ?_ ?_ ?_ ?_ ?_ ?_ ?_ ?_
      rotate_left 2
      · simp only [gA, gB, gC]; rfl
      · kernel_rfl
      · kernel_rfl
      · kernel_rfl
      · kernel_rfl
      · exact fun _ _ _ h => h
      · refine Or.inl ⟨by rfl, ?_⟩; intro w hSw; (try dsimp only at hSw); go_simp; (try with_reducible rfl)
      · assumption
      try simp only [Act.put, sA, sB, sC]
      refine late_pure (i := 5) (oi := ?_) (v := ?_) ?_ ?_ ?_ ?_ ?_ ?_ ?_ ?_ ?_
      rotate_left 2
      · simp only [gA, gB, gC]; rfl
      · kernel_rfl
      · kernel_rfl
      · kernel_rfl
      · kernel_rfl
      · exact fun _ _ _ h => h
      · refine Or.inl ⟨by rfl, ?_⟩; intro w hSw; (try dsimp only at hSw); go_simp; (try with_reducible rfl)
      · assumption
      try simp only [Act.put, sA, sB, sC]
      refine late_load (i := 6) (oi := ?_) (v := ?_) ?_ ?_ ?_ ?_ ?_ ?_ ?_ ?_ ?_ ?_ ?_
      rotate_left 2
      · simp only [gA, gB, gC]; rfl
      · kernel_rfl
      · kernel_rfl
      · kernel_rfl
      · kernel_rfl
      · kernel_rfl
      · kernel_rfl
      · exact fun _ _ _ h => h
      · refine Or.inl ⟨by rfl, ?_⟩; intro w hSw; (try dsimp only at hSw); go_simp; (try with_reducible rfl)
      · assumption
      try simp only [Act.put, sA, sB, sC]
      refine late_step (i := 7) (oi := ?_) ?_ ?_ ?_ (fun K hK => ?_)
      rotate_left
      · simp only [gA, gB, gC]; rfl
      · kernel_rfl
      · kernel_rfl
      go_simp
      go_at_call 83
      refine (s_l7Negated y1 y2 _ (by omega) (by omega)).mono ?_
      rintro e w9 ⟨rfl, hx9⟩
      have hkd : Ext wr w9 := hkd.trans hx9
      have hs9 := hkd.size
      go_wp2_with fail
      refine hK.out _ _ (fun _ => HKEEP.out _ hkd) ?_
      have hHeld := HKEEP.out _ hkd
      clear hK K
      try simp only [Act.put, sA, sB, sC]
      refine late_step (i := 8) (oi := ?_) ?_ ?_ ?_ (fun K hK => ?_)
      rotate_left
      · simp only [gA, gB, gC]; rfl
      · kernel_rfl
      · kernel_rfl
      go_simp
      refine hK.out _ _ (fun _ => HKEEP.out _ (hkd.trans (Ext.alloc _ _))) ?_
      clear hK K
      try simp only [Act.put, sA, sB, sC]
      refine late_step (i := 9) (oi := ?_) ?_ ?_ ?_ (fun K hK => ?_)
      rotate_left
      · simp only [gA, gB, gC]; rfl
      · kernel_rfl
      · kernel_rfl
      refine wp_append_rats _ _ (by rfl) (b8 + 1) (.slice a1 n1 p1) _ (by rfl) ((HO.out.ext hkd).ext (Ext.alloc _ _)) _ 1 _ [(-y1, y2)] (by rfl) (Rats.one' _ _ _ _ _ rfl) (by rw [HTL.out]; omega) (by simp; omega) ?_
      intro v6 w10 ho hg hnear
      obtain ⟨a6, n6, p6, rfl, HN6⟩ := ho.var
      have HO6 := Lib.hid ho
      have hb10 := (hg.block b8 (by have := HSR.out; simp; omega) (fun e => by have := (HO.out.lt b8 e.symm).1; omega)).trans ((hkd.trans (Ext.alloc _ _)).blk HBR.out)
      obtain ⟨u0, u1, u2, uf⟩ := cbox3 hb10
      have HX10 := Lib.hid (ext_grown (HXR.out.trans (hkd.trans (Ext.alloc _ _))) hg (fun j hj => by have := (HO.out.lt j hj).1; have := HB8E.out; omega))
      have hs10 := hg.size
      have hcl2 := (hg.block b5 (by have := lt_of_block HBW.out; simp; omega) (fun e => by have := (HO.out.lt b5 e.symm).1; have := lt_of_block HBC.out; have := HB8E.out; omega)).trans ((hkd.trans (Ext.alloc _ _)).blk HBW.out)
      have hc52 := (lbox hcl2).2.2.1
      have hyq := HX10.out
      have hkw := hkd.trans (Ext.alloc w9 (.cells #[.int .i64 (-y1), .int .i64 y2] 85))
      have hyg := hg.block yb (by have := HYB.out; have := HSR.out; have := hkw.size; omega) (fun e => by have := (HO.out.lt yb e.symm).1; have := HYB.out; omega)
      clear ho hg hnear
      refine hK.out _ _ (fun _ => And.intro u1 (And.intro hc52 (And.intro ((cell_sameF hyg _).trans (hkw.cellSome hy1)) ((cell_sameF hyg _).trans (hkw.cellSome hy2))))) ?_
      have hHeld := And.intro u1 (And.intro hc52 (And.intro ((cell_sameF hyg _).trans (hkw.cellSome hy1)) ((cell_sameF hyg _).trans (hkw.cellSome hy2))))
      clear hK K
      try simp only [Act.put, sA, sB, sC]
      refine late_pure (i := 10) (oi := ?_) (v := ?_) ?_ ?_ ?_ ?_ ?_ ?_ ?_ ?_ ?_
      rotate_left 2
      · simp only [gA, gB, gC]; rfl
      · kernel_rfl
      · kernel_rfl
      · kernel_rfl
      · kernel_rfl
      · exact fun _ _ _ h => h
      · refine Or.inl ⟨by rfl, ?_⟩; intro w hSw; (try dsimp only at hSw); go_simp; (try with_reducible rfl)
      · assumption
      try simp only [Act.put, sA, sB, sC]
      refine late_one (i := 11) (oi := ?_) (w' := ?_) ?_ ?_ ?_ ?_ ?_ ?_ ?_
      rotate_left 2
      · simp only [gA, gB, gC]; rfl
      · kernel_rfl
      · kernel_rfl
      · exact of_decide_eq_true (by kernel_rfl)
      · rfl
      · go_simp; (try with_reducible rfl)
      try simp only [Act.put, sA, sB, sC]
      refine late_done (by kernel_rfl) ?_ _
      have HO11 := Lib.hid (((OwnR.on HO6.out).set (a := ⟨b8, 1, none⟩) (by show b8 < b8 + 1; omega) (.slice a6 n6 p6)).here)
      have HB11 := Lib.hid (show (w10.setCell ⟨b8, 1, none⟩ (.slice a6 n6 p6)).heap[b8]? = some (.cells #[.int .i64 1, .slice a6 n6 p6, .slice none 0 0] 98 (0, 0)) from heap_setCell_same w10 b8 1 _ _ _ hb10)
      have HX11 := Lib.hid (HX10.out.setCell (p := ⟨b8, 1, none⟩) (by show wc.heap.size ≤ b8; have := HB8E.out; omega) (.slice a6 n6 p6))
      obtain ⟨w11, hw11⟩ : ∃ y, y = w10.setCell ⟨b8, 1, none⟩ (.slice a6 n6 p6) := ⟨_, rfl⟩
      rw [← hw11] at HO11 HB11 HX11
      have HS11 := Lib.hid (show b8 + 1 ≤ w11.heap.size by have := lt_of_block HB11.out; omega)
      go_upto_region 13 with fail
      rw [← hw11]
      clear hw11 hHeld hkd hb10 u0 u1 u2 uf hcl2 hc52 hyq hkw hyg l0 l1 l2 l3 l4 l5 l6 lf m0 m1 m2 mf
      go_wp2_with fail
      go_roundg (g1 - 1)
      case measure => have := HK.out; omega
      case rel => exact ⟨k + 1, a6, n6, p6, Lib.hid (by have := HK.out; omega), by go_num, Lib.hid (by rw [← HSN.out]; exact HO11.out), HB11, HX11, HS11⟩
    · have hkn : k = yn := by have := HK.out; omega
      subst hkn
      have hT : rY.take k = rY := List.take_of_length_le (by rw [HYL.out, ← HYN.out]; exact Nat.le_refl _)
      rw [hT] at HO
      have hn1 : n1 = q := by rw [← HO.out.rats.hlen, List.length_map]; exact HYL.out
      have HN1 := Lib.hid hn1
      have hpl : (rY.map negR).length = q := by rw [List.length_map]; exact HYL.out
      obtain ⟨u, hu⟩ : ∃ u : Nat, u + 1 = q := ⟨q - 1, by omega⟩
      have hun : u < n1 := by omega
      have HPU := Lib.hid (show p - 1 = (u : Int) by have := HPQ.out; omega)
      have hwu : IntKind.i64.wrap (p - 1) = (u : Int) := by rw [HPU.out, IntKind.wrap_i64]; have := HPQ.out; omega
      have hu0 : (0 : Int) ≤ (u : Int) := by omega
      have hul : (u : Int) < (n1 : Int) := by omega
      obtain ⟨xb, hab, hgb, hgf, hgl⟩ := HO.out.block hun
      subst hab
      obtain ⟨y0, y1, x1, x2, hyq, hxe, hxc, hxd⟩ := HO.out.rats.at hun
      simp only [Option.some.injEq, Addr.mk.injEq, and_true] at hyq
      obtain ⟨rfl, rfl⟩ := hyq
      rw [Nat.zero_add] at hxc hxd
      obtain ⟨k1, k2, two, hls⟩ : ∃ l1 l2 o, addR (x1, x2) (s1, s2) = ((l1, l2), o) := ⟨_, _, _, rfl⟩
      have HLS := Lib.hid hls
      have HLA := Lib.hid (show lastR g ⟨1, rX, rY, rr, (rv1, rv2), rp⟩ = ((k1, k2), two) by
        unfold lastR slackR negY
        simp only
        rw [hpl, show q - 1 = u by omega, hxe, HSL.out, hls])
      have HPT := Lib.hid (show ptR g ⟨1, rX, rY, rr, (rv1, rv2), rp⟩ = (rY.map negR).set u (k1, k2) by
        unfold ptR negY
        simp only
        rw [HLA.out, hpl, show q - 1 = u by omega])
      have HUL := Lib.hid (show u < (rY.map negR).length by rw [hpl]; omega)
      have HC0 := Lib.hid (show codeS true g ⟨1, rX, rY, rr, (rv1, rv2), rp⟩ = if two = true then 1 else 3 by
        unfold codeS
        rw [if_neg (by simp), if_neg (by simp), HSK.out, HLA.out]
        simp
        intro h
        omega)
      have e0' := HXR.out.cellSome e0
      have e1' := HXR.out.cellSome e1
      have p0 := (HXC.out.trans HXR.out).cellSome HP0.out
      have hc10 := HO.out.rats.hcap
      have hm10 := HO.out.rats.hmax
      have hsr := HSR.out
      have hwcs := HXR.out.size
      clear hls hxe hu hpl hn1 hT
      go_upto_region 15 with fail
      go_cut [10, 11] (fun sx so wx => ∃ gb : Nat, sx = .pointer (some ⟨gb, 0, none⟩) ∧ so = .bool two ∧ Hid (Boxed wr wx gb k1 k2))
      case first =>
        have hk2 : Ext wr wr.drew := Ext.drew wr
        have hka : Ext wr (wr.alloc (.cells #[.int .i64 0, .int .i64 0] 85)).drew := (Ext.alloc _ _).trans (Ext.drew _)
        have HKEEP := Lib.hid (fun (w' : World) (h : Ext wr w') => (⟨h.cellSome hxc, h.cellSome hxd, h.cellSome m1, h.cellSome p0, h.cellSome e0', h.cellSome e1', h⟩ : w'.cell? ⟨xb, u * 2, none⟩ = some (.int .i64 x1) ∧ w'.cell? ⟨xb, u * 2 + 1, none⟩ = some (.int .i64 x2) ∧ w'.cell? ⟨b8, 1, none⟩ = some (.slice (some ⟨xb, 0, none⟩) n1 p1) ∧ w'.cell? ⟨w.heap.size, 0, none⟩ = some (.int .i64 p) ∧ w'.cell? ⟨g6, 0, none⟩ = some (.int .i64 s1) ∧ w'.cell? ⟨g6, 1, none⟩ = some (.int .i64 s2) ∧ Ext wr w'))
        go_region_held3 (fun w' => w'.cell? ⟨xb, u * 2, none⟩ = some (.int .i64 x1) ∧ w'.cell? ⟨xb, u * 2 + 1, none⟩ = some (.int .i64 x2) ∧ w'.cell? ⟨b8, 1, none⟩ = some (.slice (some ⟨xb, 0, none⟩) n1 p1) ∧ w'.cell? ⟨w.heap.size, 0, none⟩ = some (.int .i64 p) ∧ w'.cell? ⟨g6, 0, none⟩ = some (.int .i64 s1) ∧ w'.cell? ⟨g6, 1, none⟩ = some (.int .i64 s2) ∧ Ext wr w')
          (first
            | with_reducible exact HKEEP.out _ hk2
            | with_reducible exact HKEEP.out _ hka
            | with_reducible exact HKEEP.out _ ((hk2.setCell (by first | (simp; done) | (simp; omega)) _).setCell (by first | (simp; done) | (simp; omega)) _)
            | with_reducible exact HKEEP.out _ (hk2.trans (Ext.alloc _ _))
            | with_reducible exact HKEEP.out _ (hBB.put _ _).ext)
          (first
            | (go_at_call 141
               (with_reducible refine (s_AddRat _ _ _ _ _).mono ?_)
               rw [HLS.out]
               rintro e w14 ⟨rfl, hx_w14⟩
               first | (with_reducible have hBB := Boxed.grow hBB hx_w14) | (with_reducible have hBB := Boxed.firstD hx_w14) | (with_reducible have hBB := Boxed.laterD hk2 hx_w14) | skip
               first | (have b0_ := hBB.c0; have b1_ := hBB.c1; have fb_ := hBB.free) | skip
               have hk2 : Ext wr w14 := by first | with_reducible exact hk2.trans hx_w14 | with_reducible exact hka.trans hx_w14 | with_reducible exact (hk2.trans (Ext.alloc _ _)).trans hx_w14
               have hk2s := hk2.size)
            | fail)
        all_goals (go_wp2_with fail; go_meet; first | exact ⟨_, rfl, rfl, Lib.hid (hBB.put _ _)⟩ | exact ⟨_, rfl, rfl, Lib.hid (Boxed.new hk2 _ _)⟩ | exact ⟨_, rfl, rfl, Lib.hid (Boxed.new' hk2 _ _ (by simp))⟩)
      obtain ⟨gb, rfl, rfl, HB⟩ := hcut
      have XD := (HXC.out.trans HXR.out).trans HB.out.ext
      have HXD := Lib.hid XD
      have f0 := HB.out.c0
      have f1 := HB.out.c1
      have p0' := HB.out.ext.cellSome p0
      have HO2 := Lib.hid (HO.out.ext HB.out.ext)
      have HBD := Lib.hid (HB.out.ext.blk HBR.out)
      obtain ⟨n0, n2, n3, nf⟩ := cbox3 HBD.out
      have hwcs2 := HB.out.ext.size
      clear hxc hxd e0' e1' p0 m0 m1 m2 mf hgf e0 e1 XC
      cases two
      · have HC := Lib.hid (show codeS true g ⟨1, rX, rY, rr, (rv1, rv2), rp⟩ = 3 by rw [HC0.out]; rfl)
        obtain ⟨q0, q1, q2, qf⟩ := HRX.out wc XD
        obtain ⟨z, z0, z1, z2, zo⟩ := HEND.out wc XD 3 (.slice none 0 0) (.slice none 0 0)
        have HZ := Lib.hid z
        have HZO := Lib.hid zo
        clear z zo
        go_wp2_with fail
        refine bodyPost_ret (v := .agg #[.int .i64 3, .slice none 0 0, .slice none 0 0]) (by simp [results, Tryz.results72, go_sem, z0, z1, z2]) rfl ⟨⟨_, _, _, _, _, _, by rw [HC.out], fun h => by rw [HC.out] at h; cases h⟩, HZ.out⟩
      · have HC := Lib.hid (show codeS true g ⟨1, rX, rY, rr, (rv1, rv2), rp⟩ = 1 by rw [HC0.out]; rfl)
        obtain ⟨gp, hgp, hgb2, hgf, hgl2⟩ := HO2.out.block hun
        simp only [Option.some.injEq, Addr.mk.injEq, and_true] at hgp
        subst hgp
        obtain ⟨y3, y4, y5, y6, hyq, _, hyc, hyd⟩ := HO2.out.rats.at hun
        simp only [Option.some.injEq, Addr.mk.injEq, and_true] at hyq
        obtain ⟨rfl, rfl⟩ := hyq
        rw [Nat.zero_add] at hyc hyd
        have HOP := Lib.hid (HO2.out.set HUL.out k1 k2)
        have hxb8 : xb ≠ b8 := by omega
        have HBP := Lib.hid (show ((wc.setCell ⟨xb, u * 2, none⟩ (.int .i64 k1)).setCell ⟨xb, u * 2 + 1, none⟩ (.int .i64 k2)).heap[b8]? = some (.cells #[.int .i64 1, .slice (some ⟨xb, 0, none⟩) n1 p1, .slice none 0 0] 98 (0, 0)) from
          ((heap_setCell_other _ _ _ _ (by show b8 ≠ xb; omega)).trans (heap_setCell_other _ _ _ _ (by show b8 ≠ xb; omega))).trans HBD.out)
        have hwg : W.heap.size ≤ xb := by have := HXC.out.size; have := HB8E.out; omega
        have XP : Ext W ((wc.setCell ⟨xb, u * 2, none⟩ (.int .i64 k1)).setCell ⟨xb, u * 2 + 1, none⟩ (.int .i64 k2)) := (XD.setCell (p := ⟨xb, u * 2, none⟩) hwg _).setCell (p := ⟨xb, u * 2 + 1, none⟩) hwg _
        obtain ⟨wp, hwp⟩ : ∃ E, E = (wc.setCell ⟨xb, u * 2, none⟩ (.int .i64 k1)).setCell ⟨xb, u * 2 + 1, none⟩ (.int .i64 k2) := ⟨_, rfl⟩
        rw [← hwp] at HOP XP HBP
        rw [← HPT.out] at HOP
        go_upto_region 19 with fail
        rw [← hwp]
        clear hwp hyc hyd hgf f0 f1 XD n0 n2 n3 nf
        obtain ⟨n0, n2, n3, nf⟩ := cbox3 HBP.out
        obtain ⟨q0, q1, q2, qf⟩ := HRX.out wp XP
        obtain ⟨z, z0, z1, z2, zo⟩ := HEND.out wp XP 1 (.slice (some ⟨xb, 0, none⟩) n1 p1) (.slice none 0 0)
        have HZ := Lib.hid z
        have HZO := Lib.hid zo
        clear z zo
        go_wp2_with fail
        refine bodyPost_ret (v := .agg #[.int .i64 1, .slice (some ⟨xb, 0, none⟩) n1 p1, .slice none 0 0]) (by simp [results, Tryz.results72, go_sem, z0, z1, z2]) rfl ⟨⟨_, _, _, _, _, _, by rw [HC.out], fun _ => (HOP.out.mono (by have := HXC.out.size; have := HB8E.out; omega)).keep fun k hk => HZO.out k (by have := (HOP.out.lt k hk).1; have := HXC.out.size; have := HB8E.out; omega)⟩, HZ.out⟩
end Go.Proofs.YtgohdmnbnhehnaaGreat
namespace Go.Proofs.YtgohdmnbnhehnaaGreat
set_option linter.unusedVariables false
set_option linter.unusedSimpArgs false
open Go.RowKit
def Tells (P : Program) (w : World) (fid : FuncId) (ca : Array Value) (m : Nat) (f : Nat → Int) : Prop :=
  ∀ (s : Nat) (w1 : World), s < m → Ext w w1 → Calls P fid (#[.int .i64 (s : Int)] ++ ca) w1 fun e w2 => e = .returned (.int .i64 (f s)) ∧ Ext w1 w2
theorem Tells.ext {P : Program} {w w' : World} {fid : FuncId} {ca : Array Value} {m : Nat} {f : Nat → Int} (h : Tells P w fid ca m f) (hx : Ext w w') : Tells P w' fid ca m f :=
  fun s w1 hs k => h s w1 hs (hx.trans k)
def rowF (f : Nat → Int) (m : Nat) : List Int := (List.range m).map f
theorem rowF_succ (f : Nat → Int) (m : Nat) : rowF f (m + 1) = rowF f m ++ [f m] := by simp [rowF, List.range_succ]
theorem rowF_len (f : Nat → Int) (m : Nat) : (rowF f m).length = m := by simp [rowF]
theorem rowF_ok {f : Nat → Int} {n : Nat} (h1 : 1 ≤ n) (h5 : n ≤ 5) (h0 : f 0 = 0) (hb : ∀ s, s < cN n → -500 ≤ f s ∧ f s ≤ 500) : gameOk (n : Int) (rowF f (cN n)) = true := by
  have hN := cN_le n h5
  unfold gameOk
  rw [rowF_len, cntC_nat n h5]
  simp only [Bool.and_eq_true, decide_eq_true_eq]
  refine ⟨?_, ?_, trivial, ?_⟩
  · rw [List.all_eq_true]
    intro x hx
    obtain ⟨s, hs, rfl⟩ := List.mem_map.1 hx
    have := hb s (List.mem_range.1 hs)
    unfold inB; simp; omega
  · unfold inB; simp; omega
  · have : 0 < cN n := by omega
    simp [rowF, this, h0]
theorem two_cell0 {w : World} {g : Nat} {x y : Value} {t : TypeId} (h : w.heap[g]? = some (.cells #[x, y] t (0, 0))) : w.cell? ⟨g, 0, none⟩ = some x := by rw [cell_of_row w g 0 _ t _ h]; rfl
theorem two_cell1 {w : World} {g : Nat} {x y : Value} {t : TypeId} (h : w.heap[g]? = some (.cells #[x, y] t (0, 0))) : w.cell? ⟨g, 1, none⟩ = some y := by rw [cell_of_row w g 1 _ t _ h]; rfl
theorem two_set {w : World} {g : Nat} {x y z : Value} {t : TypeId} (h : w.heap[g]? = some (.cells #[x, y] t (0, 0))) : (w.setCell ⟨g, 1, none⟩ z).heap[g]? = some (.cells #[x, z] t (0, 0)) := by
  rw [heap_setCell_same w g 1 _ t z h]; rfl
def GameV (w : World) (base : Nat) (e : Ending) (n : Nat) (l : List Int) (b : Bool) : Prop := ∃ v, e = .returned (.tuple #[.agg #[.int .i64 (n : Int), v], .bool b]) ∧ OwnI w base v l
set_option maxRecDepth 100000 in
set_option maxHeartbeats 4000000 in
theorem i_made {w : World} {n : Nat} {fid : FuncId} {ca : Array Value} {f : Nat → Int} (h1 : 1 ≤ n) (h5 : n ≤ 5) (hg : IsGo Tryz.prog fid) (hf : Tells Tryz.prog w fid ca (cN n) f)
    (h0 : f 0 = 0) (hb : ∀ s, s < cN n → -500 ≤ f s ∧ f s ≤ 500) :
    Calls Tryz.prog 143 #[.int .i64 (n : Int), .func (.func fid) #[] ca] w fun e w' => GameV w' w.heap.size e n (rowF f (cN n)) true ∧ Ext w w' := by
  have hN := cN_le n h5
  have hcf : ∀ (args : Array Value) (w : World), (callFunc fid args).run Tryz.prog w = .ok (.enter fid args) w := hg
  have HF := Lib.hid hf
  have HOK := Lib.hid (rowF_ok h1 h5 h0 hb)
  clear hf h0 hb hg
  go_enter Tryz.func143, Tryz.ntmps143
  go_wp2_with (first | (go_at_call 65; refine (i_CountC n h5 _).mono ?_; rintro e w' ⟨rfl, rfl⟩))
  go_loopw [12] (fun i wr => ∃ (k : Nat) (a1 : Option Addr) (n1 c1 : Nat), k ≤ cN n ∧ i = .int .i64 (k : Int) ∧ Hid (OwnI wr (w.heap.size + 1 + 1) (.slice a1 n1 c1) (rowF f k)) ∧ Hid (wr.heap[w.heap.size + 1]? = some (.cells #[.int .i64 (n : Int), .slice a1 n1 c1] 47 (0, 0))) ∧ Hid (Ext (w.alloc (.cells #[.int .i64 0, .slice none 0 0] 47)) wr)) (fun i _ => cN n - (intOf i).toNat)
  case atStart =>
    refine ⟨0, none, 0, 0, Nat.zero_le _, rfl, Lib.hid (by unfold rowF; exact ⟨rfl, .inl ⟨rfl, rfl⟩⟩), Lib.hid ?_, Lib.hid ?_⟩
    · exact heapA_new _ _ _ (by simp)
    · exact Ext.alloc _ _
  case round =>
    obtain ⟨k, a1, n1, c1, hk, rfl, HO, HB, HX⟩ := hrel
    have hg0 := two_cell0 HB.out
    have hg1 := two_cell1 HB.out
    have hsz := lt_of_block HB.out
    by_cases hlt : k < cN n
    · go_wp2_with fail
      go_region_law (first
        | (refine step_of_wp _ rfl (wp_append_ints _ _ rfl (w.heap.size + 1 + 1) _ _ rfl (HO1.out.ext (Ext.alloc _ _)) _ 1 _ [f k] rfl (Ints.one _ _ _) (by rw [rowF_len]; omega) (by simp; omega) ?_); intro v3 w3 ho3 hg3 hn3; obtain ⟨a3, n3, c3, rfl, HN3⟩ := ho3.var; have HO3 := Lib.hid ho3; have HX3 := Lib.hid (ext_grown ((HX.out.trans HX1.out).trans (Ext.alloc _ _)) hg3 (fun j hj => by have := (HO1.out.lt j hj).1; simp; omega)); have HB3 := Lib.hid ((hg3.block _ (by simp; omega) (fun e => by have := (HO1.out.lt _ e.symm).1; omega)).trans (((Ext.alloc w1 _).block _ hsz1).trans HB1.out)); have cg3 := two_cell1 HB3.out; have fg3 := frozen_of_row w3 (w.heap.size + 1) 1 _ _ HB3.out; clear ho3 hg3 hn3)
        | (go_simp; refine (HF.out k _ hlt (((Ext.alloc _ _).trans HX.out).trans (Ext.drew wr))).mono ?_; rintro e w1 ⟨rfl, hx⟩; have HX1 := Lib.hid ((Ext.drew wr).trans hx); have HO1 := Lib.hid (HO.out.ext HX1.out); have HB1 := Lib.hid ((HX1.out.block _ hsz).trans HB.out); have b1 := two_cell1 HB1.out; have hsz1 := lt_of_block HB1.out; clear hx))
      all_goals
        go_wp2
        go_roundw
        case rel =>
          refine ⟨k + 1, a3, n3, c3, by omega, by go_num, Lib.hid ?_, Lib.hid (two_set HB3.out), Lib.hid (HX3.out.setCell (by simp) _)⟩
          rw [rowF_succ]
          exact HO3.out.keep fun j hj => heap_setCell_other _ _ _ _ (by have := (HO3.out.lt j hj).1; simp; omega)
        case measure => simp [intOf]; omega
    · have hkn : k = cN n := by omega
      subst hkn
      have HV := Lib.hid (i_IsValidGame (p := (n : Int)) HO.out.ints)
      rw [HOK.out] at HV
      go_wp2_with fail
      refine HV.out.mono ?_
      rintro e w1 ⟨rfl, hx⟩
      have HO1 := Lib.hid (HO.out.ext hx)
      have hg0' := hx.cellSome hg0
      have hg1' := hx.cellSome hg1
      have HX1 := Lib.hid (HX.out.trans hx)
      have r0 : w1.cell? ⟨w.heap.size, 0, none⟩ = some (.int .i64 0) := HX1.out.cellSome (by simp)
      have r1 : w1.cell? ⟨w.heap.size, 1, none⟩ = some (.slice none 0 0) := HX1.out.cellSome (by simp)
      have f0 : w1.frozen? ⟨w.heap.size, 0, none⟩ = false := (HX1.out.frozens _ _ (by simp)).trans (by simp)
      have f1 : w1.frozen? ⟨w.heap.size, 1, none⟩ = false := (HX1.out.frozens _ _ (by simp)).trans (by simp)
      clear hx hg0 hg1
      go_wp2
      refine bodyPost_ret (v := .tuple #[.agg #[.int .i64 (n : Int), .slice a1 n1 c1], .bool true]) (by simp [results, Tryz.results143, go_sem, r0, r1]) rfl ⟨⟨_, rfl, ?_⟩, ?_⟩
      · refine HO1.out.mono (by omega) |>.keep fun j hj => ?_
        have := (HO1.out.lt j hj).1
        rw [heap_setCell_other _ _ _ _ (by simp; omega), heap_setCell_other _ _ _ _ (by simp; omega)]
      · exact ((((Ext.alloc _ _).trans HX1.out).setCell (by simp) _).setCell (by simp) _)
end Go.Proofs.YtgohdmnbnhehnaaGreat
namespace Go.Proofs.YtgohdmnbnhehnaaGreat
set_option linter.unusedVariables false
theorem tcut_nat : ∀ s : Fin 32, ∀ k : Fin 5, bits .andNot .i64 ((s.val : Nat) : Int) (2 ^ k.val) = (if bit ((s.val : Nat) : Int) k.val then ((s.val - 2 ^ k.val : Nat) : Int) else ((s.val : Nat) : Int)) := by decide +kernel
theorem tcut {s k : Nat} (hs : s < 32) (hk : k < 5) (h : bit (s : Int) k = true) : bits .andNot .i64 (s : Int) (2 ^ k) = ((s - 2 ^ k : Nat) : Int) := by
  have := tcut_nat ⟨s, hs⟩ ⟨k, hk⟩
  simp only [h, if_true] at this
  exact this
theorem tcut_bit_nat : ∀ s : Fin 32, ∀ k : Fin 5, ∀ j : Fin 5, bit ((s.val : Nat) : Int) k.val = true → bit ((s.val - 2 ^ k.val : Nat) : Int) j.val = (bit ((s.val : Nat) : Int) j.val && !decide (j.val = k.val)) := by decide +kernel
theorem tcut_bit {s k j : Nat} (hs : s < 32) (hk : k < 5) (hj : j < 5) (h : bit (s : Int) k = true) : bit ((s - 2 ^ k : Nat) : Int) j = (bit (s : Int) j && !decide (j = k)) := tcut_bit_nat ⟨s, hs⟩ ⟨k, hk⟩ ⟨j, hj⟩ h
section
variable (S B : Nat) (G : List (List Int)) (s : Nat)
def gain (i j : Nat) : Int := (G[i]?.getD [])[j]?.getD 0
def freeJ (taken : List Int) (i j : Nat) : Bool := bit (s : Int) i && (bit (s : Int) (S + j) && !hasI taken (j : Int))
def bestF : Nat → List Int → List Int × Int
  | 0, _ => ([], 0)
  | r + 1, taken => (List.range B).foldl (fun acc j => if freeJ S s taken (S - (r + 1)) j = true then (if (bestF r (taken ++ [(j : Int)])).2 + gain G (S - (r + 1)) j > acc.2 then ((j : Int) :: (bestF r (taken ++ [(j : Int)])).1, (bestF r (taken ++ [(j : Int)])).2 + gain G (S - (r + 1)) j) else acc) else acc)
      (-1 :: (bestF r taken).1, (bestF r taken).2)
def bestTo (r : Nat) (taken : List Int) (k : Nat) : List Int × Int :=
  (List.range k).foldl (fun acc j => if freeJ S s taken (S - (r + 1)) j = true then (if (bestF S B G s r (taken ++ [(j : Int)])).2 + gain G (S - (r + 1)) j > acc.2 then ((j : Int) :: (bestF S B G s r (taken ++ [(j : Int)])).1, (bestF S B G s r (taken ++ [(j : Int)])).2 + gain G (S - (r + 1)) j) else acc) else acc)
      (-1 :: (bestF S B G s r taken).1, (bestF S B G s r taken).2)
theorem bestF_succ (r : Nat) (taken : List Int) : bestF S B G s (r + 1) taken = bestTo S B G s r taken B := rfl
theorem bestTo_zero (r : Nat) (taken : List Int) : bestTo S B G s r taken 0 = (-1 :: (bestF S B G s r taken).1, (bestF S B G s r taken).2) := rfl
theorem bestTo_succ (r : Nat) (taken : List Int) (k : Nat) : bestTo S B G s r taken (k + 1) = if freeJ S s taken (S - (r + 1)) k = true then (if (bestF S B G s r (taken ++ [(k : Int)])).2 + gain G (S - (r + 1)) k > (bestTo S B G s r taken k).2 then ((k : Int) :: (bestF S B G s r (taken ++ [(k : Int)])).1, (bestF S B G s r (taken ++ [(k : Int)])).2 + gain G (S - (r + 1)) k) else bestTo S B G s r taken k) else bestTo S B G s r taken k := by
  unfold bestTo
  rw [List.range_succ, List.foldl_append]
  rfl
theorem bestF_bd (hG : ∀ i j, 0 ≤ gain G i j ∧ gain G i j ≤ 100) : ∀ (r : Nat) (taken : List Int), (bestF S B G s r taken).1.length = r ∧ 0 ≤ (bestF S B G s r taken).2 ∧ (bestF S B G s r taken).2 ≤ 100 * r
  | 0, _ => by simp [bestF]
  | r + 1, taken => by
    rw [bestF_succ]
    have hb : ∀ k, (bestTo S B G s r taken k).1.length = r + 1 ∧ 0 ≤ (bestTo S B G s r taken k).2 ∧ (bestTo S B G s r taken k).2 ≤ 100 * (r + 1 : Nat) := by
      intro k
      induction k with
      | zero =>
        have := bestF_bd hG r taken
        rw [bestTo_zero]
        simp only [List.length_cons]
        omega
      | succ k ih =>
        rw [bestTo_succ]
        have h1 := bestF_bd hG r (taken ++ [(k : Int)])
        have h2 := hG (S - (r + 1)) k
        split
        · split
          · simp only [List.length_cons]; omega
          · exact ih
        · exact ih
    exact hb B
theorem bestTo_bd (hG : ∀ i j, 0 ≤ gain G i j ∧ gain G i j ≤ 100) (r : Nat) (taken : List Int) (k : Nat) : (bestTo S B G s r taken k).1.length = r + 1 ∧ 0 ≤ (bestTo S B G s r taken k).2 ∧ (bestTo S B G s r taken k).2 ≤ 100 * (r + 1 : Nat) := by
  induction k with
  | zero =>
    have := bestF_bd S B G s hG r taken
    rw [bestTo_zero]
    simp only [List.length_cons]
    omega
  | succ k ih =>
    rw [bestTo_succ]
    have h1 := bestF_bd S B G s hG r (taken ++ [(k : Int)])
    have h2 := hG (S - (r + 1)) k
    split
    · split
      · simp only [List.length_cons]; omega
      · exact ih
    · exact ih
structure Srch where
  now : List Int
  best : List Int
  most : Int
def walkF : Nat → Nat → Int → Srch → Srch
  | 0, left, sum, st => if sum > st.most then ⟨st.now, st.now, sum⟩ else st
  | r + 1, left, sum, st =>
    if bit (s : Int) (S - (r + 1)) = false then walkF r left sum ⟨st.now.set (S - (r + 1)) (-1), st.best, st.most⟩
    else (List.range B).foldl (fun st j => if bit (left : Int) (S + j) = true then walkF r (left - 2 ^ (S + j)) (sum + gain G (S - (r + 1)) j) ⟨st.now.set (S - (r + 1)) (j : Int), st.best, st.most⟩ else st)
      (walkF r left sum ⟨st.now.set (S - (r + 1)) (-1), st.best, st.most⟩)
def walkTo (r left : Nat) (sum : Int) (st : Srch) (k : Nat) : Srch :=
  (List.range k).foldl (fun st j => if bit (left : Int) (S + j) = true then walkF S B G s r (left - 2 ^ (S + j)) (sum + gain G (S - (r + 1)) j) ⟨st.now.set (S - (r + 1)) (j : Int), st.best, st.most⟩ else st)
    (walkF S B G s r left sum ⟨st.now.set (S - (r + 1)) (-1), st.best, st.most⟩)
theorem walkF_not {r left : Nat} {sum : Int} {st : Srch} (h : bit (s : Int) (S - (r + 1)) = false) : walkF S B G s (r + 1) left sum st = walkF S B G s r left sum ⟨st.now.set (S - (r + 1)) (-1), st.best, st.most⟩ := by
  rw [walkF, if_pos h]
theorem walkF_to {r left : Nat} {sum : Int} {st : Srch} (h : bit (s : Int) (S - (r + 1)) = true) : walkF S B G s (r + 1) left sum st = walkTo S B G s r left sum st B := by
  rw [walkF, if_neg (by simp [h])]; rfl
theorem walkTo_zero (r left : Nat) (sum : Int) (st : Srch) : walkTo S B G s r left sum st 0 = walkF S B G s r left sum ⟨st.now.set (S - (r + 1)) (-1), st.best, st.most⟩ := rfl
theorem walkTo_succ (r left : Nat) (sum : Int) (st : Srch) (k : Nat) : walkTo S B G s r left sum st (k + 1) = if bit (left : Int) (S + k) = true then walkF S B G s r (left - 2 ^ (S + k)) (sum + gain G (S - (r + 1)) k) ⟨(walkTo S B G s r left sum st k).now.set (S - (r + 1)) (k : Int), (walkTo S B G s r left sum st k).best, (walkTo S B G s r left sum st k).most⟩ else walkTo S B G s r left sum st k := by
  simp only [walkTo, List.range_succ, List.foldl_append, List.foldl_cons, List.foldl_nil]
def Found (i : Nat) (now : List Int) (sum : Int) (st0 : Srch) (b : List Int × Int) (out : Srch) : Prop :=
  out.now.length = S ∧ out.now.take i = now.take i ∧ ((st0.most < sum + b.2 ∧ out.best = now.take i ++ b.1 ∧ out.most = sum + b.2) ∨ (¬ st0.most < sum + b.2 ∧ out.best = st0.best ∧ out.most = st0.most))
theorem take_set_self {l : List Int} {i : Nat} (x : Int) (h : i < l.length) : (l.set i x).take (i + 1) = l.take i ++ [x] := by
  rw [List.take_set, List.take_succ_eq_append_getElem h, List.set_append_right _ _ (by simp; omega)]
  congr 1
  have : i - (l.take i).length = 0 := by simp; omega
  rw [this]; rfl
theorem walkF_best (hS : S + B ≤ 5) : ∀ (r left : Nat) (taken : List Int) (sum : Int) (st : Srch), r ≤ S → st.now.length = S → left < 32 →
    (∀ j, j < B → bit (left : Int) (S + j) = (bit (s : Int) (S + j) && !hasI taken (j : Int))) →
    Found S (S - r) st.now sum st (bestF S B G s r taken) (walkF S B G s r left sum st)
  | 0, left, taken, sum, st, hr, hl, hlt, hbit => by
    have ht : st.now.take S = st.now := List.take_of_length_le (by omega)
    unfold Found
    simp only [bestF, walkF, Nat.sub_zero, ht, List.append_nil, Int.add_zero]
    by_cases h : sum > st.most
    · rw [if_pos h]; exact ⟨hl, ht, .inl ⟨h, rfl, rfl⟩⟩
    · rw [if_neg h]; exact ⟨hl, ht, .inr ⟨h, rfl, rfl⟩⟩
  | r + 1, left, taken, sum, st, hr, hl, hlt, hbit => by
    have hi : S - r = S - (r + 1) + 1 := by omega
    obtain ⟨i, hI⟩ : ∃ i, i = S - (r + 1) := ⟨_, rfl⟩
    have hiS : i < S := by omega
    have hiS' : S - r = i + 1 := by omega
    -- the seller trades with nobody
    have h0 : Found S i st.now sum st (-1 :: (bestF S B G s r taken).1, (bestF S B G s r taken).2) (walkF S B G s r left sum ⟨st.now.set i (-1), st.best, st.most⟩) := by
      have ih := walkF_best hS r left taken sum ⟨st.now.set i (-1), st.best, st.most⟩ (by omega) (by simpa using hl) hlt hbit
      unfold Found at ih ⊢
      rw [hiS'] at ih
      simp only [take_set_self _ (show i < st.now.length by omega)] at ih
      obtain ⟨g1, g2, g3⟩ := ih
      refine ⟨g1, ?_, ?_⟩
      · have := congrArg (List.take i) g2
        rw [List.take_take, Nat.min_eq_left (by omega), List.take_left' (by simp; omega)] at this
        exact this
      · simpa [List.append_assoc] using g3
    cases hb : bit (s : Int) (S - (r + 1))
    · rw [walkF_not _ _ _ _ hb, bestF_succ, ← hI]
      have hno : ∀ k, bestTo S B G s r taken k = (-1 :: (bestF S B G s r taken).1, (bestF S B G s r taken).2) := by
        intro k
        induction k with
        | zero => rfl
        | succ k ih => rw [bestTo_succ, if_neg (by simp [freeJ, hb]), ih]
      rw [hno]
      exact h0
    · rw [walkF_to _ _ _ _ hb, bestF_succ]
      have hall : ∀ k, k ≤ B → Found S i st.now sum st (bestTo S B G s r taken k) (walkTo S B G s r left sum st k) := by
        intro k
        induction k with
        | zero => intro _; rw [walkTo_zero, bestTo_zero, ← hI]; exact h0
        | succ k ihk =>
          intro hk
          have ihk := ihk (by omega)
          rw [walkTo_succ, bestTo_succ]
          have hf : freeJ S s taken (S - (r + 1)) k = bit (left : Int) (S + k) := by unfold freeJ; rw [hb, hbit k (by omega)]; simp
          rw [hf]
          by_cases hk2 : bit (left : Int) (S + k) = true
          · rw [if_pos hk2, if_pos hk2, ← hI]
            generalize hst : walkTo S B G s r left sum st k = w1 at ihk ⊢
            generalize hbt : bestTo S B G s r taken k = b1 at ihk ⊢
            obtain ⟨l1, l2, l3⟩ := ihk
            have ih := walkF_best hS r (left - 2 ^ (S + k)) (taken ++ [(k : Int)]) (sum + gain G i k) ⟨w1.now.set i (k : Int), w1.best, w1.most⟩ (by omega) (by simpa using l1) (Nat.lt_of_le_of_lt (Nat.sub_le _ _) hlt) (by
              intro j hj
              rw [tcut_bit hlt (by omega) (by omega) hk2, hbit j hj]
              unfold hasI
              rw [List.contains_append]
              by_cases hjk : j = k
              · subst hjk; simp
              · have h1 : decide (S + j = S + k) = false := by simp; omega
                have h2 : [(k : Int)].contains (j : Int) = false := by simp; omega
                rw [h1, h2]; simp)
            generalize bestF S B G s r (taken ++ [(k : Int)]) = b2 at ih ⊢
            generalize walkF S B G s r (left - 2 ^ (S + k)) (sum + gain G i k) ⟨w1.now.set i (k : Int), w1.best, w1.most⟩ = w2 at ih ⊢
            unfold Found at ih
            rw [hiS'] at ih
            simp only [take_set_self _ (show i < w1.now.length by omega), l2] at ih
            obtain ⟨g1, g2, g3⟩ := ih
            have gt : w2.now.take i = st.now.take i := by
              have := congrArg (List.take i) g2
              rw [List.take_take, Nat.min_eq_left (by omega), List.take_left' (by simp; omega)] at this
              exact this
            unfold Found
            refine ⟨g1, gt, ?_⟩
            by_cases hgt : b2.2 + gain G i k > b1.2
            · rw [if_pos hgt]
              rcases g3 with ⟨p1, p2, p3⟩ | ⟨p1, p2, p3⟩
              · refine .inl ⟨?_, by rw [p2]; simp, by simp only; omega⟩
                try simp only
                rcases l3 with ⟨q1, q2, q3⟩ | ⟨q1, q2, q3⟩ <;> omega
              · try simp only at p1 p2 p3 ⊢
                rcases l3 with ⟨q1, q2, q3⟩ | ⟨q1, q2, q3⟩
                · omega
                · exact .inr ⟨by omega, by rw [p2, q2], by omega⟩
            · rw [if_neg hgt]
              rcases g3 with ⟨p1, p2, p3⟩ | ⟨p1, p2, p3⟩
              · try simp only at p1 p2 p3
                rcases l3 with ⟨q1, q2, q3⟩ | ⟨q1, q2, q3⟩ <;> omega
              · try simp only at p1 p2 p3
                rcases l3 with ⟨q1, q2, q3⟩ | ⟨q1, q2, q3⟩
                · exact .inl ⟨q1, by rw [p2, q2], by omega⟩
                · exact .inr ⟨q1, by rw [p2, q2], by omega⟩
          · rw [if_neg hk2, if_neg hk2]
            exact ihk
      have := hall B (Nat.le_refl _)
      rwa [← hI]
end
end Go.Proofs.YtgohdmnbnhehnaaGreat
