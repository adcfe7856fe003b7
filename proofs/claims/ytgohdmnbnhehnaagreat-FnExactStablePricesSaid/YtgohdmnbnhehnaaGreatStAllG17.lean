import Derived.Test.YtgohdmnbnhehnaaGreatStAllG13
import Derived.Test.YtgohdmnbnhehnaaGreatStAllG25
import Derived.Test.YtgohdmnbnhehnaaGreatStAllG16
import Derived.Test.YtgohdmnbnhehnaaGreatStAllG5
import Derived.Test.YtgohdmnbnhehnaaGreatStAllG4
import Derived.Test.YtgohdmnbnhehnaaGreatStAllG11
import Derived.Test.YtgohdmnbnhehnaaGreatStAllG14
import Derived.Test.YtgohdmnbnhehnaaGreatStAllG10
namespace Go.Proofs.YtgohdmnbnhehnaaGreat
set_option linter.unusedVariables false
set_option linter.unusedSimpArgs false
set_option maxRecDepth 100000
open Go.RowKit
def codeI (ok : Bool) (g : Int) (r : LpR) : Int := if ok = false then 0 else if r.status ≠ 1 then 3 else if 0 < cmpR (negR r.value) (g, 1) then 2 else if ((slackR g r).2 && (lastR g r).2) = true then 1 else 3
def codeS (ok : Bool) (g : Int) (r : LpR) : Int := if ok = false then 0 else if r.status ≠ 1 then 3 else if (slackR g r).2 = false then 3 else if (slackR g r).1.1 < 0 then 2 else if (lastR g r).2 = true then 1 else 3
def CoR (w : World) (base : Nat) (e : Ending) (code : Int) (pt : List (Int × Int)) : Prop :=
  ∃ pa pn pc wa wn wc, e = .returned (.agg #[.int .i64 code, .slice pa pn pc, .slice wa wn wc]) ∧ (code = 1 → OwnR w base (.slice pa pn pc) pt)
theorem cbox3 {w : World} {g : Nat} {a b c : Value} {t : TypeId} (hb : w.heap[g]? = some (.cells #[a, b, c] t (0, 0))) :
    w.cell? ⟨g, 0, none⟩ = some a ∧ w.cell? ⟨g, 1, none⟩ = some b ∧ w.cell? ⟨g, 2, none⟩ = some c ∧ ∀ k, w.frozen? ⟨g, k, none⟩ = false := by
  refine ⟨?_, ?_, ?_, fun k => frozen_of_row w g k _ _ hb⟩ <;> rw [cell_of_row w g _ _ _ _ hb] <;> rfl
theorem coreOut {w W : World} {r : Nat} {x0 x1 x2 : Value} {t : TypeId} (hb : W.heap[r]? = some (.cells #[x0, x1, x2] t (0, 0))) (hX : Ext w W) (hr : w.heap.size ≤ r) (v0 v1 v2 : Value) :
    Ext w (((W.setCell ⟨r, 0, none⟩ v0).setCell ⟨r, 1, none⟩ v1).setCell ⟨r, 2, none⟩ v2) ∧ (((W.setCell ⟨r, 0, none⟩ v0).setCell ⟨r, 1, none⟩ v1).setCell ⟨r, 2, none⟩ v2).cell? ⟨r, 0, none⟩ = some v0 ∧ (((W.setCell ⟨r, 0, none⟩ v0).setCell ⟨r, 1, none⟩ v1).setCell ⟨r, 2, none⟩ v2).cell? ⟨r, 1, none⟩ = some v1 ∧ (((W.setCell ⟨r, 0, none⟩ v0).setCell ⟨r, 1, none⟩ v1).setCell ⟨r, 2, none⟩ v2).cell? ⟨r, 2, none⟩ = some v2 ∧
      ∀ b, b ≠ r → (((W.setCell ⟨r, 0, none⟩ v0).setCell ⟨r, 1, none⟩ v1).setCell ⟨r, 2, none⟩ v2).heap[b]? = W.heap[b]? := by
  have h1 := heap_setCell_same W r 0 _ t v0 hb
  have h2 := heap_setCell_same _ r 1 _ t v1 h1
  have h3 := heap_setCell_same _ r 2 _ t v2 h2
  obtain ⟨c0, c1, c2, _⟩ := cbox3 (a := v0) (b := v1) (c := v2) h3
  exact ⟨((hX.setCell (p := ⟨r, 0, none⟩) hr _).setCell (p := ⟨r, 1, none⟩) hr _).setCell (p := ⟨r, 2, none⟩) hr _, c0, c1, c2, fun b hb2 => (heap_setCell_other _ _ _ _ hb2).trans ((heap_setCell_other _ _ _ _ hb2).trans (heap_setCell_other _ _ _ _ hb2))⟩
theorem getD_bdF {V : List Int} (hb : ∀ x ∈ V, -500 ≤ x ∧ x ≤ 500) (k : Nat) : -500 ≤ V[k]?.getD 0 ∧ V[k]?.getD 0 ≤ 500 := by
  by_cases h : k < V.length
  · rw [List.getElem?_eq_getElem h]; exact hb _ (List.getElem_mem h)
  · rw [List.getElem?_eq_none (by omega)]; simp
set_option maxHeartbeats 16000000 in
theorem i_FindCore {w : World} {p : Int} {a : Option Addr} {n cap : Nat} {V : List Int} (h : Ints w a n cap V) :
    Calls Tryz.prog 75 #[pair p a n cap] w fun e w' => CoR w' w.heap.size e (codeI (gameOk p V) (grandV p V) (solveG boundI (coreA p.toNat n) (coreB p.toNat) (coreC V))) (ptR (grandV p V) (solveG boundI (coreA p.toNat n) (coreB p.toNat) (coreC V))) ∧ Ext w w' := by
  obtain ⟨W, hW⟩ : ∃ W, W = (w.alloc (.cells #[.int .i64 p, .slice a n cap] 47)).alloc (.cells #[.int .i64 0, .slice none 0 0, .slice none 0 0] 98) := ⟨_, rfl⟩
  have hws : W.heap.size = w.heap.size + 2 := by rw [hW]; simp
  have hX : Ext w W := by rw [hW]; exact (Ext.alloc _ _).trans (Ext.alloc _ _)
  have HRB := Lib.hid (show W.heap[w.heap.size + 1]? = some (.cells #[.int .i64 0, .slice none 0 0, .slice none 0 0] 98 (0, 0)) by rw [hW]; exact heapA_new _ _ _ (by simp))
  have HP0 := Lib.hid (show W.cell? ⟨w.heap.size, 0, none⟩ = some (.int .i64 p) by rw [hW]; exact Ext.cellSome (Ext.alloc _ _) (by simp))
  have HP1 := Lib.hid (show W.cell? ⟨w.heap.size, 1, none⟩ = some (.slice a n cap) by rw [hW]; exact Ext.cellSome (Ext.alloc _ _) (by simp))
  have HI := Lib.hid (h.ext hX)
  have HX := Lib.hid hX
  have HBL := Lib.hid (i_BalancedLP (p := p) HI.out)
  obtain ⟨g, hg0⟩ : ∃ g, g = grandV p V := ⟨_, rfl⟩
  obtain ⟨r, hr0⟩ : ∃ r, r = solveG boundI (coreA p.toNat n) (coreB p.toNat) (coreC V) := ⟨_, rfl⟩
  have HG := Lib.hid hg0
  have HRR := Lib.hid hr0
  rw [← hg0, ← hr0]
  have HEND := Lib.hid (fun (w' : World) (hx : Ext W w') (code : Int) (x1 x2 : Value) => coreOut (w := w) ((hx.block _ (by omega)).trans HRB.out) (HX.out.trans hx) (Nat.le_succ _) (.int .i64 code) x1 x2)
  have HRX := Lib.hid (fun (w' : World) (hx : Ext W w') => cbox3 ((hx.block _ (by omega)).trans HRB.out))
  clear h hX hg0 hr0
  cases hgo : gameOk p V
  · rw [hgo] at HBL
    have HC := Lib.hid (show codeI false g r = 0 from rfl)
    clear hgo
    go_enter Tryz.func75, Tryz.ntmps75
    go_wp2_with fail
    rw [← hW]
    refine HBL.out.mono ?_
    rintro e w1 ⟨⟨la, lna, lca, lb, lnb, lcb, lc, lnc, lcc, rfl, _⟩, hx⟩
    unfold lpW
    obtain ⟨w2, hw2⟩ : ∃ E, E = w1.alloc (lpBox la lna lca lb lnb lcb lc lnc lcc) := ⟨_, rfl⟩
    have X2 : Ext W w2 := by rw [hw2]; exact hx.trans (Ext.alloc _ _)
    obtain ⟨q0, q1, q2, qf⟩ := HRX.out w2 X2
    obtain ⟨z, z0, z1, z2, _⟩ := HEND.out w2 X2 0 (.slice none 0 0) (.slice none 0 0)
    have HZ := Lib.hid z
    go_upto_region 2 with fail
    rw [← hw2]
    clear hx hw2 hW z
    go_wp2_with fail
    refine bodyPost_ret (v := .agg #[.int .i64 0, .slice none 0 0, .slice none 0 0]) (by simp [results, Tryz.results75, go_sem, z0, z1, z2]) rfl ⟨⟨_, _, _, _, _, _, by rw [HC.out], fun h => by rw [HC.out] at h; cases h⟩, HZ.out⟩
  · rw [hgo] at HBL
    obtain ⟨q, hpq, hq1, hq5, hVl, _, hVb⟩ := gameOk_len hgo
    have hgb : -500 ≤ g ∧ g ≤ 500 := by rw [HG.out, grandV_ok hgo]; exact getD_bdF hVb _
    have HPQ := Lib.hid hpq
    clear hgo hVl hVb hpq
    go_enter Tryz.func75, Tryz.ntmps75
    go_wp2_with fail
    rw [← hW]
    refine HBL.out.mono ?_
    rintro e w1 ⟨⟨la, lna, lca, lb, lnb, lcb, lc, lnc, lcc, rfl, hlp⟩, hx⟩
    unfold lpW
    obtain ⟨w2, hw2⟩ : ∃ E, E = w1.alloc (lpBox la lna lca lb lnb lcb lc lnc lcc) := ⟨_, rfl⟩
    have hx2 : Ext w1 w2 := by rw [hw2]; exact Ext.alloc _ _
    have X2 := Lib.hid (hx.trans hx2)
    have HSV := Lib.hid (i_SolveLP ((hlp rfl).ext hx2))
    rw [← HRR.out] at HSV
    have t0 := tbox0 (show w2.heap[w1.heap.size]? = some (.cells #[.slice la lna lca, .slice lb lnb lcb, .slice lc lnc lcc] 67 (0, 0)) by rw [hw2]; exact heapA_new _ _ _ rfl)
    have t1 := tbox1 (show w2.heap[w1.heap.size]? = some (.cells #[.slice la lna lca, .slice lb lnb lcb, .slice lc lnc lcc] 67 (0, 0)) by rw [hw2]; exact heapA_new _ _ _ rfl)
    have t2 := tbox2 (show w2.heap[w1.heap.size]? = some (.cells #[.slice la lna lca, .slice lb lnb lcb, .slice lc lnc lcc] 67 (0, 0)) by rw [hw2]; exact heapA_new _ _ _ rfl)
    go_upto_region 2 with fail
    rw [← hw2]
    clear hx hx2 hlp hw2 hW
    go_wp2_with fail
    refine HSV.out.mono ?_
    have HST := Lib.hid (fun (hs : r.status = 1) => show r.Y.length = q ∧ valR r.value = true ∧ ∀ k, k < r.Y.length → valR (r.Y[k]?.getD (0, 0)) = true by
      have := solveG_val (bound := boundI) (A := coreA p.toNat n) (B := coreB p.toNat) (C := coreC V) (by rw [← HRR.out]; exact hs)
      rw [← HRR.out] at this
      refine ⟨?_, this.2.2.2.2⟩
      rw [this.2.2.2.1]
      unfold coreB
      rw [List.length_replicate, HPQ.out, Int.toNat_natCast])
    rintro e w3 ⟨⟨xa, xn, xc, ya, yn, yc, ra, rn, rc, rfl, hlr⟩, hx3⟩
    obtain ⟨w4, hw4⟩ : ∃ E, E = w3.alloc (lrBox r xa xn xc ya yn yc ra rn rc) := ⟨_, rfl⟩
    have hx4 : Ext w3 w4 := by rw [hw4]; exact Ext.alloc _ _
    have X4 := Lib.hid ((X2.out.trans hx3).trans hx4)
    have HLR := Lib.hid (hlr.here.ext hx4)
    have HB5 := Lib.hid (show w4.heap[w3.heap.size]? = some (lrBox r xa xn xc ya yn yc ra rn rc) by rw [hw4]; exact heapA_new _ _ _ rfl)
    obtain ⟨rs, rX, rY, rr, ⟨rv1, rv2⟩, rp⟩ := r
    unfold lrW
    go_upto_region 5 with fail
    rw [← hw4]
    clear hlr hx3 hx4 hw4 t0 t1 t2
    generalize w3.heap.size = b5 at HB5 ⊢
    have hb5l := lt_of_block HB5.out
    obtain ⟨l0, l1, l2, l3, l4, l5, l6, lf⟩ := lbox HB5.out
    try simp only at l0 l1 l2 l3 l4 l5 l6
    by_cases hs : rs = 1
    · obtain ⟨hyl, hvv, hyv⟩ := HST.out hs
      try simp only at hyl hvv hyv
      subst hs
      have hvb := valR_bd hvv
      try simp only at hvb
      have HGV := Lib.hid (fun (w' : World) (hx : Ext W w') => i_GrandValue (p := p) (HI.out.ext hx))
      simp only [← HG.out] at HGV
      have b0 := X4.out.cellSome HP0.out
      have b1 := X4.out.cellSome HP1.out
      have HYV := Lib.hid hyv
      have HYL := Lib.hid hyl
      clear hvv hyv hyl
      go_wp2_with fail
      refine (HGV.out _ X4.out).mono ?_
      rintro e w5 ⟨rfl, hx5⟩
      go_wp2_with fail
      refine (i_whole g _).mono ?_
      rintro e w6 ⟨rfl, hx6⟩
      obtain ⟨w7, hw7⟩ : ∃ E, E = w6.alloc (.cells #[.int .i64 g, .int .i64 1] 85) := ⟨_, rfl⟩
      have hx7 : Ext w4 w7 := by rw [hw7]; exact (hx5.trans hx6).trans (Ext.alloc _ _)
      have X7 := Lib.hid (X4.out.trans hx7)
      have HBX := Lib.hid (hx7.blk HB5.out)
      have e0 : w7.cell? ⟨w6.heap.size, 0, none⟩ = some (.int .i64 g) := by rw [hw7]; simp
      have e1 : w7.cell? ⟨w6.heap.size, 1, none⟩ = some (.int .i64 1) := by rw [hw7]; simp
      have HY7 := Lib.hid (HLR.out.y.ext hx7)
      obtain ⟨m0, m1, m2, m3, m4, m5, m6, mf⟩ := lbox HBX.out
      try simp only at m0 m1 m2 m3 m4 m5 m6
      go_upto_region 8 with fail
      rw [← hw7]
      clear hx5 hx6 hx7 hw7 l0 l1 l2 l3 l4 l5 l6 lf b0 b1
      generalize w6.heap.size = b6 at e0 e1 ⊢
      obtain ⟨Z, hZ⟩ : ∃ z, z = cmpR (-rv1, rv2) (g, 1) := ⟨_, rfl⟩
      have HZC := Lib.hid hZ
      clear hZ
      go_wp2_with fail
      have hk2 : Ext w7 w7.drew := Ext.drew w7
      have hka := hk2
      have HKEEP := Lib.hid (fun (w' : World) (h : Ext w7 w') => (⟨h.cellSome m4, h.cellSome m5, h.cellSome e0, h.cellSome e1, h⟩ : w'.cell? ⟨b5, 4, none⟩ = some (.int .i64 rv1) ∧ w'.cell? ⟨b5, 5, none⟩ = some (.int .i64 rv2) ∧ w'.cell? ⟨b6, 0, none⟩ = some (.int .i64 g) ∧ w'.cell? ⟨b6, 1, none⟩ = some (.int .i64 1) ∧ Ext w7 w'))
      go_wp2_with fail
      go_region_held3 (fun w' => w'.cell? ⟨b5, 4, none⟩ = some (.int .i64 rv1) ∧ w'.cell? ⟨b5, 5, none⟩ = some (.int .i64 rv2) ∧ w'.cell? ⟨b6, 0, none⟩ = some (.int .i64 g) ∧ w'.cell? ⟨b6, 1, none⟩ = some (.int .i64 1) ∧ Ext w7 w')
        (with_reducible exact HKEEP.out _ hk2)
        (first
          | (go_at_call 91
             (with_reducible refine (i_minus rv1 rv2 _ (by omega) (by omega)).mono ?_)
             rintro e w8 ⟨rfl, hx_w8⟩
             have hk2 : Ext w7 w8 := hk2.trans hx_w8
             have hs_w8 := hk2.size)
          | (go_at_call 123
             (with_reducible refine (i_CompareRat (-rv1) rv2 g 1 _).mono ?_)
             rw [← HZC.out]
             rintro e w9 ⟨rfl, hx_w9⟩
             have hk2 : Ext w7 w9 := hk2.trans hx_w9
             have hs_w9 := hk2.size)
          | fail)
      clear HKEEP hka
      have X9 := X7.out.trans hk2
      have HB9 := Lib.hid (hk2.blk HBX.out)
      obtain ⟨k0, k1, k2, k3, k4, k5, k6, kf⟩ := lbox HB9.out
      try simp only at k0 k1 k2 k3 k4 k5 k6
      have f0 := hk2.cellSome e0
      have f1 := hk2.cellSome e1
      have HY9 := Lib.hid (HY7.out.ext hk2)
      have HXX9 := Lib.hid X9
      clear m0 m1 m2 m3 m4 m5 m6 mf e0 e1 hk2
      by_cases hz : 0 < Z
      · have HC := Lib.hid (show codeI true g ⟨1, rX, rY, rr, (rv1, rv2), rp⟩ = 2 by
          unfold codeI
          rw [if_neg (by simp), if_neg (by simp), if_pos (by show 0 < cmpR (-rv1, rv2) (g, 1); rw [← HZC.out]; exact hz)])
        obtain ⟨q0, q1, q2, qf⟩ := HRX.out w9 X9
        obtain ⟨z, z0, z1, z2, zo⟩ := HEND.out w9 X9 2 (.slice none 0 0) (.slice xa xn xc)
        have HZ := Lib.hid z
        have HZO := Lib.hid zo
        clear z zo
        go_wp2_with fail
        refine bodyPost_ret (v := .agg #[.int .i64 2, .slice none 0 0, .slice xa xn xc]) (by simp [results, Tryz.results75, go_sem, z0, z1, z2]) rfl ⟨⟨_, _, _, _, _, _, by rw [HC.out], fun h => by rw [HC.out] at h; cases h⟩, HZ.out⟩
      · have hq100 : yn ≤ 100000 := by have h1 := HY9.out.hlen; have h2 := HYL.out; (try simp only at h1); omega
        have HMA := Lib.hid (i_minusAll HY9.out hq100 (fun k => by
          by_cases hk : k < rY.length
          · have := valR_bd (HYV.out k hk); omega
          · rw [List.getElem?_eq_none (by omega)]; simp))
        clear X9
        go_wp2_with fail
        refine HMA.out.mono ?_
        rintro e w10 ⟨⟨v, rfl, ho⟩, hx10⟩
        obtain ⟨a10, n10, p10, rfl, HN10⟩ := ho.var
        have HO10 := Lib.hid ho
        have HB10 := Lib.hid (hx10.blk HB9.out)
        obtain ⟨m0, m1, m2, m3, m4, m5, m6, mf⟩ := lbox HB10.out
        try simp only at m0 m1 m2 m3 m4 m5 m6
        have e0 := hx10.cellSome f0
        have e1 := hx10.cellSome f1
        have X10 := Lib.hid (HXX9.out.trans hx10)
        obtain ⟨s1, s2, one, hsl⟩ : ∃ s1 s2 o, addR (g, 1) (rv1, rv2) = ((s1, s2), o) := ⟨_, _, _, rfl⟩
        have HSL := Lib.hid hsl
        clear ho hx10 k0 k1 k2 k3 k4 k5 k6 kf f0 f1 hsl
        go_wp2_with fail
        refine (i_AddRat g 1 rv1 rv2 _).mono ?_
        rw [HSL.out]
        rintro e w11 ⟨rfl, hx11⟩
        obtain ⟨w12, hw12⟩ : ∃ E, E = w11.alloc (.cells #[.int .i64 s1, .int .i64 s2] 85) := ⟨_, rfl⟩
        have hx12 : Ext w10 w12 := by rw [hw12]; exact hx11.trans (Ext.alloc _ _)
        have X12 := Lib.hid (X10.out.trans hx12)
        have d0 : w12.cell? ⟨w11.heap.size, 0, none⟩ = some (.int .i64 s1) := by rw [hw12]; simp
        have d1 : w12.cell? ⟨w11.heap.size, 1, none⟩ = some (.int .i64 s2) := by rw [hw12]; simp
        have HO12 := Lib.hid (HO10.out.ext hx12)
        have hpl : (rY.map negR).length = q := by rw [List.length_map]; exact HYL.out
        have HN10Q := Lib.hid (show n10 = q by rw [← HN10.out]; exact hpl)
        obtain ⟨u, hu⟩ : ∃ u : Nat, u + 1 = n10 := ⟨n10 - 1, by have := HN10Q.out; omega⟩
        have hu1 : (n10 : Int) - 1 = (u : Int) := by omega
        have hun : u < n10 := by omega
        have hwu : IntKind.i64.wrap ((n10 : Int) - 1) = (u : Int) := by rw [hu1, IntKind.wrap_i64]; have := HO12.out.rats.hcap; have := HO12.out.rats.hmax; omega
        have hu0 : (0 : Int) ≤ (u : Int) := by omega
        have hul : (u : Int) < (n10 : Int) := by omega
        obtain ⟨xb, xo, x1, x2, rfl, hxe, hxc, hxd⟩ := HO12.out.rats.at hun
        obtain ⟨l1, l2, two, hls⟩ : ∃ l1 l2 o, addR (x1, x2) (s1, s2) = ((l1, l2), o) := ⟨_, _, _, rfl⟩
        have HLS := Lib.hid hls
        have HLA := Lib.hid (show lastR g ⟨1, rX, rY, rr, (rv1, rv2), rp⟩ = ((l1, l2), two) by
          unfold lastR slackR negY
          simp only
          rw [hpl, ← HN10Q.out, show n10 - 1 = u by omega, hxe, HSL.out, hls])
        have HPT := Lib.hid (show ptR g ⟨1, rX, rY, rr, (rv1, rv2), rp⟩ = (rY.map negR).set u (l1, l2) by
          unfold ptR negY
          simp only
          rw [HLA.out, hpl, ← HN10Q.out, show n10 - 1 = u by omega])
        have HUL := Lib.hid (show u < (rY.map negR).length by rw [hpl, ← HN10Q.out]; exact hun)
        have HSK := Lib.hid (show slackR g ⟨1, rX, rY, rr, (rv1, rv2), rp⟩ = ((s1, s2), one) from HSL.out)
        have HC0 := Lib.hid (show codeI true g ⟨1, rX, rY, rr, (rv1, rv2), rp⟩ = if (one && two) = true then 1 else 3 by
          unfold codeI
          rw [if_neg (by simp), if_neg (by simp), if_neg (by show ¬ 0 < cmpR (-rv1, rv2) (g, 1); rw [← HZC.out]; omega), HSK.out, HLA.out])
        have hc10 := HO12.out.rats.hcap
        have hm10 := HO12.out.rats.hmax
        go_upto_region 12 with fail
        rw [← hw12]
        clear hw12 hx12 hx11 hls hxe hu hu1 hpl m0 m1 m2 m3 m4 m5 m6 mf e0 e1
        generalize w11.heap.size = b8 at d0 d1 ⊢
        go_upto_region 12 with fail
        go_cut [10, 11] (fun sx so wx => ∃ gb : Nat, sx = .pointer (some ⟨gb, 0, none⟩) ∧ so = .bool two ∧ Hid (Boxed w12 wx gb l1 l2))
        case first =>
          have hk2 : Ext w12 w12.drew := Ext.drew w12
          have hka : Ext w12 (w12.alloc (.cells #[.int .i64 0, .int .i64 0] 85)).drew := (Ext.alloc _ _).trans (Ext.drew _)
          have HKEEP := Lib.hid (fun (w' : World) (h : Ext w12 w') => (⟨h.cellSome hxc, h.cellSome hxd, h.cellSome d0, h.cellSome d1, h⟩ : w'.cell? ⟨xb, xo + u * 2, none⟩ = some (.int .i64 x1) ∧ w'.cell? ⟨xb, xo + u * 2 + 1, none⟩ = some (.int .i64 x2) ∧ w'.cell? ⟨b8, 0, none⟩ = some (.int .i64 s1) ∧ w'.cell? ⟨b8, 1, none⟩ = some (.int .i64 s2) ∧ Ext w12 w'))
          go_region_held3 (fun w' => w'.cell? ⟨xb, xo + u * 2, none⟩ = some (.int .i64 x1) ∧ w'.cell? ⟨xb, xo + u * 2 + 1, none⟩ = some (.int .i64 x2) ∧ w'.cell? ⟨b8, 0, none⟩ = some (.int .i64 s1) ∧ w'.cell? ⟨b8, 1, none⟩ = some (.int .i64 s2) ∧ Ext w12 w')
            (first
              | with_reducible exact HKEEP.out _ hk2
              | with_reducible exact HKEEP.out _ hka
              | with_reducible exact HKEEP.out _ ((hk2.setCell (by first | (simp; done) | (simp; omega)) _).setCell (by first | (simp; done) | (simp; omega)) _)
              | with_reducible exact HKEEP.out _ (hk2.trans (Ext.alloc _ _))
              | with_reducible exact HKEEP.out _ (hBB.put _ _).ext)
            (first
              | (go_at_call 147
                 (with_reducible refine (i_AddRat _ _ _ _ _).mono ?_)
                 rw [HLS.out]
                 rintro e w14 ⟨rfl, hx_w14⟩
                 first | (with_reducible have hBB := Boxed.grow hBB hx_w14) | (with_reducible have hBB := Boxed.firstD hx_w14) | (with_reducible have hBB := Boxed.laterD hk2 hx_w14) | skip
                 first | (have b0_ := hBB.c0; have b1_ := hBB.c1; have fb_ := hBB.free) | skip
                 have hk2 : Ext w12 w14 := by first | with_reducible exact hk2.trans hx_w14 | with_reducible exact hka.trans hx_w14 | with_reducible exact (hk2.trans (Ext.alloc _ _)).trans hx_w14
                 have hk2s := hk2.size)
              | fail)
          all_goals (go_wp2_with fail; go_meet; first | exact ⟨_, rfl, rfl, Lib.hid (hBB.put _ _)⟩ | exact ⟨_, rfl, rfl, Lib.hid (Boxed.new hk2 _ _)⟩ | exact ⟨_, rfl, rfl, Lib.hid (Boxed.new' hk2 _ _ (by simp))⟩)
        obtain ⟨gb, rfl, rfl, HB⟩ := hcut
        have XC := X12.out.trans HB.out.ext
        have g0 := HB.out.c0
        have g1 := HB.out.c1
        have HOC := Lib.hid (HO12.out.ext HB.out.ext)
        have HXC := Lib.hid XC
        clear hxc hxd d0 d1
        cases one
        · have HC := Lib.hid (show codeI true g ⟨1, rX, rY, rr, (rv1, rv2), rp⟩ = 3 by rw [HC0.out]; rfl)
          obtain ⟨q0, q1, q2, qf⟩ := HRX.out wc XC
          obtain ⟨z, z0, z1, z2, zo⟩ := HEND.out wc XC 3 (.slice none 0 0) (.slice none 0 0)
          have HZ := Lib.hid z
          have HZO := Lib.hid zo
          clear z zo
          go_wp2_with fail
          refine bodyPost_ret (v := .agg #[.int .i64 3, .slice none 0 0, .slice none 0 0]) (by simp [results, Tryz.results75, go_sem, z0, z1, z2]) rfl ⟨⟨_, _, _, _, _, _, by rw [HC.out], fun h => by rw [HC.out] at h; cases h⟩, HZ.out⟩
        cases two
        · have HC := Lib.hid (show codeI true g ⟨1, rX, rY, rr, (rv1, rv2), rp⟩ = 3 by rw [HC0.out]; rfl)
          obtain ⟨q0, q1, q2, qf⟩ := HRX.out wc XC
          obtain ⟨z, z0, z1, z2, zo⟩ := HEND.out wc XC 3 (.slice none 0 0) (.slice none 0 0)
          have HZ := Lib.hid z
          have HZO := Lib.hid zo
          clear z zo
          go_wp2_with fail
          refine bodyPost_ret (v := .agg #[.int .i64 3, .slice none 0 0, .slice none 0 0]) (by simp [results, Tryz.results75, go_sem, z0, z1, z2]) rfl ⟨⟨_, _, _, _, _, _, by rw [HC.out], fun h => by rw [HC.out] at h; cases h⟩, HZ.out⟩
        · have HC := Lib.hid (show codeI true g ⟨1, rX, rY, rr, (rv1, rv2), rp⟩ = 1 by rw [HC0.out]; rfl)
          obtain ⟨gp, hgp, hgb, hgf, hgl⟩ := HOC.out.block hun
          simp only [Option.some.injEq, Addr.mk.injEq, and_true] at hgp
          obtain ⟨rfl, rfl⟩ := hgp
          obtain ⟨y0, y1, y2, y3, hyq, _, hyc, hyd⟩ := HOC.out.rats.at hun
          simp only [Option.some.injEq, Addr.mk.injEq, and_true] at hyq
          obtain ⟨rfl, rfl⟩ := hyq
          rw [Nat.zero_add] at hyc hyd
          have HOP := Lib.hid (HOC.out.set HUL.out l1 l2)
          have hwg : W.heap.size ≤ xb := by have := HXX9.out.size; omega
          have XP : Ext W ((wc.setCell ⟨xb, u * 2, none⟩ (.int .i64 l1)).setCell ⟨xb, u * 2 + 1, none⟩ (.int .i64 l2)) := (XC.setCell (p := ⟨xb, u * 2, none⟩) hwg _).setCell (p := ⟨xb, u * 2 + 1, none⟩) hwg _
          obtain ⟨wp, hwp⟩ : ∃ E, E = (wc.setCell ⟨xb, u * 2, none⟩ (.int .i64 l1)).setCell ⟨xb, u * 2 + 1, none⟩ (.int .i64 l2) := ⟨_, rfl⟩
          rw [← hwp] at HOP XP
          rw [← HPT.out] at HOP
          go_upto_region 16 with fail
          rw [← hwp]
          clear hwp hyc hyd hgf g0 g1 XC
          obtain ⟨q0, q1, q2, qf⟩ := HRX.out wp XP
          obtain ⟨z, z0, z1, z2, zo⟩ := HEND.out wp XP 1 (.slice (some ⟨xb, 0, none⟩) n10 p10) (.slice none 0 0)
          have HZ := Lib.hid z
          have HZO := Lib.hid zo
          clear z zo
          go_wp2_with fail
          refine bodyPost_ret (v := .agg #[.int .i64 1, .slice (some ⟨xb, 0, none⟩) n10 p10, .slice none 0 0]) (by simp [results, Tryz.results75, go_sem, z0, z1, z2]) rfl ⟨⟨_, _, _, _, _, _, by rw [HC.out], fun _ => (HOP.out.mono (by have := HXX9.out.size; omega)).keep fun k hk => HZO.out k (by have := (HOP.out.lt k hk).1; have := HXX9.out.size; omega)⟩, HZ.out⟩
    · have HC := Lib.hid (show codeI true g ⟨rs, rX, rY, rr, (rv1, rv2), rp⟩ = 3 by unfold codeI; rw [if_neg (by simp), if_pos hs])
      have hsb : (rs != 1) = true := by simp [hs]
      have X4' := X4.out
      obtain ⟨q0, q1, q2, qf⟩ := HRX.out w4 X4'
      obtain ⟨z, z0, z1, z2, zo⟩ := HEND.out w4 X4' 3 (.slice none 0 0) (.slice none 0 0)
      have HZ := Lib.hid z
      have HZO := Lib.hid zo
      clear z zo
      go_wp2_with fail
      refine bodyPost_ret (v := .agg #[.int .i64 3, .slice none 0 0, .slice none 0 0]) (by simp [results, Tryz.results75, go_sem, z0, z1, z2]) rfl ⟨⟨_, _, _, _, _, _, by rw [HC.out], fun h => by rw [HC.out] at h; cases h⟩, HZ.out⟩
end Go.Proofs.YtgohdmnbnhehnaaGreat
namespace Go.Proofs.YtgohdmnbnhehnaaGreat
set_option linter.unusedVariables false
set_option linter.unusedSimpArgs false
set_option maxRecDepth 100000
open Go.RowKit
set_option maxHeartbeats 16000000 in
theorem s_BalancedLP {w : World} {p : Int} {a : Option Addr} {n cap : Nat} {V : List Int} (h : Ints w a n cap V) :
    Calls Tryz.prog 140 #[pair p a n cap] w fun e w' => LpcR w' e (coreA p.toNat n) (coreB p.toNat) (coreC V) (gameOk p V) ∧ Ext w w' := by
  obtain ⟨W, hW⟩ : ∃ W, W = (w.alloc (.cells #[.int .i64 p, .slice a n cap] 47)).alloc (.cells #[.slice none 0 0, .slice none 0 0, .slice none 0 0] 67) := ⟨_, rfl⟩
  have HWS := Lib.hid (show W.heap.size = w.heap.size + 2 by rw [hW]; simp)
  have HX0 := Lib.hid (show Ext w W by rw [hW]; exact (Ext.alloc _ _).trans (Ext.alloc _ _))
  have HWC := Lib.hid (show W.cell? ⟨w.heap.size, 1, none⟩ = some (.slice a n cap) by rw [hW]; simp)
  have HWD := Lib.hid (show W.cell? ⟨w.heap.size, 0, none⟩ = some (.int .i64 p) by rw [hW]; simp)
  have HWR := Lib.hid (show W.heap[w.heap.size + 1]? = some (.cells #[.slice none 0 0, .slice none 0 0, .slice none 0 0] 67 (0, 0)) by rw [hW]; exact heapA_new _ _ _ (by simp))
  obtain ⟨WG, hWG⟩ : ∃ x, x = w.alloc (.cells #[.int .i64 p, .slice a n cap] 47) := ⟨_, rfl⟩
  have HXG := Lib.hid (show Ext WG W by rw [hW, hWG]; exact Ext.alloc _ _)
  have HGS := Lib.hid (show WG.heap.size = w.heap.size + 1 by rw [hWG]; simp)
  have HG0 := Lib.hid (show WG.cell? ⟨w.heap.size, 0, none⟩ = some (.int .i64 p) by rw [hWG]; simp)
  have HG1 := Lib.hid (show WG.cell? ⟨w.heap.size, 1, none⟩ = some (.slice a n cap) by rw [hWG]; simp)
  clear hWG
  have HVL := Lib.hid h.hlen
  have hvcap := h.hcap
  have hvmax := h.hmax
  have HVE := Lib.hid (h.ext HX0.out)
  have HC := Lib.hid (s_IsValidGame (p := p) (h.ext HX0.out))
  have hrbl : (w.heap.size + 1) < W.heap.size := by rw [HWS.out]; omega
  have HRB := Lib.hid (fun (w' : World) (hx : Ext W w') => (hx.block _ hrbl).trans HWR.out)
  clear h hrbl
  cases hg : gameOk p V
  · rw [hg, hW] at HC
    clear hg
    go_enter Tryz.func140, Tryz.ntmps140
    go_wp2_with fail
    refine HC.out.mono ?_
    rw [← hW]
    rintro e w1 ⟨rfl, hx1⟩
    have hr0 := LpO.boxc0 (HRB.out w1 hx1)
    have hr1 := LpO.boxc1 (HRB.out w1 hx1)
    have hr2 := LpO.boxc2 (HRB.out w1 hx1)
    have hrf := LpO.boxf (HRB.out w1 hx1)
    have HX1 := Lib.hid hx1
    clear hx1
    go_wp2_with fail
    refine bodyPost_ret (v := .tuple #[.agg #[.slice none 0 0, .slice none 0 0, .slice none 0 0], .bool false]) (by simp [results, Tryz.results140, go_sem, hr0, hr1, hr2]) rfl ⟨⟨none, 0, 0, none, 0, 0, none, 0, 0, rfl, fun h => Bool.noConfusion h⟩, (((HX0.out.trans HX1.out).store 0 (by omega) _).store 1 (by omega) _).store 2 (by omega) _⟩
  · obtain ⟨q, rfl, h1, h5, hlen, _, hvb⟩ := gameOk_len hg
    have hq := cN_le q h5
    have hn32 : n ≤ 32 := by rw [← HVL.out, hlen]; omega
    have hn1 : 1 ≤ n := by rw [← HVL.out, hlen]; omega
    have HVB := Lib.hid hvb
    have HCL := Lib.hid (show (coreC V).length = n - 1 by unfold coreC; simp [HVL.out])
    rw [hg, hW] at HC
    clear hg hlen hvb hq
    go_enter Tryz.func140, Tryz.ntmps140
    go_wp2_with fail
    refine HC.out.mono ?_
    rw [← hW]
    clear hW
    rintro e w1 ⟨rfl, hx1⟩
    have hs1 := hx1.size
    rw [HWS.out] at hs1
    have HX1 := Lib.hid hx1
    have HL0 := Lib.hid (LpO.new (w := w1) (base := w.heap.size + 2) hs1)
    obtain ⟨g, hgg⟩ : ∃ g, g = w1.heap.size := ⟨_, rfl⟩
    obtain ⟨E, hE⟩ : ∃ E, E = w1.alloc (.cells #[.slice none 0 0, .slice none 0 0, .slice none 0 0] 67) := ⟨_, rfl⟩
    have HXE := Lib.hid (show Ext W E by rw [hE]; exact hx1.trans (Ext.alloc _ _))
    rw [← hgg, ← hE] at HL0
    clear hx1 HC
    go_upto_region 4 with fail
    rw [← hE, ← hgg]
    clear hE hgg
    go_wp2_with fail
    go_loopg [5] (n - 1) (fun gk ii wr => ∃ (k : Nat) (vc : Value), Hid (gk + k = n - 1) ∧ ii = .int .i64 ((k + 1 : Nat) : Int) ∧ Hid (LpO wr (w.heap.size + 2) g (.slice none 0 0) (.slice none 0 0) vc [] [] [] ((coreC V).take k)) ∧ Hid (Ext W wr))
    case atStart => exact ⟨0, _, Lib.hid (by omega), rfl, HL0, HXE⟩
    case round =>
      obtain ⟨g1, h_g1⟩ : ∃ x, x = gk := ⟨_, rfl⟩
      subst h_g1
      obtain ⟨wr1, h_wr1⟩ : ∃ x, x = wr := ⟨_, rfl⟩
      subst h_wr1
      obtain ⟨k, vc, HK, rfl, HLP, HX⟩ := hrel
      have hsz := HX.out.size
      rw [HWS.out] at hsz
      have hcp := HX.out.cellSome HWC.out
      by_cases hlt : k + 1 < n
      · obtain ⟨eb, eoff, hea, he0⟩ := (HVE.out.ext HX.out).at hlt
        subst hea
        obtain ⟨v, hv⟩ : ∃ v, v = V[k + 1]?.getD 0 := ⟨_, rfl⟩
        have hvb : -500 ≤ v ∧ v ≤ 500 := by
          rw [hv, List.getElem?_eq_getElem (by rw [HVL.out]; exact hlt), Option.getD_some]
          exact HVB.out _ (List.getElem_mem _)
        rw [← hv] at he0
        have HV0 := Lib.hid (show W.cell? ⟨eb, eoff + (k + 1), none⟩ = some (.int .i64 v) by
          obtain ⟨eb', eoff', hea', he'⟩ := HVE.out.at hlt
          simp only [Option.some.injEq, Addr.mk.injEq, and_true] at hea'
          obtain ⟨rfl, rfl⟩ := hea'
          rw [hv]; exact he')
        have HSN := Lib.hid (coreC_snoc HVL.out hlt hv.symm)
        have hwn : IntKind.i64.wrap (-v) = -v := by rw [IntKind.wrap_i64]; omega
        have hk0 : (0 : Int) ≤ ((k + 1 : Nat) : Int) := by omega
        have hk1 : ((k + 1 : Nat) : Int) < (n : Int) := by omega
        have hkw : IntKind.i64.wrap (((k + 1 : Nat) : Int) + 1) = ((k + 1 + 1 : Nat) : Int) := by rw [IntKind.wrap_i64]; omega
        have hk2 : (0 : Int) ≤ (k : Int) + 1 := by omega
        have hk3 : (k : Int) + 1 < (n : Int) := by omega
        have hk4 : ((k : Int) + 1).toNat = k + 1 := by omega
        have HTL := Lib.hid (show ((coreC V).take k).length = k by rw [List.length_take, HCL.out]; omega)
        have t2 := HLP.out.c2
        clear hv
        have HKEEP := Lib.hid (fun (w' : World) (h : Ext wr1 w') => (⟨h.cellSome t2, h.cellSome hcp, h.cellSome he0, HX.out.trans h⟩ : w'.cell? ⟨g, 2, none⟩ = some vc ∧ w'.cell? ⟨w.heap.size, 1, none⟩ = some (.slice (some ⟨eb, eoff, none⟩) n cap) ∧ w'.cell? ⟨eb, eoff + (k + 1), none⟩ = some (.int .i64 v) ∧ Ext W w'))
        have hkd : Ext wr1 wr1.drew := Ext.drew wr1
        go_upto_region 7 with fail
        refine late_begin (M := [12]) (S := fun w' => w'.cell? ⟨g, 2, none⟩ = some vc ∧ w'.cell? ⟨w.heap.size, 1, none⟩ = some (.slice (some ⟨eb, eoff, none⟩) n cap) ∧ w'.cell? ⟨eb, eoff + (k + 1), none⟩ = some (.int .i64 v) ∧ Ext W w') (by kernel_rfl) ?_
        have hHeld := HKEEP.out _ hkd
        obtain ⟨wd, hwd⟩ : ∃ y, y = wr1.drew := ⟨_, rfl⟩
        rw [← hwd] at hkd hHeld
        rw [← hwd]
        clear hwd
        have hsd := hkd.size
        refine late_pure (i := 0) (oi := ?_) (v := ?_) ?_ ?_ ?_ ?_ ?_ ?_ ?_ ?_ ?_
        rotate_left 2
        · simp only [gA, gB, gC]; rfl
        · kernel_rfl
        · kernel_rfl
        · kernel_rfl
        · kernel_rfl
        · exact fun _ _ _ h => h
        · refine Or.inl ⟨by rfl, ?_⟩; intro w hSw; (try dsimp only at hSw); go_simp; (try with_reducible rfl)
        · assumption
        try simp only [Act.put, sA, sB, sC]
        refine late_load (i := 1) (oi := ?_) (v := ?_) ?_ ?_ ?_ ?_ ?_ ?_ ?_ ?_ ?_ ?_ ?_
        rotate_left 2
        · simp only [gA, gB, gC]; rfl
        · kernel_rfl
        · kernel_rfl
        · kernel_rfl
        · kernel_rfl
        · kernel_rfl
        · kernel_rfl
        · exact fun _ _ _ h => h
        · refine Or.inl ⟨by rfl, ?_⟩; intro w hSw; (try dsimp only at hSw); go_simp; (try with_reducible rfl)
        · assumption
        try simp only [Act.put, sA, sB, sC]
        refine late_pure (i := 2) (oi := ?_) (v := ?_) ?_ ?_ ?_ ?_ ?_ ?_ ?_ ?_ ?_
        rotate_left 2
        · simp only [gA, gB, gC]; rfl
        · kernel_rfl
        · kernel_rfl
        · kernel_rfl
        · kernel_rfl
        · exact fun _ _ _ h => h
        · refine Or.inl ⟨by rfl, ?_⟩; intro w hSw; (try dsimp only at hSw); go_simp; (try with_reducible rfl)
        · assumption
        try simp only [Act.put, sA, sB, sC]
        refine late_load (i := 3) (oi := ?_) (v := ?_) ?_ ?_ ?_ ?_ ?_ ?_ ?_ ?_ ?_ ?_ ?_
        rotate_left 2
        · simp only [gA, gB, gC]; rfl
        · kernel_rfl
        · kernel_rfl
        · kernel_rfl
        · kernel_rfl
        · kernel_rfl
        · kernel_rfl
        · exact fun _ _ _ h => h
        · refine Or.inl ⟨by rfl, ?_⟩; intro w hSw; (try dsimp only at hSw); go_simp; (try with_reducible rfl)
        · assumption
        try simp only [Act.put, sA, sB, sC]
        refine late_pure (i := 4) (oi := ?_) (v := ?_) ?_ ?_ ?_ ?_ ?_ ?_ ?_ ?_ ?_
        rotate_left 2
        · simp only [gA, gB, gC]; rfl
        · kernel_rfl
        · kernel_rfl
        · kernel_rfl
        · kernel_rfl
        · exact fun _ _ _ h => h
        · refine Or.inl ⟨by rfl, ?_⟩; intro w hSw; (try dsimp only at hSw); go_simp; (try with_reducible rfl)
        · assumption
        try simp only [Act.put, sA, sB, sC]
        refine late_pure (i := 5) (oi := ?_) (v := ?_) ?_ ?_ ?_ ?_ ?_ ?_ ?_ ?_ ?_
        rotate_left 2
        · simp only [gA, gB, gC]; rfl
        · kernel_rfl
        · kernel_rfl
        · kernel_rfl
        · kernel_rfl
        · exact fun _ _ _ h => h
        · refine Or.inl ⟨by rfl, ?_⟩; intro w hSw; (try dsimp only at hSw); go_simp; (try with_reducible rfl)
        · assumption
        try simp only [Act.put, sA, sB, sC]
        refine late_load (i := 6) (oi := ?_) (v := ?_) ?_ ?_ ?_ ?_ ?_ ?_ ?_ ?_ ?_ ?_ ?_
        rotate_left 2
        · simp only [gA, gB, gC]; rfl
        · kernel_rfl
        · kernel_rfl
        · kernel_rfl
        · kernel_rfl
        · kernel_rfl
        · kernel_rfl
        · exact fun _ _ _ h => h
        · refine Or.inl ⟨by rfl, ?_⟩; intro w hSw; (try dsimp only at hSw); go_simp; (try with_reducible rfl)
        · assumption
        try simp only [Act.put, sA, sB, sC]
        refine late_pure (i := 7) (oi := ?_) (v := ?_) ?_ ?_ ?_ ?_ ?_ ?_ ?_ ?_ ?_
        rotate_left 2
        · simp only [gA, gB, gC]; rfl
        · kernel_rfl
        · kernel_rfl
        · kernel_rfl
        · kernel_rfl
        · exact fun _ _ _ h => h
        · refine Or.inl ⟨by rfl, ?_⟩; intro w hSw; (try dsimp only at hSw); go_simp; (try with_reducible rfl)
        · assumption
        try simp only [Act.put, sA, sB, sC]
        refine late_step (i := 8) (oi := ?_) ?_ ?_ ?_ (fun K hK => ?_)
        rotate_left
        · simp only [gA, gB, gC]; rfl
        · kernel_rfl
        · kernel_rfl
        go_simp
        go_at_call 81
        refine (s_l3Int _ _).mono ?_
        rintro e w3 ⟨rfl, hx3⟩
        have hkd : Ext wr1 w3 := hkd.trans hx3
        have hs3 := hkd.size
        go_wp2_with fail
        refine hK.out _ _ (fun _ => HKEEP.out _ hkd) ?_
        have hHeld := HKEEP.out _ hkd
        clear hK K
        try simp only [Act.put, sA, sB, sC]
        refine late_step (i := 9) (oi := ?_) ?_ ?_ ?_ (fun K hK => ?_)
        rotate_left
        · simp only [gA, gB, gC]; rfl
        · kernel_rfl
        · kernel_rfl
        go_simp
        refine hK.out _ _ (fun _ => HKEEP.out _ (hkd.trans (Ext.alloc _ _))) ?_
        clear hK K
        try simp only [Act.put, sA, sB, sC]
        refine late_step (i := 10) (oi := ?_) ?_ ?_ ?_ (fun K hK => ?_)
        rotate_left
        · simp only [gA, gB, gC]; rfl
        · kernel_rfl
        · kernel_rfl
        refine wp_append_rats _ _ (by rfl) (w.heap.size + 2) vc _ (by rfl) ((HLP.out.c.ext hkd).ext (Ext.alloc _ _)) _ 1 _ [(-v, 1)] (by rfl) (Rats.one' _ _ _ _ _ rfl) (by rw [HTL.out]; omega) (by simp; omega) ?_
        intro v6 w6 ho hg6 hnear
        obtain ⟨a6, n6, q6, rfl, HN6⟩ := ho.var
        have HP6 := Lib.hid (HLP.out.pushC (hkd.trans (Ext.alloc _ _)) hg6 ho)
        have hb6 := HLP.out.boxC (hkd.trans (Ext.alloc _ _)) hg6
        have c26 := LpO.boxc2 hb6
        have cf6 := LpO.boxf hb6
        have hX6 : Ext W w6 := ext_grown ((HX.out.trans hkd).trans (Ext.alloc _ _)) hg6 (fun j hj => by rw [HWS.out]; exact (HLP.out.c.lt j hj).1)
        clear ho hg6 hnear hb6
        refine hK.out _ _ (fun _ => And.intro c26 (And.intro (hX6.cellSome HWC.out) (And.intro (hX6.cellSome HV0.out) hX6))) ?_
        have hHeld := And.intro c26 (And.intro (hX6.cellSome HWC.out) (And.intro (hX6.cellSome HV0.out) hX6))
        clear hK K
        try simp only [Act.put, sA, sB, sC]
        refine late_pure (i := 11) (oi := ?_) (v := ?_) ?_ ?_ ?_ ?_ ?_ ?_ ?_ ?_ ?_
        rotate_left 2
        · simp only [gA, gB, gC]; rfl
        · kernel_rfl
        · kernel_rfl
        · kernel_rfl
        · kernel_rfl
        · exact fun _ _ _ h => h
        · refine Or.inl ⟨by rfl, ?_⟩; intro w hSw; (try dsimp only at hSw); go_simp; (try with_reducible rfl)
        · assumption
        try simp only [Act.put, sA, sB, sC]
        refine late_one (i := 12) (oi := ?_) (w' := ?_) ?_ ?_ ?_ ?_ ?_ ?_ ?_
        rotate_left 2
        · simp only [gA, gB, gC]; rfl
        · kernel_rfl
        · kernel_rfl
        · exact of_decide_eq_true (by kernel_rfl)
        · rfl
        · go_simp; (try with_reducible rfl)
        try simp only [Act.put, sA, sB, sC]
        refine late_done (by kernel_rfl) ?_ _
        have HX9 := Lib.hid (hX6.setCell (p := ⟨g, 2, none⟩) (by rw [HWS.out]; exact HLP.out.hg) (.slice a6 n6 q6))
        obtain ⟨W9, hW9⟩ : ∃ y, y = w6.setCell ⟨g, 2, none⟩ (.slice a6 n6 q6) := ⟨_, rfl⟩
        rw [← hW9] at HP6 HX9
        go_upto_region 6 with fail
        rw [← hW9]
        clear hW9 c26 cf6 hHeld hkd hX6 t2
        go_wp2_with fail
        go_roundg (g1 - 1)
        case measure => have := HK.out; omega
        case rel => exact ⟨k + 1, _, Lib.hid (by have := HK.out; omega), by go_num, Lib.hid (by rw [← HSN.out]; exact HP6.out), HX9⟩
      · have hT : (coreC V).take k = coreC V := List.take_of_length_le (by rw [HCL.out]; omega)
        rw [hT] at HLP
        have hcp0 := HX.out.cellSome HWD.out
        obtain ⟨aC, nC, cC, rfl, HNC⟩ := HLP.out.c.var
        have hlt2 : ¬ ((k : Int) + 1) < (n : Int) := by omega
        obtain ⟨L, hL⟩ : ∃ L, L = seqI 1 (n - 1) := ⟨_, rfl⟩
        have HLL := Lib.hid (show L.length = n - 1 by rw [hL]; simp [seqI])
        have HLA := Lib.hid (fun (j : Nat) (hj : j < n - 1) => show L[j]?.getD 0 = (j : Int) + 1 by
          rw [hL, List.getElem?_eq_getElem (by simp [seqI]; exact hj)]
          simp [seqI]; omega)
        have HLE := Lib.hid hL
        clear hT hL
        go_wp2_with fail
        go_loopg [6] q (fun gk ii wr => ∃ (k : Nat) (va vb : Value) (vs : List Value), Hid (gk + k = q) ∧ ii = .int .i64 (k : Int) ∧ Hid (LpO wr (w.heap.size + 2) g va vb (.slice aC nC cC) vs (memM k L) (List.replicate k 1) (coreC V)) ∧ Hid (Ext W wr))
        case atStart => exact ⟨0, _, _, [], Lib.hid (by omega), rfl, HLP, HX⟩
        case round =>
          obtain ⟨g2, h_g2⟩ : ∃ x, x = gk := ⟨_, rfl⟩
          subst h_g2
          obtain ⟨wr2, h_wr2⟩ : ∃ x, x = wr := ⟨_, rfl⟩
          subst h_wr2
          obtain ⟨k, va, vb, vs, HK2, rfl, HLP2, HX2⟩ := hrel
          have hsz2 := HX2.out.size
          rw [HWS.out] at hsz2
          have hp0 := HX2.out.cellSome HWD.out
          have hp1 := HX2.out.cellSome HWC.out
          by_cases hkq : k < q
          · have HR0 := Lib.hid (OwnI.madeS wr2 wr2.heap.size _ rfl (Nat.le_refl _))
            have hkqi : (k : Int) < (q : Int) := by omega
            go_wp2_with fail
            go_loopg [7, 8] (n - 1) (fun gk row ii wr => ∃ (j : Nat) (a2 : Option Addr) (n2 p2 : Nat), Hid (gk + j = n - 1) ∧ ii = .int .i64 ((j + 1 : Nat) : Int) ∧ row = .slice a2 n2 p2 ∧ Hid (OwnI wr wr2.heap.size (.slice a2 n2 p2) (memR (L.take j) k)) ∧ Hid (Ext wr2 wr))
            case atStart => exact ⟨0, _, _, _, Lib.hid (by omega), rfl, rfl, HR0, Lib.hid (Ext.alloc _ _)⟩
            case round =>
              obtain ⟨g3, h_g3⟩ : ∃ x, x = gk := ⟨_, rfl⟩
              subst h_g3
              obtain ⟨wr3, h_wr3⟩ : ∃ x, x = wr := ⟨_, rfl⟩
              subst h_wr3
              obtain ⟨j, a2, n2, p2, HJ, rfl, rfl, HO, HX3⟩ := hrel
              have hsz3 := HX3.out.size
              have hp2 := HX3.out.cellSome hp1
              by_cases hjl : j + 1 < n
              · have hjw : IntKind.i64.wrap (((j + 1 : Nat) : Int) + 1) = ((j + 1 + 1 : Nat) : Int) := by rw [IntKind.wrap_i64]; omega
                have hjl2 : (j : Int) + 1 < (n : Int) := by omega
                obtain ⟨hb, hhb⟩ : ∃ b, b = hasP ((j : Int) + 1) (k : Int) := ⟨_, rfl⟩
                have HHP := Lib.hid (fun w' => s_HasPlayer ((j : Int) + 1) (k : Int) w' (by omega))
                simp only [← hhb] at HHP
                have HBT := Lib.hid (fun w' => s_l1Bit hb w')
                have HSN := Lib.hid (memR_snoc (l := L) (j := j) (k := k) (b := hb) (by rw [HLL.out]; omega) (by rw [HLA.out j (by omega)]; exact hhb.symm))
                have HRL := Lib.hid (show (memR (L.take j) k).length = j by simp only [memR, List.length_map, List.length_take]; rw [HLL.out]; omega)
                obtain ⟨bt, hbt⟩ : ∃ y, y = bitI hb := ⟨_, rfl⟩
                rw [← hbt] at HSN
                simp only [← hbt] at HBT
                clear hhb hbt
                go_wp2_with (first
                  | (go_at_call 60; refine (HHP.out _).mono ?_; rintro e w4 ⟨rfl, rfl⟩)
                  | (go_at_call 59; refine (HBT.out _).mono ?_; rintro e w4 ⟨rfl, rfl⟩)
                  | (at_builtin; refine append_ints rfl _ _ rfl wr2.heap.size (.slice a2 n2 p2) _ rfl (HO.out.ext (Ext.alloc _ _)) _ 1 _ [bt] rfl (Ints.oneS _ _ _ _ (by simp)) (by rw [HRL.out]; omega) (by simp; omega) ?_; intro v5 w5 ho hg5 hnear; have X5 := Lib.hid (ext_grown (HX3.out.trans (Ext.alloc _ _)) hg5 (fun i hi => (HO.out.lt i hi).1)); obtain ⟨a5, n5, c5, rfl, HN5⟩ := ho.var; have HO5 := Lib.hid ho; clear ho hg5 hnear))
                go_roundg (g3 - 1)
                case measure => have := HJ.out; omega
                case rel => exact ⟨j + 1, a5, n5, c5, Lib.hid (by have := HJ.out; omega), by go_num, rfl, Lib.hid (by rw [← HSN.out]; exact HO5.out), X5⟩
              · have hjl2 : ¬ ((j : Int) + 1) < (n : Int) := by omega
                have hTL : L.take j = L := List.take_of_length_le (by rw [HLL.out]; omega)
                rw [hTL] at HO
                have HMS := Lib.hid (memM_succ k L)
                have HVL := Lib.hid (show vs.length = k by rw [HLP2.out.rows.len]; simp [memM])
                have HLP3 := Lib.hid (HLP2.out.ext HX3.out)
                have t0 := HLP3.out.c0
                have bf := HLP3.out.free
                clear hTL
                go_upto_region 17 with (first
                  | (at_builtin; refine append_slice rfl _ _ rfl (w.heap.size + 2) va vs rfl (HLP3.out.a.ext (Ext.alloc _ _)) _ _ 1 rfl (by simp; rfl) rfl (by rw [HVL.out]; omega) (by simp; omega) ?_; intro v6 w6 ho hg hnear; have HL6 := Lib.hid (HLP2.out.pushA (HX3.out.trans (Ext.alloc _ _)) (HO.out.ext (Ext.alloc _ _)) (by omega) hg ho hnear); have hbox6 := HLP3.out.boxA (Ext.alloc _ _) hg; have hc6 := LpO.boxc0 hbox6; have hf6 := LpO.boxf hbox6; have X6 := Lib.hid ((((HX2.out.trans HX3.out).trans (Ext.alloc _ _)).grown hg (fun j hj => by rw [HWS.out]; exact (HLP2.out.a.lt j hj).1)).store (b := g) 0 (by rw [HWS.out]; exact HLP2.out.hg) v6); obtain ⟨a6, n6, p6, rfl, HN6⟩ := ho.var; clear ho hg hnear hbox6))
                obtain ⟨W6, hW6⟩ : ∃ y, y = w6.setCell ⟨g, 0, none⟩ (.slice a6 n6 p6) := ⟨_, rfl⟩
                rw [← hW6] at HL6 X6
                rw [← hW6]
                clear hW6 hc6 hf6 t0 bf
                have t1 := HL6.out.c1
                have bf := HL6.out.free
                have hgl6 := HL6.out.lt
                have HX6 := Lib.hid (show Ext W W6 from X6.out)
                have hs6 := HX6.out.size
                rw [HWS.out] at hs6
                go_wp2_with (first
                  | (at_builtin; refine append_ints rfl _ _ rfl (w.heap.size + 2) vb _ rfl (HL6.out.b.ext (Ext.alloc _ _)) _ 1 _ [1] rfl (Ints.oneS _ _ _ _ (by simp)) (by simp; omega) (by simp; omega) ?_; intro v9 w9 ho hg9 hnear; have HL9 := Lib.hid (HL6.out.pushB (Ext.alloc _ _) hg9 ho hnear); have hbx := HL6.out.boxB (Ext.alloc _ _) hg9; have c09 := LpO.boxc1 hbx; have cf9 := LpO.boxf hbx; have X9 := Lib.hid (((HX6.out.trans (Ext.alloc _ _)).grown hg9 (fun j hj => by rw [HWS.out]; exact (HL6.out.b.lt j hj).1)).store (b := g) 1 (by rw [HWS.out]; exact HLP2.out.hg) v9); obtain ⟨a9, n9, q9, rfl, HN9⟩ := ho.var; clear ho hg9 hnear hbx))
                go_roundg (g2 - 1)
                case measure => have := HK2.out; omega
                case rel => exact ⟨k + 1, _, _, _, Lib.hid (by have := HK2.out; omega), by go_num, Lib.hid (by have h1 := HL9.out; rw [HMS.out, ← List.replicate_succ'] at h1; exact h1), X9⟩
          · have hkq2 : q = k := by have := HK2.out; omega
            have hnk : ¬ (k : Int) < (q : Int) := by omega
            subst hkq2
            obtain ⟨aA, nA, cA, rfl, HNA⟩ := HLP2.out.a.var
            obtain ⟨aB, nB, cB, rfl, HNB⟩ := HLP2.out.b.var
            have t0 := HLP2.out.c0
            have t1 := HLP2.out.c1
            have t2 := HLP2.out.c2
            have hgb := HLP2.out.hg
            have hrA := HRB.out wr2 HX2.out
            have hr0 := LpO.boxc0 hrA
            have hr1 := LpO.boxc1 hrA
            have hr2 := LpO.boxc2 hrA
            have hrf := LpO.boxf hrA
            have hkp : ∀ j, w.heap.size + 2 ≤ j → (((wr2.setCell ⟨w.heap.size + 1, 0, none⟩ (.slice aA nA cA)).setCell ⟨w.heap.size + 1, 1, none⟩ (.slice aB nB cB)).setCell ⟨w.heap.size + 1, 2, none⟩ (.slice aC nC cC)).heap[j]? = wr2.heap[j]? := fun j hk1 => by
              rw [heap_setCell_other _ _ _ _ (show j ≠ w.heap.size + 1 by omega), heap_setCell_other _ _ _ _ (show j ≠ w.heap.size + 1 by omega), heap_setCell_other _ _ _ _ (show j ≠ w.heap.size + 1 by omega)]
            clear hrA
            go_wp2_with fail
            refine bodyPost_ret (v := .tuple #[lpW aA nA cA aB nB cB aC nC cC, .bool true]) (by simp [results, Tryz.results140, go_sem, hr0, hr1, hr2]) rfl ⟨⟨aA, nA, cA, aB, nB, cB, aC, nC, cC, rfl, fun _ => ⟨?_, ?_, ?_⟩⟩, (((HX0.out.trans HX2.out).store 0 (by omega) _).store 1 (by omega) _).store 2 (by omega) _⟩
            · have h0 : OwnSS wr2 (w.heap.size + 2) (.slice aA nA cA) (memM q L) := ⟨vs, HLP2.out.a, HLP2.out.rows⟩
              rw [HLE.out] at h0
              exact OwnSS.intss (h0.on _ fun j h1 _ => hkp j h1)
            · exact (HLP2.out.b.on _ fun j h1 _ => hkp j h1).ints
            · exact (HLP2.out.c.keep fun j h1 => hkp j (HLP2.out.c.lt j h1).1).rats
end Go.Proofs.YtgohdmnbnhehnaaGreat
namespace Go.Proofs.YtgohdmnbnhehnaaGreat
set_option linter.unusedVariables false
set_option linter.unusedSimpArgs false
set_option maxRecDepth 100000
open Go.RowKit
theorem all_takeG {α : Type} {p : α → Bool} {l : List α} {k : Nat} {d : α} (h : k < l.length) : (l.take (k + 1)).all p = ((l.take k).all p && p (l[k]?.getD d)) := by
  rw [List.take_succ_eq_append_getElem h, List.all_append, List.getElem?_eq_getElem h]; simp
theorem all_falseG {α : Type} {p : α → Bool} {l : List α} {k : Nat} {d : α} (h : k < l.length) (hb : p (l[k]?.getD d) = false) : l.all p = false := by
  rw [List.all_eq_false]
  exact ⟨l[k], List.getElem_mem h, by rw [List.getElem?_eq_getElem h] at hb; simpa using hb⟩
set_option maxHeartbeats 1000000 in
theorem s_l5Small {w : World} {a : Option Addr} {n cap : Nat} {l : List Int} (h : Ints w a n cap l) :
    Calls Tryz.prog 171 #[.slice a n cap] w fun e w' => e = .returned (.bool (l.all (inB · (-5000) 5000))) ∧ w = w' := by
  have hcap := h.hcap
  have hmax := h.hmax
  have HL := Lib.hid h.hlen
  have HI := Lib.hid h
  clear h
  go_enter Tryz.func171, Tryz.ntmps171
  go_wp2_with fail
  go_loopg [3] n (fun gk ii wr => ∃ k : Nat, Hid (gk + k = n) ∧ ii = .int .i64 (k : Int) ∧ Hid ((l.take k).all (inB · (-5000) 5000) = true) ∧ w = wr)
  case atStart => exact ⟨0, Lib.hid (by omega), rfl, Lib.hid rfl, rfl⟩
  case round =>
    obtain ⟨k, HK, rfl, HA, rfl⟩ := hrel
    by_cases hlt : k < n
    · obtain ⟨b, off, rfl, hc0⟩ := HI.out.at hlt
      obtain ⟨x, hx⟩ : ∃ x, x = l[k]?.getD 0 := ⟨_, rfl⟩
      rw [← hx] at hc0
      have HC := Lib.hid (s_l1In x (-5000) 5000 w)
      cases hb : inB x (-5000) 5000
      all_goals
        rw [hb] at HC
      · have HF := Lib.hid (show l.all (inB · (-5000) 5000) = false from all_falseG (d := 0) (by rw [HL.out]; exact hlt) (by rw [← hx]; exact hb))
        clear hx hb
        go_wp2_with (first | (go_at_call 56; refine HC.out.mono ?_; rintro e w2 ⟨rfl, rfl⟩))
        go_ret
        exact ⟨ret_bool HF.out.symm, rfl⟩
      · have HT := Lib.hid (show (l.take (k + 1)).all (inB · (-5000) 5000) = true by rw [all_takeG (d := 0) (by rw [HL.out]; exact hlt), HA.out, ← hx, hb]; rfl)
        clear hx hb
        go_wp2_with (first | (go_at_call 56; refine HC.out.mono ?_; rintro e w2 ⟨rfl, rfl⟩))
        go_roundg (gk - 1)
        case measure => have := HK.out; omega
        case rel => exact ⟨k + 1, Lib.hid (by have := HK.out; omega), by go_num, HT, rfl⟩
    · have HT := Lib.hid (show l.take k = l from List.take_of_length_le (by rw [HL.out]; have := HK.out; omega))
      go_wp2_with fail
      go_ret
      exact ⟨ret_bool (by have := HA.out; rw [HT.out] at this; exact this.symm), rfl⟩
section
variable {w : World} {a : Option Addr} {na ca : Nat} {b : Option Addr} {nb cb : Nat} {c : Option Addr} {nc cc : Nat} {A : List (List Int)} {B : List Int} {C : List (Int × Int)}
theorem okLP_rowsOnly {A : List (List Int)} {B : List Int} {C : List (Int × Int)} (h : A.all (okRowI C.length) = false) : okLP A B C = false := by rw [okLP_eq, h]; simp
set_option maxHeartbeats 4000000 in
theorem s_IsValidLP (h : LpC w a na ca b nb cb c nc cc A B C) :
    Calls Tryz.prog 128 #[lpW a na ca b nb cb c nc cc] w fun e w' => e = .returned (.bool (okLP A B C)) ∧ Ext w w' := by
  have hx0 := Ext.alloc w (lpBox a na ca b nb cb c nc cc)
  have HX0 := Lib.hid hx0
  have H := Lib.hid (h.ext hx0)
  have HE := Lib.hid (okLP_eq A B C)
  have HTB := Lib.hid (show (w.alloc (lpBox a na ca b nb cb c nc cc)).heap[w.heap.size]? = some (.cells #[.slice a na ca, .slice b nb cb, .slice c nc cc] 67 (0, 0)) from heapA_new _ _ _ rfl)
  have ha1 := h.a.hcap
  have ha2 := h.a.hmax
  have hb1 := h.b.hcap
  have hb2 := h.b.hmax
  have hc1 := h.c.hcap
  have hc2 := h.c.hmax
  have HLA := Lib.hid h.a.hlen
  have HLB := Lib.hid h.b.hlen
  have HLC := Lib.hid h.c.hlen
  clear h hx0
  go_enter Tryz.func128, Tryz.ntmps128
  go_upto_region 1 with fail
  obtain ⟨W, hW⟩ : ∃ x, x = w.alloc (lpBox a na ca b nb cb c nc cc) := ⟨_, rfl⟩
  rw [← hW] at HX0 H HTB
  rw [← hW]
  clear hW
  go_wp2_with fail
  go_loopg [3] na (fun gk ii wr => ∃ k : Nat, Hid (gk + k = na) ∧ ii = .int .i64 (k : Int) ∧ Hid ((A.take k).all (okRowI nc) = true) ∧ Hid (Ext W wr))
  case atStart => exact ⟨0, Lib.hid (by omega), rfl, Lib.hid rfl, Lib.hid (Ext.refl _)⟩
  case round =>
    obtain ⟨g1, h_g1⟩ : ∃ x, x = gk := ⟨_, rfl⟩
    subst h_g1
    obtain ⟨wr1, h_wr1⟩ : ∃ x, x = wr := ⟨_, rfl⟩
    subst h_wr1
    obtain ⟨k, HK, rfl, HA, HX⟩ := hrel
    have p0 := tbox0 (HX.out.blk HTB.out)
    have p2 := tbox2 (HX.out.blk HTB.out)
    by_cases hlt : k < na
    · obtain ⟨gb, goff, ra, rn, rc, hga, hgc, hrow⟩ := (H.out.ext HX.out).a.at hlt
      subst hga
      have HLR := Lib.hid hrow.hlen
      have hrn := hrow.hcap
      have hrm := hrow.hmax
      have HKA := Lib.hid (show k < A.length by rw [HLA.out]; exact hlt)
      have HROW := Lib.hid hrow
      have hk0 : (0 : Int) ≤ (k : Int) := by omega
      have hk1 : (k : Int) < (na : Int) := by omega
      clear hrow
      go_upto_region 4 with fail
      have hk2 : Ext wr1 wr1.drew := Ext.drew wr1
      by_cases hl : rn = nc
      · subst hl
        have hne : ((rn : Int) != (rn : Int)) = false := by simp
        obtain ⟨sm, hsm⟩ : ∃ s, s = (A[k]?.getD []).all (inB · (-5000) 5000) := ⟨_, rfl⟩
        have HRI := Lib.hid (show okRowI rn (A[k]?.getD []) = sm by unfold okRowI; rw [HLR.out, hsm]; simp)
        have HSM := Lib.hid (fun (W' : World) (hx : Ext wr1 W') => s_l5Small (HROW.out.ext hx))
        simp only [← hsm] at HSM
        clear hsm
        refine wp_region_held_drew (S := (fun w' => w'.cell? ⟨w.heap.size, 0, none⟩ = some (.slice (some ⟨gb, goff, none⟩) na ca) ∧ w'.cell? ⟨w.heap.size, 2, none⟩ = some (.slice c rn cc) ∧ w'.cell? ⟨gb, goff + k, none⟩ = some (.slice ra rn rc) ∧ Ext wr1 w')) (by kernel_rfl) ?_ (fun hHeld => ?_)
        · exact ⟨hk2.cellSome p0, hk2.cellSome p2, hk2.cellSome hgc, hk2⟩
        refine tk (i := 0) (h := ?_)
        try simp only [Act.put, sA, sB, sC]
        refine tk (i := 1) (h := ?_)
        try simp only [Act.put, sA, sB, sC]
        refine tk (i := 2) (h := ?_)
        try simp only [Act.put, sA, sB, sC]
        refine tk (i := 3) (h := ?_)
        try simp only [Act.put, sA, sB, sC]
        refine tk (i := 4) (h := ?_)
        try simp only [Act.put, sA, sB, sC]
        refine tk (i := 5) (h := ?_)
        try simp only [Act.put, sA, sB, sC]
        refine tk (i := 6) (h := ?_)
        try simp only [Act.put, sA, sB, sC]
        refine tk (i := 7) (h := ?_)
        try simp only [Act.put, sA, sB, sC]
        refine tk (i := 8) (h := ?_)
        try simp only [Act.put, sA, sB, sC]
        refine tk (i := 9) (h := ?_)
        try simp only [Act.put, sA, sB, sC]
        refine tk (i := 10) (h := ?_)
        try simp only [Act.put, sA, sB, sC]
        refine tk (i := 11) (h := ?_)
        try simp only [Act.put, sA, sB, sC]
        refine tk (i := 12) (h := ?_)
        try simp only [Act.put, sA, sB, sC]
        refine tk (i := 13) (h := ?_)
        try simp only [Act.put, sA, sB, sC]
        refine tk (i := 14) (h := ?_)
        try simp only [Act.put, sA, sB, sC]
        refine tk (i := 15) (h := ?_)
        try simp only [Act.put, sA, sB, sC]
        refine rd (i := 16) (h := fun K hK => ?_)
        go_simp
        (go_at_call 171; refine (HSM.out _ hk2).mono ?_; rintro e w3 ⟨rfl, rfl⟩)
        go_wp2_with fail
        refine hK.out _ _ ?_ (fun hHeld => ?_)
        · exact ⟨hk2.cellSome p0, hk2.cellSome p2, hk2.cellSome hgc, hk2⟩
        clear hK K
        try simp only [Act.put, sA, sB, sC]
        refine tk (i := 17) (h := ?_)
        try simp only [Act.put, sA, sB, sC]
        refine tk (i := 18) (h := ?_)
        try simp only [Act.put, sA, sB, sC]
        refine wpAnyH_done (by kernel_rfl) ?_ _
        have HX2 := Lib.hid (HX.out.trans hk2)
        clear p0 p2 hgc hk2
        cases sm
        · have HF := Lib.hid (show okLP A B C = false from okLP_rowsOnly (all_falseL HKA.out (by rw [HLC.out]; exact HRI.out)))
          go_wp2_with fail
          go_ret
          exact ⟨ret_bool HF.out.symm, HX0.out.trans HX2.out⟩
        · have HT := Lib.hid (show (A.take (k + 1)).all (okRowI rn) = true by rw [all_takeL HKA.out, HA.out, HRI.out]; rfl)
          go_wp2_with fail
          go_roundg (g1 - 1)
          case measure => have := HK.out; omega
          case rel => exact ⟨k + 1, Lib.hid (by have := HK.out; omega), by go_num, HT, HX2⟩
      · have hne : ((rn : Int) != (nc : Int)) = true := by simp; omega
        have HF := Lib.hid (show okLP A B C = false from okLP_rowsOnly (all_falseL HKA.out (by unfold okRowI; rw [HLR.out, HLC.out, decide_eq_false hl]; rfl)))
        clear hl
        refine wp_region_held_drew (S := (fun w' => w'.cell? ⟨w.heap.size, 0, none⟩ = some (.slice (some ⟨gb, goff, none⟩) na ca) ∧ w'.cell? ⟨w.heap.size, 2, none⟩ = some (.slice c nc cc) ∧ w'.cell? ⟨gb, goff + k, none⟩ = some (.slice ra rn rc) ∧ Ext wr1 w')) (by kernel_rfl) ?_ (fun hHeld => ?_)
        · exact ⟨hk2.cellSome p0, hk2.cellSome p2, hk2.cellSome hgc, hk2⟩
        refine tk (i := 0) (h := ?_)
        try simp only [Act.put, sA, sB, sC]
        refine tk (i := 1) (h := ?_)
        try simp only [Act.put, sA, sB, sC]
        refine tk (i := 2) (h := ?_)
        try simp only [Act.put, sA, sB, sC]
        refine tk (i := 3) (h := ?_)
        try simp only [Act.put, sA, sB, sC]
        refine tk (i := 4) (h := ?_)
        try simp only [Act.put, sA, sB, sC]
        refine tk (i := 5) (h := ?_)
        try simp only [Act.put, sA, sB, sC]
        refine tk (i := 6) (h := ?_)
        try simp only [Act.put, sA, sB, sC]
        refine tk (i := 7) (h := ?_)
        try simp only [Act.put, sA, sB, sC]
        refine tk (i := 8) (h := ?_)
        try simp only [Act.put, sA, sB, sC]
        refine tk (i := 9) (h := ?_)
        try simp only [Act.put, sA, sB, sC]
        refine tk (i := 10) (h := ?_)
        try simp only [Act.put, sA, sB, sC]
        refine sk (i := 11) (h := ?_)
        try simp only [Act.put, sA, sB, sC]
        refine sk (i := 12) (h := ?_)
        try simp only [Act.put, sA, sB, sC]
        refine sk (i := 13) (h := ?_)
        try simp only [Act.put, sA, sB, sC]
        refine sk (i := 14) (h := ?_)
        try simp only [Act.put, sA, sB, sC]
        refine sk (i := 15) (h := ?_)
        try simp only [Act.put, sA, sB, sC]
        refine sk (i := 16) (h := ?_)
        try simp only [Act.put, sA, sB, sC]
        refine sk (i := 17) (h := ?_)
        try simp only [Act.put, sA, sB, sC]
        refine tk (i := 18) (h := ?_)
        try simp only [Act.put, sA, sB, sC]
        refine wpAnyH_done (by kernel_rfl) ?_ _
        go_wp2_with fail
        go_ret
        exact ⟨ret_bool HF.out.symm, HX0.out.trans (HX.out.trans hk2)⟩
    · have hkn : na = k := by have := HK.out; omega
      subst hkn
      have HT := Lib.hid (show A.all (okRowI nc) = true by have := HA.out; rwa [List.take_of_length_le (by rw [HLA.out]; exact Nat.le_refl _)] at this)
      have p1 := tbox1 (HX.out.blk HTB.out)
      have HE2 := Lib.hid (show okLP A B C = (decide (nc ≤ 70) && (decide (na ≤ 8) && (decide (nb = na) && (B.all (inB · (-5000) 5000) && allV C)))) by
        rw [HE.out, HLA.out, HLB.out, HLC.out, HT.out]; cases allV C <;> simp)
      by_cases h1 : nc ≤ 70
      · by_cases h2 : na ≤ 8
        · by_cases h3 : nb = na
          · subst h3
            have hbb : ((nb : Int) == (nb : Int)) = true := by simp
            have hle1 : (nc : Int) ≤ 70 := by omega
            have hle2 : (nb : Int) ≤ 8 := by omega
            have HSM := Lib.hid (s_l5Small (H.out.ext HX.out).b)
            have HAV := Lib.hid (s_AllValid (H.out.ext HX.out).c)
            cases hs : B.all (inB · (-5000) 5000)
            · have HF := Lib.hid (show okLP A B C = false by rw [HE2.out, hs]; simp)
              rw [hs] at HSM
              clear hs
              go_wp2_with fail
              refine HSM.out.mono ?_
              rintro e w3 ⟨rfl, rfl⟩
              go_wp2_with fail
              go_ret
              exact ⟨ret_bool HF.out.symm, HX0.out.trans HX.out⟩
            · have HF := Lib.hid (show okLP A B C = allV C by rw [HE2.out, hs, decide_eq_true h1, decide_eq_true h2, decide_eq_true rfl]; rfl)
              rw [hs] at HSM
              clear hs
              go_wp2_with fail
              refine HSM.out.mono ?_
              rintro e w3 ⟨rfl, rfl⟩
              go_wp2_with fail
              refine HAV.out.mono ?_
              rintro e w3 ⟨rfl, hx⟩
              go_wp2_with fail
              go_ret
              exact ⟨ret_bool HF.out.symm, HX0.out.trans (HX.out.trans hx)⟩
          · have HF := Lib.hid (show okLP A B C = false by rw [HE2.out, decide_eq_false h3]; simp)
            have hbb : ((nb : Int) == (na : Int)) = false := by simp; omega
            have hle1 : (nc : Int) ≤ 70 := by omega
            have hle2 : (na : Int) ≤ 8 := by omega
            go_wp2_with fail
            go_ret
            exact ⟨ret_bool HF.out.symm, HX0.out.trans HX.out⟩
        · have HF := Lib.hid (show okLP A B C = false by rw [HE2.out, decide_eq_false h2]; simp)
          have hle1 : (nc : Int) ≤ 70 := by omega
          have hle2 : ¬ (na : Int) ≤ 8 := by omega
          go_wp2_with fail
          go_ret
          exact ⟨ret_bool HF.out.symm, HX0.out.trans HX.out⟩
      · have HF := Lib.hid (show okLP A B C = false by rw [HE2.out, decide_eq_false h1]; simp)
        have hle1 : ¬ (nc : Int) ≤ 70 := by omega
        go_wp2_with fail
        go_ret
        exact ⟨ret_bool HF.out.symm, HX0.out.trans HX.out⟩
end
end Go.Proofs.YtgohdmnbnhehnaaGreat
namespace Go.Proofs.YtgohdmnbnhehnaaGreat
set_option linter.unusedVariables false
set_option linter.unusedSimpArgs false
set_option maxRecDepth 100000
open Go.RowKit
set_option maxHeartbeats 8000000 in
theorem s_DotRat {w : World} {a b : Option Addr} {n cap n' cap' : Nat} {A B : List (Int × Int)} (h : Rats w a n cap A) (h' : Rats w b n' cap' B) :
    Calls Tryz.prog 182 #[.slice a n cap, .slice b n' cap'] w fun e w' => e = .returned (resR (optR (dotL A B))) ∧ Ext w w' := by
  have HL := Lib.hid h.hlen
  have HL' := Lib.hid h'.hlen
  have hcap := h.hcap
  have hmax := h.hmax
  have hcap' := h'.hcap
  have hmax' := h'.hmax
  have hx0 := Ext.alloc w (.cells #[.int .i64 0, .int .i64 0] 85)
  have HIA := Lib.hid (h.ext hx0)
  have HIB := Lib.hid (h'.ext hx0)
  have HX0 := Lib.hid hx0
  have HRB := Lib.hid (show (w.alloc (.cells #[.int .i64 0, .int .i64 0] 85)).heap[w.heap.size]? = some (.cells #[.int .i64 0, .int .i64 0] 85 (0, 0)) from heapA_new _ _ _ rfl)
  clear h h' hx0
  by_cases hne : n = n'
  · subst hne
    have HD := Lib.hid (show dotL A B = dotN A B n by unfold dotL; rw [HL.out, HL'.out, if_pos rfl])
    have hnn : ((n : Int) != (n : Int)) = false := by simp
    go_enter Tryz.func182, Tryz.ntmps182
    go_wp2_with fail
    refine (s_l3Int 0 _).mono ?_
    rintro e w1 ⟨rfl, hx1⟩
    have HX1 := Lib.hid hx1
    have HB0 := Lib.hid (Boxed.new (Ext.refl w1) 0 1)
    have HRW := Lib.hid (fun (w' : World) (hx : Ext w1 w') => (hx.block _ (by have := lt_of_block HRB.out; have := HX1.out.size; omega)).trans ((HX1.out.block _ (lt_of_block HRB.out)).trans HRB.out))
    have HXW := Lib.hid (HX0.out.trans HX1.out)
    have hsw1 : w.heap.size < w1.heap.size := by have := lt_of_block HRB.out; have := HX1.out.size; omega
    clear hx1
    go_wp2_with fail
    go_loopg [7] n (fun gk ii wr => ∃ (k : Nat) (p q : Int), Hid (gk + k = n) ∧ ii = .int .i64 (k : Int) ∧ Hid (Boxed w1 wr w1.heap.size p q) ∧ Hid (dotN A B k = some (p, q)))
    case atStart => exact ⟨0, 0, 1, Lib.hid (by omega), rfl, HB0, Lib.hid rfl⟩
    case round =>
      obtain ⟨g1, h_g1⟩ : ∃ x, x = gk := ⟨_, rfl⟩
      subst h_g1
      obtain ⟨wr1, h_wr1⟩ : ∃ x, x = wr := ⟨_, rfl⟩
      subst h_wr1
      obtain ⟨k, p, q, HK, rfl, HB, HT⟩ := hrel
      have hb0 := HB.out.c0
      have hb1 := HB.out.c1
      have hbl := HB.out.lt
      have hszb := HB.out.ext.size
      by_cases hlt : k < n
      · obtain ⟨ab, aoff, ax, ay, ha, hax, hac0, hac1⟩ := (HIA.out.ext (HX1.out.trans HB.out.ext)).at hlt
        obtain ⟨bb, boff, bx, by', hb, hbx, hbc0, hbc1⟩ := (HIB.out.ext (HX1.out.trans HB.out.ext)).at hlt
        subst ha hb
        obtain ⟨mx, my, one, hm⟩ : ∃ x y ok, mulR (ax, ay) (bx, by') = ((x, y), ok) := ⟨_, _, _, rfl⟩
        have HM := Lib.hid hm
        obtain ⟨p2, q2, two, hs2⟩ : ∃ u v ok, addR (p, q) (mx, my) = ((u, v), ok) := ⟨_, _, _, rfl⟩
        have HS2 := Lib.hid hs2
        have HST := Lib.hid (show dotN A B (k + 1) = if one = true ∧ two = true then some (p2, q2) else none by rw [dotN_step HT.out, hax, hbx, hm]; simp only; rw [hs2])
        clear hax hbx hm hs2
        go_upto_region 7 with fail
        go_cut [8, 9] (fun sx so wx => ∃ g : Nat, sx = .pointer (some ⟨g, 0, none⟩) ∧ so = .bool one ∧ Hid (Boxed wr1 wx g mx my))
        case first =>
          have hk2 : Ext wr1 wr1.drew := Ext.drew wr1
          have hka : Ext wr1 (wr1.alloc (.cells #[.int .i64 0, .int .i64 0] 85)).drew := (Ext.alloc _ _).trans (Ext.drew _)
          have HKEEP := Lib.hid (fun (w' : World) (h : Ext wr1 w') => (⟨h.cellSome hac0, h.cellSome hac1, h.cellSome hbc0, h.cellSome hbc1, h⟩ : w'.cell? ⟨ab, aoff + k * 2, none⟩ = some (.int .i64 ax) ∧ w'.cell? ⟨ab, aoff + k * 2 + 1, none⟩ = some (.int .i64 ay) ∧ w'.cell? ⟨bb, boff + k * 2, none⟩ = some (.int .i64 bx) ∧ w'.cell? ⟨bb, boff + k * 2 + 1, none⟩ = some (.int .i64 by') ∧ Ext wr1 w'))
          go_region_held3 (fun w' => w'.cell? ⟨ab, aoff + k * 2, none⟩ = some (.int .i64 ax) ∧ w'.cell? ⟨ab, aoff + k * 2 + 1, none⟩ = some (.int .i64 ay) ∧ w'.cell? ⟨bb, boff + k * 2, none⟩ = some (.int .i64 bx) ∧ w'.cell? ⟨bb, boff + k * 2 + 1, none⟩ = some (.int .i64 by') ∧ Ext wr1 w')
            (first
              | with_reducible exact HKEEP.out _ hk2
              | with_reducible exact HKEEP.out _ hka
              | with_reducible exact HKEEP.out _ ((hk2.setCell (by first | (simp; done) | (simp; omega)) _).setCell (by first | (simp; done) | (simp; omega)) _)
              | with_reducible exact HKEEP.out _ (hk2.trans (Ext.alloc _ _))
              | with_reducible exact HKEEP.out _ (hBB.put _ _).ext)
            (first
              | (go_at_call 221
                 (with_reducible refine (s_MulRat ax ay bx by' _).mono ?_)
                 rw [HM.out]
                 rintro e w3 ⟨rfl, hx_w3⟩
                 first | (with_reducible have hBB := Boxed.grow hBB hx_w3) | (with_reducible have hBB := Boxed.firstD hx_w3) | (with_reducible have hBB := Boxed.laterD hk2 hx_w3) | skip
                 first | (have b0_ := hBB.c0; have b1_ := hBB.c1; have fb_ := hBB.free) | skip
                 have hk2 : Ext wr1 w3 := by first | with_reducible exact hk2.trans hx_w3 | with_reducible exact hka.trans hx_w3 | with_reducible exact (hk2.trans (Ext.alloc _ _)).trans hx_w3
                 have hk2s := hk2.size)
              | fail)
          all_goals (go_wp2_with fail; go_meet; first | exact ⟨_, rfl, rfl, Lib.hid (hBB.put _ _)⟩ | exact ⟨_, rfl, rfl, Lib.hid (Boxed.new hk2 _ _)⟩ | exact ⟨_, rfl, rfl, Lib.hid (Boxed.new' hk2 _ _ (by simp))⟩)
        obtain ⟨g, rfl, rfl, HB1⟩ := hcut
        have g0 := HB1.out.c0
        have g1' := HB1.out.c1
        have hB3 := HB.out.grow HB1.out.ext
        have hb0' := hB3.c0
        have hb1' := hB3.c1
        have HB3 := Lib.hid hB3
        clear hb0 hb1 hac0 hac1 hbc0 hbc1 hB3
        go_wp2_with fail
        refine (s_AddRat p q mx my _).mono ?_
        rw [HS2.out]
        rintro e w4 ⟨rfl, hx4⟩
        have HB4 := Lib.hid (HB3.out.grow hx4)
        have HB5 := Lib.hid (HB4.out.grow (Ext.alloc _ (.cells #[.int .i64 p2, .int .i64 q2] 85)))
        have hr := rcell (HRW.out _ HB5.out.ext)
        obtain ⟨hr0, hr1, hrf⟩ := hr
        have HX5 := Lib.hid HB5.out.ext
        have hbf := HB5.out.free
        have hb5l := HB4.out.lt
        have hw4 := HB4.out.ext.size
        have h40 := HB4.out.c0
        have h41 := HB4.out.c1
        have h4f := HB4.out.free
        clear hx4 g0 g1' hb0' hb1'
        cases one
        · have HN := Lib.hid (show dotL A B = none by rw [HD.out]; exact dotN_none (k := k + 1) (by rw [HST.out]; simp) hlt)
          go_wp2_with fail
          refine bodyPost_ret (v := .tuple #[.agg #[.int .i64 0, .int .i64 0], .bool false]) (by simp [results, Tryz.results182, go_sem, hr0, hr1]) rfl ⟨by rw [HN.out]; rfl, (((HXW.out.trans HX5.out).store 0 (Nat.le_refl _) _).store 1 (Nat.le_refl _) _)⟩
        · cases two
          · have HN := Lib.hid (show dotL A B = none by rw [HD.out]; exact dotN_none (k := k + 1) (by rw [HST.out]; simp) hlt)
            go_wp2_with fail
            refine bodyPost_ret (v := .tuple #[.agg #[.int .i64 0, .int .i64 0], .bool false]) (by simp [results, Tryz.results182, go_sem, hr0, hr1]) rfl ⟨by rw [HN.out]; rfl, (((HXW.out.trans HX5.out).store 0 (Nat.le_refl _) _).store 1 (Nat.le_refl _) _)⟩
          · have HT2 := Lib.hid (show dotN A B (k + 1) = some (p2, q2) by rw [HST.out]; simp)
            have HB6 := Lib.hid ((HB4.out.put p2 q2).grow (Ext.alloc _ (.cells #[.int .i64 p2, .int .i64 q2] 85)))
            go_wp2_with fail
            go_roundg (g1 - 1)
            case measure => have := HK.out; omega
            case rel => exact ⟨k + 1, p2, q2, Lib.hid (by have := HK.out; omega), by go_num, HB6, HT2⟩
      · have hkn : n = k := by have := HK.out; omega
        subst hkn
        have HY := Lib.hid (show dotL A B = some (p, q) by rw [HD.out]; exact HT.out)
        have hr := rcell (HRW.out wr1 HB.out.ext)
        obtain ⟨hr0, hr1, hrf⟩ := hr
        go_wp2_with fail
        refine bodyPost_ret (v := .tuple #[.agg #[.int .i64 p, .int .i64 q], .bool true]) (by simp [results, Tryz.results182, go_sem, hr0, hr1]) rfl ⟨by rw [HY.out]; rfl, (((HXW.out.trans HB.out.ext).store 0 (Nat.le_refl _) _).store 1 (Nat.le_refl _) _)⟩
  · have HN := Lib.hid (show dotL A B = none by unfold dotL; rw [HL.out, HL'.out, if_neg hne])
    have hnn : ((n : Int) != (n' : Int)) = true := by simp; omega
    have hr := rcell HRB.out
    obtain ⟨hr0, hr1, hrf⟩ := hr
    go_enter Tryz.func182, Tryz.ntmps182
    go_wp2_with fail
    refine bodyPost_ret (v := .tuple #[.agg #[.int .i64 0, .int .i64 0], .bool false]) (by simp [results, Tryz.results182, go_sem, hr0, hr1]) rfl ⟨by rw [HN.out]; rfl, HX0.out⟩
theorem ret_tup {v : Value} {a b : Bool} (h : a = b) : Ending.returned (.tuple #[v, .bool a]) = .returned (.tuple #[v, .bool b]) := by rw [h]
set_option maxHeartbeats 4000000 in
theorem s_IntsToRats {w : World} {a : Option Addr} {n cap : Nat} {l : List Int} (h : Ints w a n cap l) (hbig : n ≤ 1048576) :
    Calls Tryz.prog 219 #[.slice a n cap] w fun e w' => (∃ v, e = .returned (.tuple #[v, .bool (fitL l)]) ∧ OwnR w' w.heap.size v (ratsL l)) ∧ Ext w w' := by
  have hcap := h.hcap
  have hmax := h.hmax
  have HL := Lib.hid h.hlen
  have HI := Lib.hid h
  have HO := Lib.hid (OwnR.made w w.heap.size (Nat.le_refl _))
  clear h
  go_enter Tryz.func219, Tryz.ntmps219
  go_wp2_with fail
  go_loopg [4, 5] n (fun gk oo ii wr => ∃ (k : Nat) (a1 : Option Addr) (n1 c1 : Nat), Hid (gk + k = n) ∧ ii = .int .i64 (k : Int) ∧ oo = .slice a1 n1 c1 ∧ Hid ((l.take k).all (fun c => inB c (-1000000000) 1000000000) = true) ∧ Hid (OwnR wr w.heap.size (.slice a1 n1 c1) (wholeL (l.take k))) ∧ Hid (Ext w wr))
  case atStart => exact ⟨0, _, _, _, Lib.hid (by omega), rfl, rfl, Lib.hid rfl, HO, Lib.hid (Ext.alloc _ _)⟩
  case round =>
    obtain ⟨g1, h_g1⟩ : ∃ x, x = gk := ⟨_, rfl⟩
    subst h_g1
    obtain ⟨wr1, h_wr1⟩ : ∃ x, x = wr := ⟨_, rfl⟩
    subst h_wr1
    obtain ⟨k, a1, n1, c1, HK, rfl, rfl, HA, HO1, HX⟩ := hrel
    have hsz := HX.out.size
    by_cases hlt : k < n
    · obtain ⟨b, off, rfl, hc0⟩ := (HI.out.ext HX.out).at hlt
      obtain ⟨x, hx⟩ : ∃ x, x = l[k]?.getD 0 := ⟨_, rfl⟩
      rw [← hx] at hc0
      have HC := Lib.hid (s_l1In x (-1000000000) 1000000000 wr1)
      cases hb : inB x (-1000000000) 1000000000
      all_goals
        rw [hb] at HC
      · have HF := Lib.hid (show fitL l = false from all_falseG (d := 0) (by rw [HL.out]; exact hlt) (by rw [← hx]; exact hb))
        have HR := Lib.hid (show ratsL l = [] by unfold ratsL; rw [HF.out]; rfl)
        clear hx hb
        go_wp2_with (first | (go_at_call 56; refine HC.out.mono ?_; rintro e w2 ⟨rfl, rfl⟩))
        go_ret2
        exact ⟨⟨_, ret_tup HF.out.symm, by rw [HR.out]; exact OwnR.made _ _ hsz⟩, HX.out.trans (Ext.alloc _ _)⟩
      · have HT := Lib.hid (show (l.take (k + 1)).all (fun c => inB c (-1000000000) 1000000000) = true by rw [all_takeG (d := 0) (by rw [HL.out]; exact hlt), HA.out, ← hx, hb]; rfl)
        have HSN := Lib.hid (show wholeL (l.take k) ++ [(x, 1)] = wholeL (l.take (k + 1)) by rw [hx]; exact wholeL_snoc (by rw [HL.out]; exact hlt))
        have HLL := Lib.hid (show (wholeL (l.take k)).length = k by rw [wholeL_len, List.length_take, HL.out]; omega)
        clear hx hb
        go_wp2_with (first | (go_at_call 56; refine HC.out.mono ?_; rintro e w2 ⟨rfl, rfl⟩))
        refine (s_l3Int x _).mono ?_
        rintro e w3 ⟨rfl, hx⟩
        have X3 := Lib.hid (HX.out.trans hx)
        have HO3 := Lib.hid (HO1.out.ext hx)
        have hs3 := X3.out.size
        clear hx
        go_wp2_with (first
          | (at_builtin; refine append_rats rfl _ _ rfl w.heap.size (.slice a1 n1 c1) _ rfl (HO3.out.ext (Ext.alloc _ _)) _ 1 _ [(x, 1)] rfl (Rats.one' _ _ _ _ _ (by simp)) (by rw [HLL.out]; omega) (by simp; omega) ?_; intro v5 w5 ho hg hnear; have X5 := Lib.hid (ext_grown (X3.out.trans (Ext.alloc _ _)) hg (fun j hj => (HO3.out.lt j hj).1)); obtain ⟨a5, n5, p5, rfl, HN5⟩ := ho.var; have HO5 := Lib.hid ho; clear ho hg hnear))
        go_roundg (g1 - 1)
        case measure => have := HK.out; omega
        case rel => exact ⟨k + 1, a5, n5, p5, Lib.hid (by have := HK.out; omega), by go_num, rfl, HT, Lib.hid (by rw [← HSN.out]; exact HO5.out), X5⟩
    · have HT := Lib.hid (show l.take k = l from List.take_of_length_le (by rw [HL.out]; have := HK.out; omega))
      have HF := Lib.hid (show fitL l = true by have := HA.out; rw [HT.out] at this; exact this)
      have HR := Lib.hid (show ratsL l = wholeL (l.take k) by unfold ratsL; rw [HF.out, HT.out]; rfl)
      go_wp2_with fail
      go_ret2
      exact ⟨⟨_, ret_tup HF.out.symm, by rw [HR.out]; exact HO1.out⟩, HX.out⟩
end Go.Proofs.YtgohdmnbnhehnaaGreat
