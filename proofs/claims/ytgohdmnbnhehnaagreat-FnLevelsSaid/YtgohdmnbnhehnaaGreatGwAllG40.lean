import Derived.Test.YtgohdmnbnhehnaaGreatGwAllG39
import Derived.Test.YtgohdmnbnhehnaaGreatGwAllG14
namespace Go.Proofs.YtgohdmnbnhehnaaGreat
set_option linter.unusedVariables false
set_option linter.unusedSimpArgs false
set_option maxRecDepth 100000
open Go.RowKit
theorem OwnR.grownU {w w' : World} {base base' : Nat} {v v' : Value} {l : List (Int × Int)} {vs : List Value} (h : OwnR w base v l) (hv : OwnV w base' v' vs) (hg : w.grownBy w' v'.ownBlock) : OwnR w' base v l :=
 h.keep fun q hq => hg.block q (h.lt q hq).2 fun e => ownsRow_apart (show (85 : Nat) ≠ 22 by decide) h hv q hq e.symm
theorem pair_neS {x y x' y' : Int} (h : ((x == x') && (y == y')) = false) : ¬ (x, y) = (x', y') := by
 intro e
 simp only [Prod.mk.injEq] at e
 rw [e.1, e.2] at h
 simp at h
theorem pair_eqS {x y x' y' : Int} (h : ((x == x') && (y == y')) = true) : (x, y) = (x', y') := by
 simp only [Bool.and_eq_true, beq_iff_eq] at h
 rw [h.1, h.2]
set_option maxHeartbeats 8000000 in
theorem s_LevelsOf {w : World} {p : Int} {a : Option Addr} {n cap : Nat} {V : List Int} (h : Ints w a n cap V) {b : Option Addr} {m mcap : Nat} {X : List (Int × Int)} (hx : Rats w b m mcap X) :
 Calls Tryz.prog 53 #[pair p a n cap, .slice b m mcap] w fun e w' => (∃ v, e = .returned v ∧ OwnSS w' w.heap.size v (levS p V X)) ∧ Ext w w' := by
 obtain ⟨W, hW⟩ : ∃ W, W = w.alloc (.cells #[.int .i64 p, .slice a n cap] 47) := ⟨_, rfl⟩
 have hX : Ext w W := by rw [hW]; exact Ext.alloc _ _
 have HWS := Lib.hid (show W.heap.size = w.heap.size + 1 by rw [hW]; simp)
 have k0 : W.cell? ⟨w.heap.size, 0, none⟩ = some (.int .i64 p) := by rw [hW]; simp
 have k1 : W.cell? ⟨w.heap.size, 1, none⟩ = some (.slice a n cap) := by rw [hW]; simp
 have K0 := Lib.hid k0
 have K1 := Lib.hid k1
 have HX := Lib.hid hX
 have HI := Lib.hid (h.ext hX)
 have HR := Lib.hid (hx.ext hX)
 have hcap := h.hcap
 have hmax := h.hmax
 have HVL := Lib.hid h.hlen
 have hxa := Ext.alloc W (.cells #[] 22)
 have HE0 := s_ExcessVector (p := p) (HI.out.ext hxa) (HR.out.ext hxa)
 obtain ⟨l, hl⟩ : ∃ l, l = (allX p V X).getD [] := ⟨_, rfl⟩
 have HLD := Lib.hid hl
 rw [← hl] at HE0
 have HE := Lib.hid HE0
 have HLS := Lib.hid (show levS p V X = levT l l.length by unfold levS levL; rw [← hl])
 have HO0 := Lib.hid (OwnV.madeS W W.heap.size _ rfl (Nat.le_refl _))
 have k0' := hxa.cellSome k0
 have k1' := hxa.cellSome k1
 have HXA := Lib.hid hxa
 clear h hx hX hl HE0 hxa k0 k1
 go_enter Tryz.func53, Tryz.ntmps53
 go_upto_region 1 with fail
 rw [← hW]
 clear hW
 go_wp2_with fail
 refine HE.out.mono ?_
 rintro e w2 ⟨⟨v, rfl, ho⟩, hx2⟩
 obtain ⟨aa, na, ca, rfl, HN⟩ := ho.var
 have HNA := Lib.hid (show l.length = na by have := HN.out; rwa [srtX_len] at this)
 have HOA := Lib.hid (show OwnR w2 W.heap.size (.slice aa na ca) (srtX l) from ho.mono (by simp))
 have HOV := Lib.hid (HO0.out.ext hx2)
 have X2 := Lib.hid (HXA.out.trans hx2)
 have HNV := Lib.hid (show 0 < na → allX p V X = some l ∧ gameOk p V = true ∧ na = n - 2 ∧ 2 < n ∧ n ≤ 32 by
  intro h0
  have h1 := HLD.out
  have h2 := HNA.out
  cases hA : allX p V X with
  | none => rw [hA] at h1; rw [h1] at h2; simp at h2; omega
  | some r =>
    rw [hA] at h1
    simp only [Option.getD_some] at h1
    subst h1
    have h3 := allX_len hA
    obtain ⟨q, _, h4, h5, hlen, _, _⟩ := gameOk_len (payP_game h3.1)
    have := cN_le q h5
    have h6 := HVL.out
    exact ⟨rfl, payP_game h3.1, by omega, by omega, by omega⟩)
 have hac := ho.rats.hcap
 have ham := ho.rats.hmax
 have hna9 : na ≤ 32 := by
  rcases Nat.eq_zero_or_pos na with h0 | h0
  ·omega
  ·have := HNV.out h0; omega
 clear ho hx2 HN k0' k1' HO0 HE
 go_wp2_with fail
 go_loopg [5, 7] na (fun gk oo ii wr => ∃ (k : Nat) (a3 : Option Addr) (n3 p3 : Nat) (vs : List Value), Hid (gk + k = na) ∧ oo = .slice a3 n3 p3 ∧ ii = .int .i64 (k : Int) ∧ Hid (OwnV wr W.heap.size (.slice a3 n3 p3) vs) ∧ Hid (RowsI wr W.heap.size vs (levT l k)) ∧ Hid (OwnR wr W.heap.size (.slice aa na ca) (srtX l)) ∧ Hid (Ext W wr))
 case atStart => exact ⟨0, _, _, _, [], Lib.hid (by omega), rfl, rfl, HOV, Lib.hid (RowsI.nil _ _), HOA, X2⟩
 case round =>
  obtain ⟨g1, h_g1⟩ : ∃ x, x = gk := ⟨_, rfl⟩
  subst h_g1
  obtain ⟨wr1, h_wr1⟩ : ∃ x, x = wr := ⟨_, rfl⟩
  subst h_wr1
  obtain ⟨k, a3, n3, p3, vs, HK, rfl, rfl, HV, HRW, HOC, HXR⟩ := hrel
  have hszr := HXR.out.size
  by_cases hlt : k < na
  ·obtain ⟨ga, hga, _, _, _⟩ := HOC.out.block hlt
   obtain ⟨ex, ey, hxy⟩ := getQ (srtX l) k
   have HXY := Lib.hid hxy
   obtain ⟨xb, xo, ex1, ey1, rfl, hxy1, hc0, hc1⟩ := HOC.out.rats.at hlt
   rw [hxy] at hxy1
   simp only [Prod.mk.injEq] at hxy1
   obtain ⟨rfl, rfl⟩ := hxy1
   simp only [Option.some.injEq, Addr.mk.injEq, and_true] at hga
   obtain ⟨rfl, rfl⟩ := hga
   rw [Nat.zero_add] at hc0 hc1
   obtain ⟨hAll, hGO, hnn, hn2, hn32⟩ := HNV.out (by omega)
   have HALL := Lib.hid hAll
   have HGO := Lib.hid hGO
   have HLV := Lib.hid (show vs.length ≤ k by rw [HRW.out.len]; exact levT_len _ _)
   have HNN := Lib.hid hnn
   clear hxy hAll hGO hnn
   have hk2 : Ext wr1 wr1.drew := Ext.drew wr1
   by_cases hk0 : k = 0
   rotate_left
   obtain ⟨q, hkq⟩ : ∃ q, k = q + 1 := ⟨k - 1, by omega⟩
   obtain ⟨x', y', hxy'⟩ := getQ (srtX l) q
   obtain ⟨xb2, xo2, u2, v2, he2, huv2, cb0, cb1⟩ := HOC.out.rats.at (k := q) (by omega)
   simp only [Option.some.injEq, Addr.mk.injEq, and_true] at he2
   obtain ⟨hz1, hz2⟩ := he2
   subst hz1 hz2
   rw [hxy'] at huv2
   simp only [Prod.mk.injEq] at huv2
   obtain ⟨rfl, rfl⟩ := huv2
   rw [Nat.zero_add] at cb0 cb1
   have hkg : 0 < k := by omega
   have hqn : q < na := by omega
   have HKG := Lib.hid hkg
   have HXY' := Lib.hid (show (srtX l)[k - 1]?.getD (0, 0) = (x', y') by rw [hkq]; exact hxy')
   have hw1 : IntKind.i64.wrap ((k : Int) - 1) = (q : Int) := by rw [IntKind.wrap_i64]; omega
   have hw2 : wrap64 ((k : Int) - 1) = (q : Int) := by unfold wrap64; omega
   have hw3 : (k : Int) - 1 = (q : Int) := by omega
   have hw4 : IntKind.i64.wrap (q : Int) = (q : Int) := by rw [IntKind.wrap_i64]; omega
   have hw5 : wrap64 (q : Int) = (q : Int) := by unfold wrap64; omega
   clear hxy' hkq hk0
   focus
    cases hx1 : (ex == x')
    all_goals
     cases hy1 : (ey == y')
   rotate_left 3
   ·have HSK := Lib.hid (levT_skip (l := l) HKG.out (by rw [HXY.out, HXY'.out]; exact pair_eqS (by rw [hx1, hy1]; rfl)))
    go_wp2_with fail
    go_region_held3 (fun w' => w'.cell? ⟨xb, k * 2, none⟩ = some (.int .i64 ex) ∧ w'.cell? ⟨xb, k * 2 + 1, none⟩ = some (.int .i64 ey) ∧ w'.cell? ⟨xb, q * 2, none⟩ = some (.int .i64 x') ∧ w'.cell? ⟨xb, q * 2 + 1, none⟩ = some (.int .i64 y') ∧ Ext wr1 w')
     (exact ⟨hk2.cellSome hc0, hk2.cellSome hc1, hk2.cellSome cb0, hk2.cellSome cb1, hk2⟩)
     (fail)
    have HV2 := Lib.hid (HV.out.ext hk2)
    have HR2 := Lib.hid (HRW.out.ext hk2)
    have HC2 := Lib.hid (HOC.out.ext hk2)
    have HX2 := Lib.hid (HXR.out.trans hk2)
    clear hw1 hw2 hw3 hw4 hw5
    go_wp2_with fail
    go_roundg (g1 - 1)
    case measure => have := HK.out; omega
    case rel => exact ⟨k + 1, a3, n3, p3, vs, Lib.hid (by have := HK.out; omega), rfl, by go_num, HV2, Lib.hid (by rw [HSK.out]; exact HR2.out), HC2, HX2⟩
   focus
    have HTK := Lib.hid (levT_take (l := l) (k := k) (by omega))
    rw [HXY.out, HNA.out] at HTK
    have hkg : ¬ 0 < k := by omega
    clear hk0
    go_wp2_with fail
    refine wp_region_held_drew (S := (fun w' => Ext wr1 w')) (by kernel_rfl) ?_ (fun hHeld => ?_)
    ·exact hk2
    refine tk 0 ?_
    refine tk 1 ?_
    refine tk 2 ?_
    refine sk 3 ?_
    refine sk 4 ?_
    refine sk 5 ?_
    refine sk 6 ?_
    refine sk 7 ?_
    refine sk 8 ?_
    refine sk 9 ?_
    refine sk 10 ?_
    refine sk 11 ?_
    refine sk 12 ?_
    refine tk 13 ?_
    refine wpAnyH_done (by kernel_rfl) ?_ _
    obtain ⟨wd, hwd⟩ : ∃ y, y = wr1.drew := ⟨_, rfl⟩
    rw [← hwd] at hk2 hHeld ⊢
    clear hwd hHeld hkg
   rotate_left
   iterate 3
    focus
     have HTK := Lib.hid (levT_take (l := l) (k := k) (fun h => pair_neS (x := ex) (y := ey) (x' := x') (y' := y') (by rw [hx1, hy1]; rfl) ((HXY.out.symm.trans h.2).trans HXY'.out)))
     rw [HXY.out, HNA.out] at HTK
     go_wp2_with fail
     go_region_held3 (fun w' => w'.cell? ⟨xb, k * 2, none⟩ = some (.int .i64 ex) ∧ w'.cell? ⟨xb, k * 2 + 1, none⟩ = some (.int .i64 ey) ∧ w'.cell? ⟨xb, q * 2, none⟩ = some (.int .i64 x') ∧ w'.cell? ⟨xb, q * 2 + 1, none⟩ = some (.int .i64 y') ∧ Ext wr1 w')
      (exact ⟨hk2.cellSome hc0, hk2.cellSome hc1, hk2.cellSome cb0, hk2.cellSome cb1, hk2⟩)
      (fail)
     clear hw1 hw2 hw3 hw4 hw5 cb0 cb1
     obtain ⟨wd, hwd⟩ : ∃ y, y = wr1.drew := ⟨_, rfl⟩
     rw [← hwd] at hk2 ⊢
     clear hwd hkg hx1 hy1 hqn HKG HXY'
    rotate_left
   all_goals
    have HXd := Lib.hid (HXR.out.trans hk2)
    have HVd := Lib.hid (HV.out.ext hk2)
    have HRd := Lib.hid (HRW.out.ext hk2)
    have HCd := Lib.hid (HOC.out.ext hk2)
    have hszd := HXd.out.size
    have HO4 := Lib.hid (OwnI.madeS wd wd.heap.size _ rfl (Nat.le_refl _))
    clear hk2 hc0 hc1
    go_wp2_with fail
    go_loopg [8, 9] na (fun gk row ii wr => ∃ (j s : Nat) (a4 : Option Addr) (n4 p4 : Nat), Hid (gk + j = na) ∧ Hid (s = 1 + j) ∧ row = .slice a4 n4 p4 ∧ ii = .int .i64 (s : Int) ∧ Hid (OwnI wr wd.heap.size (.slice a4 n4 p4) (levP l (ex, ey) j)) ∧ Hid (Ext wd wr))
    case atStart => exact ⟨0, 1, _, _, _, Lib.hid (by omega), Lib.hid rfl, rfl, rfl, HO4, Lib.hid (Ext.alloc _ _)⟩
    case round =>
     obtain ⟨g2, h_g2⟩ : ∃ x, x = gk := ⟨_, rfl⟩
     subst h_g2
     obtain ⟨wr2, h_wr2⟩ : ∃ x, x = wr := ⟨_, rfl⟩
     subst h_wr2
     obtain ⟨j, s, a4, n4, p4, HJ, HS, rfl, rfl, HOJ, HXJ⟩ := hrel
     have hszj := HXJ.out.size
     have c0 := (HXd.out.trans HXJ.out).cellSome K0.out
     have c1 := (HXd.out.trans HXJ.out).cellSome K1.out
     have hs1 : 1 ≤ s := by have := HS.out; omega
     by_cases hlt2 : s + 1 < n
     ·have hjn : j < na := by have := HS.out; have := HNN.out; omega
      have HE2 := s_ExcessOf (p := p) (HI.out.ext (HXd.out.trans HXJ.out)) (HR.out.ext (HXd.out.trans HXJ.out)) HGO.out (s := s) (by omega)
      obtain ⟨u, v, huv⟩ := getQ l j
      have hex : excS V X s = some (u, v) := by
       have h1 := HALL.out
       rw [allX_ok (allX_len h1).1] at h1
       have h2 := runT_at h1 j (by have := HVL.out; have := HNN.out; omega)
       rw [huv] at h2
       rw [HS.out]; exact h2
      rw [hex] at HE2
      have HE2 := Lib.hid HE2
      have HUV := Lib.hid huv
      clear huv hex
      go_wp2_with fail
      refine HE2.out.mono ?_
      rintro e w3 ⟨rfl, hx3⟩
      obtain ⟨w4, hw4⟩ : ∃ E, E = w3.alloc (.cells #[.int .i64 u, .int .i64 v] 85) := ⟨_, rfl⟩
      have hx4 : Ext w3 w4 := by rw [hw4]; exact Ext.alloc _ _
      have d0 : w4.cell? ⟨w3.heap.size, 0, none⟩ = some (.int .i64 u) := by rw [hw4]; simp
      have d1 : w4.cell? ⟨w3.heap.size, 1, none⟩ = some (.int .i64 v) := by rw [hw4]; simp
      have HXJ4 := Lib.hid ((HXJ.out.trans hx3).trans hx4)
      have HOJ4 := Lib.hid ((HOJ.out.ext hx3).ext hx4)
      obtain ⟨yb, yo, ex1, ey1, he1, hxy1, f0, f1⟩ := (HCd.out.ext HXJ4.out).rats.at hlt
      rw [HXY.out] at hxy1
      simp only [Prod.mk.injEq] at hxy1
      obtain ⟨rfl, rfl⟩ := hxy1
      simp only [Option.some.injEq, Addr.mk.injEq, and_true] at he1
      obtain ⟨rfl, rfl⟩ := he1
      rw [Nat.zero_add] at f0 f1
      obtain ⟨K, hK⟩ : ∃ K, K = cmpR (u, v) (ex, ey) := ⟨_, rfl⟩
      have HKK := Lib.hid hK
      clear hx3 hx4 c0 c1 hK
      go_upto_region 12 with fail
      rw [← hw4]
      clear hw4
      by_cases hneg : K < 0
      ·have HSK := Lib.hid (levP_skip (l := l) (e := (ex, ey)) (k := j) (by rw [HUV.out, ← HKK.out]; exact hneg))
       have hng : ¬ K ≥ 0 := by omega
       have hk2 : Ext w4 w4.drew := Ext.drew w4
       have hka := hk2
       have HKEEP := Lib.hid (fun (w' : World) (h : Ext w4 w') => (⟨h.cellSome d0, h.cellSome d1, h.cellSome f0, h.cellSome f1, h⟩ : w'.cell? ⟨w3.heap.size, 0, none⟩ = some (.int .i64 u) ∧ w'.cell? ⟨w3.heap.size, 1, none⟩ = some (.int .i64 v) ∧ w'.cell? ⟨xb, k * 2, none⟩ = some (.int .i64 ex) ∧ w'.cell? ⟨xb, k * 2 + 1, none⟩ = some (.int .i64 ey) ∧ Ext w4 w'))
       go_region_held3 (fun w' => w'.cell? ⟨w3.heap.size, 0, none⟩ = some (.int .i64 u) ∧ w'.cell? ⟨w3.heap.size, 1, none⟩ = some (.int .i64 v) ∧ w'.cell? ⟨xb, k * 2, none⟩ = some (.int .i64 ex) ∧ w'.cell? ⟨xb, k * 2 + 1, none⟩ = some (.int .i64 ey) ∧ Ext w4 w')
        (with_reducible exact HKEEP.out _ hk2)
        (first
          | (go_at_call 126
             (with_reducible refine (s_CompareRat _ _ _ _ _).mono ?_)
             rw [← HKK.out]
             rintro e w5 ⟨rfl, hx_w5⟩
             have hk2 : Ext w4 w5 := hk2.trans hx_w5
             have hs_w5 := hk2.size)
          | fail)
       clear HKEEP hka
       have HO5 := Lib.hid (HOJ4.out.ext hk2)
       have HX5 := Lib.hid (HXJ4.out.trans hk2)
       clear d0 d1 f0 f1
       go_wp2_with fail
       go_roundg (g2 - 1)
       case measure => have := HJ.out; omega
       case rel => exact ⟨j + 1, s + 1, a4, n4, p4, Lib.hid (by have := HJ.out; omega), Lib.hid (by have := HS.out; omega), rfl, by go_num, Lib.hid (by rw [HSK.out]; exact HO5.out), HX5⟩
      ·have HTP := Lib.hid (show levP l (ex, ey) (j + 1) = levP l (ex, ey) j ++ [(s : Int)] from (levP_take (l := l) (e := (ex, ey)) (k := j) (by rw [HUV.out, ← HKK.out]; exact hneg)).trans (by rw [HS.out, Nat.add_comm 1 j]))
       have hng : K ≥ 0 := by omega
       have HLL := Lib.hid (levP_len l (ex, ey) j)
       have hk2 : Ext w4 w4.drew := Ext.drew w4
       have hka := hk2
       have HKEEP := Lib.hid (fun (w' : World) (h : Ext w4 w') => (⟨h.cellSome d0, h.cellSome d1, h.cellSome f0, h.cellSome f1, h⟩ : w'.cell? ⟨w3.heap.size, 0, none⟩ = some (.int .i64 u) ∧ w'.cell? ⟨w3.heap.size, 1, none⟩ = some (.int .i64 v) ∧ w'.cell? ⟨xb, k * 2, none⟩ = some (.int .i64 ex) ∧ w'.cell? ⟨xb, k * 2 + 1, none⟩ = some (.int .i64 ey) ∧ Ext w4 w'))
       go_region_held3 (fun w' => w'.cell? ⟨w3.heap.size, 0, none⟩ = some (.int .i64 u) ∧ w'.cell? ⟨w3.heap.size, 1, none⟩ = some (.int .i64 v) ∧ w'.cell? ⟨xb, k * 2, none⟩ = some (.int .i64 ex) ∧ w'.cell? ⟨xb, k * 2 + 1, none⟩ = some (.int .i64 ey) ∧ Ext w4 w')
        (with_reducible exact HKEEP.out _ hk2)
        (first
          | (go_at_call 126
             (with_reducible refine (s_CompareRat _ _ _ _ _).mono ?_)
             rw [← HKK.out]
             rintro e w5 ⟨rfl, hx_w5⟩
             have hk2 : Ext w4 w5 := hk2.trans hx_w5
             have hs_w5 := hk2.size)
          | fail)
       clear HKEEP hka
       have HO5 := Lib.hid (HOJ4.out.ext hk2)
       have HX5 := Lib.hid (HXJ4.out.trans hk2)
       have hs5 := HX5.out.size
       clear d0 d1 f0 f1
       go_wp2_with (first
        | (at_builtin
           have T1 := HO5.out.ext (Ext.alloc w5 (.cells #[.int .i64 (s : Int)] 3))
           refine append_ints rfl _ _ rfl wd.heap.size (.slice a4 n4 p4) _ rfl T1 _ 1 _ [(s : Int)] rfl (Ints.oneS _ _ _ _ (by simp)) (by have := HLL.out; omega) (by simp; omega) ?_
           intro v6 w6 ho hg hnear
           obtain ⟨a6, n6, p6, rfl, HN6⟩ := ho.var
           have HO6 := Lib.hid ho
           have X6 := Lib.hid (ext_grown (HX5.out.trans (Ext.alloc w5 (.cells #[.int .i64 (s : Int)] 3))) hg (fun q hq => (HO5.out.lt q hq).1))
           clear ho hg hnear T1))
       go_roundg (g2 - 1)
       case measure => have := HJ.out; omega
       case rel => exact ⟨j + 1, s + 1, a6, n6, p6, Lib.hid (by have := HJ.out; omega), Lib.hid (by have := HS.out; omega), rfl, by go_num, Lib.hid (by rw [HTP.out]; exact HO6.out), X6⟩
     ·have hjm : j = na := by have := HJ.out; have := HS.out; have := HNN.out; omega
      subst hjm
      go_wp2_with (first
       | (at_builtin
          have T1 := (HVd.out.ext HXJ.out).ext (Ext.alloc wr2 (.cells #[.slice a4 n4 p4] 22))
          refine append_slice rfl _ _ rfl W.heap.size (.slice a3 n3 p3) vs rfl T1 _ _ 1 rfl (by simp; rfl) rfl (by have := HLV.out; omega) (by simp; omega) ?_
          intro v6 w6 ho hg hnear
          obtain ⟨a6, n6, p6, rfl, HN6⟩ := ho.var
          have HO6 := Lib.hid ho
          have HC6 := Lib.hid (((HCd.out.ext HXJ.out).ext (Ext.alloc wr2 (.cells #[.slice a4 n4 p4] 22))).grownU T1 hg)
          have HR6 := Lib.hid (((HRd.out.snoc HXJ.out HOJ.out hszd).ext (Ext.alloc _ _)).grownV T1 hg)
          have X6 := Lib.hid (ext_grown ((HXd.out.trans HXJ.out).trans (Ext.alloc wr2 (.cells #[.slice a4 n4 p4] 22))) hg (fun q hq => (HVd.out.lt q hq).1))
          clear ho hg hnear T1))
      go_roundg (g1 - 1)
      case measure => have := HK.out; omega
      case rel => exact ⟨k + 1, a6, n6, p6, _, Lib.hid (by have := HK.out; omega), rfl, by go_num, HO6, Lib.hid (by rw [HTK.out]; exact HR6.out), HC6, X6⟩
  ·have hkn : k = na := by have := HK.out; omega
   subst hkn
   go_wp2_with fail
   go_ret
   exact ⟨⟨_, rfl, by rw [HLS.out, HNA.out]; exact OwnSS.mono' ⟨vs, HV.out, HRW.out⟩ (by have := HWS.out; omega)⟩, HX.out.trans HXR.out⟩
theorem levP_mem {l : List (Int × Int)} {e : Int × Int} : ∀ {m : Nat}, ∀ x ∈ levP l e m, 1 ≤ x ∧ x ≤ (m : Int)
 | 0, x, h => by simp [levP] at h
 | m + 1, x, h => by
   by_cases hc : cmpR (l[m]?.getD (0, 0)) e < 0
   ·rw [levP_skip hc] at h
    have := levP_mem x h; omega
   ·rw [levP_take hc] at h
    rcases List.mem_append.1 h with h | h
    ·have := levP_mem x h; omega
    ·rw [List.mem_singleton] at h; subst h; omega
theorem allX_small {p : Int} {V : List Int} {X : List (Int × Int)} {l : List (Int × Int)} (h : allX p V X = some l) : l.length ≤ 32 := by
 have h3 := allX_len h
 obtain ⟨q, _, h4, h5, hlen, _, _⟩ := gameOk_len (payP_game h3.1)
 have := cN_le q h5
 omega
theorem levS_bd (p : Int) (V : List Int) (X : List (Int × Int)) : (levS p V X).length ≤ 32 ∧ ∀ r ∈ levS p V X, r.length ≤ 32 ∧ ∀ k : Nat, r[k]?.getD 0 ≤ 9223372036854775807 := by
 cases h : allX p V X with
 | none => rw [levS_none h]; simp
 | some l =>
   have hl := allX_small h
   rw [levS_some h]
   refine ⟨by have := levT_len l l.length; unfold levL; omega, fun r hr => ?_⟩
   unfold levL levT at hr
   obtain ⟨e, _, rfl⟩ := List.mem_map.1 hr
   refine ⟨by have := levP_len l e l.length; omega, fun k => ?_⟩
   by_cases hk : k < (levP l e l.length).length
   ·rw [List.getElem?_eq_getElem hk, Option.getD_some]
    have := levP_mem _ (List.getElem_mem hk); omega
   ·rw [List.getElem?_eq_none (by omega)]; simp
end Go.Proofs.YtgohdmnbnhehnaaGreat
