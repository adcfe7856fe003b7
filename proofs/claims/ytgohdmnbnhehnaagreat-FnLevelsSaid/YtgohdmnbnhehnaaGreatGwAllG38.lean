import Derived.Test.YtgohdmnbnhehnaaGreatGwAllG37
import Derived.Test.YtgohdmnbnhehnaaGreatGwAllG36
import Derived.Test.YtgohdmnbnhehnaaGreatGwAllG33
namespace Go.Proofs.YtgohdmnbnhehnaaGreat
set_option linter.unusedVariables false
set_option linter.unusedSimpArgs false
set_option maxRecDepth 100000
open Go.RowKit
theorem excX_all {p : Int} {V : List Int} {X : List (Int × Int)} {n : Nat} (h : V.length = n) : excX p V X 1 (n - 2) = allX p V X := by unfold excX allX; rw [h]
theorem game_two {p : Int} {V : List Int} {n : Nat} (hl : V.length = n) (h : gameOk p V = true) : (n : Int) - 2 + 1 = ((1 : Nat) : Int) + ((n - 2 : Nat) : Int) ∧ 1 + (n - 2) ≤ n := by
 obtain ⟨q, _, h1, h5, hlen, _, _⟩ := gameOk_len h
 have : ∀ q : Fin 6, 1 ≤ q.val → 2 ≤ cN q.val := by decide
 have := this ⟨q, by omega⟩ h1
 simp only at this
 omega
theorem OwnR.grownV {w w' : World} {base base' : Nat} {v v' : Value} {l : List (Int × Int)} {vs : List Value} (h : OwnR w base v l) (hv : OwnV w base' v' vs) (hg : w.grownBy w' v'.ownBlock) : OwnR w' base v l :=
 h.keep fun q hq => hg.block q (h.lt q hq).2 fun e => ownsRow_apart (show (85 : Nat) ≠ 22 by decide) h hv q hq e.symm
set_option maxHeartbeats 4000000 in
theorem i_ExcessVector {w : World} {p : Int} {a : Option Addr} {n cap : Nat} {V : List Int} (h : Ints w a n cap V) {b : Option Addr} {m mcap : Nat} {X : List (Int × Int)} (hx : Rats w b m mcap X) {l : List (Int × Int)} (hA : allX p V X = some l) (hpos : 0 < l.length) :
 Calls Tryz.prog 122 #[pair p a n cap, .slice b m mcap] w fun e w' => (∃ v, e = .returned v ∧ OwnR w' w.heap.size v (srtX l)) ∧ Ext w w' := by
 have HX := Lib.hid (Ext.alloc w (.cells #[.int .i64 p, .slice a n cap] 47))
 have HE := i_excesses (p := p) (h.ext HX.out) (hx.ext HX.out) 1 (n - 2) ((n : Int) - 2) (game_two h.hlen)
 rw [excX_all h.hlen, hA] at HE
 have HE := Lib.hid HE
 have hcap := h.hcap
 have hmax := h.hmax
 have hn2 : 2 < n := by
  have h1 := (allX_len hA).2
  have h2 := h.hlen
  omega
 have hn32 : n ≤ 32 := by
  obtain ⟨q, _, h1, h5, hlen, _, _⟩ := gameOk_len (payP_game (allX_len hA).1)
  have := cN_le q h5
  have h2 := h.hlen
  omega
 have HV := Lib.hid (allX_val hA)
 have HPOS := Lib.hid hpos
 have HLN := Lib.hid (show l.length ≤ 1000000 by have h1 := (allX_len hA).2; have h2 := h.hlen; omega)
 clear h hx hA hpos
 go_enter Tryz.func122, Tryz.ntmps122
 go_wp2_with fail
 refine HE.out.mono ?_
 rintro e w1 ⟨⟨v, rfl, ho⟩, hx1⟩
 obtain ⟨a1, n1, c1, rfl, HN⟩ := ho.var
 have ho : OwnR w1 _ (.slice a1 n1 c1) l := ho
 have hn1 : 0 < n1 := by have h1 := HN.out; have h2 := HPOS.out; change l.length = n1 at h1; omega
 obtain ⟨g, rfl, hbg, _, _⟩ := ho.block hn1
 have HS := Lib.hid (i_sortX ho HV.out (by have h1 := ho.rats.hlen; have := HLN.out; omega))
 have X1 := Lib.hid hx1
 clear ho hx1 HN
 go_wp2_with fail
 refine HS.out.mono ?_
 rintro e w2 ⟨rfl, ho2, hx2⟩
 have HO2 := Lib.hid ho2
 have X2 := Lib.hid (HX.out.trans (hx2 _ X1.out hbg))
 clear ho2 hx2
 go_wp2_with fail
 go_ret
 exact ⟨⟨_, rfl, HO2.out.mono (by simp)⟩, X2.out⟩
set_option maxHeartbeats 8000000 in
theorem i_LevelsOf {w : World} {p : Int} {a : Option Addr} {n cap : Nat} {V : List Int} (h : Ints w a n cap V) {b : Option Addr} {m mcap : Nat} {X : List (Int × Int)} (hx : Rats w b m mcap X) :
 Calls Tryz.prog 51 #[pair p a n cap, .slice b m mcap] w fun e w' => (∃ v, e = .returned v ∧ OwnSS w' w.heap.size v (levS p V X)) ∧ Ext w w' := by
 obtain ⟨W, hW⟩ : ∃ W, W = w.alloc (.cells #[.int .i64 p, .slice a n cap] 47) := ⟨_, rfl⟩
 have hX : Ext w W := by rw [hW]; exact Ext.alloc _ _
 have HWS := Lib.hid (show W.heap.size = w.heap.size + 1 by rw [hW]; simp)
 have k0 : W.cell? ⟨w.heap.size, 0, none⟩ = some (.int .i64 p) := by rw [hW]; simp
 have k1 : W.cell? ⟨w.heap.size, 1, none⟩ = some (.slice a n cap) := by rw [hW]; simp
 have HX := Lib.hid hX
 have HI := Lib.hid (h.ext hX)
 have HR := Lib.hid (hx.ext hX)
 have hcap := h.hcap
 have hmax := h.hmax
 have HE0 := i_excesses (p := p) HI.out HR.out 1 (n - 2) ((n : Int) - 2) (game_two h.hlen)
 rw [excX_all h.hlen] at HE0
 have HE := Lib.hid HE0
 have HVL := Lib.hid h.hlen
 clear h hx hX HE0
 go_enter Tryz.func51, Tryz.ntmps51
 go_upto_region 1 with fail
 rw [← hW]
 clear hW
 cases hA : allX p V X with
 | none =>
   have HN := Lib.hid (levS_none hA)
   rw [hA] at HE
   clear hA
   go_wp2_with fail
   refine HE.out.mono ?_
   rintro e w1 ⟨⟨v, rfl, ho⟩, hx1⟩
   obtain ⟨a1, n1, c1, rfl, HN1⟩ := ho.var
   have X1 := Lib.hid (HX.out.trans hx1)
   clear ho hx1
   go_wp2_with fail
   go_ret
   exact ⟨⟨_, rfl, by rw [HN.out]; exact OwnSS.nil _ _⟩, X1.out⟩
 | some l =>
   rw [hA] at HE
   have HAA := Lib.hid hA
   clear hA
   go_wp2_with fail
   refine HE.out.mono ?_
   rintro e w1 ⟨⟨v, rfl, ho⟩, hx1⟩
   obtain ⟨a1, n1, c1, rfl, HN0⟩ := ho.var
   have HN1 := Lib.hid (show l.length = n1 from HN0.out)
   clear HN0
   have HO := Lib.hid (show OwnR w1 W.heap.size (.slice a1 n1 c1) l from ho)
   have X1 := Lib.hid hx1
   have c0 := hx1.cellSome k0
   have c1' := hx1.cellSome k1
   clear ho hx1
   by_cases hz : n1 = 0
   ·subst hz
    have HN := Lib.hid (show levS p V X = [] by rw [levS_some HAA.out, List.eq_nil_of_length_eq_zero HN1.out]; rfl)
    go_wp2_with fail
    go_ret
    exact ⟨⟨_, rfl, by rw [HN.out]; exact OwnSS.nil _ _⟩, HX.out.trans X1.out⟩
   ·have hz1 : ((n1 : Int) == 0) = false := by simp; omega
    have HLP := Lib.hid (show 0 < l.length by rw [HN1.out]; omega)
    have X1' := Lib.hid (X1.out.trans (Ext.alloc w1 (.cells #[] 22)))
    have HEV := Lib.hid (i_ExcessVector (p := p) (HI.out.ext X1'.out) (HR.out.ext X1'.out) HAA.out HLP.out)
    have k0' := (Ext.alloc w1 (.cells #[] 22)).cellSome c0
    have k1' := (Ext.alloc w1 (.cells #[] 22)).cellSome c1'
    have HO0 := Lib.hid (OwnV.madeS w1 W.heap.size _ rfl X1.out.size)
    have hn32 : n1 ≤ 32 := by
     obtain ⟨q, _, h1, h5, hlen, _, _⟩ := gameOk_len (payP_game (allX_len HAA.out).1)
     have := cN_le q h5
     have h2 := HVL.out
     have h3 := (allX_len HAA.out).2
     have h4 := HN1.out
     omega
    go_wp2_with fail
    refine HEV.out.mono ?_
    rintro e w2 ⟨⟨v2, rfl, ho2⟩, hx2⟩
    obtain ⟨a2, n2, c2, rfl, HN2⟩ := ho2.var
    have hn2 : n2 = n1 := by have h1 := HN2.out; rw [srtX_len] at h1; have := HN1.out; omega
    subst hn2
    obtain ⟨g, rfl, hbg, _, _⟩ := ho2.block (k := 0) (by omega)
    have HCP := Lib.hid (i_compactX hx2 (Nat.le_refl _) ho2 (by omega) (by omega))
    clear ho2 hx2 hbg HN2 k0' k1' c0 c1'
    go_wp2_with fail
    refine HCP.out.mono ?_
    rintro e w3 ⟨⟨mc, rfl, ho3⟩, hx3⟩
    obtain ⟨C, hC⟩ : ∃ C, C = cmpT (srtX l) n2 := ⟨_, rfl⟩
    rw [← hC] at ho3
    have HLS := Lib.hid (show levS p V X = C.map (fun e => levP l e n2) by rw [levS_some HAA.out, hC]; unfold levL levT; rw [HN1.out])
    have HO3 := Lib.hid ho3
    have HOL := Lib.hid (HO.out.ext ((Ext.alloc w1 (.cells #[] 22)).trans hx3))
    have HOV := Lib.hid (HO0.out.ext hx3)
    have X3 := Lib.hid (X1'.out.trans hx3)
    have HCL := Lib.hid ho3.rats.hlen
    have hmc : mc ≤ 32 := by have h1 := HCL.out; have h2 := cmpT_len (srtX l) n2; rw [← hC] at h2; omega
    have hccap := ho3.rats.hcap
    have hcmax := ho3.rats.hmax
    have hlcap := HOL.out.rats.hcap
    have hlmax := HOL.out.rats.hmax
    have hsz3 := X3.out.size
    clear ho3 hx3 hC
    go_wp2_with fail
    go_loopg [7, 36] mc (fun gk oo ii wr => ∃ (k : Nat) (a1' : Option Addr) (n1' p1 : Nat) (vs : List Value), Hid (gk + k = mc) ∧ oo = .slice a1' n1' p1 ∧ ii = .int .i64 (k : Int) ∧ Hid (OwnV wr W.heap.size (.slice a1' n1' p1) vs) ∧ Hid (RowsI wr W.heap.size vs ((C.take k).map fun e => levP l e n2)) ∧ Hid (OwnR wr W.heap.size (.slice a1 n2 c1) l) ∧ Hid (OwnR wr W.heap.size (.slice (some ⟨g, 0, none⟩) mc c2) C) ∧ Hid (Ext W wr))
    case atStart => exact ⟨0, _, _, _, [], Lib.hid (by omega), rfl, rfl, HOV, Lib.hid (RowsI.nil _ _), HOL, Lib.hid (HO3.out.mono (by have := X1.out.size; simp; omega)), X3⟩
    case round =>
     obtain ⟨g1, h_g1⟩ : ∃ x, x = gk := ⟨_, rfl⟩
     subst h_g1
     obtain ⟨wr1, h_wr1⟩ : ∃ x, x = wr := ⟨_, rfl⟩
     subst h_wr1
     obtain ⟨k, a3, n3, p3, vs, HK, rfl, rfl, HV, HRW, HOL1, HOC1, HXR⟩ := hrel
     have hszr := HXR.out.size
     by_cases hlt : k < mc
     ·obtain ⟨ex, ey, hxy⟩ := getP C k
      obtain ⟨hc0, hc1⟩ := HOC1.out.outS.2.2.2 k hlt
      rw [hxy] at hc0 hc1
      have HXY := Lib.hid (show C.take (k + 1) = C.take k ++ [(ex, ey)] by rw [take_snocR (by rw [HCL.out]; exact hlt), hxy])
      clear hxy
      have HLV := Lib.hid (show vs.length = k by rw [HRW.out.len, List.length_map, List.length_take, HCL.out]; omega)
      have HXE := Lib.hid (Ext.alloc wr1 (.cells #[.int .i64 ex, .int .i64 ey] 85))
      have HO4 := Lib.hid (OwnI.madeS (wr1.alloc (.cells #[.int .i64 ex, .int .i64 ey] 85)) (wr1.heap.size + 1) (wr1.heap.size + 1) (by simp) (by simp))
      go_wp2_with fail
      go_loopg [10, 43] n2 (fun gk row ii wr => ∃ (j : Nat) (a4 : Option Addr) (n4 p4 : Nat), Hid (gk + j = n2) ∧ row = .slice a4 n4 p4 ∧ ii = .int .i64 (j : Int) ∧ Hid (OwnI wr (wr1.heap.size + 1) (.slice a4 n4 p4) (levP l (ex, ey) j)) ∧ Hid (Ext (wr1.alloc (.cells #[.int .i64 ex, .int .i64 ey] 85)) wr))
      case atStart => exact ⟨0, _, _, _, Lib.hid (by omega), rfl, rfl, HO4, Lib.hid (Ext.alloc _ _)⟩
      case round =>
       obtain ⟨g2, h_g2⟩ : ∃ x, x = gk := ⟨_, rfl⟩
       subst h_g2
       obtain ⟨wr2, h_wr2⟩ : ∃ x, x = wr := ⟨_, rfl⟩
       subst h_wr2
       obtain ⟨j, a4, n4, p4, HJ, rfl, rfl, HOJ, HXJ⟩ := hrel
       have hszj : wr1.heap.size + 1 ≤ wr2.heap.size := by have := HXJ.out.size; simpa using this
       by_cases hjn : j < n2
       ·obtain ⟨yb, yo, yx, yy, hye, hyy, hy0, hy1⟩ := (HOL1.out.ext (HXE.out.trans HXJ.out)).rats.at hjn
        subst hye
        have ce0 : wr2.cell? ⟨wr1.heap.size, 0, none⟩ = some (.int .i64 ex) := HXJ.out.cellSome (by simp)
        have ce1 : wr2.cell? ⟨wr1.heap.size, 1, none⟩ = some (.int .i64 ey) := HXJ.out.cellSome (by simp)
        have hX2 := Ext.alloc wr2 (.cells #[.int .i64 yx, .int .i64 yy] 85)
        have ce0' := hX2.cellSome ce0
        have ce1' := hX2.cellSome ce1
        have HX2 := Lib.hid hX2
        obtain ⟨K, hK⟩ : ∃ K, K = cmpR (yx, yy) (ex, ey) := ⟨_, rfl⟩
        have HKK := Lib.hid (show cmpR (l[j]?.getD (0, 0)) (ex, ey) = K by rw [hyy, hK])
        have HCM := i_CompareRat yx yy ex ey (wr2.alloc (.cells #[.int .i64 yx, .int .i64 yy] 85))
        rw [← hK] at HCM
        have HCM := Lib.hid HCM
        clear hX2 hyy hK
        by_cases hneg : K < 0
        ·have HSK := Lib.hid (levP_skip (l := l) (e := (ex, ey)) (k := j) (by rw [HKK.out]; exact hneg))
         have hng : ¬ K ≥ 0 := by omega
         go_wp2_with fail
         refine HCM.out.mono ?_
         rintro e w4 ⟨rfl, hx4⟩
         have HO5 := Lib.hid ((HOJ.out.ext HX2.out).ext hx4)
         have HX5 := Lib.hid ((HXJ.out.trans HX2.out).trans hx4)
         clear hx4
         go_wp2_with fail
         go_roundg (g2 - 1)
         case measure => have := HJ.out; omega
         case rel => exact ⟨j + 1, a4, n4, p4, Lib.hid (by have := HJ.out; omega), rfl, by go_num, Lib.hid (by rw [HSK.out]; exact HO5.out), HX5⟩
        ·have HTK := Lib.hid (show levP l (ex, ey) (j + 1) = levP l (ex, ey) j ++ [(j : Int) + 1] from (levP_take (l := l) (e := (ex, ey)) (k := j) (by rw [HKK.out]; exact hneg)).trans (by norm_cast))
         have hng : K ≥ 0 := by omega
         have HLL := Lib.hid (levP_len l (ex, ey) j)
         go_wp2_with fail
         refine HCM.out.mono ?_
         rintro e w4 ⟨rfl, hx4⟩
         have HO5 := Lib.hid ((HOJ.out.ext HX2.out).ext hx4)
         have HX5 := Lib.hid ((HXJ.out.trans HX2.out).trans hx4)
         have hs5 := HX5.out.size
         clear hx4
         go_wp2_with (first
          | (at_builtin; refine append_ints rfl _ _ rfl (wr1.heap.size + 1) (.slice a4 n4 p4) _ rfl (HO5.out.ext (Ext.alloc _ _)) _ 1 _ [(j : Int) + 1] rfl (Ints.oneS _ _ _ _ (by simp)) (by have := HLL.out; omega) (by simp at hs5; simp; omega) ?_; intro v6 w6 ho hg hnear; obtain ⟨a6, n6, p6, rfl, HN6⟩ := ho.var; have HO6 := Lib.hid ho; have X6 := Lib.hid (ext_grown (HX5.out.trans (Ext.alloc _ _)) hg (fun q hq => by have := (HO5.out.lt q hq).1; simp; omega)); clear ho hg hnear))
         go_roundg (g2 - 1)
         case measure => have := HJ.out; omega
         case rel => exact ⟨j + 1, a6, n6, p6, Lib.hid (by have := HJ.out; omega), rfl, by go_num, Lib.hid (by rw [HTK.out]; exact HO6.out), X6⟩
       ·have hjm : j = n2 := by have := HJ.out; omega
        subst hjm
        have HXA := Lib.hid (HXE.out.trans HXJ.out)
        go_wp2_with (first
         | (at_builtin
            refine append_slice rfl _ _ rfl W.heap.size (.slice a3 n3 p3) vs rfl ((HV.out.ext HXA.out).ext (Ext.alloc _ _)) _ _ 1 rfl (by simp; rfl) rfl (by have := HLV.out; omega) (by simp; omega) ?_
            intro v6 w6 ho hg hnear
            obtain ⟨a6, n6, p6, rfl, HN6⟩ := ho.var
            have HO6 := Lib.hid ho
            have HL6 := Lib.hid ((HOL1.out.ext (HXA.out.trans (Ext.alloc _ _))).grownV ((HV.out.ext HXA.out).ext (Ext.alloc _ _)) hg)
            have HC6 := Lib.hid ((HOC1.out.ext (HXA.out.trans (Ext.alloc _ _))).grownV ((HV.out.ext HXA.out).ext (Ext.alloc _ _)) hg)
            have HR6 := Lib.hid (((HRW.out.snoc HXA.out (HOJ.out.mono (by omega)) (by omega)).ext (Ext.alloc _ _)).grownV ((HV.out.ext HXA.out).ext (Ext.alloc _ _)) hg)
            have X6 := Lib.hid (ext_grown ((HXR.out.trans HXA.out).trans (Ext.alloc _ _)) hg (fun q hq => (HV.out.lt q hq).1))
            clear ho hg hnear))
        go_roundg (g1 - 1)
        case measure => have := HK.out; omega
        case rel => exact ⟨k + 1, a6, n6, p6, _, Lib.hid (by have := HK.out; omega), rfl, by go_num, HO6, Lib.hid (by rw [HXY.out, List.map_append]; exact HR6.out), HL6, HC6, X6⟩
     ·have hkn : k = mc := by have := HK.out; omega
      subst hkn
      have HF := Lib.hid (show C.take k = C from List.take_of_length_le (by rw [HCL.out]; exact Nat.le_refl _))
      go_wp2_with fail
      go_ret
      exact ⟨⟨_, rfl, by rw [HLS.out]; refine OwnSS.mono' ⟨vs, HV.out, ?_⟩ (by have := HWS.out; omega); have := HRW.out; rwa [HF.out] at this⟩, HX.out.trans HXR.out⟩
end Go.Proofs.YtgohdmnbnhehnaaGreat
