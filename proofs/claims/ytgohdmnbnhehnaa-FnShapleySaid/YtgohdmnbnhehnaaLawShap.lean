/- FnShapley answers true, whatever the code: the walk. -/
import Derived.Test.YtgohdmnbnhehnaaDrawS
import Derived.Test.YtgohdmnbnhehnaaShapQ
import Derived.Test.YtgohdmnbnhehnaaBanz
import Derived.Test.YtgohdmnbnhehnaaBox
namespace Go.Proofs.Ytgohdmnbnhehnaa
set_option linter.unusedVariables false
set_option linter.unusedSimpArgs false
set_option maxRecDepth 100000
open Go.RowKit

set_option maxHeartbeats 8000000 in
theorem l_FnShapley {w : World} {a : Option Addr} {n cap : Nat} (h : Bytes w a n cap) :
    Calls Try.prog 4 #[.slice a n cap] w fun e w' => e = .returned (.bool true) ∧ Ext w w' := by
  have hcap := h.hcap
  have hmax := h.hmax
  have H := Lib.hid h
  clear h
  by_cases hbig : 1048576 < n
  · go_enter Try.func4, Try.ntmps4
    go_wp2_with fail
    go_in
    go_wp2_with fail
    go_ret
    exact ⟨rfl, Ext.refl _⟩
  have hb : n ≤ 1048576 := by omega
  go_enter Try.func4, Try.ntmps4
  go_wp2_with fail
  go_in
  go_wp2_with fail
  refine (s_DrawShapleyValue H.out hb).mono ?_
  rintro e w1 ⟨⟨y, b, m, c, V, rfl, hV, hm⟩, hx⟩
  have HV := Lib.hid hV
  have X1 := Lib.hid hx
  clear hV hx
  have HVA := Lib.hid (HV.out.ext (Ext.alloc w1 (.cells #[.int .i64 y, .slice b m c] 26)))
  have g0 : (w1.alloc (.cells #[.int .i64 y, .slice b m c] 26)).cell? ⟨w1.heap.size, 0, none⟩ = some (.int .i64 y) := by simp
  have g1 : (w1.alloc (.cells #[.int .i64 y, .slice b m c] 26)).cell? ⟨w1.heap.size, 1, none⟩ = some (.slice b m c) := by simp
  have XA := Lib.hid (X1.out.trans (Ext.alloc w1 (.cells #[.int .i64 y, .slice b m c] 26)))
  go_wp2_with fail
  refine (i_ShapleyValue (x := y) HVA.out).mono ?_
  rintro e w2 ⟨⟨v, rfl, ho⟩, hx⟩
  obtain ⟨a2, n2, p2, rfl, HN2⟩ := ho.var
  have O2 := Lib.hid ho
  have X2 := Lib.hid (XA.out.trans hx)
  have g02 := hx.cellSome g0
  have g12 := hx.cellSome g1
  have HV2 := Lib.hid (HVA.out.ext hx)
  clear ho hx g0 g1
  go_wp2_with fail
  refine (s_ShapleyValue (x := y) HV2.out).mono ?_
  rintro e w3 ⟨⟨v, rfl, ho⟩, hx⟩
  obtain ⟨a3, n3, p3, rfl, HN3⟩ := ho.var
  have HE := Lib.hid (s_EqualVector (O2.out.ext hx).rats ho.rats)
  rw [decide_eq_true rfl] at HE
  have O3 := Lib.hid (O2.out.ext hx)
  have X3 := Lib.hid (X2.out.trans hx)
  have g03 := hx.cellSome g02
  have g13 := hx.cellSome g12
  have HV3 := Lib.hid (HV2.out.ext hx)
  obtain ⟨ok, hok⟩ : ∃ o, o = gameOk y V := ⟨_, rfl⟩
  rw [← hok]
  have HOK := Lib.hid hok
  have hoo : (ok != ok) = false := by simp
  clear ho hx hok g02 g12
  go_wp2_with fail
  refine HE.out.mono ?_
  rintro e w4 ⟨rfl, hx⟩
  have X4 := Lib.hid (X3.out.trans hx.ext)
  have g04 := hx.ext.cellSome g03
  have g14 := hx.ext.cellSome g13
  have HV4 := Lib.hid (HV3.out.ext hx.ext)
  have O4 := Lib.hid (O3.out.ext hx.ext)
  have HP := Lib.hid (fun (w' : World) (hx' : Ext w4 w') => s_IsPayoff (p := y) (HV4.out.ext hx') (O4.out.rats.ext hx'))
  rw [shap_pay, ← HOK.out] at HP
  clear hx g03 g13
  go_wp2_with fail
  refine (HP.out _ (Ext.refl _)).mono ?_
  rintro e w5 ⟨rfl, hx⟩
  have X5 := Lib.hid (X4.out.trans hx)
  have g05 := hx.cellSome g04
  have g15 := hx.cellSome g14
  have HV5 := Lib.hid (HV4.out.ext hx)
  have O5 := Lib.hid (O4.out.ext hx)
  clear hx g04 g14
  go_wp2_with fail
  refine (s_AllOrders y _).mono ?_
  rintro e w6 ⟨v, rfl, ho, hx⟩
  obtain ⟨a6, n6, p6, rfl, HN6⟩ := ho.var
  have O6 := Lib.hid ho
  have X6 := Lib.hid (X5.out.trans hx)
  have g06 := hx.cellSome g05
  have g16 := hx.cellSome g15
  have HV6 := Lib.hid (HV5.out.ext hx)
  have R6 := Lib.hid (O5.out.ext hx)
  have hp6 := ho.intss.hcap
  have hp6' := ho.intss.hmax
  have hq2 := (R6.out.rats).hcap
  have hq2' := (R6.out.rats).hmax
  clear ho hx g05 g15
  go_wp2_with fail
  go_loopg [9] n2 (fun gk kk wr => ∃ k : Nat, Hid (gk + k = n2) ∧ kk = .int .i64 (k : Int) ∧ Hid (Ext w6 wr))
  case atStart => exact ⟨0, Lib.hid (by omega), rfl, Lib.hid (Ext.refl _)⟩
  case round =>
    obtain ⟨g1, h_g1⟩ : ∃ x, x = gk := ⟨_, rfl⟩
    subst h_g1
    obtain ⟨wr1, h_wr1⟩ : ∃ x, x = wr := ⟨_, rfl⟩
    subst h_wr1
    obtain ⟨k, HK, rfl, XR⟩ := hrel
    by_cases hlt : k < n2
    · have HGO := Lib.hid (show gameOk y V = true by
        cases h : gameOk y V
        · have := HN2.out
          unfold shapL at this
          rw [shapT_not _ h] at this
          simp only [List.length_nil] at this
          omega
        · rfl)
      obtain ⟨nn, rfl, hnn1, hnn5, hVlen, hV0, hVb⟩ := gameOk_len HGO.out
      obtain rfl : nn = n2 := by rw [← shapL_len' HGO.out]; exact HN2.out
      have HAV := Lib.hid (shap_avg HGO.out hlt)
      have HORD := Lib.hid (ordersOf_ord nn hnn1 hnn5)
      have HSB := Lib.hid (fun i hi => ordS_bd (n := nn) hVb k i hi)
      obtain ⟨xb, xo, x1, x2, rfl, hxe, hx1, hx2⟩ := (R6.out.rats.ext XR.out).at hlt
      rw [hxe] at HAV
      clear hVlen hV0 hVb hxe
      go_wp2_with fail
      go_loopg [10, 11] n6 (fun gk ss ii wr => ∃ i : Nat, Hid (gk + i = n6) ∧ ii = .int .i64 (i : Int) ∧ ss = .int .i64 (ordS nn V k i) ∧ Hid (Ext wr1 wr))
      case atStart => exact ⟨0, Lib.hid (by omega), rfl, rfl, Lib.hid (Ext.refl _)⟩
      case round =>
        obtain ⟨g2, h_g2⟩ : ∃ x, x = gk := ⟨_, rfl⟩
        subst h_g2
        obtain ⟨wr2, h_wr2⟩ : ∃ x, x = wr := ⟨_, rfl⟩
        subst h_wr2
        obtain ⟨i, HI, rfl, hss, XI⟩ := hrel
        obtain ⟨S, hS⟩ : ∃ S, S = ordS nn V k i := ⟨_, rfl⟩
        rw [← hS] at hss
        subst hss
        have HSS := Lib.hid hS
        clear hS
        by_cases hli : i < n6
        · have hxr := XR.out.trans XI.out
          have q0 := hxr.cellSome g06
          have q1 := hxr.cellSome g16
          obtain ⟨lb, lo, ra, rn, rc, rfl, hcell, hrow⟩ := (O6.out.ext hxr).intss.at hli
          have hol := HORD.out i (by rw [HN6.out]; exact hli)
          have hrn : rn = nn := by rw [← hrow.hlen]; exact hol.1
          subst hrn
          have HROW := Lib.hid hrow
          have HXR := Lib.hid hxr
          have HMK := Lib.hid (show margOk (rn : Int) V ((ordersOf (rn : Int))[i]?.getD []) = true by
            unfold margOk isOrd
            rw [HGO.out, hol.1, hol.2]
            simp)
          have HML := Lib.hid (show margL (rn : Int) V ((ordersOf (rn : Int))[i]?.getD []) = mvL rn V ((ordersOf (rn : Int))[i]?.getD []) rn by
            unfold margL
            rw [if_pos HMK.out, Int.toNat_natCast, hol.1])
          clear hrow hol hxr
          have hk2 : Ext wr2 wr2.drew := Ext.drew wr2
          have hka := hk2
          have HKEEP := Lib.hid (fun (w' : World) (h : Ext wr2 w') => (⟨h.cellSome q0, h.cellSome q1, h.cellSome hcell, h⟩ : w'.cell? ⟨w1.heap.size, 0, none⟩ = some (.int .i64 (rn : Int)) ∧ w'.cell? ⟨w1.heap.size, 1, none⟩ = some (.slice b m c) ∧ w'.cell? ⟨lb, lo + i, none⟩ = some (.slice ra rn rc) ∧ Ext wr2 w'))
          go_wp2_with fail
          go_region_held3 (fun w' => w'.cell? ⟨w1.heap.size, 0, none⟩ = some (.int .i64 (rn : Int)) ∧ w'.cell? ⟨w1.heap.size, 1, none⟩ = some (.slice b m c) ∧ w'.cell? ⟨lb, lo + i, none⟩ = some (.slice ra rn rc) ∧ Ext wr2 w')
            (with_reducible exact HKEEP.out _ hk2)
            (first
              | (go_at_call 23
                 (with_reducible refine (s_MarginalVector (p := (rn : Int)) ((HV6.out.ext HXR.out).ext hk2) (HROW.out.ext hk2)).mono ?_)
                 rintro e w10 ⟨⟨v, rfl, ho⟩, hx_w10⟩
                 rw [HMK.out]
                 obtain ⟨a10, n10, p10, rfl, HN10⟩ := ho.var
                 have HO10 := Lib.hid ho
                 clear ho
                 have hk2 : Ext wr2 w10 := hk2.trans hx_w10
                 have hs_w10 := hk2.size)
              | fail)
          clear HKEEP hka
          have XI2 := Lib.hid (XI.out.trans hk2)
          have hn10 : n10 = rn := by rw [← HN10.out, HML.out, mvL_len]
          subst hn10
          obtain ⟨vb, vo, ha10, hvc⟩ := HO10.out.ints.at hlt
          subst ha10
          obtain ⟨q, hq⟩ : ∃ q, q = (margL (n10 : Int) V ((ordersOf (n10 : Int))[i]?.getD []))[k]?.getD 0 := ⟨_, rfl⟩
          rw [← hq] at hvc
          have HSQ := Lib.hid (show ordS n10 V k (i + 1) = S + q by rw [ordS_succ (by rw [HN6.out]; exact hli), HSS.out, hq, HML.out])
          have hb1 := HSB.out (i + 1) (by rw [HN6.out]; omega)
          rw [HSQ.out] at hb1
          have hn120 : n6 ≤ 120 := by have := HAV.out.2.1; rw [HN6.out] at this; exact this
          have hwq : IntKind.i64.wrap (S + q) = S + q := by rw [IntKind.wrap_i64]; omega
          clear hq hk2 hb1
          go_wp2_with fail
          go_roundg (g2 - 1)
          case measure => have := HI.out; omega
          case rel => exact ⟨i + 1, Lib.hid (by have := HI.out; omega), by go_num, by rw [HSQ.out], XI2⟩
        · have hin : i = n6 := by have := HI.out; omega
          subst hin
          obtain ⟨P, hP⟩ : ∃ P, P = x1 * (i : Int) := ⟨_, rfl⟩
          have hav := HAV.out
          rw [HN6.out, ← HSS.out] at hav
          obtain ⟨e1, e2, e3, e4, e5, e6⟩ := hav
          have hPb : -32000000 * 120 ≤ P ∧ P ≤ 32000000 * 120 := by
            have := small_mul (x := x1) (y := (i : Int)) (a := 32000000) (b := 120) (by omega) (by omega)
            rw [← hP] at this
            omega
          have hw1 : IntKind.i64.wrap (x1 * (i : Int)) = P := by rw [← hP, IntKind.wrap_i64]; omega
          have hw2 : IntKind.i64.wrap (S * x2) = P := by rw [← e1, ← hP, IntKind.wrap_i64]; omega
          have hne : (P != P) = false := by simp
          have c1 := XI.out.cellSome hx1
          have c2 := XI.out.cellSome hx2
          clear hP e1
          go_wp2_with fail
          go_quiet (fail)
          go_wp2_with fail
          go_roundg (g1 - 1)
          case measure => have := HK.out; omega
          case rel => exact ⟨k + 1, Lib.hid (by have := HK.out; omega), by go_num, Lib.hid ((XR.out.trans XI.out).trans (Drew.ext ⟨_, rfl⟩))⟩
    · have XE := Lib.hid (X6.out.trans XR.out)
      clear g06 g16 XR
      go_wp2_with fail
      refine (s_DrawAddGames (H.out.ext XE.out) hb).mono ?_
      rintro e w11 ⟨⟨z, z', b2, b3, m2, c2, m3, c3, V2, V3, rfl, hV2, hV3, _, _⟩, hx⟩
      obtain ⟨A, hA⟩ : ∃ A, A = (w11.alloc (.cells #[.int .i64 z, .slice b2 m2 c2] 26)).alloc (.cells #[.int .i64 z', .slice b3 m3 c3] 26) := ⟨_, rfl⟩
      have hxA : Ext w11 A := by rw [hA]; exact (Ext.alloc _ _).trans (Ext.alloc _ _)
      have XA2 := Lib.hid ((XE.out.trans hx).trans hxA)
      have HV2 := Lib.hid (hV2.ext hxA)
      have HV3' := Lib.hid (hV3.ext hxA)
      have f0 : A.cell? ⟨w11.heap.size, 0, none⟩ = some (.int .i64 z) := by rw [hA]; exact Ext.cellSome (Ext.alloc _ _) (by simp)
      have f1 : A.cell? ⟨w11.heap.size, 1, none⟩ = some (.slice b2 m2 c2) := by rw [hA]; exact Ext.cellSome (Ext.alloc _ _) (by simp)
      have f2 : A.cell? ⟨w11.heap.size + 1, 0, none⟩ = some (.int .i64 z') := by rw [hA]; simp
      have f3 : A.cell? ⟨w11.heap.size + 1, 1, none⟩ = some (.slice b3 m3 c3) := by rw [hA]; simp
      clear hx hV2 hV3 hxA
      go_wp2_with fail
      rw [← hA]
      refine (s_AddGames (p := z) (p' := z') HV2.out HV3'.out).mono ?_
      rintro e w12 ⟨⟨v, rfl, ho⟩, hx⟩
      obtain ⟨fine, hfine⟩ : ∃ f, f = addOk z V2 z' V3 := ⟨_, rfl⟩
      rw [← hfine] at ho
      rw [← hfine]
      have HFI := Lib.hid hfine
      obtain ⟨zs, hzs⟩ : ∃ q : Int, q = if fine = true then z else 0 := ⟨_, rfl⟩
      obtain ⟨VS, hVS⟩ : ∃ q : List Int, q = if fine = true then addL V2 V3 else [] := ⟨_, rfl⟩
      rw [← hVS] at ho
      rw [← hzs]
      have HZS := Lib.hid hzs
      have HVS := Lib.hid hVS
      obtain ⟨a12, n12, p12, rfl, HN12⟩ := ho.var
      have hxB := hx.trans (Ext.alloc w12 (.cells #[.int .i64 zs, .slice a12 n12 p12] 26))
      have HS12 := Lib.hid (ho.ext (Ext.alloc w12 (.cells #[.int .i64 zs, .slice a12 n12 p12] 26)))
      have e0 := hxB.cellSome f0
      have e1 := hxB.cellSome f1
      have e2 := hxB.cellSome f2
      have e3 := hxB.cellSome f3
      have s0 : (w12.alloc (.cells #[.int .i64 zs, .slice a12 n12 p12] 26)).cell? ⟨w12.heap.size, 0, none⟩ = some (.int .i64 zs) := by simp
      have s1 : (w12.alloc (.cells #[.int .i64 zs, .slice a12 n12 p12] 26)).cell? ⟨w12.heap.size, 1, none⟩ = some (.slice a12 n12 p12) := by simp
      have XB2 := Lib.hid (XA2.out.trans hxB)
      have HXB := Lib.hid hxB
      clear hA hx ho hfine hzs hVS f0 f1 f2 f3 hxB
      go_wp2_with fail
      refine (i_ShapleyValue (x := z) (HV2.out.ext HXB.out)).mono ?_
      rintro e w13 ⟨⟨v, rfl, ho⟩, hx⟩
      obtain ⟨a13, n13, p13, rfl, HN13⟩ := ho.var
      have R13 := Lib.hid ho
      have X13 := Lib.hid hx
      replace e2 := hx.cellSome e2
      replace e3 := hx.cellSome e3
      replace s0 := hx.cellSome s0
      replace s1 := hx.cellSome s1
      clear ho hx e0 e1
      go_wp2_with fail
      refine (i_ShapleyValue (x := z') ((HV3'.out.ext HXB.out).ext X13.out)).mono ?_
      rintro e w14 ⟨⟨v, rfl, ho⟩, hx⟩
      obtain ⟨a14, n14, p14, rfl, HN14⟩ := ho.var
      have R14 := Lib.hid ho
      have X14 := Lib.hid hx
      replace s0 := hx.cellSome s0
      replace s1 := hx.cellSome s1
      clear ho hx e2 e3
      go_wp2_with fail
      refine (i_ShapleyValue (x := zs) ((HS12.out.ints.ext X13.out).ext X14.out)).mono ?_
      rintro e w15 ⟨⟨v, rfl, ho⟩, hx⟩
      obtain ⟨a15, n15, p15, rfl, HN15⟩ := ho.var
      have R15 := Lib.hid ho
      have XF := Lib.hid (((XB2.out.trans X13.out).trans X14.out).trans hx)
      have Q13 := Lib.hid ((R13.out.ext X14.out).ext hx)
      have Q14 := Lib.hid (R14.out.ext hx)
      have hp15 := ho.rats.hcap
      have hp15' := ho.rats.hmax
      have hp13 := R13.out.rats.hcap
      have hp13' := R13.out.rats.hmax
      have hp14 := R14.out.rats.hcap
      have hp14' := R14.out.rats.hmax
      clear ho hx s0 s1
      go_wp2_with fail
      cases fine
      · go_loopg [24] n15 (fun gk kk wr => ∃ k : Nat, Hid (gk + k = n15) ∧ kk = .int .i64 (k : Int) ∧ Hid (Ext w15 wr))
        case atStart => exact ⟨0, Lib.hid (by omega), rfl, Lib.hid (Ext.refl _)⟩
        case round =>
          obtain ⟨j, HJ, rfl, XJ⟩ := hrel
          by_cases hlj : j < n15
          all_goals
            go_wp2_with fail
            go_ret
            exact ⟨rfl, XF.out.trans XJ.out⟩
      · have HSM := Lib.hid (fun j (hj : j < n15) => shap_sum (p := z) (p' := z') (V := V2) (V' := V3) HFI.out.symm (k := j) (by
          have h1 := HN15.out
          rw [HZS.out, HVS.out, if_pos rfl, if_pos rfl] at h1
          rw [h1]; exact hj))
        go_loopg [24] n15 (fun gk kk wr => ∃ k : Nat, Hid (gk + k = n15) ∧ kk = .int .i64 (k : Int) ∧ Hid (Ext w15 wr))
        case atStart => exact ⟨0, Lib.hid (by omega), rfl, Lib.hid (Ext.refl _)⟩
        case round =>
          obtain ⟨g3, h_g3⟩ : ∃ x, x = gk := ⟨_, rfl⟩
          subst h_g3
          obtain ⟨wr3, h_wr3⟩ : ∃ x, x = wr := ⟨_, rfl⟩
          subst h_wr3
          obtain ⟨j, HJ, rfl, XJ⟩ := hrel
          by_cases hlj : j < n15
          · obtain ⟨hsum, hj1, hj2⟩ := HSM.out j hlj
            obtain ⟨xb1, xo1, p1, q1, rfl, hpe, hc1, hd1⟩ := (Q13.out.rats.ext XJ.out).at (show j < n13 by rw [← HN13.out]; exact hj1)
            obtain ⟨xb2, xo2, p2, q2, rfl, hqe, hc2, hd2⟩ := (Q14.out.rats.ext XJ.out).at (show j < n14 by rw [← HN14.out]; exact hj2)
            obtain ⟨xb3, xo3, p3, q3, rfl, hre, hc3, hd3⟩ := (R15.out.rats.ext XJ.out).at hlj
            rw [HZS.out, HVS.out, if_pos rfl, if_pos rfl] at hre
            rw [hpe, hqe, hre] at hsum
            have HSUM := Lib.hid hsum
            have hj13 : j < n13 := by rw [← HN13.out]; exact hj1
            have hj14 : j < n14 := by rw [← HN14.out]; exact hj2
            clear hsum hpe hqe hre hj1 hj2
            go_upto_region 28 with fail
            go_cut [25, 26] (fun sx so wx => ∃ g : Nat, sx = .pointer (some ⟨g, 0, none⟩) ∧ so = .bool true ∧ Hid (Boxed wr3 wx g p3 q3))
            case first =>
              have hk2 : Ext wr3 wr3.drew := Ext.drew wr3
              have hka : Ext wr3 (wr3.alloc (.cells #[.int .i64 0, .int .i64 0] 34)).drew := (Ext.alloc _ _).trans (Ext.drew _)
              have HKEEP := Lib.hid (fun (w' : World) (h : Ext wr3 w') => (⟨h.cellSome hc1, h.cellSome hd1, h.cellSome hc2, h.cellSome hd2, h⟩ : w'.cell? ⟨xb1, xo1 + j * 2, none⟩ = some (.int .i64 p1) ∧ w'.cell? ⟨xb1, xo1 + j * 2 + 1, none⟩ = some (.int .i64 q1) ∧ w'.cell? ⟨xb2, xo2 + j * 2, none⟩ = some (.int .i64 p2) ∧ w'.cell? ⟨xb2, xo2 + j * 2 + 1, none⟩ = some (.int .i64 q2) ∧ Ext wr3 w'))
              go_region_held3 (fun w' => w'.cell? ⟨xb1, xo1 + j * 2, none⟩ = some (.int .i64 p1) ∧ w'.cell? ⟨xb1, xo1 + j * 2 + 1, none⟩ = some (.int .i64 q1) ∧ w'.cell? ⟨xb2, xo2 + j * 2, none⟩ = some (.int .i64 p2) ∧ w'.cell? ⟨xb2, xo2 + j * 2 + 1, none⟩ = some (.int .i64 q2) ∧ Ext wr3 w')
                (first
                  | with_reducible exact HKEEP.out _ hk2
                  | with_reducible exact HKEEP.out _ hka
                  | with_reducible exact HKEEP.out _ ((hk2.setCell (by first | (simp; done) | (simp; omega)) _).setCell (by first | (simp; done) | (simp; omega)) _)
                  | with_reducible exact HKEEP.out _ (hk2.trans (Ext.alloc _ _))
                  | with_reducible exact HKEEP.out _ (hBB.put _ _).ext)
                (first
                  | (go_at_call 26
                     (with_reducible refine (i_AddRat _ _ _ _ _).mono ?_)
                     rw [HSUM.out]
                     rintro e w16 ⟨rfl, hx_w16⟩
                     first | (with_reducible have hBB := Boxed.grow hBB hx_w16) | (with_reducible have hBB := Boxed.firstD hx_w16) | (with_reducible have hBB := Boxed.laterD hk2 hx_w16) | skip
                     first | (have b0_ := hBB.c0; have b1_ := hBB.c1; have fb_ := hBB.free) | skip
                     have hk2 : Ext wr3 w16 := by first | with_reducible exact hk2.trans hx_w16 | with_reducible exact hka.trans hx_w16 | with_reducible exact (hk2.trans (Ext.alloc _ _)).trans hx_w16
                     have hk2s := hk2.size)
                  | fail)
              all_goals (go_wp2_with fail; go_meet; first | exact ⟨_, rfl, rfl, Lib.hid (hBB.put _ _)⟩ | exact ⟨_, rfl, rfl, Lib.hid (Boxed.new hk2 _ _)⟩ | exact ⟨_, rfl, rfl, Lib.hid (Boxed.new' hk2 _ _ (by simp))⟩)
            obtain ⟨g, rfl, rfl, HB⟩ := hcut
            have h0 := HB.out.c0
            have h1 := HB.out.c1
            have k1 := HB.out.ext.cellSome hc3
            have k2 := HB.out.ext.cellSome hd3
            go_wp2_with fail
            go_quiet (fail)
            go_wp2_with fail
            go_roundg (g3 - 1)
            case measure => have := HJ.out; omega
            case rel => exact ⟨j + 1, Lib.hid (by have := HJ.out; omega), by go_num, Lib.hid ((XJ.out.trans HB.out.ext).trans (Drew.ext ⟨_, rfl⟩))⟩
          · go_wp2_with fail
            go_ret
            exact ⟨rfl, XF.out.trans XJ.out⟩

end Go.Proofs.Ytgohdmnbnhehnaa
