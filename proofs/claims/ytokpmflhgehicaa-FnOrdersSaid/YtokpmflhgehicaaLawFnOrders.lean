/- FnOrders answers true, whatever the code: the walk. -/
import Derived.Test.YtokpmflhgehicaaDrawO
import Derived.Test.YtokpmflhgehicaaSameI
import Derived.Test.YtokpmflhgehicaaBest
import Derived.Test.YtokpmflhgehicaaBanz
namespace Go.Proofs.Ytokpmflhgehicaa
set_option linter.unusedVariables false
set_option linter.unusedSimpArgs false
set_option maxRecDepth 100000
open Go.RowKit

theorem bestAt_max (X : Nat → Int) : ∀ N j, j < N → X j ≤ (bestAt X N).2
  | 0, j, h => absurd h (by omega)
  | N + 1, j, h => by
    have ih := bestAt_max X N
    unfold bestAt
    split
    · next hc =>
      simp only
      by_cases e : j = N
      · rw [e]; exact Int.le_refl _
      · have := ih j (by omega)
        rcases hc with h0 | h0
        · omega
        · omega
    · next hc =>
      by_cases e : j = N
      · rw [e]; omega
      · exact ih j (by omega)

set_option maxHeartbeats 8000000 in
theorem l_FnOrders {w : World} {a : Option Addr} {n cap : Nat} (h : Bytes w a n cap) :
    Calls Try.prog 13 #[.slice a n cap] w fun e w' => e = .returned (.bool true) ∧ Ext w w' := by
  have hcap := h.hcap
  have hmax := h.hmax
  have H := Lib.hid h
  clear h
  by_cases hbig : 1048576 < n
  · go_enter Try.func13, Try.ntmps13
    go_wp2_with fail
    go_in
    go_wp2_with fail
    go_ret
    exact ⟨rfl, Ext.refl _⟩
  have hb : n ≤ 1048576 := by omega
  go_enter Try.func13, Try.ntmps13
  go_wp2_with fail
  go_in
  go_wp2_with fail
  refine (s_DrawAllOrders H.out hb).mono ?_
  rintro e w1 ⟨⟨x, rfl, hx0, hx1⟩, hx⟩
  have X1 := Lib.hid hx
  clear hx
  -- the orders
  go_wp2_with fail
  refine (i_AllOrders x _).mono ?_
  rintro e w2 ⟨v, rfl, ho, hx⟩
  obtain ⟨a2, n2, p2, rfl, HN2⟩ := ho.var
  have O2 := Lib.hid ho
  have X2 := Lib.hid (X1.out.trans hx)
  clear ho hx
  go_wp2_with fail
  refine (s_AllOrders x _).mono ?_
  rintro e w3 ⟨v, rfl, ho, hx⟩
  obtain ⟨a3, n3, p3, rfl, HN3⟩ := ho.var
  have HE := Lib.hid (l_sameLists (O2.out.ext hx).intss ho.intss)
  rw [decide_eq_true rfl] at HE
  have X3 := Lib.hid (X2.out.trans hx)
  clear ho hx
  go_wp2_with fail
  refine HE.out.mono ?_
  rintro e w4 ⟨rfl, hx⟩
  have X4 := Lib.hid (X3.out.trans hx.ext)
  clear hx
  -- the best order
  go_wp2_with fail
  refine (s_DrawBestOrder (H.out.ext X4.out) hb).mono ?_
  rintro e w5 ⟨⟨y, b, m, c, V, k, rfl, hV, hm, hk0, hk1⟩, hx⟩
  have HV := Lib.hid hV
  have X5 := Lib.hid (X4.out.trans hx)
  clear hV hx
  have HVA := Lib.hid (HV.out.ext (Ext.alloc w5 (.cells #[.int .i64 y, .slice b m c] 64)))
  have g0 : (w5.alloc (.cells #[.int .i64 y, .slice b m c] 64)).cell? ⟨w5.heap.size, 0, none⟩ = some (.int .i64 y) := by simp
  have g1 : (w5.alloc (.cells #[.int .i64 y, .slice b m c] 64)).cell? ⟨w5.heap.size, 1, none⟩ = some (.slice b m c) := by simp
  have XA := Lib.hid (X5.out.trans (Ext.alloc w5 (.cells #[.int .i64 y, .slice b m c] 64)))
  go_wp2_with fail
  refine (i_BestOrder (p := y) (k := k) HVA.out).mono ?_
  rintro e w6 ⟨⟨v, rfl, ho⟩, hx⟩
  obtain ⟨a6, n6, p6, rfl, HN6⟩ := ho.var
  have O6 := Lib.hid ho
  have X6 := Lib.hid hx
  have g06 := hx.cellSome g0
  have g16 := hx.cellSome g1
  have HV6 := Lib.hid (HVA.out.ext hx)
  clear ho hx g0 g1
  go_wp2_with fail
  refine (s_BestOrder (p := y) (k := k) HV6.out).mono ?_
  rintro e w7 ⟨⟨v, rfl, ho⟩, hx⟩
  obtain ⟨a7, n7, p7, rfl, HN7⟩ := ho.var
  have HE := Lib.hid (l_sameInts (O6.out.ints.ext hx) ho.ints)
  rw [decide_eq_true rfl] at HE
  have X7 := Lib.hid ((XA.out.trans X6.out).trans hx)
  have g07 := hx.cellSome g06
  have g17 := hx.cellSome g16
  have HV7 := Lib.hid (HV6.out.ext hx)
  obtain ⟨B, hB⟩ : ∃ B, B = bestM y V k := ⟨_, rfl⟩
  obtain ⟨ok, hok⟩ : ∃ o, o = bestOk y V k := ⟨_, rfl⟩
  rw [← hB, ← hok]
  have HB := Lib.hid hB
  have HOK := Lib.hid hok
  have hbb : (B != B) = false := by simp
  have hoo : (ok != ok) = false := by simp
  clear ho hx hB hok g06 g16
  go_wp2_with fail
  refine HE.out.mono ?_
  rintro e w8 ⟨rfl, hx⟩
  have X8 := Lib.hid (X7.out.trans hx.ext)
  have g08 := hx.ext.cellSome g07
  have g18 := hx.ext.cellSome g17
  have HV8 := Lib.hid (HV7.out.ext hx.ext)
  clear hx g07 g17
  go_wp2_with fail
  refine (s_AllOrders y _).mono ?_
  rintro e w9 ⟨v, rfl, ho, hx⟩
  obtain ⟨a9, n9, p9, rfl, HN9⟩ := ho.var
  have O9 := Lib.hid ho
  have X9 := Lib.hid (X8.out.trans hx)
  have g09 := hx.cellSome g08
  have g19 := hx.cellSome g18
  have HV9 := Lib.hid (HV8.out.ext hx)
  have hp9 := ho.intss.hcap
  have hp9' := ho.intss.hmax
  clear ho hx g08 g18
  go_wp2_with fail
  cases ok
  · go_loopg [14] n9 (fun gk ii wr => ∃ i : Nat, Hid (gk + i = n9) ∧ ii = .int .i64 (i : Int) ∧ Hid (Ext w wr))
    case atStart => exact ⟨0, Lib.hid (by omega), rfl, X9⟩
    case round =>
      obtain ⟨i, HI, rfl, XE⟩ := hrel
      by_cases hlt : i < n9
      all_goals
        go_wp2_with fail
        refine (s_DrawBanzhafValue (H.out.ext XE.out) hb).mono ?_
        rintro e w11 ⟨⟨z, b2, m2, c2, V2, rfl, hV2, hm2⟩, hx⟩
        have X11 := Lib.hid (XE.out.trans hx)
        have HW := Lib.hid (hV2.ext (Ext.alloc w11 (.cells #[.int .i64 z, .slice b2 m2 c2] 64)))
        have XB := Lib.hid (X11.out.trans (Ext.alloc w11 (.cells #[.int .i64 z, .slice b2 m2 c2] 64)))
        have f0 : (w11.alloc (.cells #[.int .i64 z, .slice b2 m2 c2] 64)).cell? ⟨w11.heap.size, 0, none⟩ = some (.int .i64 z) := by simp
        have f1 : (w11.alloc (.cells #[.int .i64 z, .slice b2 m2 c2] 64)).cell? ⟨w11.heap.size, 1, none⟩ = some (.slice b2 m2 c2) := by simp
        clear hx hV2
        go_wp2_with fail
        refine (i_BanzhafValue (x := z) HW.out).mono ?_
        rintro e w12 ⟨⟨v, rfl, ho⟩, hx⟩
        obtain ⟨a12, n12, p12, rfl, HN12⟩ := ho.var
        have O12 := Lib.hid ho
        have X12 := Lib.hid (XB.out.trans hx)
        have f02 := hx.cellSome f0
        have f12 := hx.cellSome f1
        have HW2 := Lib.hid (HW.out.ext hx)
        clear ho hx f0 f1
        go_wp2_with fail
        refine (s_BanzhafValue (x := z) HW2.out).mono ?_
        rintro e w13 ⟨⟨v, rfl, ho⟩, hx⟩
        obtain ⟨a13, n13, p13, rfl, HN13⟩ := ho.var
        have HE := Lib.hid (s_EqualVector (O12.out.ext hx).rats ho.rats)
        rw [decide_eq_true rfl] at HE
        have X13 := Lib.hid (X12.out.trans hx)
        obtain ⟨gok, hgok⟩ : ∃ o, o = gameOk z V2 := ⟨_, rfl⟩
        rw [← hgok]
        have hgg : (gok == gok) = true := by simp
        clear hgok ho hx f02 f12
        go_wp2_with fail
        refine HE.out.mono ?_
        rintro e w14 ⟨rfl, hx⟩
        have X14 := Lib.hid (X13.out.trans hx.ext)
        clear hx
        go_wp2_with fail
        go_ret
        exact ⟨rfl, X14.out⟩
  · have hbo := HOK.out.symm
    unfold bestOk at hbo
    rw [Bool.and_eq_true] at hbo
    obtain ⟨hgo, hink⟩ := hbo
    obtain ⟨nn, rfl, hnn1, hnn5, _⟩ := gameOk_len hgo
    obtain ⟨kk, rfl⟩ : ∃ q : Nat, k = q := ⟨k.toNat, by simp only [inB, Bool.and_eq_true, decide_eq_true_eq] at hink; omega⟩
    have hkn : kk < nn := by simp only [inB, Bool.and_eq_true, decide_eq_true_eq] at hink; omega
    have HBM := Lib.hid (show ∀ i, i < n9 → (mvL nn V ((ordersOf (nn : Int))[i]?.getD []) nn)[kk]?.getD 0 ≤ B by
      intro i hi
      rw [HB.out]
      unfold bestM bestI
      rw [if_pos HOK.out.symm, Int.toNat_natCast, Int.toNat_natCast]
      exact bestAt_max (addsK nn V kk) _ i (by rw [HN9.out]; exact hi))
    have HORD := Lib.hid (ordersOf_ord nn hnn1 hnn5)
    have HGO := Lib.hid hgo
    clear hgo hink
    go_loopg [14] n9 (fun gk ii wr => ∃ i : Nat, Hid (gk + i = n9) ∧ ii = .int .i64 (i : Int) ∧ Hid (Ext w9 wr))
    case atStart => exact ⟨0, Lib.hid (by omega), rfl, Lib.hid (Ext.refl _)⟩
    case round =>
      obtain ⟨g1, h_g1⟩ : ∃ x, x = gk := ⟨_, rfl⟩
      subst h_g1
      obtain ⟨wr1, h_wr1⟩ : ∃ x, x = wr := ⟨_, rfl⟩
      subst h_wr1
      obtain ⟨i, HI, rfl, XR⟩ := hrel
      by_cases hlt : i < n9
      · have q0 := XR.out.cellSome g09
        have q1 := XR.out.cellSome g19
        obtain ⟨lb, lo, ra, rn, rc, rfl, hcell, hrow⟩ := (O9.out.ext XR.out).intss.at hlt
        have hol := HORD.out i (by rw [HN9.out]; exact hlt)
        have hrn : rn = nn := by rw [← hrow.hlen]; exact hol.1
        subst hrn
        have HROW := Lib.hid hrow
        have HOL := Lib.hid hol
        have HMK := Lib.hid (show margOk (rn : Int) V ((ordersOf (rn : Int))[i]?.getD []) = true by
          unfold margOk isOrd
          rw [HGO.out, hol.1, hol.2]
          simp)
        have HML := Lib.hid (show margL (rn : Int) V ((ordersOf (rn : Int))[i]?.getD []) = mvL rn V ((ordersOf (rn : Int))[i]?.getD []) rn by
          unfold margL
          rw [if_pos HMK.out, Int.toNat_natCast, hol.1])
        clear hrow hol
        have hk2 : Ext wr1 wr1.drew := Ext.drew wr1
        have hka := hk2
        have HKEEP := Lib.hid (fun (w' : World) (h : Ext wr1 w') => (⟨h.cellSome q0, h.cellSome q1, h.cellSome hcell, h⟩ : w'.cell? ⟨w5.heap.size, 0, none⟩ = some (.int .i64 (rn : Int)) ∧ w'.cell? ⟨w5.heap.size, 1, none⟩ = some (.slice b m c) ∧ w'.cell? ⟨lb, lo + i, none⟩ = some (.slice ra rn rc) ∧ Ext wr1 w'))
        go_wp2_with fail
        go_region_held3 (fun w' => w'.cell? ⟨w5.heap.size, 0, none⟩ = some (.int .i64 (rn : Int)) ∧ w'.cell? ⟨w5.heap.size, 1, none⟩ = some (.slice b m c) ∧ w'.cell? ⟨lb, lo + i, none⟩ = some (.slice ra rn rc) ∧ Ext wr1 w')
          (with_reducible exact HKEEP.out _ hk2)
          (first
            | (go_at_call 74
               (with_reducible refine (s_MarginalVector (p := (rn : Int)) ((HV9.out.ext XR.out).ext hk2) (HROW.out.ext hk2)).mono ?_)
               rintro e w10 ⟨⟨v, rfl, ho⟩, hx_w10⟩
               rw [HMK.out]
               obtain ⟨a10, n10, p10, rfl, HN10⟩ := ho.var
               have HO10 := Lib.hid ho
               clear ho
               have hk2 : Ext wr1 w10 := hk2.trans hx_w10
               have hs_w10 := hk2.size)
            | fail)
        clear HKEEP hka
        have XR2 := Lib.hid (XR.out.trans hk2)
        have hn10 : n10 = rn := by rw [← HN10.out, HML.out, mvL_len]
        subst hn10
        obtain ⟨vb, vo, ha10, hvc⟩ := HO10.out.ints.at hkn
        subst ha10
        obtain ⟨q, hq⟩ : ∃ q, q = (margL (n10 : Int) V ((ordersOf (n10 : Int))[i]?.getD []))[kk]?.getD 0 := ⟨_, rfl⟩
        rw [← hq] at hvc
        have hqB : q ≤ B := by rw [hq, HML.out]; exact HBM.out i hlt
        have hqB' : ¬ B < q := by omega
        clear hq hk2
        go_wp2_with fail
        go_roundg (g1 - 1)
        case measure => have := HI.out; omega
        case rel => exact ⟨i + 1, Lib.hid (by have := HI.out; omega), by go_num, XR2⟩
      · have XE := Lib.hid (X9.out.trans XR.out)
        go_wp2_with fail
        refine (s_DrawBanzhafValue (H.out.ext XE.out) hb).mono ?_
        rintro e w11 ⟨⟨z, b2, m2, c2, V2, rfl, hV2, hm2⟩, hx⟩
        have X11 := Lib.hid (XE.out.trans hx)
        have HW := Lib.hid (hV2.ext (Ext.alloc w11 (.cells #[.int .i64 z, .slice b2 m2 c2] 64)))
        have XB := Lib.hid (X11.out.trans (Ext.alloc w11 (.cells #[.int .i64 z, .slice b2 m2 c2] 64)))
        have f0 : (w11.alloc (.cells #[.int .i64 z, .slice b2 m2 c2] 64)).cell? ⟨w11.heap.size, 0, none⟩ = some (.int .i64 z) := by simp
        have f1 : (w11.alloc (.cells #[.int .i64 z, .slice b2 m2 c2] 64)).cell? ⟨w11.heap.size, 1, none⟩ = some (.slice b2 m2 c2) := by simp
        clear hx hV2
        go_wp2_with fail
        refine (i_BanzhafValue (x := z) HW.out).mono ?_
        rintro e w12 ⟨⟨v, rfl, ho⟩, hx⟩
        obtain ⟨a12, n12, p12, rfl, HN12⟩ := ho.var
        have O12 := Lib.hid ho
        have X12 := Lib.hid (XB.out.trans hx)
        have f02 := hx.cellSome f0
        have f12 := hx.cellSome f1
        have HW2 := Lib.hid (HW.out.ext hx)
        clear ho hx f0 f1
        go_wp2_with fail
        refine (s_BanzhafValue (x := z) HW2.out).mono ?_
        rintro e w13 ⟨⟨v, rfl, ho⟩, hx⟩
        obtain ⟨a13, n13, p13, rfl, HN13⟩ := ho.var
        have HE := Lib.hid (s_EqualVector (O12.out.ext hx).rats ho.rats)
        rw [decide_eq_true rfl] at HE
        have X13 := Lib.hid (X12.out.trans hx)
        obtain ⟨gok, hgok⟩ : ∃ o, o = gameOk z V2 := ⟨_, rfl⟩
        rw [← hgok]
        have hgg : (gok == gok) = true := by simp
        clear hgok ho hx f02 f12
        go_wp2_with fail
        refine HE.out.mono ?_
        rintro e w14 ⟨rfl, hx⟩
        have X14 := Lib.hid (X13.out.trans hx.ext)
        clear hx
        go_wp2_with fail
        go_ret
        exact ⟨rfl, X14.out⟩

end Go.Proofs.Ytokpmflhgehicaa
