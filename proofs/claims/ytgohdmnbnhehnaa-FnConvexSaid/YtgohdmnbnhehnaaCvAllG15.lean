import Derived.Test.YtgohdmnbnhehnaaCvAllG1
import Derived.Test.YtgohdmnbnhehnaaCvAllG9
import Derived.Test.YtgohdmnbnhehnaaCvAllG14
namespace Go.Proofs.Ytgohdmnbnhehnaa
set_option linter.unusedVariables false
open Go.RowKit
set_option maxHeartbeats 400000 in
theorem l_sameInts {w : World} {a a' : Option Addr} {n n' cap cap' : Nat} {l l' : List Int} (h : Ints w a n cap l) (h' : Ints w a' n' cap' l') :
    Calls Try.prog 13 #[.slice a n cap, .slice a' n' cap'] w fun e w' => e = .returned (.bool (decide (l = l'))) ∧ Drew w w' := by
  have hn := h.hcap
  have hm := h.hmax
  have hn' := h'.hcap
  have hm' := h'.hmax
  have HL := Lib.hid h.hlen
  have HL' := Lib.hid h'.hlen
  by_cases hne : n = n'
  · subst hne
    go_enter Try.func13, Try.ntmps13
    go_wp2
    go_loopw [5] (fun i wr => ∃ k : Nat, k ≤ n ∧ i = .int .i64 k ∧ l.take k = l'.take k ∧ Drew w wr) (fun i _ => n - (intOf i).toNat)
    case atStart => exact ⟨0, Nat.zero_le _, rfl, rfl, Drew.refl _⟩
    case round =>
      obtain ⟨k, hk, rfl, htk, hx⟩ := hrel
      have HT := Lib.hid htk
      clear htk
      by_cases hlt : k < n
      · have h1 := h.ext hx.ext
        have h1' := h'.ext hx.ext
        obtain ⟨b, off, rfl, hc⟩ := h1.at hlt
        obtain ⟨b', off', rfl, hc'⟩ := h1'.at hlt
        by_cases hq : l[k]?.getD 0 = l'[k]?.getD 0
        · have HQ := Lib.hid hq
          have hq1 : (l[k]?.getD 0 != l'[k]?.getD 0) = false := by simp [hq]
          clear hq
          go_wp2
          go_quiet (fail)
          go_wp2
          go_roundw
          case rel => exact ⟨k + 1, by omega, by go_num, by rw [take_snoc (by have := HL.out; omega), take_snoc (by have := HL'.out; omega), HT.out, HQ.out], hx.trans ⟨_, rfl⟩⟩
          case measure => simp [intOf]; omega
        · have HQ := Lib.hid hq
          have hq1 : (l[k]?.getD 0 != l'[k]?.getD 0) = true := by simp [hq]
          clear hq
          go_wp2
          go_quiet (fail)
          go_wp2
          go_ret
          refine ⟨ret_bool ?_, hx.trans ⟨_, rfl⟩⟩
          symm
          rw [decide_eq_false_iff_not]
          intro e
          exact HQ.out (by rw [e])
      · go_wp2
        go_ret
        refine ⟨ret_bool ?_, hx⟩
        symm
        rw [decide_eq_true_eq]
        have := HT.out
        rwa [List.take_of_length_le (by have := HL.out; omega), List.take_of_length_le (by have := HL'.out; omega)] at this
  · have hne' : ((n : Int) != (n' : Int)) = true := by simp; omega
    have HN := Lib.hid hne
    clear hne
    go_enter Try.func13, Try.ntmps13
    go_wp2
    go_ret
    refine ⟨ret_bool ?_, Drew.refl _⟩
    symm
    rw [decide_eq_false_iff_not]
    intro e
    exact HN.out (by rw [← HL.out, ← HL'.out, e])
end Go.Proofs.Ytgohdmnbnhehnaa
namespace Go.Proofs.Ytgohdmnbnhehnaa
set_option linter.unusedVariables false
set_option linter.unusedSimpArgs false
set_option maxRecDepth 100000
open Go.RowKit
set_option maxHeartbeats 2000000 in
theorem l_rats {w : World} {a : Option Addr} {n cap : Nat} {l : List Int} (h : Ints w a n cap l) (hn : n ≤ 1048576) :
    Calls Try.prog 31 #[.slice a n cap] w fun e w' => (∃ v, e = .returned v ∧ OwnR w' w.heap.size v (wholeL l)) ∧ Ext w w' := by
  have HO := Lib.hid (OwnR.made w w.heap.size (Nat.le_refl _))
  have HI := Lib.hid h
  have HL := Lib.hid h.hlen
  have hcap := h.hcap
  have hmax := h.hmax
  clear h
  go_enter Try.func31, Try.ntmps31
  go_wp2_with fail
  go_loopg [3, 4] n (fun gk oo ii wr => ∃ (k : Nat) (a1 : Option Addr) (n1 p1 : Nat), Hid (gk + k = n) ∧ oo = .slice a1 n1 p1 ∧ ii = .int .i64 (k : Int) ∧ Hid (OwnR wr w.heap.size (.slice a1 n1 p1) (wholeL (l.take k))) ∧ Hid (Ext w wr))
  case atStart => exact ⟨0, _, _, _, Lib.hid (by omega), rfl, rfl, HO, Lib.hid (Ext.alloc _ _)⟩
  case round =>
    obtain ⟨g1, h_g1⟩ : ∃ x, x = gk := ⟨_, rfl⟩
    subst h_g1
    obtain ⟨wr, h_wr⟩ : ∃ x, x = wr := ⟨_, rfl⟩
    subst h_wr
    obtain ⟨k, a1, n1, p1, HK, rfl, rfl, HO1, XR⟩ := hrel
    by_cases hlt : k < n
    · obtain ⟨b, off, rfl, hc⟩ := (HI.out.ext XR.out).at hlt
      have HW := Lib.hid (wholeL_snoc (C := l) (k := k) (by rw [HL.out]; exact hlt))
      obtain ⟨y, hy⟩ : ∃ y, y = l[k]?.getD 0 := ⟨_, rfl⟩
      rw [← hy] at hc HW
      clear hy
      have HLW := Lib.hid (show (wholeL (l.take k)).length = k by rw [wholeL_len, List.length_take, HL.out]; omega)
      have hsz := XR.out.size
      go_wp2_with (first
        | (at_builtin; refine append_rats rfl _ _ rfl w.heap.size (.slice a1 n1 p1) _ rfl (HO1.out.ext (Ext.alloc _ _)) _ 1 _ [(y, 1)] rfl (Rats.one' _ _ _ _ _ (by simp)) (by rw [HLW.out]; omega) (by simp; omega) ?_; intro v2 w4 ho hg hnear; obtain ⟨a2, n2, c2, rfl, HN2⟩ := ho.var; have HO2 := Lib.hid ho; have X2 := Lib.hid (ext_grown (XR.out.trans (Ext.alloc _ _)) hg (fun j hj => (HO1.out.lt j hj).1)); clear ho hg hnear))
      go_roundg (g1 - 1)
      case measure => have := HK.out; omega
      case rel => exact ⟨k + 1, a2, n2, c2, Lib.hid (by have := HK.out; omega), rfl, by go_num, Lib.hid (by rw [← HW.out]; exact HO2.out), X2⟩
    · have hkn : k = n := by have := HK.out; omega
      subst hkn
      have HE := Lib.hid (show wholeL (l.take k) = wholeL l by rw [List.take_of_length_le (by rw [HL.out]; exact Nat.le_refl _)])
      go_wp2_with fail
      go_ret
      exact ⟨⟨_, rfl, by rw [← HE.out]; exact HO1.out⟩, XR.out⟩
set_option maxHeartbeats 8000000 in
theorem l_FnConvex {w : World} {a : Option Addr} {n cap : Nat} (h : Bytes w a n cap) :
    Calls Try.prog 5 #[.slice a n cap] w fun e w' => e = .returned (.bool true) ∧ Ext w w' := by
  have hcap := h.hcap
  have hmax := h.hmax
  have H := Lib.hid h
  clear h
  by_cases hbig : 1048576 < n
  · go_enter Try.func5, Try.ntmps5
    go_wp2_with fail
    go_in
    go_wp2_with fail
    go_ret
    exact ⟨rfl, Ext.refl _⟩
  have hb : n ≤ 1048576 := by omega
  go_enter Try.func5, Try.ntmps5
  go_wp2_with fail
  go_in
  go_wp2_with fail
  refine (s_DrawMarginalVector H.out hb).mono ?_
  rintro e w1 ⟨⟨y, b, b', m, c, m', c', V, O, rfl, hV, hO, hm⟩, hx⟩
  obtain ⟨W, hW⟩ : ∃ W, W = w1.alloc (.cells #[.int .i64 y, .slice b m c] 26) := ⟨_, rfl⟩
  have hxW : Ext w1 W := by rw [hW]; exact Ext.alloc _ _
  have XA := Lib.hid (hx.trans hxW)
  have HV := Lib.hid (hV.ext hxW)
  have HO := Lib.hid (hO.ext hxW)
  have g0 : W.cell? ⟨w1.heap.size, 0, none⟩ = some (.int .i64 y) := by rw [hW]; simp
  have g1 : W.cell? ⟨w1.heap.size, 1, none⟩ = some (.slice b m c) := by rw [hW]; simp
  clear hV hO hx hxW
  go_upto_region 4 with fail
  rw [← hW]
  clear hW
  obtain ⟨ok, hok⟩ : ∃ o, o = margOk y V O := ⟨_, rfl⟩
  have HOK := Lib.hid hok
  go_wp2_with fail
  refine (i_MarginalVector (p := y) HV.out HO.out).mono ?_
  rintro e w2 ⟨⟨v, rfl, ho⟩, hx⟩
  rw [← hok]
  obtain ⟨a2, n2, p2, rfl, HN2⟩ := ho.var
  have O2 := Lib.hid ho
  have X2 := Lib.hid hx
  have g02 := hx.cellSome g0
  have g12 := hx.cellSome g1
  clear ho hx g0 g1
  go_wp2_with fail
  refine (s_MarginalVector (p := y) (HV.out.ext X2.out) (HO.out.ext X2.out)).mono ?_
  rintro e w3 ⟨⟨v, rfl, ho⟩, hx⟩
  rw [← hok]
  obtain ⟨a3, n3, p3, rfl, HN3⟩ := ho.var
  have HE := Lib.hid (l_sameInts (O2.out.ints.ext hx) ho.ints)
  rw [decide_eq_true rfl] at HE
  have O3 := Lib.hid (O2.out.ext hx)
  have X3 := Lib.hid (X2.out.trans hx)
  have g03 := hx.cellSome g02
  have g13 := hx.cellSome g12
  have hoo : (ok != ok) = false := by simp
  clear ho hx hok g02 g12
  go_wp2_with fail
  refine HE.out.mono ?_
  rintro e w4 ⟨rfl, hx⟩
  have X4 := Lib.hid (X3.out.trans hx.ext)
  have g04 := hx.ext.cellSome g03
  have g14 := hx.ext.cellSome g13
  have O4 := Lib.hid (O3.out.ext hx.ext)
  have HV4 := Lib.hid (HV.out.ext X4.out)
  clear hx g03 g13
  cases ok
  · go_wp2_with fail
    go_ret
    exact ⟨rfl, XA.out.trans X4.out⟩
  have HC := Lib.hid (s_IsConvex (p := y) HV4.out)
  cases hcv : convOk y V
  · rw [hcv] at HC
    clear hcv
    go_wp2_with fail
    refine HC.out.mono ?_
    rintro e w5 ⟨rfl, hx⟩
    have X5 := Lib.hid (X4.out.trans hx)
    clear hx
    go_wp2_with fail
    go_ret
    exact ⟨rfl, XA.out.trans X5.out⟩
  rw [hcv] at HC
  have HCV := Lib.hid hcv
  clear hcv
  go_wp2_with fail
  refine HC.out.mono ?_
  rintro e w5 ⟨rfl, hx⟩
  have X5 := Lib.hid (X4.out.trans hx)
  have g05 := hx.cellSome g04
  have g15 := hx.cellSome g14
  have O5 := Lib.hid (O4.out.ext hx)
  have HV5 := Lib.hid (HV4.out.ext hx)
  clear hx g04 g14
  go_wp2_with fail
  refine (i_ShapleyValue (x := y) HV5.out).mono ?_
  rintro e w6 ⟨⟨v, rfl, ho⟩, hx⟩
  obtain ⟨a6, n6, p6, rfl, HN6⟩ := ho.var
  have R6 := Lib.hid ho
  have X6 := Lib.hid (X5.out.trans hx)
  have O6 := Lib.hid (O5.out.ext hx)
  have HV6 := Lib.hid (HV5.out.ext hx)
  have G0 := Lib.hid (hx.cellSome g05)
  have G1 := Lib.hid (hx.cellSome g15)
  clear ho hx g05 g15
  -- the laws
  have HIN : Hid (coreS y V (wholeL (margL y V O)) = true ∧ coreS y V (shapL y V) = true ∧ n2 ≤ 1048576) := by
    have hok := HOK.out.symm
    unfold margOk isOrd at hok
    simp only [Bool.and_eq_true, decide_eq_true_eq] at hok
    obtain ⟨hg, ho, hl⟩ := hok
    obtain ⟨q, rfl, hq1, hq5, _⟩ := gameOk_len hg
    have hl' : O.length = q := by omega
    have hML : margL (q : Int) V O = mvL q V O q := by
      unfold margL
      rw [if_pos HOK.out.symm, Int.toNat_natCast, hl']
    rw [hl'] at ho
    refine Lib.hid ⟨?_, conv_shap HCV.out, ?_⟩
    · rw [hML]; exact conv_core HCV.out hl' ho
    · have := HN2.out
      rw [hML, mvL_len] at this
      omega
  have HK0 := Lib.hid (fun (w' : World) (h : Ext w6 w') => (⟨h.cellSome G0.out, h.cellSome G1.out, h⟩ : w'.cell? ⟨w1.heap.size, 0, none⟩ = some (.int .i64 y) ∧ w'.cell? ⟨w1.heap.size, 1, none⟩ = some (.slice b m c) ∧ Ext w6 w'))
  go_wp2_with fail
  refine wp_region_held_drew (S := (fun w' => w'.cell? ⟨w1.heap.size, 0, none⟩ = some (.int .i64 y) ∧ w'.cell? ⟨w1.heap.size, 1, none⟩ = some (.slice b m c) ∧ Ext w6 w')) (by kernel_rfl) ?_ (fun hHeld => ?_)
  · exact HK0.out _ (Ext.drew w6)
  have hk2 := hHeld.2.2
  refine tk (i := 0) (h := ?_)
  try simp only [Act.put, sA, sB, sC]
  refine tk (i := 1) (h := ?_)
  try simp only [Act.put, sA, sB, sC]
  refine rd (i := 2) (h := fun K hK => ?_)
  go_simp
  refine (l_rats (O6.out.ints.ext hk2) HIN.out.2.2).mono ?_; rintro e w7 ⟨⟨v, rfl, ho⟩, hx⟩; obtain ⟨a7, n7, p7, rfl, HN7⟩ := ho.var; have R7 := Lib.hid ho; replace hk2 := hk2.trans hx; clear ho hx
  go_wp2_with fail
  refine hK.out _ _ ?_ (fun hHeld => ?_)
  · exact HK0.out _ hk2
  clear hK K
  try simp only [Act.put, sA, sB, sC]
  refine rd (i := 3) (h := fun K hK => ?_)
  go_simp
  refine (s_InCore (p := y) (HV6.out.ext hk2) R7.out.rats).mono ?_; rw [HIN.out.1]; rintro e w8 ⟨rfl, hx⟩; replace hk2 := hk2.trans hx; clear hx
  go_wp2_with fail
  refine hK.out _ _ ?_ (fun hHeld => ?_)
  · exact HK0.out _ hk2
  clear hK K
  try simp only [Act.put, sA, sB, sC]
  refine tk (i := 4) (h := ?_)
  try simp only [Act.put, sA, sB, sC]
  refine tk (i := 5) (h := ?_)
  try simp only [Act.put, sA, sB, sC]
  refine tk (i := 6) (h := ?_)
  try simp only [Act.put, sA, sB, sC]
  refine rd (i := 7) (h := fun K hK => ?_)
  go_simp
  refine (s_InCore (p := y) (HV6.out.ext hk2) (R6.out.rats.ext hk2)).mono ?_; rw [HIN.out.2.1]; rintro e w9 ⟨rfl, hx⟩; replace hk2 := hk2.trans hx; clear hx
  go_wp2_with fail
  refine hK.out _ _ ?_ (fun hHeld => ?_)
  · exact HK0.out _ hk2
  clear hK K
  try simp only [Act.put, sA, sB, sC]
  refine tk (i := 8) (h := ?_)
  try simp only [Act.put, sA, sB, sC]
  refine tk (i := 9) (h := ?_)
  try simp only [Act.put, sA, sB, sC]
  refine wpAnyH_done (by kernel_rfl) ?_ _
  go_wp2_with fail
  go_ret
  exact ⟨rfl, (XA.out.trans X6.out).trans hk2⟩
end Go.Proofs.Ytgohdmnbnhehnaa
