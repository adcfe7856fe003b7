import Derived.Test.YtgohdmnbnhehnaaShAllG8
import Derived.Test.YtgohdmnbnhehnaaShAllG14
import Derived.Test.YtgohdmnbnhehnaaShAllG16
import Derived.Test.YtgohdmnbnhehnaaShAllG13
namespace Go.Proofs.Ytgohdmnbnhehnaa
set_option linter.unusedVariables false
set_option linter.unusedSimpArgs false
set_option maxRecDepth 100000
open Go.RowKit
set_option maxHeartbeats 8000000 in
theorem l_FnShares {w : World} {a : Option Addr} {n cap : Nat} (h : Bytes w a n cap) :
    Calls Try.prog 6 #[.slice a n cap] w fun e w' => e = .returned (.bool true) ∧ Ext w w' := by
  have hcap := h.hcap
  have hmax := h.hmax
  have H := Lib.hid h
  clear h
  by_cases hbig : 1048576 < n
  · go_enter Try.func6, Try.ntmps6
    go_wp2_with fail
    go_in
    go_wp2_with fail
    go_ret
    exact ⟨rfl, Ext.refl _⟩
  have hb : n ≤ 1048576 := by omega
  go_enter Try.func6, Try.ntmps6
  go_wp2_with fail
  go_in
  go_wp2_with fail
  refine (s_DrawEqualAwards H.out hb).mono ?_
  rintro e w1 ⟨⟨b, m, c, L, x, y, rfl, hL, hm, hfew, hy⟩, hx⟩
  obtain ⟨W, hW⟩ : ∃ W, W = w1.alloc (.cells #[.int .i64 x, .int .i64 y] 34) := ⟨_, rfl⟩
  have hxW : Ext w1 W := by rw [hW]; exact Ext.alloc _ _
  have XA := Lib.hid (hx.trans hxW)
  have HL := Lib.hid (hL.ext hxW)
  have g0 : W.cell? ⟨w1.heap.size, 0, none⟩ = some (.int .i64 x) := by rw [hW]; simp
  have g1 : W.cell? ⟨w1.heap.size, 1, none⟩ = some (.int .i64 y) := by rw [hW]; simp
  have hLm := hL.hlen
  have hbc := hL.hcap
  have hbm := hL.hmax
  obtain ⟨ok, hok⟩ : ∃ o, o = awardOk L x y := ⟨_, rfl⟩
  obtain ⟨fine, hfine⟩ : ∃ o, o = lossOk L x y := ⟨_, rfl⟩
  obtain ⟨A, hA⟩ : ∃ A, A = awardL L x y := ⟨_, rfl⟩
  have HAW := Lib.hid (show (ok = false ∧ A = []) ∨ (ok = true ∧ A.length = m ∧ (∀ k, k < m → 0 ≤ (A[k]?.getD (0, 0)).1 ∧ cmpR (A[k]?.getD (0, 0)) (L[k]?.getD 0, 1) ≤ 0) ∧
      (∀ i k, i < m → k < m → L[i]?.getD 0 = L[k]?.getD 0 → A[i]?.getD (0, 0) = A[k]?.getD (0, 0)) ∧ shareP A (cN m - 1) = some (x, y)) by
    rw [hok, hA]
    cases hf : fitsR L x y
    · exact .inl (award_not hf)
    · have := award_yes hf (by omega) (fun j => by
        by_cases hj : j < L.length
        · have := hfew (L[j]) (List.getElem_mem _); rw [List.getElem?_eq_getElem hj, Option.getD_some]; omega
        · rw [List.getElem?_eq_none (by omega)]; simp) hy
      rw [hLm] at this
      exact .inr this)
  have HOK := Lib.hid hok
  have HFINE := Lib.hid hfine
  have HA := Lib.hid hA
  have hoo : (ok != ok) = false := by simp
  have hff : (fine != fine) = false := by simp
  clear hL hx hxW hok hfine hA hfew hLm
  go_upto_region 4 with fail
  rw [← hW]
  clear hW
  go_wp2_with fail
  refine (i_EqualAwards (x := x) (y := y) HL.out).mono ?_
  rw [← HOK.out, ← HA.out]
  rintro e w2 ⟨⟨v, rfl, ho⟩, hx⟩
  obtain ⟨a2, n2, p2, rfl, HN2⟩ := ho.var
  have R2 := Lib.hid ho
  have X2 := Lib.hid hx
  replace g0 := hx.cellSome g0
  replace g1 := hx.cellSome g1
  clear ho hx
  go_wp2_with fail
  refine (s_EqualAwards (x := x) (y := y) (HL.out.ext X2.out)).mono ?_
  rw [← HOK.out, ← HA.out]
  rintro e w3 ⟨⟨v, rfl, ho⟩, hx⟩
  obtain ⟨a3, n3, p3, rfl, HN3⟩ := ho.var
  have R3 := Lib.hid ho
  have R2 := Lib.hid (R2.out.ext hx)
  have X3 := Lib.hid (X2.out.trans hx)
  replace g0 := hx.cellSome g0
  replace g1 := hx.cellSome g1
  clear ho hx
  go_wp2_with fail
  refine (i_losses (x := x) (y := y) (HL.out.ext X3.out)).mono ?_
  rw [← HFINE.out]
  rintro e w4 ⟨⟨v, rfl, ho⟩, hx⟩
  obtain ⟨a4, n4, p4, rfl, HN4⟩ := ho.var
  have R4 := Lib.hid ho
  have R2 := Lib.hid (R2.out.ext hx)
  have R3 := Lib.hid (R3.out.ext hx)
  have X4 := Lib.hid (X3.out.trans hx)
  replace g0 := hx.cellSome g0
  replace g1 := hx.cellSome g1
  clear ho hx
  go_wp2_with fail
  refine (s_losses (x := x) (y := y) (HL.out.ext X4.out)).mono ?_
  rw [← HFINE.out]
  rintro e w5 ⟨⟨v, rfl, ho⟩, hx⟩
  obtain ⟨a5, n5, p5, rfl, HN5⟩ := ho.var
  have R2 := Lib.hid (R2.out.ext hx)
  have HE1 := Lib.hid (s_EqualVector R2.out.rats (R3.out.ext hx).rats)
  rw [decide_eq_true rfl] at HE1
  have HE2 := Lib.hid (fun (w' : World) (h : Ext w5 w') => s_EqualVector ((R4.out.ext hx).rats.ext h) (ho.rats.ext h))
  simp only [decide_eq_true] at HE2
  have X5 := Lib.hid (X4.out.trans hx)
  replace g0 := hx.cellSome g0
  replace g1 := hx.cellSome g1
  clear ho hx
  go_wp2_with fail
  refine HE1.out.mono ?_
  rintro e w6 ⟨rfl, hx⟩
  have X6 := Lib.hid hx.ext
  clear hx
  go_wp2_with fail
  refine (HE2.out _ X6.out).mono ?_
  rintro e w7 ⟨rfl, hx⟩
  have X7 := Lib.hid ((X5.out.trans X6.out).trans hx.ext)
  have R7 := Lib.hid ((R2.out.ext X6.out).ext hx.ext)
  have g07 := hx.ext.cellSome (X6.out.cellSome g0)
  have g17 := hx.ext.cellSome (X6.out.cellSome g1)
  have hq1 := R7.out.rats.hcap
  have hq2 := R7.out.rats.hmax
  clear hx g0 g1
  have HNM := Lib.hid (show 0 < n2 → n2 = m ∧ ok = true by
    intro h0
    rcases HAW.out with ⟨h1, h2⟩ | ⟨h1, h2, _⟩
    · have := HN2.out; rw [h2] at this; simp at this; omega
    · exact ⟨by rw [← HN2.out, h2], h1⟩)
  go_wp2_with fail
  go_loopg [13] n2 (fun gk kk wr => ∃ k : Nat, Hid (gk + k = n2) ∧ kk = .int .i64 (k : Int) ∧ Hid (Ext w7 wr))
  case atStart => exact ⟨0, Lib.hid (by omega), rfl, Lib.hid (Ext.refl _)⟩
  case round =>
    obtain ⟨g1, h_g1⟩ : ∃ x, x = gk := ⟨_, rfl⟩
    subst h_g1
    obtain ⟨wr1, h_wr1⟩ : ∃ x, x = wr := ⟨_, rfl⟩
    subst h_wr1
    obtain ⟨k, HK, rfl, XR⟩ := hrel
    by_cases hlt : k < n2
    · obtain ⟨hnm, hokt⟩ := HNM.out (by omega)
      subst hnm
      have HY := HAW.out
      rw [hokt] at HY
      simp only [Bool.true_eq_false, false_and, false_or, true_and] at HY
      obtain ⟨_, hrow, hsame, _⟩ := HY
      have HROW := Lib.hid hrow
      have HSAME := Lib.hid hsame
      clear hrow hsame hokt
      go_wp2_with fail
      go_loopg [14] k (fun gk ii wr => ∃ i : Nat, Hid (gk + i = k) ∧ ii = .int .i64 (i : Int) ∧ Hid (Ext w7 wr))
      case atStart => exact ⟨0, Lib.hid (by omega), rfl, XR⟩
      case round =>
        obtain ⟨g2, h_g2⟩ : ∃ x, x = gk := ⟨_, rfl⟩
        subst h_g2
        obtain ⟨wr2, h_wr2⟩ : ∃ x, x = wr := ⟨_, rfl⟩
        subst h_wr2
        obtain ⟨i, HI, rfl, XS⟩ := hrel
        have hkd : Ext w7 wr2.drew := XS.out.trans (Ext.drew wr2)
        by_cases hli : i < k
        · have hin : i < n2 := by omega
          obtain ⟨lb, lo, rfl, hlk⟩ := ((HL.out.ext X7.out).ext hkd).at hlt
          obtain ⟨lb2, lo2, he2, hlI⟩ := ((HL.out.ext X7.out).ext hkd).at hin
          simp only [Option.some.injEq, Addr.mk.injEq, and_true] at he2
          obtain ⟨rfl, rfl⟩ := he2
          obtain ⟨xb, xo, u1, v1, rfl, hu1, hc1, hd1⟩ := (R7.out.rats.ext hkd).at hlt
          obtain ⟨xb2, xo2, u2, v2, he2, hu2, hc2, hd2⟩ := (R7.out.rats.ext hkd).at hin
          simp only [Option.some.injEq, Addr.mk.injEq, and_true] at he2
          obtain ⟨rfl, rfl⟩ := he2
          have hsm := HSAME.out i k hin hlt
          rw [hu1, hu2] at hsm
          obtain ⟨ck, hck⟩ : ∃ z, z = L[k]?.getD 0 := ⟨_, rfl⟩
          obtain ⟨ci, hci⟩ : ∃ z, z = L[i]?.getD 0 := ⟨_, rfl⟩
          rw [← hck] at hlk hsm
          rw [← hci] at hlI hsm
          clear hck hci hu1 hu2
          by_cases he : ci = ck
          · have hsm2 := hsm he
            simp only [Prod.mk.injEq] at hsm2
            obtain ⟨rfl, rfl⟩ := hsm2
            subst he
            clear hsm
            go_wp2_with fail
            refine wp_region_held_drew (S := (fun w' => w'.cell? ⟨lb, lo + k, none⟩ = some (.int .i64 ci) ∧ w'.cell? ⟨lb, lo + i, none⟩ = some (.int .i64 ci) ∧ w'.cell? ⟨xb, xo + k * 2, none⟩ = some (.int .i64 u2) ∧ w'.cell? ⟨xb, xo + k * 2 + 1, none⟩ = some (.int .i64 v2) ∧ w'.cell? ⟨xb, xo + i * 2, none⟩ = some (.int .i64 u2) ∧ w'.cell? ⟨xb, xo + i * 2 + 1, none⟩ = some (.int .i64 v2))) (by kernel_rfl) ?_ (fun hHeld => ?_)
            · exact ⟨hlk, hlI, hc1, hd1, hc2, hd2⟩
            refine tk (i := 0) (h := ?_)
            try simp only [Act.put, sA, sB, sC]
            refine tk (i := 1) (h := ?_)
            try simp only [Act.put, sA, sB, sC]
            refine tk (i := 2) (h := ?_)
            try simp only [Act.put, sA, sB, sC]
            refine tk (i := 3) (h := ?_)
            try simp only [Act.put, sA, sB, sC]
            refine tk (i := 4) (h := ?_)
            try simp only [Act.put, sA, sB, sC]
            refine tk (i := 5) (h := ?_)
            try simp only [Act.put, sA, sB, sC]
            refine tk (i := 6) (h := ?_)
            try simp only [Act.put, sA, sB, sC]
            refine tk (i := 7) (h := ?_)
            try simp only [Act.put, sA, sB, sC]
            refine tk (i := 8) (h := ?_)
            try simp only [Act.put, sA, sB, sC]
            refine tk (i := 9) (h := ?_)
            try simp only [Act.put, sA, sB, sC]
            refine tk (i := 10) (h := ?_)
            try simp only [Act.put, sA, sB, sC]
            refine tk (i := 11) (h := ?_)
            try simp only [Act.put, sA, sB, sC]
            refine tk (i := 12) (h := ?_)
            try simp only [Act.put, sA, sB, sC]
            refine tk (i := 13) (h := ?_)
            try simp only [Act.put, sA, sB, sC]
            refine tk (i := 14) (h := ?_)
            try simp only [Act.put, sA, sB, sC]
            refine tk (i := 15) (h := ?_)
            try simp only [Act.put, sA, sB, sC]
            refine tk (i := 16) (h := ?_)
            try simp only [Act.put, sA, sB, sC]
            refine tk (i := 17) (h := ?_)
            try simp only [Act.put, sA, sB, sC]
            refine tk (i := 18) (h := ?_)
            try simp only [Act.put, sA, sB, sC]
            refine tk (i := 19) (h := ?_)
            try simp only [Act.put, sA, sB, sC]
            refine wpAnyH_done (by kernel_rfl) ?_ _
            go_wp2_with fail
            go_roundg (g2 - 1)
            case measure => have := HI.out; omega
            case rel => exact ⟨i + 1, Lib.hid (by have := HI.out; omega), by go_num, Lib.hid hkd⟩
          · have hbe : (ci == ck) = false := by simp [he]
            clear hsm he
            go_wp2_with fail
            refine wp_region_held_drew (S := (fun w' => w'.cell? ⟨lb, lo + k, none⟩ = some (.int .i64 ck) ∧ w'.cell? ⟨lb, lo + i, none⟩ = some (.int .i64 ci))) (by kernel_rfl) ?_ (fun hHeld => ?_)
            · exact ⟨hlk, hlI⟩
            refine tk (i := 0) (h := ?_)
            try simp only [Act.put, sA, sB, sC]
            refine tk (i := 1) (h := ?_)
            try simp only [Act.put, sA, sB, sC]
            refine tk (i := 2) (h := ?_)
            try simp only [Act.put, sA, sB, sC]
            refine tk (i := 3) (h := ?_)
            try simp only [Act.put, sA, sB, sC]
            refine tk (i := 4) (h := ?_)
            try simp only [Act.put, sA, sB, sC]
            refine tk (i := 5) (h := ?_)
            try simp only [Act.put, sA, sB, sC]
            refine tk (i := 6) (h := ?_)
            try simp only [Act.put, sA, sB, sC]
            refine tk (i := 7) (h := ?_)
            try simp only [Act.put, sA, sB, sC]
            refine tk (i := 8) (h := ?_)
            try simp only [Act.put, sA, sB, sC]
            refine tk (i := 9) (h := ?_)
            try simp only [Act.put, sA, sB, sC]
            refine sk (i := 10) (h := ?_)
            try simp only [Act.put, sA, sB, sC]
            refine sk (i := 11) (h := ?_)
            try simp only [Act.put, sA, sB, sC]
            refine sk (i := 12) (h := ?_)
            try simp only [Act.put, sA, sB, sC]
            refine sk (i := 13) (h := ?_)
            try simp only [Act.put, sA, sB, sC]
            refine sk (i := 14) (h := ?_)
            try simp only [Act.put, sA, sB, sC]
            refine sk (i := 15) (h := ?_)
            try simp only [Act.put, sA, sB, sC]
            refine sk (i := 16) (h := ?_)
            try simp only [Act.put, sA, sB, sC]
            refine sk (i := 17) (h := ?_)
            try simp only [Act.put, sA, sB, sC]
            refine sk (i := 18) (h := ?_)
            try simp only [Act.put, sA, sB, sC]
            refine tk (i := 19) (h := ?_)
            try simp only [Act.put, sA, sB, sC]
            refine wpAnyH_done (by kernel_rfl) ?_ _
            go_wp2_with fail
            go_roundg (g2 - 1)
            case measure => have := HI.out; omega
            case rel => exact ⟨i + 1, Lib.hid (by have := HI.out; omega), by go_num, Lib.hid hkd⟩
        · obtain ⟨lb, lo, rfl, hlk⟩ := ((HL.out.ext X7.out).ext hkd).at hlt
          obtain ⟨xb, xo, u1, v1, rfl, hu1, hc1, hd1⟩ := (R7.out.rats.ext hkd).at hlt
          have hrw := HROW.out k hlt
          rw [hu1] at hrw
          obtain ⟨ck, hck⟩ : ∃ z, z = L[k]?.getD 0 := ⟨_, rfl⟩
          rw [← hck] at hlk hrw
          obtain ⟨Z, hZ⟩ : ∃ z, z = cmpR (u1, v1) (ck, 1) := ⟨_, rfl⟩
          rw [← hZ] at hrw
          have HZ := Lib.hid hZ
          simp only at hrw
          obtain ⟨hu0, hz0⟩ := hrw
          have hu0' : decide (u1 < 0) = false := decide_eq_false (by omega)
          have hz0' : decide (0 < Z) = false := decide_eq_false (by omega)
          have HKK := Lib.hid (fun (w' : World) (h : Ext wr2.drew w') => (⟨h.cellSome hlk, h.cellSome hc1, h.cellSome hd1⟩ : w'.cell? ⟨lb, lo + k, none⟩ = some (.int .i64 ck) ∧ w'.cell? ⟨xb, xo + k * 2, none⟩ = some (.int .i64 u1) ∧ w'.cell? ⟨xb, xo + k * 2 + 1, none⟩ = some (.int .i64 v1)))
          clear hck hu1 hZ
          go_wp2_with fail
          refine wp_region_held_drew (S := (fun w' => w'.cell? ⟨lb, lo + k, none⟩ = some (.int .i64 ck) ∧ w'.cell? ⟨xb, xo + k * 2, none⟩ = some (.int .i64 u1) ∧ w'.cell? ⟨xb, xo + k * 2 + 1, none⟩ = some (.int .i64 v1))) (by kernel_rfl) ?_ (fun hHeld => ?_)
          · exact HKK.out _ (Ext.refl _)
          refine tk (i := 0) (h := ?_)
          try simp only [Act.put, sA, sB, sC]
          refine tk (i := 1) (h := ?_)
          try simp only [Act.put, sA, sB, sC]
          refine tk (i := 2) (h := ?_)
          try simp only [Act.put, sA, sB, sC]
          refine tk (i := 3) (h := ?_)
          try simp only [Act.put, sA, sB, sC]
          refine tk (i := 4) (h := ?_)
          try simp only [Act.put, sA, sB, sC]
          refine tk (i := 5) (h := ?_)
          try simp only [Act.put, sA, sB, sC]
          refine tk (i := 6) (h := ?_)
          try simp only [Act.put, sA, sB, sC]
          refine tk (i := 7) (h := ?_)
          try simp only [Act.put, sA, sB, sC]
          refine tk (i := 8) (h := ?_)
          try simp only [Act.put, sA, sB, sC]
          refine tk (i := 9) (h := ?_)
          try simp only [Act.put, sA, sB, sC]
          refine tk (i := 10) (h := ?_)
          try simp only [Act.put, sA, sB, sC]
          refine tk (i := 11) (h := ?_)
          try simp only [Act.put, sA, sB, sC]
          refine tk (i := 12) (h := ?_)
          try simp only [Act.put, sA, sB, sC]
          refine tk (i := 13) (h := ?_)
          try simp only [Act.put, sA, sB, sC]
          refine tk (i := 14) (h := ?_)
          try simp only [Act.put, sA, sB, sC]
          refine tk (i := 15) (h := ?_)
          try simp only [Act.put, sA, sB, sC]
          refine rd (i := 16) (h := fun K hK => ?_)
          go_simp
          refine (i_CompareRat u1 v1 ck 1 _).mono ?_; rw [← HZ.out]; rintro e w8 ⟨rfl, hx⟩; have hk8 := hkd.trans hx
          go_wp2_with fail
          refine hK.out _ _ ?_ (fun hHeld => ?_)
          · exact HKK.out _ hx
          clear hK K
          try simp only [Act.put, sA, sB, sC]
          refine tk (i := 17) (h := ?_)
          try simp only [Act.put, sA, sB, sC]
          refine tk (i := 18) (h := ?_)
          try simp only [Act.put, sA, sB, sC]
          refine wpAnyH_done (by kernel_rfl) ?_ _
          go_wp2_with fail
          go_roundg (g1 - 1)
          case measure => have := HK.out; omega
          case rel => exact ⟨k + 1, Lib.hid (by have := HK.out; omega), by go_num, Lib.hid hk8⟩
    · have hn3 : n2 ≤ 3 := by
        by_cases h0 : 0 < n2
        · have := (HNM.out h0).1; omega
        · omega
      have hcn := cN_le n2 (by omega)
      obtain ⟨s, hs⟩ : ∃ s, s = cN n2 - 1 := ⟨_, rfl⟩
      have hse : (cN n2 : Int) - 1 = (s : Int) := by omega
      have hws : IntKind.i64.wrap (s : Int) = (s : Int) := by rw [IntKind.wrap_i64]; omega
      have hs32 : s < 32 := by omega
      have HSH := Lib.hid (s_ShareOf ((R7.out.rats.ext XR.out)) s hs32)
      obtain ⟨r1, r2, good, hr⟩ : ∃ r1 r2 o, ((shareP A s).getD (0, 0), (shareP A s).isSome) = (((r1, r2) : Int × Int), o) := ⟨_, _, _, rfl⟩
      rw [hr] at HSH
      have HGD := Lib.hid (show ok = true → good = true ∧ r1 = x ∧ r2 = y by
        intro h1
        rcases HAW.out with ⟨h2, _⟩ | ⟨_, h2, _, _, h3⟩
        · rw [h1] at h2; cases h2
        · have h4 : n2 = m := by rw [← HN2.out, h2]
          subst h4
          rw [← hs] at h3
          rw [h3] at hr
          simp only [Option.getD_some, Option.isSome_some, Prod.mk.injEq] at hr
          exact ⟨hr.2.symm, hr.1.1.symm, hr.1.2.symm⟩)
      clear hr hs
      go_wp2_with fail
      refine (s_CountC n2 (by omega) _).mono ?_
      rintro e w8 ⟨rfl, rfl⟩
      go_wp2_with fail
      refine HSH.out.mono ?_
      rintro e w9 ⟨rfl, hx9⟩
      obtain ⟨w10, hw10⟩ : ∃ E, E = w9.alloc (.cells #[.int .i64 r1, .int .i64 r2] 34) := ⟨_, rfl⟩
      have hx10 : Ext w9 w10 := by rw [hw10]; exact Ext.alloc _ _
      have X10 := Lib.hid ((XR.out.trans hx9).trans hx10)
      have q0 : w10.cell? ⟨w9.heap.size, 0, none⟩ = some (.int .i64 r1) := by rw [hw10]; simp
      have q1 : w10.cell? ⟨w9.heap.size, 1, none⟩ = some (.int .i64 r2) := by rw [hw10]; simp
      have p0 := X10.out.cellSome g07
      have p1 := X10.out.cellSome g17
      have XE := Lib.hid ((XA.out.trans X7.out).trans X10.out)
      clear hx9 hx10 hse hws
      go_upto_region 21 with fail
      rw [← hw10]
      clear hw10
      have HTAIL := Lib.hid (H.out.ext XE.out)
      have hgx : ok = true → good = true ∧ r1 = x ∧ r2 = y := HGD.out
      cases ok
      rotate_left
      · obtain ⟨rfl, rfl, rfl⟩ := hgx rfl
        go_wp2_with fail
        refine (s_DrawProportionalShares HTAIL.out hb).mono ?_
        rintro e w11 ⟨⟨z, b3, m3, c3, L3, rfl, hL3, hm3⟩, hx⟩
        obtain ⟨B, hB⟩ : ∃ W, W = w11.alloc (.cells #[.int .i64 z, .slice b3 m3 c3] 61) := ⟨_, rfl⟩
        have hxB : Ext w11 B := by rw [hB]; exact Ext.alloc _ _
        have XB := Lib.hid ((XE.out.trans hx).trans hxB)
        have HL3 := Lib.hid (hL3.ext hxB)
        have f0 : B.cell? ⟨w11.heap.size, 0, none⟩ = some (.int .i64 z) := by rw [hB]; simp
        have f1 : B.cell? ⟨w11.heap.size, 1, none⟩ = some (.slice b3 m3 c3) := by rw [hB]; simp
        obtain ⟨one, hone⟩ : ∃ o, o = validPair 0 z L3 := ⟨_, rfl⟩
        have HONE := Lib.hid hone
        have hee : (one == one) = true := by simp
        clear hL3 hx hxB hone q0 q1 p0 p1
        go_upto_region 24 with fail
        rw [← hB]
        clear hB
        go_wp2_with fail
        refine (i_ProportionalShares (x := z) HL3.out).mono ?_
        rw [← HONE.out]
        rintro e w12 ⟨⟨v, rfl, ho⟩, hx⟩
        obtain ⟨a12, n12, p12, rfl, HN12⟩ := ho.var
        have R12 := Lib.hid ho
        have X12 := Lib.hid hx
        replace f0 := hx.cellSome f0
        replace f1 := hx.cellSome f1
        clear ho hx
        go_wp2_with fail
        refine (s_ProportionalShares (x := z) (HL3.out.ext X12.out)).mono ?_
        rw [← HONE.out]
        rintro e w13 ⟨⟨v, rfl, ho⟩, hx⟩
        obtain ⟨a13, n13, p13, rfl, HN13⟩ := ho.var
        have HE3 := Lib.hid (s_EqualVector (R12.out.ext hx).rats ho.rats)
        rw [decide_eq_true rfl] at HE3
        have X13 := Lib.hid (X12.out.trans hx)
        clear ho hx f0 f1
        go_wp2_with fail
        refine HE3.out.mono ?_
        rintro e w14 ⟨rfl, hx⟩
        have X14 := Lib.hid ((XB.out.trans X13.out).trans hx.ext)
        clear hx
        go_wp2_with fail
        go_ret
        exact ⟨rfl, X14.out⟩
      · clear hgx
        go_wp2_with fail
        refine (s_DrawProportionalShares HTAIL.out hb).mono ?_
        rintro e w11 ⟨⟨z, b3, m3, c3, L3, rfl, hL3, hm3⟩, hx⟩
        obtain ⟨B, hB⟩ : ∃ W, W = w11.alloc (.cells #[.int .i64 z, .slice b3 m3 c3] 61) := ⟨_, rfl⟩
        have hxB : Ext w11 B := by rw [hB]; exact Ext.alloc _ _
        have XB := Lib.hid ((XE.out.trans hx).trans hxB)
        have HL3 := Lib.hid (hL3.ext hxB)
        have f0 : B.cell? ⟨w11.heap.size, 0, none⟩ = some (.int .i64 z) := by rw [hB]; simp
        have f1 : B.cell? ⟨w11.heap.size, 1, none⟩ = some (.slice b3 m3 c3) := by rw [hB]; simp
        obtain ⟨one, hone⟩ : ∃ o, o = validPair 0 z L3 := ⟨_, rfl⟩
        have HONE := Lib.hid hone
        have hee : (one == one) = true := by simp
        clear hL3 hx hxB hone q0 q1 p0 p1
        go_upto_region 24 with fail
        rw [← hB]
        clear hB
        go_wp2_with fail
        refine (i_ProportionalShares (x := z) HL3.out).mono ?_
        rw [← HONE.out]
        rintro e w12 ⟨⟨v, rfl, ho⟩, hx⟩
        obtain ⟨a12, n12, p12, rfl, HN12⟩ := ho.var
        have R12 := Lib.hid ho
        have X12 := Lib.hid hx
        replace f0 := hx.cellSome f0
        replace f1 := hx.cellSome f1
        clear ho hx
        go_wp2_with fail
        refine (s_ProportionalShares (x := z) (HL3.out.ext X12.out)).mono ?_
        rw [← HONE.out]
        rintro e w13 ⟨⟨v, rfl, ho⟩, hx⟩
        obtain ⟨a13, n13, p13, rfl, HN13⟩ := ho.var
        have HE3 := Lib.hid (s_EqualVector (R12.out.ext hx).rats ho.rats)
        rw [decide_eq_true rfl] at HE3
        have X13 := Lib.hid (X12.out.trans hx)
        clear ho hx f0 f1
        go_wp2_with fail
        refine HE3.out.mono ?_
        rintro e w14 ⟨rfl, hx⟩
        have X14 := Lib.hid ((XB.out.trans X13.out).trans hx.ext)
        clear hx
        go_wp2_with fail
        go_ret
        exact ⟨rfl, X14.out⟩
end Go.Proofs.Ytgohdmnbnhehnaa
