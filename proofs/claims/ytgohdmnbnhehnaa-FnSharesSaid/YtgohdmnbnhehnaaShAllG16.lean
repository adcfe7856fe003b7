import Derived.Test.YtgohdmnbnhehnaaShAllG14
import Derived.Test.YtgohdmnbnhehnaaShAllG10
import Derived.Test.YtgohdmnbnhehnaaShAllG15
import Derived.Test.YtgohdmnbnhehnaaShAllG0
import Derived.Test.YtgohdmnbnhehnaaShAllG6
import Derived.Test.YtgohdmnbnhehnaaShAllG7
namespace Go.Proofs.Ytgohdmnbnhehnaa
set_option linter.unusedVariables false
set_option linter.unusedSimpArgs false
set_option maxRecDepth 100000
open Go.RowKit
theorem mulR_neg1 {l : Int × Int} (h : valR l = true) : mulR (-1, 1) l = ((-l.1, l.2), true) := by
  have hb := valR_bd h
  have hf := Fr.self h
  obtain ⟨r, h1, h2⟩ := (Fr.int (-1) (by omega) (by omega)).mul hf (z := -l.1) (F := l.2) hf.2.1 hb.2.1 (by omega) (by grind)
  rw [h1, h2.eq hf.neg rfl]
theorem mulR_bad {k l : Int × Int} (h : valR l = false) : mulR k l = ((0, 0), false) := by unfold mulR; rw [h, Bool.and_false]; rfl
theorem subR_bad {k l : Int × Int} (h : valR l = false) : subR k l = ((0, 0), false) := by unfold subR; rw [h, Bool.and_false]; rfl
theorem lessL_eq {C : List Int} {L : List (Int × Int)} (hf : fitL C = true) (hl : L.length = C.length) : lessL C L = runT (loseF C L) C.length := by
  unfold lessL sclL ratsL
  rw [if_pos hf, wholeL_len, if_pos hl.symm]
  refine runT_congr fun i hi => ?_
  unfold sclF loseF
  rw [wholeL_at hi]
  cases hv : valR (L[i]?.getD (0, 0))
  · rw [mulR_bad hv, subR_bad hv]; simp
  · rw [mulR_neg1 hv, ← subR_add]; simp
theorem fits_fit {C : List Int} {x y : Int} (h : fitsR C x y = true) : fitL C = true := by
  simp only [fitsR, small, Bool.and_eq_true, List.all_eq_true, inB, decide_eq_true_eq] at h
  unfold fitL
  rw [List.all_eq_true]
  intro c hc
  have := h.1.1 c hc
  simp only [inB, Bool.and_eq_true, decide_eq_true_eq]
  omega
theorem awardL_full {C : List Int} {x y : Int} (h : awardOk C x y = true) : (awardL C x y).length = C.length := by
  unfold awardOk at h
  rw [Bool.and_eq_true] at h
  unfold awardL
  rw [if_pos h.1]
  cases hr : runA C C.length (x, y) (List.replicate C.length (0, 0)) C.length with
  | none => rw [hr] at h; simp at h
  | some st => have := runA_len C C.length _ hr; simpa using this
def gapR (C : List Int) (x y : Int) : (Int × Int) × Bool := subR (sumW C, 1) (x, y)
def lossO (C : List Int) (x y : Int) : Option (List (Int × Int)) :=
  if fitsR C x y = true ∧ (gapR C x y).2 = true ∧ awardOk C (gapR C x y).1.1 (gapR C x y).1.2 = true then lessL C (awardL C (gapR C x y).1.1 (gapR C x y).1.2) else none
theorem i_totalE {w : World} {a : Option Addr} {n cap : Nat} {l : List Int} (h : Ints w a n cap l) :
    Calls Try.prog 99 #[.slice a n cap] w fun e w' => e = .returned (.int .i64 (sumW l)) ∧ Ext w w' :=
  (i_total h).mono fun _ _ ⟨he, hw⟩ => ⟨he, hw ▸ Ext.refl _⟩
theorem s_l18SumE {w : World} {a : Option Addr} {n cap : Nat} {l : List Int} (h : Ints w a n cap l) :
    Calls Try.prog 101 #[.slice a n cap] w fun e w' => e = .returned (.int .i64 (sumW l)) ∧ Ext w w' :=
  (s_l18Sum h).mono fun _ _ ⟨he, hw⟩ => ⟨he, hw ▸ Ext.refl _⟩
set_option maxHeartbeats 4000000 in
theorem i_EqualLosses {w : World} {x y : Int} {a : Option Addr} {n cap : Nat} {C : List Int} (h : Ints w a n cap C) :
    Calls Try.prog 35 #[.slice a n cap, ratV x y] w fun e w' => (∃ v, e = .returned (.tuple #[v, .bool (lossO C x y).isSome]) ∧ OwnR w' w.heap.size v ((lossO C x y).getD [])) ∧ Ext w w' := by
  have HL := Lib.hid h.hlen
  have hmax := h.hmax
  have hcap := h.hcap
  have HX := Lib.hid (Ext.alloc w (.cells #[.int .i64 x, .int .i64 y] 34))
  have HC := Lib.hid (h.ext HX.out)
  have HF := Lib.hid (i_divisible (x := x) (y := y) HC.out)
  clear h
  cases hfit : fitsR C x y
  · have HN := Lib.hid (show lossO C x y = none by unfold lossO; rw [hfit]; simp)
    rw [hfit] at HF
    clear hfit
    go_enter Try.func35, Try.ntmps35
    go_wp2_with fail
    refine HF.out.mono ?_
    rintro e w1 ⟨rfl, hx⟩
    have HX1 := Lib.hid (HX.out.trans hx)
    clear hx
    go_wp2_with fail
    refine bodyPost_ret (v := .tuple #[.slice none 0 0, .bool false]) (by simp [results, Try.results35, go_sem]) rfl ⟨⟨.slice none 0 0, by rw [HN.out]; rfl, by rw [HN.out]; exact OwnR.nil _ _⟩, HX1.out⟩
  · rw [hfit] at HF
    obtain ⟨p, q, one, hgap⟩ : ∃ p q ok, gapR C x y = ((p, q), ok) := ⟨_, _, _, rfl⟩
    obtain ⟨two, htwo⟩ : ∃ b, b = awardOk C p q := ⟨_, rfl⟩
    have HO := Lib.hid (show lossO C x y = if (one && two) = true then lessL C (awardL C p q) else none by
      unfold lossO; rw [hfit, hgap]; simp only [true_and, Bool.and_eq_true, ← htwo])
    have HG := Lib.hid (show subR (sumW C, 1) (x, y) = ((p, q), one) from hgap)
    have h15 := fits_good hfit
    have hn5 : n ≤ 5 := by have := HL.out; omega
    obtain ⟨S, hS⟩ : ∃ S, S = sumW C := ⟨_, rfl⟩
    have HS := Lib.hid hS
    have HT := Lib.hid htwo
    clear hfit hgap h15 hS htwo
    go_enter Try.func35, Try.ntmps35
    go_wp2_with fail
    refine HF.out.mono ?_
    rintro e w1 ⟨rfl, hx⟩
    have HX1 := Lib.hid (HX.out.trans hx)
    have c0 : w1.cell? ⟨w.heap.size, 0, none⟩ = some (.int .i64 x) := hx.cellSome (by simp)
    have c1 : w1.cell? ⟨w.heap.size, 1, none⟩ = some (.int .i64 y) := hx.cellSome (by simp)
    have HC1 := Lib.hid (HC.out.ext hx)
    clear hx
    go_upto_region 3 with fail
    go_cut [6, 7] (fun sx so wx => ∃ g : Nat, sx = .pointer (some ⟨g, 0, none⟩) ∧ so = .bool one ∧ Hid (Boxed w1 wx g p q))
    case first =>
      have hk2 : Ext w1 w1.drew := Ext.drew w1
      have hka : Ext w1 (w1.alloc (.cells #[.int .i64 0, .int .i64 0] 34)).drew := (Ext.alloc _ _).trans (Ext.drew _)
      have HKEEP := Lib.hid (fun (w' : World) (h : Ext w1 w') => (⟨h.cellSome c0, h.cellSome c1, h⟩ : w'.cell? ⟨w.heap.size, 0, none⟩ = some (.int .i64 x) ∧ w'.cell? ⟨w.heap.size, 1, none⟩ = some (.int .i64 y) ∧ Ext w1 w'))
      go_region_held3 (fun w' => w'.cell? ⟨w.heap.size, 0, none⟩ = some (.int .i64 x) ∧ w'.cell? ⟨w.heap.size, 1, none⟩ = some (.int .i64 y) ∧ Ext w1 w')
        (first
          | with_reducible exact HKEEP.out _ hk2
          | with_reducible exact HKEEP.out _ hka
          | with_reducible exact HKEEP.out _ ((hk2.setCell (by first | (simp; done) | (simp; omega)) _).setCell (by first | (simp; done) | (simp; omega)) _)
          | with_reducible exact HKEEP.out _ (hk2.trans (Ext.alloc _ _))
          | with_reducible exact HKEEP.out _ (hBB.put _ _).ext)
        (first
          | (go_at_call 99
             (with_reducible refine (i_totalE (HC1.out.ext (by first | with_reducible exact hk2 | with_reducible exact hka | with_reducible exact hk2.trans (Ext.alloc _ _)))).mono ?_)
             rw [← HS.out]
             rintro e w2 ⟨rfl, hx_w2⟩
             first | (with_reducible have hBB := Boxed.grow hBB hx_w2) | (with_reducible have hBB := Boxed.firstD hx_w2) | (with_reducible have hBB := Boxed.laterD hk2 hx_w2) | skip
             first | (have b0_ := hBB.c0; have b1_ := hBB.c1; have fb_ := hBB.free) | skip
             have hk2 : Ext w1 w2 := by first | with_reducible exact hk2.trans hx_w2 | with_reducible exact hka.trans hx_w2 | with_reducible exact (hk2.trans (Ext.alloc _ _)).trans hx_w2
             have hk2s := hk2.size)
          | (go_at_call 91
             (with_reducible refine (i_whole S _).mono ?_)
             rintro e w3 ⟨rfl, hx_w3⟩
             first | (with_reducible have hBB := Boxed.grow hBB hx_w3) | (with_reducible have hBB := Boxed.firstD hx_w3) | (with_reducible have hBB := Boxed.laterD hk2 hx_w3) | skip
             first | (have b0_ := hBB.c0; have b1_ := hBB.c1; have fb_ := hBB.free) | skip
             have hk2 : Ext w1 w3 := by first | with_reducible exact hk2.trans hx_w3 | with_reducible exact hka.trans hx_w3 | with_reducible exact (hk2.trans (Ext.alloc _ _)).trans hx_w3
             have hk2s := hk2.size)
          | (go_at_call 92
             (with_reducible refine (i_SubRat S 1 x y _).mono ?_)
             rw [HS.out, HG.out]
             rintro e w4 ⟨rfl, hx_w4⟩
             first | (with_reducible have hBB := Boxed.grow hBB hx_w4) | (with_reducible have hBB := Boxed.firstD hx_w4) | (with_reducible have hBB := Boxed.laterD hk2 hx_w4) | skip
             first | (have b0_ := hBB.c0; have b1_ := hBB.c1; have fb_ := hBB.free) | skip
             have hk2 : Ext w1 w4 := by first | with_reducible exact hk2.trans hx_w4 | with_reducible exact hka.trans hx_w4 | with_reducible exact (hk2.trans (Ext.alloc _ _)).trans hx_w4
             have hk2s := hk2.size)
          | fail)
      all_goals (go_wp2_with fail; go_meet; first | exact ⟨_, rfl, rfl, Lib.hid (hBB.put _ _)⟩ | exact ⟨_, rfl, rfl, Lib.hid (Boxed.new hk2 _ _)⟩ | exact ⟨_, rfl, rfl, Lib.hid (Boxed.new' hk2 _ _ (by simp))⟩)
    obtain ⟨g, rfl, rfl, HB1⟩ := hcut
    have g0 := HB1.out.c0
    have g1 := HB1.out.c1
    have HX2 := Lib.hid (HX1.out.trans HB1.out.ext)
    have HC2 := Lib.hid (HC1.out.ext HB1.out.ext)
    have HE := Lib.hid (i_EqualAwards (x := p) (y := q) HC2.out)
    clear c0 c1
    rw [← HT.out] at HE
    go_wp2_with fail
    refine HE.out.mono ?_
    rintro e w5 ⟨⟨v, rfl, ho⟩, hx⟩
    obtain ⟨a1, n1, p1, rfl, HN1⟩ := ho.var
    have HO5 := Lib.hid ho
    have HX5 := Lib.hid (HX2.out.trans hx)
    have HC5 := Lib.hid (HC2.out.ext hx)
    clear hx ho g0 g1
    cases hb12 : (one && two)
    · have HN := Lib.hid (show lossO C x y = none by rw [HO.out, hb12]; rfl)
      cases one
      case' true => (have h2 : two = false := by simpa using hb12); subst h2
      all_goals
        clear hb12
        go_wp2_with fail
        refine bodyPost_ret (v := .tuple #[.slice none 0 0, .bool false]) (by simp [results, Try.results35, go_sem]) rfl ⟨⟨.slice none 0 0, by rw [HN.out]; rfl, by rw [HN.out]; exact OwnR.nil _ _⟩, HX5.out⟩
    · obtain ⟨rfl, rfl⟩ : one = true ∧ two = true := by simpa using hb12
      have HN := Lib.hid (show lossO C x y = lessL C (awardL C p q) by rw [HO.out, hb12]; rfl)
      have HLS := Lib.hid (i_claimsLess HC5.out HO5.out.rats (by omega))
      clear hb12
      go_wp2_with fail
      refine HLS.out.mono ?_
      rintro e w6 ⟨⟨v, rfl, ho⟩, hx⟩
      have HO6 := Lib.hid (ho.mono HX5.out.size)
      have HX6 := Lib.hid (HX5.out.trans hx)
      clear ho hx
      go_wp2_with fail
      refine bodyPost_ret (v := .tuple #[v, .bool (lossO C x y).isSome]) (by rw [HN.out]; simp [results, Try.results35, go_sem]) rfl ⟨⟨v, rfl, by rw [HN.out]; exact HO6.out⟩, HX6.out⟩
set_option maxHeartbeats 4000000 in
theorem s_EqualLosses {w : World} {x y : Int} {a : Option Addr} {n cap : Nat} {C : List Int} (h : Ints w a n cap C) :
    Calls Try.prog 36 #[.slice a n cap, ratV x y] w fun e w' => (∃ v, e = .returned (.tuple #[v, .bool (lossO C x y).isSome]) ∧ OwnR w' w.heap.size v ((lossO C x y).getD [])) ∧ Ext w w' := by
  have HL := Lib.hid h.hlen
  have hmax := h.hmax
  have hcap := h.hcap
  have HX := Lib.hid (Ext.alloc w (.cells #[.int .i64 x, .int .i64 y] 34))
  have HC := Lib.hid (h.ext HX.out)
  have HF := Lib.hid (s_l18Fits (x := x) (y := y) HC.out)
  clear h
  cases hfit : fitsR C x y
  · have HN := Lib.hid (show lossO C x y = none by unfold lossO; rw [hfit]; simp)
    rw [hfit] at HF
    clear hfit
    go_enter Try.func36, Try.ntmps36
    go_wp2_with fail
    refine HF.out.mono ?_
    rintro e w1 ⟨rfl, hx⟩
    have HX1 := Lib.hid (HX.out.trans hx)
    have HM2 := Lib.hid (OwnR.made w1 w.heap.size HX1.out.size)
    clear hx
    go_wp2_with fail
    refine bodyPost_ret (v := .tuple #[.slice (some ⟨w1.heap.size, 0, none⟩) 0 0, .bool false]) (by simp [results, Try.results36, go_sem]) rfl ⟨⟨_, by rw [HN.out]; rfl, by rw [HN.out]; exact HM2.out⟩, HX1.out.trans (Ext.alloc _ _)⟩
  · rw [hfit] at HF
    obtain ⟨p, q, one, hgap⟩ : ∃ p q ok, gapR C x y = ((p, q), ok) := ⟨_, _, _, rfl⟩
    obtain ⟨two, htwo⟩ : ∃ b, b = awardOk C p q := ⟨_, rfl⟩
    have HO := Lib.hid (show lossO C x y = if (one && two) = true then lessL C (awardL C p q) else none by
      unfold lossO; rw [hfit, hgap]; simp only [true_and, Bool.and_eq_true, ← htwo])
    have HG := Lib.hid (show subR (sumW C, 1) (x, y) = ((p, q), one) from hgap)
    have h15 := fits_good hfit
    have HFT := Lib.hid (fits_fit hfit)
    have hn5 : n ≤ 5 := by have := HL.out; omega
    obtain ⟨S, hS⟩ : ∃ S, S = sumW C := ⟨_, rfl⟩
    have HS := Lib.hid hS
    have HT := Lib.hid htwo
    clear hfit hgap h15 hS htwo
    go_enter Try.func36, Try.ntmps36
    go_wp2_with fail
    refine HF.out.mono ?_
    rintro e w1 ⟨rfl, hx⟩
    have HX1 := Lib.hid (HX.out.trans hx)
    have c0 : w1.cell? ⟨w.heap.size, 0, none⟩ = some (.int .i64 x) := hx.cellSome (by simp)
    have c1 : w1.cell? ⟨w.heap.size, 1, none⟩ = some (.int .i64 y) := hx.cellSome (by simp)
    have HC1 := Lib.hid (HC.out.ext hx)
    clear hx
    go_upto_region 3 with fail
    go_cut [6, 7] (fun sx so wx => ∃ g : Nat, sx = .pointer (some ⟨g, 0, none⟩) ∧ so = .bool one ∧ Hid (Boxed w1 wx g p q))
    case first =>
      have hk2 : Ext w1 w1.drew := Ext.drew w1
      have hka : Ext w1 (w1.alloc (.cells #[.int .i64 0, .int .i64 0] 34)).drew := (Ext.alloc _ _).trans (Ext.drew _)
      have HKEEP := Lib.hid (fun (w' : World) (h : Ext w1 w') => (⟨h.cellSome c0, h.cellSome c1, h⟩ : w'.cell? ⟨w.heap.size, 0, none⟩ = some (.int .i64 x) ∧ w'.cell? ⟨w.heap.size, 1, none⟩ = some (.int .i64 y) ∧ Ext w1 w'))
      go_region_held3 (fun w' => w'.cell? ⟨w.heap.size, 0, none⟩ = some (.int .i64 x) ∧ w'.cell? ⟨w.heap.size, 1, none⟩ = some (.int .i64 y) ∧ Ext w1 w')
        (first
          | with_reducible exact HKEEP.out _ hk2
          | with_reducible exact HKEEP.out _ hka
          | with_reducible exact HKEEP.out _ ((hk2.setCell (by first | (simp; done) | (simp; omega)) _).setCell (by first | (simp; done) | (simp; omega)) _)
          | with_reducible exact HKEEP.out _ (hk2.trans (Ext.alloc _ _))
          | with_reducible exact HKEEP.out _ (hBB.put _ _).ext)
        (first
          | (go_at_call 101
             (with_reducible refine (s_l18SumE (HC1.out.ext (by first | with_reducible exact hk2 | with_reducible exact hka | with_reducible exact hk2.trans (Ext.alloc _ _)))).mono ?_)
             rw [← HS.out]
             rintro e w2 ⟨rfl, hx_w2⟩
             first | (with_reducible have hBB := Boxed.grow hBB hx_w2) | (with_reducible have hBB := Boxed.firstD hx_w2) | (with_reducible have hBB := Boxed.laterD hk2 hx_w2) | skip
             first | (have b0_ := hBB.c0; have b1_ := hBB.c1; have fb_ := hBB.free) | skip
             have hk2 : Ext w1 w2 := by first | with_reducible exact hk2.trans hx_w2 | with_reducible exact hka.trans hx_w2 | with_reducible exact (hk2.trans (Ext.alloc _ _)).trans hx_w2
             have hk2s := hk2.size)
          | (go_at_call 74
             (with_reducible refine (s_l3Int S _).mono ?_)
             rintro e w3 ⟨rfl, hx_w3⟩
             first | (with_reducible have hBB := Boxed.grow hBB hx_w3) | (with_reducible have hBB := Boxed.firstD hx_w3) | (with_reducible have hBB := Boxed.laterD hk2 hx_w3) | skip
             first | (have b0_ := hBB.c0; have b1_ := hBB.c1; have fb_ := hBB.free) | skip
             have hk2 : Ext w1 w3 := by first | with_reducible exact hk2.trans hx_w3 | with_reducible exact hka.trans hx_w3 | with_reducible exact (hk2.trans (Ext.alloc _ _)).trans hx_w3
             have hk2s := hk2.size)
          | (go_at_call 98
             (with_reducible refine (s_SubRat S 1 x y _).mono ?_)
             rw [HS.out, HG.out]
             rintro e w4 ⟨rfl, hx_w4⟩
             first | (with_reducible have hBB := Boxed.grow hBB hx_w4) | (with_reducible have hBB := Boxed.firstD hx_w4) | (with_reducible have hBB := Boxed.laterD hk2 hx_w4) | skip
             first | (have b0_ := hBB.c0; have b1_ := hBB.c1; have fb_ := hBB.free) | skip
             have hk2 : Ext w1 w4 := by first | with_reducible exact hk2.trans hx_w4 | with_reducible exact hka.trans hx_w4 | with_reducible exact (hk2.trans (Ext.alloc _ _)).trans hx_w4
             have hk2s := hk2.size)
          | fail)
      all_goals (go_wp2_with fail; go_meet; first | exact ⟨_, rfl, rfl, Lib.hid (hBB.put _ _)⟩ | exact ⟨_, rfl, rfl, Lib.hid (Boxed.new hk2 _ _)⟩ | exact ⟨_, rfl, rfl, Lib.hid (Boxed.new' hk2 _ _ (by simp))⟩)
    obtain ⟨g, rfl, rfl, HB1⟩ := hcut
    have g0 := HB1.out.c0
    have g1 := HB1.out.c1
    have HX2 := Lib.hid (HX1.out.trans HB1.out.ext)
    have HC2 := Lib.hid (HC1.out.ext HB1.out.ext)
    have HE := Lib.hid (s_EqualAwards (x := p) (y := q) HC2.out)
    clear c0 c1
    rw [← HT.out] at HE
    go_wp2_with fail
    refine HE.out.mono ?_
    rintro e w5 ⟨⟨v, rfl, ho⟩, hx⟩
    obtain ⟨a1, n1, p1, rfl, HN1⟩ := ho.var
    have HO5 := Lib.hid ho
    have HX5 := Lib.hid (HX2.out.trans hx)
    have HC5 := Lib.hid (HC2.out.ext hx)
    clear hx ho g0 g1
    cases hb12 : (one && two)
    · have HN := Lib.hid (show lossO C x y = none by rw [HO.out, hb12]; rfl)
      have HM2 := Lib.hid (OwnR.made w5 w.heap.size HX5.out.size)
      cases one
      case' true => (have h2 : two = false := by simpa using hb12); subst h2
      all_goals
        clear hb12
        go_wp2_with fail
        refine bodyPost_ret (v := .tuple #[.slice (some ⟨w5.heap.size, 0, none⟩) 0 0, .bool false]) (by simp [results, Try.results36, go_sem]) rfl ⟨⟨_, by rw [HN.out]; rfl, by rw [HN.out]; exact HM2.out⟩, HX5.out.trans (Ext.alloc _ _)⟩
    · obtain ⟨rfl, rfl⟩ : one = true ∧ two = true := by simpa using hb12
      have HLN := Lib.hid (awardL_full HT.out.symm)
      have HN := Lib.hid (show lossO C x y = runT (loseF C (awardL C p q)) n1 by rw [HO.out, hb12, if_pos rfl, lessL_eq HFT.out HLN.out, ← HN1.out, HLN.out])
      have HLS := Lib.hid (s_l18Lose HC5.out HO5.out.rats (by have := HN1.out; have := HLN.out; have := HL.out; omega) (by omega))
      clear hb12
      go_wp2_with fail
      refine HLS.out.mono ?_
      rintro e w6 ⟨⟨v, rfl, ho⟩, hx⟩
      have HO6 := Lib.hid (ho.mono HX5.out.size)
      have HX6 := Lib.hid (HX5.out.trans hx)
      clear ho hx
      go_wp2_with fail
      refine bodyPost_ret (v := .tuple #[v, .bool (lossO C x y).isSome]) (by rw [HN.out]; simp [results, Try.results36, go_sem]) rfl ⟨⟨v, rfl, by rw [HN.out]; exact HO6.out⟩, HX6.out⟩
def lossOk (C : List Int) (x y : Int) : Bool := (lossO C x y).isSome
def lossL (C : List Int) (x y : Int) : List (Int × Int) := (lossO C x y).getD []
theorem i_losses {w : World} {x y : Int} {a : Option Addr} {n cap : Nat} {C : List Int} (h : Ints w a n cap C) :
    Calls Try.prog 35 #[.slice a n cap, ratV x y] w fun e w' => (∃ v, e = .returned (.tuple #[v, .bool (lossOk C x y)]) ∧ OwnR w' w.heap.size v (lossL C x y)) ∧ Ext w w' := i_EqualLosses h
theorem s_losses {w : World} {x y : Int} {a : Option Addr} {n cap : Nat} {C : List Int} (h : Ints w a n cap C) :
    Calls Try.prog 36 #[.slice a n cap, ratV x y] w fun e w' => (∃ v, e = .returned (.tuple #[v, .bool (lossOk C x y)]) ∧ OwnR w' w.heap.size v (lossL C x y)) ∧ Ext w w' := s_EqualLosses h
end Go.Proofs.Ytgohdmnbnhehnaa
namespace Go.Proofs.Ytgohdmnbnhehnaa
set_option linter.unusedVariables false
open Go.RowKit
set_option maxHeartbeats 400000 in
theorem s_IsValidClaims {w : World} {x : Int} {a : Option Addr} {n cap : Nat} {l : List Int} (h : Ints w a n cap l) :
    Calls Try.prog 106 #[pair x a n cap] w fun e w' => e = .returned (.bool (validPair 0 x l)) ∧ Ext w w' := by
  have h1 := h.alloc (.cells #[.int .i64 x, .slice a n cap] 61)
  have hq := fun m => quiet_same (s_l18Small 100 (h1.drewN m))
  cases hs : small l 100
  all_goals
    have HS := Lib.hid hs
    rw [hs] at hq
    have HQ := Lib.hid hq
    clear hq hs
    go_enter Try.func106, Try.ntmps106
    go_wp2
    go_quiet ((first | (go_at_call 133; exact HQ.out _) | (go_at_call 101; exact quiet_same (s_l18Sum (h1.drewN _))) | (go_at_call 70; exact quiet_same (s_l1In _ _ _ _))))
    go_wp2
    go_ret
    refine ⟨ret_bool ?_, below_drewN (Ext.alloc _ _) _⟩
    simp only [validPair, HS.out, Bool.true_and, Bool.false_and]
theorem go_IsValidClaims1 : IsGo Try.prog 137 := isGo Try.func137 (by kernel_rfl) (by kernel_rfl)
set_option maxHeartbeats 400000 in
theorem i_IsValidClaims1 (x : Int) (w : World) : Calls Try.prog 137 #[.int .i64 x] w fun e w' => e = .returned (.bool (!inB x 0 100)) ∧ w = w' := by
  go_enter Try.func137, Try.ntmps137
  go_wp2_with (first | (go_at_call 69; refine (i_within _ _ _ _).mono ?_; rintro e w' ⟨rfl, rfl⟩))
  go_ret
  exact ⟨rfl, rfl⟩
theorem asks_IsValidClaims1 (w : World) : Asks Try.prog w 137 #[] (fun x => !inB x 0 100) :=
  fun x w1 _ => (i_IsValidClaims1 x w1).mono fun e w' ⟨he, hw⟩ => ⟨he, hw ▸ Ext.refl _⟩
set_option maxHeartbeats 400000 in
theorem i_IsValidClaims {w : World} {x : Int} {a : Option Addr} {n cap : Nat} {l : List Int} (h : Ints w a n cap l) :
    Calls Try.prog 105 #[pair x a n cap] w fun e w' => e = .returned (.bool (validPair 0 x l)) ∧ Ext w w' := by
  have h1 := h.alloc (.cells #[.int .i64 x, .slice a n cap] 61)
  have HX := Lib.hid (Ext.alloc w (.cells #[.int .i64 x, .slice a n cap] 61))
  have HC := Lib.hid (containsFunc_ints h1 go_IsValidClaims1 (asks_IsValidClaims1 _))
  have HL := Lib.hid h.hlen
  cases hin : inB n 1 5
  · have HI := Lib.hid hin
    go_enter Try.func105, Try.ntmps105
    go_wp2_with (first | (go_at_call 69; refine (i_within _ _ _ _).mono ?_; rintro e w' ⟨rfl, rfl⟩))
    go_ret
    refine ⟨ret_bool ?_, HX.out⟩
    simp only [validPair, small, HL.out, HI.out, Bool.and_false, Bool.false_and]
  · have HI := Lib.hid hin
    cases hany : l.any (fun x => !inB x 0 100)
    all_goals
      have HA := Lib.hid hany
      rw [hany] at HC
      clear hany
      go_enter Try.func105, Try.ntmps105
      go_wp2_with (first | (go_at_call 69; refine (i_within _ _ _ _).mono ?_; rintro e w' ⟨rfl, rfl⟩))
    · refine HC.out.mono ?_
      rintro e w1 ⟨rfl, hx⟩
      have hcs := hx.cells
      have HX1 := Lib.hid (HX.out.trans hx)
      have h2 := h1.ext hx
      clear hx
      go_wp2
      go_quiet ((first | (go_at_call 99; exact quiet_same (i_total (h2.drewN _))) | (go_at_call 69; exact quiet_same (i_within _ _ _ _))))
      go_wp2
      go_ret
      refine ⟨ret_bool ?_, below_drewN HX1.out _⟩
      simp only [validPair, small_any, HL.out, HI.out, HA.out, Bool.not_false, Bool.true_and]
    · refine HC.out.mono ?_
      rintro e w1 ⟨rfl, hx⟩
      have HX1 := Lib.hid (HX.out.trans hx)
      clear hx
      go_wp2
      go_ret
      refine ⟨ret_bool ?_, HX1.out⟩
      simp only [validPair, small_any, HA.out, Bool.not_true, Bool.false_and]
end Go.Proofs.Ytgohdmnbnhehnaa
namespace Go.Proofs.Ytgohdmnbnhehnaa
set_option linter.unusedVariables false
set_option linter.unusedSimpArgs false
set_option maxRecDepth 100000
open Go.RowKit
theorem foldW_bd : ∀ (l : List Int) (a : Int), (∀ c ∈ l, 0 ≤ c ∧ c ≤ 100) → 0 ≤ a → a + 100 * l.length ≤ 1000000 → 0 ≤ l.foldl (fun a x => wrap64 (a + x)) a ∧ l.foldl (fun a x => wrap64 (a + x)) a ≤ a + 100 * l.length
  | [], a, _, h0, h1 => by simp; omega
  | c :: l, a, h, h0, h1 => by
    have hc := h c (by simp)
    simp only [List.length_cons] at h1 ⊢
    have e : wrap64 (a + c) = a + c := by unfold wrap64; omega
    simp only [List.foldl_cons, e]
    have := foldW_bd l (a + c) (fun d hd => h d (by simp [hd])) (by omega) (by omega)
    omega
theorem valid_claims {x : Int} {l : List Int} (h : validPair 0 x l = true) : 1 ≤ l.length ∧ l.length ≤ 5 ∧ 0 ≤ x ∧ x ≤ sumW l ∧ 0 ≤ sumW l ∧ sumW l ≤ 500 ∧ ∀ k, k < l.length → 0 ≤ l[k]?.getD 0 ∧ l[k]?.getD 0 ≤ 100 := by
  simp only [validPair, small, inB, Bool.and_eq_true, decide_eq_true_eq, List.all_eq_true] at h
  obtain ⟨⟨h1, h2⟩, h3⟩ := h
  have hb := foldW_bd l 0 h1 (by omega) (by omega)
  change 0 ≤ sumW l ∧ sumW l ≤ _ at hb
  refine ⟨by omega, by omega, h3.1, h3.2, hb.1, by omega, fun k hk => ?_⟩
  have := h1 (l[k]) (List.getElem_mem hk)
  simpa [hk] using this
def shareF (x : Int) (l : List Int) (c : Int) : Int × Int := (ratOf (x * c) (max 1 (sumW l))).1
def shareT (x : Int) (l : List Int) (k : Nat) : List (Int × Int) := if validPair 0 x l = true then (l.take k).map (shareF x l) else []
def shareL (x : Int) (l : List Int) : List (Int × Int) := shareT x l l.length
theorem shareT_not {x : Int} {l : List Int} (k : Nat) (h : validPair 0 x l = false) : shareT x l k = [] := by simp [shareT, h]
theorem shareT_zero (x : Int) (l : List Int) : shareT x l 0 = [] := by simp [shareT]
theorem shareT_succ {x : Int} {l : List Int} {k : Nat} (h : validPair 0 x l = true) (hk : k < l.length) : shareT x l (k + 1) = shareT x l k ++ [shareF x l (l[k]?.getD 0)] := by
  simp only [shareT, h, if_true]
  rw [take_snoc hk, List.map_append]
  rfl
theorem shareT_len (x : Int) (l : List Int) (k : Nat) : (shareT x l k).length ≤ k := by unfold shareT; split <;> simp; omega
theorem share_ok {x : Int} {l : List Int} (h : validPair 0 x l = true) {k : Nat} (hk : k < l.length) : ∃ p q, ratOf (x * l[k]?.getD 0) (max 1 (sumW l)) = ((p, q), true) ∧ shareF x l (l[k]?.getD 0) = (p, q) := by
  obtain ⟨_, _, h0, h1, h2, h3, h4⟩ := valid_claims h
  obtain ⟨h5, h6⟩ := h4 k hk
  have hb := mul_bd (x := x) (y := l[k]?.getD 0) (by omega) (by omega) (by omega) (by omega)
  have hx : (x * l[k]?.getD 0).natAbs ≤ 500 * 100 := by rw [Int.natAbs_mul]; exact Nat.mul_le_mul (by omega) (by omega)
  have hok := ratOf_ok (n := x * l[k]?.getD 0) (d := max 1 (sumW l)) (by omega) (by omega) (by omega) (by omega)
  exact ⟨_, _, Prod.ext rfl hok, rfl⟩
theorem share_mul {x : Int} {l : List Int} (h : validPair 0 x l = true) {k : Nat} (hk : k < l.length) : in18 (x * l[k]?.getD 0) := by
  obtain ⟨_, _, h0, h1, h2, h3, h4⟩ := valid_claims h
  obtain ⟨h5, h6⟩ := h4 k hk
  exact mul_bd (by omega) (by omega) (by omega) (by omega)
set_option maxHeartbeats 2000000 in
theorem i_ProportionalShares {w : World} {x : Int} {a : Option Addr} {n cap : Nat} {l : List Int} (h : Ints w a n cap l) :
    Calls Try.prog 41 #[pair x a n cap] w fun e w' => (∃ v, e = .returned (.tuple #[v, .bool (validPair 0 x l)]) ∧ OwnR w' w.heap.size v (shareL x l)) ∧ Ext w w' := by
  have hi := h.alloc (.cells #[.int .i64 x, .slice a n cap] 61)
  have HX := Lib.hid (Ext.alloc w (.cells #[.int .i64 x, .slice a n cap] 61))
  have HL := Lib.hid h.hlen
  have HV := Lib.hid (i_IsValidClaims (x := x) hi)
  have hmax := h.hmax
  have hcap := h.hcap
  cases hv : validPair 0 x l
  · rw [hv] at HV
    have HVV := Lib.hid hv
    clear hv
    go_enter Try.func41, Try.ntmps41
    go_wp2_with fail
    refine HV.out.mono ?_
    rintro e w1 ⟨rfl, hx⟩
    go_wp2
    refine bodyPost_ret (v := .tuple #[.slice none 0 0, .bool false]) (by simp [results, Try.results41, go_sem]) rfl ⟨⟨_, rfl, by unfold shareL; rw [shareT_not _ HVV.out]; exact OwnR.nil _ _⟩, HX.out.trans hx⟩
  rw [hv] at HV
  have HVV := Lib.hid hv
  have hvc := valid_claims hv
  have hn5 : n ≤ 5 := by have := HL.out; omega
  obtain ⟨_, _, hx0, hxs, hs0, hs5, _⟩ := hvc
  have HI := Lib.hid hi
  obtain ⟨S, hS⟩ : ∃ S, S = sumW l := ⟨_, rfl⟩
  rw [← hS] at hs0 hs5 hxs
  have HS := Lib.hid hS
  clear hv h hi hS
  obtain ⟨M, hM⟩ : ∃ M, M = max 1 (sumW l) := ⟨_, rfl⟩
  have HM := Lib.hid hM
  have hMS : (S ≤ 1 ∧ M = 1) ∨ (¬ S ≤ 1 ∧ M = S) := by rw [hM, ← HS.out]; omega
  clear hM
  rcases hMS with ⟨hs1, hMv⟩ | ⟨hs1, hMv⟩
  all_goals
    have HMv := Lib.hid hMv
    clear hMv
    go_enter Try.func41, Try.ntmps41
    go_wp2_with fail
    refine HV.out.mono ?_
    rintro e w1 ⟨rfl, hx⟩
    have c1 : w1.cell? ⟨w.heap.size, 1, none⟩ = some (.slice a n cap) := hx.cellSome (by simp)
    have HX1 := Lib.hid hx
    have hsz1 : w.heap.size < w1.heap.size := World.block_lt_of_cell? _ _ c1
    have HO := Lib.hid (OwnR.made w1 (w.heap.size + 1) hsz1)
    have HI1 := Lib.hid (HI.out.ext hx)
    clear hx
    go_wp2_with fail
    refine (i_total HI1.out).mono ?_
    rw [← HS.out]
    rintro e w2 ⟨rfl, rfl⟩
    go_wp2
    go_loopw [5, 21] (fun o i wr => ∃ (k : Nat) (a1 : Option Addr) (n1 p1 : Nat), k ≤ n ∧ i = .int .i64 (k : Int) ∧ o = .slice a1 n1 p1 ∧ Hid (OwnR wr (w.heap.size + 1) (.slice a1 n1 p1) (shareT x l k)) ∧ Hid (Ext (w.alloc (.cells #[.int .i64 x, .slice a n cap] 61)) wr)) (fun _ i _ => n - (intOf i).toNat)
    case atStart => exact ⟨0, _, _, _, Nat.zero_le _, rfl, rfl, Lib.hid (by rw [shareT_zero]; exact HO.out), Lib.hid (HX1.out.trans (Ext.alloc _ _))⟩
    case round =>
      obtain ⟨k, a1, n1, p1, hk, rfl, rfl, HO2, HX2⟩ := hrel
      have c0 : wr.cell? ⟨w.heap.size, 0, none⟩ = some (.int .i64 x) := HX2.out.cellSome (by simp)
      have hsz2 : w.heap.size + 1 ≤ wr.heap.size := by have := HX2.out.size; simpa using this
      have HI2 := Lib.hid (HI.out.ext HX2.out)
      by_cases hlt : k < n
      · have hkl : k < l.length := by have := HL.out; omega
        obtain ⟨p, q, hpq, hsh⟩ := share_ok HVV.out hkl
        obtain ⟨e1, e2⟩ := kwrap_in (share_mul HVV.out hkl)
        have hss := shareT_succ HVV.out hkl
        obtain ⟨b, off, he, hc⟩ := HI2.out.at hlt
        obtain ⟨y, hy⟩ : ∃ y, y = l[k]?.getD 0 := ⟨_, rfl⟩
        rw [← hy] at hpq hsh e1 e2 hc hss
        rw [← HM.out, HMv.out] at hpq
        have HPQ := Lib.hid hpq
        have HSH := Lib.hid hsh
        have HSS := Lib.hid hss
        clear hkl hpq hsh hy hss
        subst he
        go_wp2_with fail
        refine (i_RatOf _ _ _).mono ?_
        rw [HPQ.out]
        rintro e w3 ⟨rfl, hx3⟩
        have X3 := Lib.hid (HX2.out.trans hx3)
        have HO3 := Lib.hid (HO2.out.ext hx3)
        have hsz3 := hx3.size
        clear hx3
        go_wp2_with (first
          | (at_builtin; refine append_rats rfl _ _ rfl (w.heap.size + 1) (.slice a1 n1 p1) _ rfl ((HO3.out.ext (Ext.alloc _ _)).ext (Ext.alloc _ _)) _ 1 _ [(p, q)] rfl (Rats.one' _ _ _ _ _ (by simp)) (by have := shareT_len x l k; omega) (by simp; omega) ?_; intro v2 w4 ho hg hnear; obtain ⟨a2, n2, c2, rfl, HN2⟩ := ho.var; have HO4 := Lib.hid ho; have HG4 := Lib.hid hg; clear ho hg hnear))
        go_roundw
        case rel =>
          refine ⟨k + 1, a2, n2, c2, by omega, by go_num, rfl, Lib.hid ?_, Lib.hid ?_⟩
          · rw [HSS.out, HSH.out]; exact HO4.out
          · exact ext_grown (X3.out.trans ((Ext.alloc _ _).trans (Ext.alloc _ _))) HG4.out (fun j hj => by have := (HO3.out.lt j hj).1; simpa using this)
        case measure => simp [intOf]; omega
      · go_wp2
        have hkn : k = n := by omega
        subst hkn
        refine bodyPost_ret (v := .tuple #[.slice a1 n1 p1, .bool true]) (by simp [results, Try.results41, go_sem]) rfl ⟨⟨_, rfl, by unfold shareL; rw [HL.out]; exact HO2.out.mono (by omega)⟩, HX.out.trans HX2.out⟩
theorem s_max1 (y : Int) (w : World) : Calls Try.prog 107 #[.int .i64 1, .int .i64 y] w fun e w' => e = .returned (.int .i64 (max 1 y)) ∧ w = w' := by
  by_cases h : y < 1
  all_goals
    have H := Lib.hid h
    go_enter Try.func107, Try.ntmps107
    go_wp2_with fail
    go_ret
    exact ⟨ret_int (by have := H.out; omega), rfl⟩
set_option maxHeartbeats 4000000 in
theorem s_ProportionalShares {w : World} {x : Int} {a : Option Addr} {n cap : Nat} {l : List Int} (h : Ints w a n cap l) :
    Calls Try.prog 42 #[pair x a n cap] w fun e w' => (∃ v, e = .returned (.tuple #[v, .bool (validPair 0 x l)]) ∧ OwnR w' w.heap.size v (shareL x l)) ∧ Ext w w' := by
  have hi := h.alloc (.cells #[.int .i64 x, .slice a n cap] 61)
  have HX := Lib.hid (Ext.alloc w (.cells #[.int .i64 x, .slice a n cap] 61))
  have HL := Lib.hid h.hlen
  have HI := Lib.hid hi
  have HO := Lib.hid (OwnR.made (w.alloc (.cells #[.int .i64 x, .slice a n cap] 61)) (w.heap.size + 1) (by simp))
  have hmax := h.hmax
  have hcap := h.hcap
  clear h hi
  cases hv : validPair 0 x l
  · have HVV := Lib.hid hv
    clear hv
    go_enter Try.func42, Try.ntmps42
    go_wp2
    go_loopw [4, 5] (fun o i wr => ∃ (a1 : Option Addr) (n1 p1 : Nat), i = .int .i64 0 ∧ o = .slice a1 n1 p1 ∧ Hid (OwnR wr (w.heap.size + 1) (.slice a1 n1 p1) []) ∧ Hid (Ext (w.alloc (.cells #[.int .i64 x, .slice a n cap] 61)) wr)) (fun _ i _ => n - (intOf i).toNat)
    case atStart => exact ⟨_, _, _, rfl, rfl, Lib.hid (by simpa using HO.out), Lib.hid (Ext.alloc _ _)⟩
    case round =>
      obtain ⟨a1, n1, p1, rfl, rfl, HO2, HX2⟩ := hrel
      have c0 : wr.cell? ⟨w.heap.size, 0, none⟩ = some (.int .i64 x) := HX2.out.cellSome (by simp)
      have c1 : wr.cell? ⟨w.heap.size, 1, none⟩ = some (.slice a n cap) := HX2.out.cellSome (by simp)
      have HI2 := Lib.hid (HI.out.ext HX2.out)
      have HV := Lib.hid (s_IsValidClaims (x := x) HI2.out)
      rw [HVV.out] at HV
      by_cases hlt : (0 : Int) < (n : Int)
      · go_wp2_with fail
        refine HV.out.mono ?_
        rintro e w2 ⟨rfl, hx2⟩
        have HI3 := Lib.hid (HI2.out.ext hx2)
        have HX3 := Lib.hid (HX2.out.trans hx2)
        have HO3 := Lib.hid (HO2.out.ext hx2)
        replace c0 := hx2.cellSome c0
        replace c1 := hx2.cellSome c1
        have HV := Lib.hid (s_IsValidClaims (x := x) HI3.out)
        rw [HVV.out] at HV
        clear hx2
        go_wp2_with fail
        refine HV.out.mono ?_
        rintro e w3 ⟨rfl, hx3⟩
        go_wp2
        refine bodyPost_ret (v := .tuple #[.slice a1 n1 p1, .bool false]) (by simp [results, Try.results42, go_sem]) rfl ⟨⟨_, rfl, by unfold shareL; rw [shareT_not _ HVV.out]; exact (HO3.out.ext hx3).mono (by omega)⟩, HX.out.trans (HX3.out.trans hx3)⟩
      · go_wp2_with fail
        refine HV.out.mono ?_
        rintro e w3 ⟨rfl, hx3⟩
        go_wp2
        refine bodyPost_ret (v := .tuple #[.slice a1 n1 p1, .bool false]) (by simp [results, Try.results42, go_sem]) rfl ⟨⟨_, rfl, by unfold shareL; rw [shareT_not _ HVV.out]; exact (HO2.out.ext hx3).mono (by omega)⟩, HX.out.trans (HX2.out.trans hx3)⟩
  have HVV := Lib.hid hv
  have hvc := valid_claims hv
  have hn5 : n ≤ 5 := by have := HL.out; omega
  obtain ⟨_, _, hx0, hxs, hs0, hs5, _⟩ := hvc
  obtain ⟨S, hS⟩ : ∃ S, S = sumW l := ⟨_, rfl⟩
  rw [← hS] at hs0 hs5 hxs
  have HS := Lib.hid hS
  clear hv hS
  go_enter Try.func42, Try.ntmps42
  go_wp2
  go_loopw [4, 5] (fun o i wr => ∃ (k : Nat) (a1 : Option Addr) (n1 p1 : Nat), k ≤ n ∧ i = .int .i64 (k : Int) ∧ o = .slice a1 n1 p1 ∧ Hid (OwnR wr (w.heap.size + 1) (.slice a1 n1 p1) (shareT x l k)) ∧ Hid (Ext (w.alloc (.cells #[.int .i64 x, .slice a n cap] 61)) wr)) (fun _ i _ => n - (intOf i).toNat)
  case atStart => exact ⟨0, _, _, _, Nat.zero_le _, rfl, rfl, Lib.hid (by rw [shareT_zero]; simpa using HO.out), Lib.hid (Ext.alloc _ _)⟩
  case round =>
    obtain ⟨k, a1, n1, p1, hk, rfl, rfl, HO2, HX2⟩ := hrel
    have c0 : wr.cell? ⟨w.heap.size, 0, none⟩ = some (.int .i64 x) := HX2.out.cellSome (by simp)
    have c1 : wr.cell? ⟨w.heap.size, 1, none⟩ = some (.slice a n cap) := HX2.out.cellSome (by simp)
    have HI2 := Lib.hid (HI.out.ext HX2.out)
    have HV := Lib.hid (s_IsValidClaims (x := x) HI2.out)
    rw [HVV.out] at HV
    by_cases hlt : k < n
    · have hkl : k < l.length := by have := HL.out; omega
      obtain ⟨p, q, hpq, hsh⟩ := share_ok HVV.out hkl
      obtain ⟨e1, e2⟩ := kwrap_in (share_mul HVV.out hkl)
      have hss := shareT_succ HVV.out hkl
      obtain ⟨b, off, he, hc⟩ := HI2.out.at hlt
      obtain ⟨y, hy⟩ : ∃ y, y = l[k]?.getD 0 := ⟨_, rfl⟩
      rw [← hy] at hpq hsh e1 e2 hc hss
      rw [← HS.out] at hpq
      have HPQ := Lib.hid hpq
      have HSH := Lib.hid hsh
      have HSS := Lib.hid hss
      clear hkl hpq hsh hy hss
      subst he
      go_wp2_with fail
      refine HV.out.mono ?_
      rintro e w2 ⟨rfl, hx2⟩
      have HI3 := Lib.hid (HI2.out.ext hx2)
      have X2 := Lib.hid (HX2.out.trans hx2)
      have HO3 := Lib.hid (HO2.out.ext hx2)
      have hsz2 : w.heap.size + 1 ≤ w2.heap.size := by have := X2.out.size; simpa using this
      replace c0 := hx2.cellSome c0
      replace c1 := hx2.cellSome c1
      replace hc := hx2.cellSome hc
      have hltw : w.heap.size < w2.heap.size := World.block_lt_of_cell? _ _ c0
      have hltb : b < w2.heap.size := World.block_lt_of_cell? _ _ hc
      clear hx2
      have hk2 : Ext w2 w2.drew := Ext.drew w2
      go_wp2_with fail
      go_region_held3 (fun w' => w'.cell? ⟨w.heap.size, 0, none⟩ = some (.int .i64 x) ∧ w'.cell? ⟨w.heap.size, 1, none⟩ = some (.slice (some ⟨b, off, none⟩) n cap) ∧ w'.cell? ⟨b, off + k, none⟩ = some (.int .i64 y) ∧ Ext w2 w')
        (first
          | exact ⟨hk2.cellSome c0, hk2.cellSome c1, hk2.cellSome hc, hk2⟩
          | exact (fun h => ⟨Ext.cellSome h c0, Ext.cellSome h c1, Ext.cellSome h hc, h⟩) (hk2.trans (Ext.alloc _ _))
          | exact (fun h => ⟨Ext.cellSome h c0, Ext.cellSome h c1, Ext.cellSome h hc, h⟩) ((hk2.setCell (by simp) _).setCell (by simp) _)
          | exact (fun h => ⟨Ext.cellSome h c0, Ext.cellSome h c1, Ext.cellSome h hc, h⟩) (((hk2.trans (Ext.alloc _ _)).setCell (by simp) _).setCell (by simp) _))
        (first
          | (go_at_call 101; refine (s_l18Sum (by first | exact HI3.out.ext hk2 | exact HI3.out.ext (hk2.trans (Ext.alloc _ _)))).mono ?_; rw [← HS.out]; rintro e w' ⟨rfl, rfl⟩)
          | (go_at_call 107; refine (s_max1 _ _).mono ?_; rintro e w' ⟨rfl, rfl⟩)
          | (go_at_call 66; refine (s_RatOf _ _ _).mono ?_; rw [HPQ.out]; rintro e w3 ⟨rfl, hx3⟩; first | (have hk2 := hk2.trans hx3) | (have hk2 := (hk2.trans (Ext.alloc _ _)).trans hx3); try (have hB : w3.heap[w2.heap.size]? = some (.cells #[.int .i64 0, .int .i64 0] 34 (0, 0)) := (hx3.block _ (by simp)).trans (heap_alloc_new w2 (.cells #[.int .i64 0, .int .i64 0] 34)); have b0 : w3.cell? ⟨w2.heap.size, 0, none⟩ = some (.int .i64 0) := (by rw [cell_of_row _ _ _ _ _ _ hB]; rfl); have b1 : w3.cell? ⟨w2.heap.size, 1, none⟩ = some (.int .i64 0) := (by rw [cell_of_row _ _ _ _ _ _ hB]; rfl); have fb : ∀ o, w3.frozen? ⟨w2.heap.size, o, none⟩ = false := (fun o => frozen_of_row _ _ _ _ _ hB); clear hB)))
      all_goals
        have hE := (‹_ ∧ _ ∧ _ ∧ Ext w2 _›).2.2.2
        have HE := Lib.hid hE
        have HO4 := Lib.hid (HO3.out.ext hE)
        have hszE := hE.size
        clear hE
        go_wp2_with (first
          | (at_builtin; refine append_rats rfl _ _ rfl (w.heap.size + 1) (.slice a1 n1 p1) _ rfl (HO4.out.ext (Ext.alloc _ _)) _ 1 _ [(p, q)] rfl (Rats.one' _ _ _ _ _ (by simp)) (by have := shareT_len x l k; omega) (by simp at hszE ⊢; omega) ?_; intro v2 w4 ho hg hnear; obtain ⟨a2, n2, c2, rfl, HN2⟩ := ho.var; have HO5 := Lib.hid ho; have HG5 := Lib.hid hg; clear ho hg hnear))
        go_roundw
        case rel =>
          refine ⟨k + 1, a2, n2, c2, by omega, by go_num, rfl, Lib.hid ?_, Lib.hid ?_⟩
          · rw [HSS.out, HSH.out]; exact HO5.out
          · exact ext_grown (X2.out.trans (HE.out.trans (Ext.alloc _ _))) HG5.out (fun j hj => by have := (HO4.out.lt j hj).1; simpa using this)
        case measure => simp [intOf]; omega
    · go_wp2_with fail
      refine HV.out.mono ?_
      rintro e w3 ⟨rfl, hx3⟩
      go_wp2
      have hkn : k = n := by omega
      subst hkn
      refine bodyPost_ret (v := .tuple #[.slice a1 n1 p1, .bool true]) (by simp [results, Try.results42, go_sem]) rfl ⟨⟨_, rfl, by unfold shareL; rw [HL.out]; exact (HO2.out.ext hx3).mono (by omega)⟩, HX.out.trans (HX2.out.trans hx3)⟩
end Go.Proofs.Ytgohdmnbnhehnaa
