/- EqualLosses, on both sides. -/
import Derived.Test.YtokpmflhgehicaaLose
import Derived.Test.YtokpmflhgehicaaFr
import Derived.Test.YtokpmflhgehicaaAwardsS
namespace Go.Proofs.Ytokpmflhgehicaa
set_option linter.unusedVariables false
set_option linter.unusedSimpArgs false
set_option maxRecDepth 100000
open Go.RowKit

theorem mulR_neg1 {l : Int × Int} (h : valR l = true) : mulR (-1, 1) l = ((-l.1, l.2), true) := by
  have hb := valR_bd h
  have hf := Fr.self h
  obtain ⟨r, h1, h2⟩ := (Fr.int (-1) (by omega) (by omega)).mul hf (z := -l.1) (F := l.2) hf.2.1 hb.2.1 (by omega) (by grind)
  rw [h1, h2.eq hf.neg rfl]
theorem mulR_bad {k l : Int × Int} (h : valR l = false) : mulR k l = ((0, 0), false) := by unfold mulR; rw [h, Bool.and_false]; rfl
theorem subR_bad {k l : Int × Int} (h : valR l = false) : subR k l = ((0, 0), false) := by unfold subR; rw [h, Bool.and_false]; rfl
theorem lessL_eq {C : List Int} {L : List (Int × Int)} (hf : fitL C = true) (hl : L.length = C.length) : lessL C L = runT (loseF C L) C.length := by
  unfold lessL sclL ratsL
  rw [if_pos hf, wholeL_len, if_pos hl.symm]
  refine runT_congr fun i hi => ?_
  unfold sclF loseF
  rw [wholeL_at hi]
  cases hv : valR (L[i]?.getD (0, 0))
  · rw [mulR_bad hv, subR_bad hv]; simp
  · rw [mulR_neg1 hv, ← subR_add]; simp
theorem fits_fit {C : List Int} {x y : Int} (h : fitsR C x y = true) : fitL C = true := by
  simp only [fitsR, small, Bool.and_eq_true, List.all_eq_true, inB, decide_eq_true_eq] at h
  unfold fitL
  rw [List.all_eq_true]
  intro c hc
  have := h.1.1 c hc
  simp only [inB, Bool.and_eq_true, decide_eq_true_eq]
  omega
theorem awardL_full {C : List Int} {x y : Int} (h : awardOk C x y = true) : (awardL C x y).length = C.length := by
  unfold awardOk at h
  rw [Bool.and_eq_true] at h
  unfold awardL
  rw [if_pos h.1]
  cases hr : runA C C.length (x, y) (List.replicate C.length (0, 0)) C.length with
  | none => rw [hr] at h; simp at h
  | some st => have := runA_len C C.length _ hr; simpa using this
/-- What EqualLosses answers. -/
def gapR (C : List Int) (x y : Int) : (Int × Int) × Bool := subR (sumW C, 1) (x, y)
def lossO (C : List Int) (x y : Int) : Option (List (Int × Int)) :=
  if fitsR C x y = true ∧ (gapR C x y).2 = true ∧ awardOk C (gapR C x y).1.1 (gapR C x y).1.2 = true then lessL C (awardL C (gapR C x y).1.1 (gapR C x y).1.2) else none
theorem lossO_len (C : List Int) (x y : Int) : ((lossO C x y).getD []).length ≤ C.length := by
  unfold lossO
  split
  · unfold lessL sclL
    split
    · refine Nat.le_trans (runT_getD_le _) (ratsL_len C)
    · simp
  · simp

theorem i_totalE {w : World} {a : Option Addr} {n cap : Nat} {l : List Int} (h : Ints w a n cap l) :
    Calls Try.prog 87 #[.slice a n cap] w fun e w' => e = .returned (.int .i64 (sumW l)) ∧ Ext w w' :=
  (i_total h).mono fun _ _ ⟨he, hw⟩ => ⟨he, hw ▸ Ext.refl _⟩
theorem s_l18SumE {w : World} {a : Option Addr} {n cap : Nat} {l : List Int} (h : Ints w a n cap l) :
    Calls Try.prog 85 #[.slice a n cap] w fun e w' => e = .returned (.int .i64 (sumW l)) ∧ Ext w w' :=
  (s_l18Sum h).mono fun _ _ ⟨he, hw⟩ => ⟨he, hw ▸ Ext.refl _⟩

set_option maxHeartbeats 4000000 in
theorem i_EqualLosses {w : World} {x y : Int} {a : Option Addr} {n cap : Nat} {C : List Int} (h : Ints w a n cap C) :
    Calls Try.prog 51 #[.slice a n cap, ratV x y] w fun e w' => (∃ v, e = .returned (.tuple #[v, .bool (lossO C x y).isSome]) ∧ OwnR w' w.heap.size v ((lossO C x y).getD [])) ∧ Ext w w' := by
  have HL := Lib.hid h.hlen
  have hmax := h.hmax
  have hcap := h.hcap
  have HX := Lib.hid (Ext.alloc w (.cells #[.int .i64 x, .int .i64 y] 76))
  have HC := Lib.hid (h.ext HX.out)
  have HF := Lib.hid (i_divisible (x := x) (y := y) HC.out)
  clear h
  cases hfit : fitsR C x y
  · have HN := Lib.hid (show lossO C x y = none by unfold lossO; rw [hfit]; simp)
    rw [hfit] at HF
    clear hfit
    go_enter Try.func51, Try.ntmps51
    go_wp2_with fail
    refine HF.out.mono ?_
    rintro e w1 ⟨rfl, hx⟩
    have HX1 := Lib.hid (HX.out.trans hx)
    clear hx
    go_wp2_with fail
    refine bodyPost_ret (v := .tuple #[.slice none 0 0, .bool false]) (by simp [results, Try.results51, go_sem]) rfl ⟨⟨.slice none 0 0, by rw [HN.out]; rfl, by rw [HN.out]; exact OwnR.nil _ _⟩, HX1.out⟩
  · rw [hfit] at HF
    obtain ⟨p, q, one, hgap⟩ : ∃ p q ok, gapR C x y = ((p, q), ok) := ⟨_, _, _, rfl⟩
    obtain ⟨two, htwo⟩ : ∃ b, b = awardOk C p q := ⟨_, rfl⟩
    have HO := Lib.hid (show lossO C x y = if (one && two) = true then lessL C (awardL C p q) else none by
      unfold lossO; rw [hfit, hgap]; simp only [true_and, Bool.and_eq_true, ← htwo])
    have HG := Lib.hid (show subR (sumW C, 1) (x, y) = ((p, q), one) from hgap)
    have h15 := fits_good hfit
    have hn5 : n ≤ 5 := by have := HL.out; omega
    obtain ⟨S, hS⟩ : ∃ S, S = sumW C := ⟨_, rfl⟩
    have HS := Lib.hid hS
    have HT := Lib.hid htwo
    clear hfit hgap h15 hS htwo
    go_enter Try.func51, Try.ntmps51
    go_wp2_with fail
    refine HF.out.mono ?_
    rintro e w1 ⟨rfl, hx⟩
    have HX1 := Lib.hid (HX.out.trans hx)
    have c0 : w1.cell? ⟨w.heap.size, 0, none⟩ = some (.int .i64 x) := hx.cellSome (by simp)
    have c1 : w1.cell? ⟨w.heap.size, 1, none⟩ = some (.int .i64 y) := hx.cellSome (by simp)
    have HC1 := Lib.hid (HC.out.ext hx)
    clear hx
    go_upto_region 3 with fail
    go_cut [6, 7] (fun sx so wx => ∃ g : Nat, sx = .pointer (some ⟨g, 0, none⟩) ∧ so = .bool one ∧ Hid (Boxed w1 wx g p q))
    case first =>
      have hk2 : Ext w1 w1.drew := Ext.drew w1
      have hka : Ext w1 (w1.alloc (.cells #[.int .i64 0, .int .i64 0] 76)).drew := (Ext.alloc _ _).trans (Ext.drew _)
      have HKEEP := Lib.hid (fun (w' : World) (h : Ext w1 w') => (⟨h.cellSome c0, h.cellSome c1, h⟩ : w'.cell? ⟨w.heap.size, 0, none⟩ = some (.int .i64 x) ∧ w'.cell? ⟨w.heap.size, 1, none⟩ = some (.int .i64 y) ∧ Ext w1 w'))
      go_region_held3 (fun w' => w'.cell? ⟨w.heap.size, 0, none⟩ = some (.int .i64 x) ∧ w'.cell? ⟨w.heap.size, 1, none⟩ = some (.int .i64 y) ∧ Ext w1 w')
        (first
          | with_reducible exact HKEEP.out _ hk2
          | with_reducible exact HKEEP.out _ hka
          | with_reducible exact HKEEP.out _ ((hk2.setCell (by first | (simp; done) | (simp; omega)) _).setCell (by first | (simp; done) | (simp; omega)) _)
          | with_reducible exact HKEEP.out _ (hk2.trans (Ext.alloc _ _))
          | with_reducible exact HKEEP.out _ (hBB.put _ _).ext)
        (first
          | (go_at_call 87
             refine (i_totalE (HC1.out.ext (by first | with_reducible exact hk2 | with_reducible exact hka | with_reducible exact hk2.trans (Ext.alloc _ _)))).mono ?_
             rw [← HS.out]
             rintro e w2 ⟨rfl, hx_w2⟩
             first | (with_reducible have hBB := Boxed.grow hBB hx_w2) | (with_reducible have hBB := Boxed.firstD hx_w2) | (with_reducible have hBB := Boxed.laterD hk2 hx_w2) | skip
             first | (have b0_ := hBB.c0; have b1_ := hBB.c1; have fb_ := hBB.free) | skip
             have hk2 : Ext w1 w2 := by first | with_reducible exact hk2.trans hx_w2 | with_reducible exact hka.trans hx_w2 | with_reducible exact (hk2.trans (Ext.alloc _ _)).trans hx_w2
             have hk2s := hk2.size)
          | (go_at_call 122
             refine (i_whole S _).mono ?_
             rintro e w3 ⟨rfl, hx_w3⟩
             first | (with_reducible have hBB := Boxed.grow hBB hx_w3) | (with_reducible have hBB := Boxed.firstD hx_w3) | (with_reducible have hBB := Boxed.laterD hk2 hx_w3) | skip
             first | (have b0_ := hBB.c0; have b1_ := hBB.c1; have fb_ := hBB.free) | skip
             have hk2 : Ext w1 w3 := by first | with_reducible exact hk2.trans hx_w3 | with_reducible exact hka.trans hx_w3 | with_reducible exact (hk2.trans (Ext.alloc _ _)).trans hx_w3
             have hk2s := hk2.size)
          | (go_at_call 124
             refine (i_SubRat S 1 x y _).mono ?_
             rw [HS.out, HG.out]
             rintro e w4 ⟨rfl, hx_w4⟩
             first | (with_reducible have hBB := Boxed.grow hBB hx_w4) | (with_reducible have hBB := Boxed.firstD hx_w4) | (with_reducible have hBB := Boxed.laterD hk2 hx_w4) | skip
             first | (have b0_ := hBB.c0; have b1_ := hBB.c1; have fb_ := hBB.free) | skip
             have hk2 : Ext w1 w4 := by first | with_reducible exact hk2.trans hx_w4 | with_reducible exact hka.trans hx_w4 | with_reducible exact (hk2.trans (Ext.alloc _ _)).trans hx_w4
             have hk2s := hk2.size)
          | fail)
      all_goals (go_wp2_with fail; go_meet; first | exact ⟨_, rfl, rfl, Lib.hid (hBB.put _ _)⟩ | exact ⟨_, rfl, rfl, Lib.hid (Boxed.new hk2 _ _)⟩ | exact ⟨_, rfl, rfl, Lib.hid (Boxed.new' hk2 _ _ (by simp))⟩)
    obtain ⟨g, rfl, rfl, HB1⟩ := hcut
    have g0 := HB1.out.c0
    have g1 := HB1.out.c1
    have HX2 := Lib.hid (HX1.out.trans HB1.out.ext)
    have HC2 := Lib.hid (HC1.out.ext HB1.out.ext)
    have HE := Lib.hid (i_EqualAwards (x := p) (y := q) HC2.out)
    clear c0 c1
    rw [← HT.out] at HE
    go_wp2_with fail
    refine HE.out.mono ?_
    rintro e w5 ⟨⟨v, rfl, ho⟩, hx⟩
    obtain ⟨a1, n1, p1, rfl, HN1⟩ := ho.var
    have HO5 := Lib.hid ho
    have HX5 := Lib.hid (HX2.out.trans hx)
    have HC5 := Lib.hid (HC2.out.ext hx)
    clear hx ho g0 g1
    cases hb12 : (one && two)
    · have HN := Lib.hid (show lossO C x y = none by rw [HO.out, hb12]; rfl)
      cases one
      case' true => (have h2 : two = false := by simpa using hb12); subst h2
      all_goals
        clear hb12
        go_wp2_with fail
        refine bodyPost_ret (v := .tuple #[.slice none 0 0, .bool false]) (by simp [results, Try.results51, go_sem]) rfl ⟨⟨.slice none 0 0, by rw [HN.out]; rfl, by rw [HN.out]; exact OwnR.nil _ _⟩, HX5.out⟩
    · obtain ⟨rfl, rfl⟩ : one = true ∧ two = true := by simpa using hb12
      have HN := Lib.hid (show lossO C x y = lessL C (awardL C p q) by rw [HO.out, hb12]; rfl)
      have HLS := Lib.hid (i_claimsLess HC5.out HO5.out.rats (by omega))
      clear hb12
      go_wp2_with fail
      refine HLS.out.mono ?_
      rintro e w6 ⟨⟨v, rfl, ho⟩, hx⟩
      have HO6 := Lib.hid (ho.mono HX5.out.size)
      have HX6 := Lib.hid (HX5.out.trans hx)
      clear ho hx
      go_wp2_with fail
      refine bodyPost_ret (v := .tuple #[v, .bool (lossO C x y).isSome]) (by rw [HN.out]; simp [results, Try.results51, go_sem]) rfl ⟨⟨v, rfl, by rw [HN.out]; exact HO6.out⟩, HX6.out⟩

set_option maxHeartbeats 4000000 in
theorem s_EqualLosses {w : World} {x y : Int} {a : Option Addr} {n cap : Nat} {C : List Int} (h : Ints w a n cap C) :
    Calls Try.prog 50 #[.slice a n cap, ratV x y] w fun e w' => (∃ v, e = .returned (.tuple #[v, .bool (lossO C x y).isSome]) ∧ OwnR w' w.heap.size v ((lossO C x y).getD [])) ∧ Ext w w' := by
  have HL := Lib.hid h.hlen
  have hmax := h.hmax
  have hcap := h.hcap
  have HX := Lib.hid (Ext.alloc w (.cells #[.int .i64 x, .int .i64 y] 76))
  have HC := Lib.hid (h.ext HX.out)
  have HF := Lib.hid (s_l18Fits (x := x) (y := y) HC.out)
  clear h
  cases hfit : fitsR C x y
  · have HN := Lib.hid (show lossO C x y = none by unfold lossO; rw [hfit]; simp)
    rw [hfit] at HF
    clear hfit
    go_enter Try.func50, Try.ntmps50
    go_wp2_with fail
    refine HF.out.mono ?_
    rintro e w1 ⟨rfl, hx⟩
    have HX1 := Lib.hid (HX.out.trans hx)
    have HM2 := Lib.hid (OwnR.made w1 w.heap.size HX1.out.size)
    clear hx
    go_wp2_with fail
    refine bodyPost_ret (v := .tuple #[.slice (some ⟨w1.heap.size, 0, none⟩) 0 0, .bool false]) (by simp [results, Try.results50, go_sem]) rfl ⟨⟨_, by rw [HN.out]; rfl, by rw [HN.out]; exact HM2.out⟩, HX1.out.trans (Ext.alloc _ _)⟩
  · rw [hfit] at HF
    obtain ⟨p, q, one, hgap⟩ : ∃ p q ok, gapR C x y = ((p, q), ok) := ⟨_, _, _, rfl⟩
    obtain ⟨two, htwo⟩ : ∃ b, b = awardOk C p q := ⟨_, rfl⟩
    have HO := Lib.hid (show lossO C x y = if (one && two) = true then lessL C (awardL C p q) else none by
      unfold lossO; rw [hfit, hgap]; simp only [true_and, Bool.and_eq_true, ← htwo])
    have HG := Lib.hid (show subR (sumW C, 1) (x, y) = ((p, q), one) from hgap)
    have h15 := fits_good hfit
    have HFT := Lib.hid (fits_fit hfit)
    have hn5 : n ≤ 5 := by have := HL.out; omega
    obtain ⟨S, hS⟩ : ∃ S, S = sumW C := ⟨_, rfl⟩
    have HS := Lib.hid hS
    have HT := Lib.hid htwo
    clear hfit hgap h15 hS htwo
    go_enter Try.func50, Try.ntmps50
    go_wp2_with fail
    refine HF.out.mono ?_
    rintro e w1 ⟨rfl, hx⟩
    have HX1 := Lib.hid (HX.out.trans hx)
    have c0 : w1.cell? ⟨w.heap.size, 0, none⟩ = some (.int .i64 x) := hx.cellSome (by simp)
    have c1 : w1.cell? ⟨w.heap.size, 1, none⟩ = some (.int .i64 y) := hx.cellSome (by simp)
    have HC1 := Lib.hid (HC.out.ext hx)
    clear hx
    go_upto_region 3 with fail
    go_cut [6, 7] (fun sx so wx => ∃ g : Nat, sx = .pointer (some ⟨g, 0, none⟩) ∧ so = .bool one ∧ Hid (Boxed w1 wx g p q))
    case first =>
      have hk2 : Ext w1 w1.drew := Ext.drew w1
      have hka : Ext w1 (w1.alloc (.cells #[.int .i64 0, .int .i64 0] 76)).drew := (Ext.alloc _ _).trans (Ext.drew _)
      have HKEEP := Lib.hid (fun (w' : World) (h : Ext w1 w') => (⟨h.cellSome c0, h.cellSome c1, h⟩ : w'.cell? ⟨w.heap.size, 0, none⟩ = some (.int .i64 x) ∧ w'.cell? ⟨w.heap.size, 1, none⟩ = some (.int .i64 y) ∧ Ext w1 w'))
      go_region_held3 (fun w' => w'.cell? ⟨w.heap.size, 0, none⟩ = some (.int .i64 x) ∧ w'.cell? ⟨w.heap.size, 1, none⟩ = some (.int .i64 y) ∧ Ext w1 w')
        (first
          | with_reducible exact HKEEP.out _ hk2
          | with_reducible exact HKEEP.out _ hka
          | with_reducible exact HKEEP.out _ ((hk2.setCell (by first | (simp; done) | (simp; omega)) _).setCell (by first | (simp; done) | (simp; omega)) _)
          | with_reducible exact HKEEP.out _ (hk2.trans (Ext.alloc _ _))
          | with_reducible exact HKEEP.out _ (hBB.put _ _).ext)
        (first
          | (go_at_call 85
             refine (s_l18SumE (HC1.out.ext (by first | with_reducible exact hk2 | with_reducible exact hka | with_reducible exact hk2.trans (Ext.alloc _ _)))).mono ?_
             rw [← HS.out]
             rintro e w2 ⟨rfl, hx_w2⟩
             first | (with_reducible have hBB := Boxed.grow hBB hx_w2) | (with_reducible have hBB := Boxed.firstD hx_w2) | (with_reducible have hBB := Boxed.laterD hk2 hx_w2) | skip
             first | (have b0_ := hBB.c0; have b1_ := hBB.c1; have fb_ := hBB.free) | skip
             have hk2 : Ext w1 w2 := by first | with_reducible exact hk2.trans hx_w2 | with_reducible exact hka.trans hx_w2 | with_reducible exact (hk2.trans (Ext.alloc _ _)).trans hx_w2
             have hk2s := hk2.size)
          | (go_at_call 115
             refine (s_l3Int S _).mono ?_
             rintro e w3 ⟨rfl, hx_w3⟩
             first | (with_reducible have hBB := Boxed.grow hBB hx_w3) | (with_reducible have hBB := Boxed.firstD hx_w3) | (with_reducible have hBB := Boxed.laterD hk2 hx_w3) | skip
             first | (have b0_ := hBB.c0; have b1_ := hBB.c1; have fb_ := hBB.free) | skip
             have hk2 : Ext w1 w3 := by first | with_reducible exact hk2.trans hx_w3 | with_reducible exact hka.trans hx_w3 | with_reducible exact (hk2.trans (Ext.alloc _ _)).trans hx_w3
             have hk2s := hk2.size)
          | (go_at_call 117
             refine (s_SubRat S 1 x y _).mono ?_
             rw [HS.out, HG.out]
             rintro e w4 ⟨rfl, hx_w4⟩
             first | (with_reducible have hBB := Boxed.grow hBB hx_w4) | (with_reducible have hBB := Boxed.firstD hx_w4) | (with_reducible have hBB := Boxed.laterD hk2 hx_w4) | skip
             first | (have b0_ := hBB.c0; have b1_ := hBB.c1; have fb_ := hBB.free) | skip
             have hk2 : Ext w1 w4 := by first | with_reducible exact hk2.trans hx_w4 | with_reducible exact hka.trans hx_w4 | with_reducible exact (hk2.trans (Ext.alloc _ _)).trans hx_w4
             have hk2s := hk2.size)
          | fail)
      all_goals (go_wp2_with fail; go_meet; first | exact ⟨_, rfl, rfl, Lib.hid (hBB.put _ _)⟩ | exact ⟨_, rfl, rfl, Lib.hid (Boxed.new hk2 _ _)⟩ | exact ⟨_, rfl, rfl, Lib.hid (Boxed.new' hk2 _ _ (by simp))⟩)
    obtain ⟨g, rfl, rfl, HB1⟩ := hcut
    have g0 := HB1.out.c0
    have g1 := HB1.out.c1
    have HX2 := Lib.hid (HX1.out.trans HB1.out.ext)
    have HC2 := Lib.hid (HC1.out.ext HB1.out.ext)
    have HE := Lib.hid (s_EqualAwards (x := p) (y := q) HC2.out)
    clear c0 c1
    rw [← HT.out] at HE
    go_wp2_with fail
    refine HE.out.mono ?_
    rintro e w5 ⟨⟨v, rfl, ho⟩, hx⟩
    obtain ⟨a1, n1, p1, rfl, HN1⟩ := ho.var
    have HO5 := Lib.hid ho
    have HX5 := Lib.hid (HX2.out.trans hx)
    have HC5 := Lib.hid (HC2.out.ext hx)
    clear hx ho g0 g1
    cases hb12 : (one && two)
    · have HN := Lib.hid (show lossO C x y = none by rw [HO.out, hb12]; rfl)
      have HM2 := Lib.hid (OwnR.made w5 w.heap.size HX5.out.size)
      cases one
      case' true => (have h2 : two = false := by simpa using hb12); subst h2
      all_goals
        clear hb12
        go_wp2_with fail
        refine bodyPost_ret (v := .tuple #[.slice (some ⟨w5.heap.size, 0, none⟩) 0 0, .bool false]) (by simp [results, Try.results50, go_sem]) rfl ⟨⟨_, by rw [HN.out]; rfl, by rw [HN.out]; exact HM2.out⟩, HX5.out.trans (Ext.alloc _ _)⟩
    · obtain ⟨rfl, rfl⟩ : one = true ∧ two = true := by simpa using hb12
      have HLN := Lib.hid (awardL_full HT.out.symm)
      have HN := Lib.hid (show lossO C x y = runT (loseF C (awardL C p q)) n1 by rw [HO.out, hb12, if_pos rfl, lessL_eq HFT.out HLN.out, ← HN1.out, HLN.out])
      have HLS := Lib.hid (s_l18Lose HC5.out HO5.out.rats (by have := HN1.out; have := HLN.out; have := HL.out; omega) (by omega))
      clear hb12
      go_wp2_with fail
      refine HLS.out.mono ?_
      rintro e w6 ⟨⟨v, rfl, ho⟩, hx⟩
      have HO6 := Lib.hid (ho.mono HX5.out.size)
      have HX6 := Lib.hid (HX5.out.trans hx)
      clear ho hx
      go_wp2_with fail
      refine bodyPost_ret (v := .tuple #[v, .bool (lossO C x y).isSome]) (by rw [HN.out]; simp [results, Try.results50, go_sem]) rfl ⟨⟨v, rfl, by rw [HN.out]; exact HO6.out⟩, HX6.out⟩

def lossOk (C : List Int) (x y : Int) : Bool := (lossO C x y).isSome
def lossL (C : List Int) (x y : Int) : List (Int × Int) := (lossO C x y).getD []
theorem lossL_len (C : List Int) (x y : Int) : (lossL C x y).length ≤ C.length := lossO_len C x y
theorem i_losses {w : World} {x y : Int} {a : Option Addr} {n cap : Nat} {C : List Int} (h : Ints w a n cap C) :
    Calls Try.prog 51 #[.slice a n cap, ratV x y] w fun e w' => (∃ v, e = .returned (.tuple #[v, .bool (lossOk C x y)]) ∧ OwnR w' w.heap.size v (lossL C x y)) ∧ Ext w w' := i_EqualLosses h
theorem s_losses {w : World} {x y : Int} {a : Option Addr} {n cap : Nat} {C : List Int} (h : Ints w a n cap C) :
    Calls Try.prog 50 #[.slice a n cap, ratV x y] w fun e w' => (∃ v, e = .returned (.tuple #[v, .bool (lossOk C x y)]) ∧ OwnR w' w.heap.size v (lossL C x y)) ∧ Ext w w' := s_EqualLosses h

end Go.Proofs.Ytokpmflhgehicaa
