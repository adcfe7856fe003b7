import Derived.Test.YthjjfkeacobikaaGreatTaAllG13
import Derived.Test.YthjjfkeacobikaaGreatTaAllG9
import Derived.Test.YthjjfkeacobikaaGreatTaAllG45
import Derived.Test.YthjjfkeacobikaaGreatTaAllG0
import Derived.Test.YthjjfkeacobikaaGreatTaAllG6
import Derived.Test.YthjjfkeacobikaaGreatTaAllG7
set_option linter.unusedVariables false
set_option linter.unusedSimpArgs false
namespace Go.Proofs.YthjjfkeacobikaaGreat
set_option maxRecDepth 100000
open Go.RowKit
theorem mulR_neg1 {l : Int × Int} (h : valR l = true) : mulR (-1, 1) l = ((-l.1, l.2), true) := by
 have hb := valR_bd h
 have hf := Fr.self h
 obtain ⟨r, h1, h2⟩ := (Fr.int (-1) (by omega) (by omega)).mul hf (z := -l.1) (F := l.2) hf.2.1 hb.2.1 (by omega) (by grind)
 rw [h1, h2.eq hf.neg rfl]
theorem mulR_bad {k l : Int × Int} (h : valR l = false) : mulR k l = ((0, 0), false) := by unfold mulR; rw [h, Bool.and_false]; rfl
theorem subR_bad {k l : Int × Int} (h : valR l = false) : subR k l = ((0, 0), false) := by unfold subR; rw [h, Bool.and_false]; rfl
theorem lessL_eq {C : List Int} {L : List (Int × Int)} (hf : fitL C = true) (hl : L.length = C.length) : lessL C L = runT (loseF C L) C.length := by
 unfold lessL sclL ratsL
 rw [if_pos hf, wholeL_len, if_pos hl.symm]
 refine runT_congr fun i hi => ?_
 unfold sclF loseF
 rw [wholeL_at hi]
 cases hv : valR (L[i]?.getD (0, 0))
 ·rw [mulR_bad hv, subR_bad hv]; simp
 ·rw [mulR_neg1 hv, ← subR_add]; simp
set_option maxHeartbeats 400000 in
theorem s_IsValidClaims {w : World} {x : Int} {a : Option Addr} {n cap : Nat} {l : List Int} (h : Ints w a n cap l) :
 Calls Tryz.prog 115 #[pair x a n cap] w fun e w' => e = .returned (.bool (validPair 0 x l)) ∧ Ext w w' := by
 have h1 := h.alloc (.cells #[.int .i64 x, .slice a n cap] 66)
 have hq := fun m => quiet_same (s_l18Small 100 (h1.drewN m))
 cases hs : small l 100
 all_goals
  have HS := Lib.hid hs
  rw [hs] at hq
  have HQ := Lib.hid hq
  clear hq hs
  go_enter Tryz.func115, Tryz.ntmps115
  go_wp2
  go_quiet ((first | (go_at_call 157; exact HQ.out _) | (go_at_call 116; exact quiet_same (s_l18Sum (h1.drewN _))) | (go_at_call 95; exact quiet_same (s_l1In _ _ _ _))))
  go_wp2
  go_ret
  refine ⟨ret_bool ?_, below_drewN (Ext.alloc _ _) _⟩
  simp only [validPair, HS.out, Bool.true_and, Bool.false_and]
theorem go_IsValidClaims1 : IsGo Tryz.prog 123 := isGo Tryz.func123 (by kernel_rfl) (by kernel_rfl)
set_option maxHeartbeats 400000 in
theorem i_IsValidClaims1 (x : Int) (w : World) : Calls Tryz.prog 123 #[.int .i64 x] w fun e w' => e = .returned (.bool (!inB x 0 100)) ∧ w = w' := by
 go_enter Tryz.func123, Tryz.ntmps123
 go_wp2_with (first | (go_at_call 80; refine (i_within _ _ _ _).mono ?_; rintro e w' ⟨rfl, rfl⟩))
 go_ret
 exact ⟨rfl, rfl⟩
theorem asks_IsValidClaims1 (w : World) : Asks Tryz.prog w 123 #[] (fun x => !inB x 0 100) :=
 fun x w1 _ => (i_IsValidClaims1 x w1).mono fun e w' ⟨he, hw⟩ => ⟨he, hw ▸ Ext.refl _⟩
set_option maxHeartbeats 400000 in
theorem i_IsValidClaims {w : World} {x : Int} {a : Option Addr} {n cap : Nat} {l : List Int} (h : Ints w a n cap l) :
 Calls Tryz.prog 47 #[pair x a n cap] w fun e w' => e = .returned (.bool (validPair 0 x l)) ∧ Ext w w' := by
 have h1 := h.alloc (.cells #[.int .i64 x, .slice a n cap] 66)
 have HX := Lib.hid (Ext.alloc w (.cells #[.int .i64 x, .slice a n cap] 66))
 have HC := Lib.hid (containsFunc_ints h1 go_IsValidClaims1 (asks_IsValidClaims1 _))
 have HL := Lib.hid h.hlen
 cases hin : inB n 1 5
 ·have HI := Lib.hid hin
  go_enter Tryz.func47, Tryz.ntmps47
  go_wp2_with (first | (go_at_call 80; refine (i_within _ _ _ _).mono ?_; rintro e w' ⟨rfl, rfl⟩))
  go_ret
  refine ⟨ret_bool ?_, HX.out⟩
  simp only [validPair, small, HL.out, HI.out, Bool.and_false, Bool.false_and]
 ·have HI := Lib.hid hin
  cases hany : l.any (fun x => !inB x 0 100)
  all_goals
   have HA := Lib.hid hany
   rw [hany] at HC
   clear hany
   go_enter Tryz.func47, Tryz.ntmps47
   go_wp2_with (first | (go_at_call 80; refine (i_within _ _ _ _).mono ?_; rintro e w' ⟨rfl, rfl⟩))
  ·refine HC.out.mono ?_
   rintro e w1 ⟨rfl, hx⟩
   have hcs := hx.cells
   have HX1 := Lib.hid (HX.out.trans hx)
   have h2 := h1.ext hx
   clear hx
   go_wp2
   go_quiet ((first | (go_at_call 83; exact quiet_same (i_total (h2.drewN _))) | (go_at_call 80; exact quiet_same (i_within _ _ _ _))))
   go_wp2
   go_ret
   refine ⟨ret_bool ?_, below_drewN HX1.out _⟩
   simp only [validPair, small_any, HL.out, HI.out, HA.out, Bool.not_false, Bool.true_and]
  ·refine HC.out.mono ?_
   rintro e w1 ⟨rfl, hx⟩
   have HX1 := Lib.hid (HX.out.trans hx)
   clear hx
   go_wp2
   go_ret
   refine ⟨ret_bool ?_, HX1.out⟩
   simp only [validPair, small_any, HA.out, Bool.not_true, Bool.false_and]
theorem foldW_bd : ∀ (l : List Int) (a : Int), (∀ c ∈ l, 0 ≤ c ∧ c ≤ 100) → 0 ≤ a → a + 100 * l.length ≤ 1000000 → 0 ≤ l.foldl (fun a x => wrap64 (a + x)) a ∧ l.foldl (fun a x => wrap64 (a + x)) a ≤ a + 100 * l.length
 | [], a, _, h0, h1 => by simp; omega
 | c :: l, a, h, h0, h1 => by
   have hc := h c (by simp)
   simp only [List.length_cons] at h1 ⊢
   have e : wrap64 (a + c) = a + c := by unfold wrap64; omega
   simp only [List.foldl_cons, e]
   have := foldW_bd l (a + c) (fun d hd => h d (by simp [hd])) (by omega) (by omega)
   omega
theorem valid_claims {x : Int} {l : List Int} (h : validPair 0 x l = true) : 1 ≤ l.length ∧ l.length ≤ 5 ∧ 0 ≤ x ∧ x ≤ sumW l ∧ 0 ≤ sumW l ∧ sumW l ≤ 500 ∧ ∀ k, k < l.length → 0 ≤ l[k]?.getD 0 ∧ l[k]?.getD 0 ≤ 100 := by
 simp only [validPair, small, inB, Bool.and_eq_true, decide_eq_true_eq, List.all_eq_true] at h
 obtain ⟨⟨h1, h2⟩, h3⟩ := h
 have hb := foldW_bd l 0 h1 (by omega) (by omega)
 change 0 ≤ sumW l ∧ sumW l ≤ _ at hb
 refine ⟨by omega, by omega, h3.1, h3.2, hb.1, by omega, fun k hk => ?_⟩
 have := h1 (l[k]) (List.getElem_mem hk)
 simpa [hk] using this
end Go.Proofs.YthjjfkeacobikaaGreat
