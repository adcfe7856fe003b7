/- Claims and votings: the laws' copies and comparisons, and both sides' tests of validity. -/
import Derived.Test.YtokpmflhgehicaaConv
namespace Go.Proofs.Ytokpmflhgehicaa
set_option linter.unusedVariables false
open Go.RowKit

set_option maxHeartbeats 400000 in
theorem l_szClaims (x : Int) (a : Option Addr) (n cap : Nat) (left : Int) (w : World) (h0 : 0 ≤ left) (h1 : left ≤ 1048576) (hm : n ≤ 9223372036854775807) :
    Calls Try.prog 19 #[pair x a n cap, .int .i64 left] w fun e w' => e = .returned (.int .i64 (szF left n)) ∧ Ext w w' := by
  have hb := szF_le left n h0 h1
  have HF := Lib.hid (show szF left n < 0 → szF left n = -1 by unfold szF; split <;> omega)
  go_enter Try.func19, Try.ntmps19
  go_wp2_with (first | (go_at_call 81; refine (l_szIntS _ _ _ _ _ h0 h1 hm).mono ?_; rintro e w' ⟨rfl, rfl⟩))
  all_goals go_ret; refine ⟨ret_int ?_, Ext.alloc _ _⟩
  · exact (HF.out (by assumption)).symm
  · rfl

set_option maxHeartbeats 400000 in
theorem l_toClaims {w : World} {x : Int} {a : Option Addr} {n cap : Nat} {l : List Int} (h : Ints w a n cap l) (hb : n ≤ 1099511627776) :
    Calls Try.prog 21 #[pair x a n cap] w fun e w' => ∃ b, e = .returned (pair x (some ⟨b, 0, none⟩) n n) ∧ Row w' b 3 l ∧ w.heap.size ≤ b ∧ Ext w w' := by
  go_enter Try.func21, Try.ntmps21
  go_wp2_with fail
  refine (l_toIntS (h.ext ?hx1) hb).mono ?_
  case hx1 => exact (((Ext.alloc _ _).trans (Ext.alloc _ _)).trans (Ext.alloc _ _))
  rintro e w1 ⟨b, rfl, hrow, hbb, hx⟩
  have hcs := hx.cells
  have hfs := hx.frozens
  have HX := Lib.hid hx
  clear hx
  go_wp2
  have hbb' : w.heap.size + 1 + 1 + 1 ≤ b := by simpa using hbb
  refine bodyPost_ret (v := pair x (some ⟨b, 0, none⟩) n n) (by simp [results, Try.results21, go_sem, hcs]) rfl ⟨b, rfl, ?_, ?_, ?_⟩
  · exact ((hrow.other (by simp; omega) _).other (by simp; omega) _).other (by simp; omega) _
  · omega
  · exact (((((Ext.alloc _ _).trans (Ext.alloc _ _)).trans (Ext.alloc _ _)).trans HX.out).setCell (by simp; omega) _).setCell (by simp) _ |>.setCell (by simp) _

set_option maxHeartbeats 400000 in
theorem l_eqClaims {w : World} {x x' : Int} {a a' : Option Addr} {n n' cap cap' : Nat} {l l' : List Int} (h : Ints w a n cap l) (h' : Ints w a' n' cap' l') :
    Calls Try.prog 24 #[pair x a n cap, pair x' a' n' cap'] w fun e w' => e = .returned (.bool (decide (x = x') && decide (l = l'))) ∧ Ext w w' := by
  have hne : (x != x') = !decide (x = x') := by by_cases h : x = x' <;> simp [h]
  cases hd : decide (x = x')
  · rw [hd] at hne
    go_enter Try.func24, Try.ntmps24
    go_wp2_with fail
    go_ret
    exact ⟨ret_bool (by simp), (Ext.alloc _ _).trans (Ext.alloc _ _)⟩
  · rw [hd] at hne
    have hx0 : Ext w ((w.alloc (.cells #[.int .i64 x, .slice a n cap] 40)).alloc (.cells #[.int .i64 x', .slice a' n' cap'] 40)) := (Ext.alloc _ _).trans (Ext.alloc _ _)
    have HE := Lib.hid (l_eqIntS (h.ext hx0) (h'.ext hx0))
    have HX0 := Lib.hid hx0
    clear hx0
    cases hl : decide (l = l')
    all_goals
      have HL := Lib.hid hl
      rw [hl] at HE
      clear hl
      go_enter Try.func24, Try.ntmps24
      go_wp2_with fail
      refine HE.out.mono ?_
      rintro e w1 ⟨rfl, hx⟩
      go_wp2
      go_ret
      exact ⟨ret_bool (by simp), HX0.out.trans hx.ext⟩

set_option maxHeartbeats 400000 in
theorem s_IsValidClaims {w : World} {x : Int} {a : Option Addr} {n cap : Nat} {l : List Int} (h : Ints w a n cap l) :
    Calls Try.prog 82 #[pair x a n cap] w fun e w' => e = .returned (.bool (validPair 0 x l)) ∧ Ext w w' := by
  have h1 := h.alloc (.cells #[.int .i64 x, .slice a n cap] 40)
  have hq := fun m => quiet_same (s_l18Small 100 (h1.drewN m))
  cases hs : small l 100
  all_goals
    have HS := Lib.hid hs
    rw [hs] at hq
    have HQ := Lib.hid hq
    clear hq hs
    go_enter Try.func82, Try.ntmps82
    go_wp2
    go_quiet ((first | (go_at_call 153; exact HQ.out _) | (go_at_call 85; exact quiet_same (s_l18Sum (h1.drewN _))) | (go_at_call 92; exact quiet_same (s_l1In _ _ _ _))))
    go_wp2
    go_ret
    refine ⟨ret_bool ?_, below_drewN (Ext.alloc _ _) _⟩
    simp only [validPair, HS.out, Bool.true_and, Bool.false_and]

theorem go_IsValidClaims1 : IsGo Try.prog 157 := isGo Try.func157 (by kernel_rfl) (by kernel_rfl)
set_option maxHeartbeats 400000 in
theorem i_IsValidClaims1 (x : Int) (w : World) : Calls Try.prog 157 #[.int .i64 x] w fun e w' => e = .returned (.bool (!inB x 0 100)) ∧ w = w' := by
  go_enter Try.func157, Try.ntmps157
  go_wp2_with (first | (go_at_call 97; refine (i_within _ _ _ _).mono ?_; rintro e w' ⟨rfl, rfl⟩))
  go_ret
  exact ⟨rfl, rfl⟩
theorem asks_IsValidClaims1 (w : World) : Asks Try.prog w 157 #[] (fun x => !inB x 0 100) :=
  fun x w1 _ => (i_IsValidClaims1 x w1).mono fun e w' ⟨he, hw⟩ => ⟨he, hw ▸ Ext.refl _⟩

set_option maxHeartbeats 400000 in
theorem i_IsValidClaims {w : World} {x : Int} {a : Option Addr} {n cap : Nat} {l : List Int} (h : Ints w a n cap l) :
    Calls Try.prog 86 #[pair x a n cap] w fun e w' => e = .returned (.bool (validPair 0 x l)) ∧ Ext w w' := by
  have h1 := h.alloc (.cells #[.int .i64 x, .slice a n cap] 40)
  have HX := Lib.hid (Ext.alloc w (.cells #[.int .i64 x, .slice a n cap] 40))
  have HC := Lib.hid (containsFunc_ints h1 go_IsValidClaims1 (asks_IsValidClaims1 _))
  have HL := Lib.hid h.hlen
  cases hin : inB n 1 5
  · have HI := Lib.hid hin
    go_enter Try.func86, Try.ntmps86
    go_wp2_with (first | (go_at_call 97; refine (i_within _ _ _ _).mono ?_; rintro e w' ⟨rfl, rfl⟩))
    go_ret
    refine ⟨ret_bool ?_, HX.out⟩
    simp only [validPair, small, HL.out, HI.out, Bool.and_false, Bool.false_and]
  · have HI := Lib.hid hin
    cases hany : l.any (fun x => !inB x 0 100)
    all_goals
      have HA := Lib.hid hany
      rw [hany] at HC
      clear hany
      go_enter Try.func86, Try.ntmps86
      go_wp2_with (first | (go_at_call 97; refine (i_within _ _ _ _).mono ?_; rintro e w' ⟨rfl, rfl⟩))
    · refine HC.out.mono ?_
      rintro e w1 ⟨rfl, hx⟩
      have hcs := hx.cells
      have HX1 := Lib.hid (HX.out.trans hx)
      have h2 := h1.ext hx
      clear hx
      go_wp2
      go_quiet ((first | (go_at_call 87; exact quiet_same (i_total (h2.drewN _))) | (go_at_call 97; exact quiet_same (i_within _ _ _ _))))
      go_wp2
      go_ret
      refine ⟨ret_bool ?_, below_drewN HX1.out _⟩
      simp only [validPair, small_any, HL.out, HI.out, HA.out, Bool.not_false, Bool.true_and]
    · refine HC.out.mono ?_
      rintro e w1 ⟨rfl, hx⟩
      have HX1 := Lib.hid (HX.out.trans hx)
      clear hx
      go_wp2
      go_ret
      refine ⟨ret_bool ?_, HX1.out⟩
      simp only [validPair, small_any, HA.out, Bool.not_true, Bool.false_and]

end Go.Proofs.Ytokpmflhgehicaa
