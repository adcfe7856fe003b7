/- The laws' comparisons of lists: out of eqIntS and eqIntSS. -/
import Derived.Test.YtokpmflhgehicaaMat
namespace Go.Proofs.Ytokpmflhgehicaa
set_option linter.unusedVariables false
open Go.RowKit

set_option maxHeartbeats 400000 in
theorem l_sameInts {w : World} {a a' : Option Addr} {n n' cap cap' : Nat} {l l' : List Int} (h : Ints w a n cap l) (h' : Ints w a' n' cap' l') :
    Calls Try.prog 73 #[.slice a n cap, .slice a' n' cap'] w fun e w' => e = .returned (.bool (decide (l = l'))) ∧ Drew w w' := by
  have hn := h.hcap
  have hm := h.hmax
  have hn' := h'.hcap
  have hm' := h'.hmax
  have HL := Lib.hid h.hlen
  have HL' := Lib.hid h'.hlen
  by_cases hne : n = n'
  · subst hne
    go_enter Try.func73, Try.ntmps73
    go_wp2
    go_loopw [5] (fun i wr => ∃ k : Nat, k ≤ n ∧ i = .int .i64 k ∧ l.take k = l'.take k ∧ Drew w wr) (fun i _ => n - (intOf i).toNat)
    case atStart => exact ⟨0, Nat.zero_le _, rfl, rfl, Drew.refl _⟩
    case round =>
      obtain ⟨k, hk, rfl, htk, hx⟩ := hrel
      have HT := Lib.hid htk
      clear htk
      by_cases hlt : k < n
      · have h1 := h.ext hx.ext
        have h1' := h'.ext hx.ext
        obtain ⟨b, off, rfl, hc⟩ := h1.at hlt
        obtain ⟨b', off', rfl, hc'⟩ := h1'.at hlt
        by_cases hq : l[k]?.getD 0 = l'[k]?.getD 0
        · have HQ := Lib.hid hq
          have hq1 : (l[k]?.getD 0 != l'[k]?.getD 0) = false := by simp [hq]
          clear hq
          go_wp2
          go_quiet (fail)
          go_wp2
          go_roundw
          case rel => exact ⟨k + 1, by omega, by go_num, by rw [take_snoc (by have := HL.out; omega), take_snoc (by have := HL'.out; omega), HT.out, HQ.out], hx.trans ⟨_, rfl⟩⟩
          case measure => simp [intOf]; omega
        · have HQ := Lib.hid hq
          have hq1 : (l[k]?.getD 0 != l'[k]?.getD 0) = true := by simp [hq]
          clear hq
          go_wp2
          go_quiet (fail)
          go_wp2
          go_ret
          refine ⟨ret_bool ?_, hx.trans ⟨_, rfl⟩⟩
          symm
          rw [decide_eq_false_iff_not]
          intro e
          exact HQ.out (by rw [e])
      · go_wp2
        go_ret
        refine ⟨ret_bool ?_, hx⟩
        symm
        rw [decide_eq_true_eq]
        have := HT.out
        rwa [List.take_of_length_le (by have := HL.out; omega), List.take_of_length_le (by have := HL'.out; omega)] at this
  · have hne' : ((n : Int) != (n' : Int)) = true := by simp; omega
    have HN := Lib.hid hne
    clear hne
    go_enter Try.func73, Try.ntmps73
    go_wp2
    go_ret
    refine ⟨ret_bool ?_, Drew.refl _⟩
    symm
    rw [decide_eq_false_iff_not]
    intro e
    exact HN.out (by rw [← HL.out, ← HL'.out, e])

set_option maxHeartbeats 400000 in
theorem l_sameLists {w : World} {a a' : Option Addr} {n n' cap cap' : Nat} {L L' : List (List Int)} (h : IntSS w a n cap L) (h' : IntSS w a' n' cap' L') :
    Calls Try.prog 68 #[.slice a n cap, .slice a' n' cap'] w fun e w' => e = .returned (.bool (decide (L = L'))) ∧ Drew w w' := by
  have hn := h.hcap
  have hm := h.hmax
  have hn' := h'.hcap
  have hm' := h'.hmax
  have HL := Lib.hid h.hlen
  have HL' := Lib.hid h'.hlen
  by_cases hne : n = n'
  · subst hne
    go_enter Try.func68, Try.ntmps68
    go_wp2
    go_loopw [5] (fun i wr => ∃ k : Nat, k ≤ n ∧ i = .int .i64 k ∧ Hid (L.take k = L'.take k) ∧ Drew w wr) (fun i _ => n - (intOf i).toNat)
    case atStart => exact ⟨0, Nat.zero_le _, rfl, Lib.hid rfl, Drew.refl _⟩
    case round =>
      obtain ⟨k, hk, rfl, HT, hx⟩ := hrel
      by_cases hlt : k < n
      · obtain ⟨b, off, a1, n1, c1, rfl, hc, hr⟩ := (h.ext hx.ext).at hlt
        obtain ⟨b', off', a2, n2, c2, rfl, hc', hr'⟩ := (h'.ext hx.ext).at hlt
        have HE := Lib.hid fun m => quiet_drew (l_sameInts (hr.drewN m) (hr'.drewN m))
        clear hr hr'
        cases hq : decide (L[k]?.getD [] = L'[k]?.getD [])
        · have HQ := Lib.hid hq
          rw [hq] at HE
          clear hq
          go_wp2
          go_quiet ((go_at_call 73; exact HE.out _))
          go_wp2
          go_ret
          refine ⟨ret_bool ?_, hx.trans ⟨_, rfl⟩⟩
          symm
          rw [decide_eq_false_iff_not]
          intro e
          have := HQ.out
          rw [decide_eq_false_iff_not] at this
          exact this (by rw [e])
        · have HQ := Lib.hid hq
          rw [hq] at HE
          clear hq
          go_wp2
          go_quiet ((go_at_call 73; exact HE.out _))
          go_wp2
          go_roundw
          case rel => exact ⟨k + 1, by omega, by go_num, Lib.hid (by rw [takeL_snoc (by have := HL.out; omega), takeL_snoc (by have := HL'.out; omega), HT.out, of_decide_eq_true HQ.out]), hx.trans ⟨_, rfl⟩⟩
          case measure => simp [intOf]; omega
      · go_wp2
        go_ret
        refine ⟨ret_bool ?_, hx⟩
        symm
        rw [decide_eq_true_eq]
        have := HT.out
        rwa [List.take_of_length_le (by have := HL.out; omega), List.take_of_length_le (by have := HL'.out; omega)] at this
  · have hne' : ((n : Int) != (n' : Int)) = true := by simp; omega
    have HN := Lib.hid hne
    clear hne
    go_enter Try.func68, Try.ntmps68
    go_wp2
    go_ret
    refine ⟨ret_bool ?_, Drew.refl _⟩
    symm
    rw [decide_eq_false_iff_not]
    intro e
    exact HN.out (by rw [← HL.out, ← HL'.out, e])

end Go.Proofs.Ytokpmflhgehicaa
