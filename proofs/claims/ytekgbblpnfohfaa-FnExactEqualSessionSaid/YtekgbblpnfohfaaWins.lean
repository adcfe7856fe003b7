/- Votings: which coalitions win. -/
import Derived.Test.YtekgbblpnfohfaaBits
import Derived.Test.YtekgbblpnfohfaaVoting
namespace Go.Proofs.Ytekgbblpnfohfaa
set_option linter.unusedVariables false
open Go.RowKit

/-- Does a coalition win? -/
def winsB (q : Int) (l : List Int) (s : Int) : Bool := decide (q ≤ sumTo s l l.length)

set_option maxHeartbeats 400000 in
theorem i_wins {w : World} {q : Int} {a : Option Addr} {n cap : Nat} {l : List Int} (s : Int) (h : Ints w a n cap l) (h0 : 0 ≤ s) (h1 : s ≤ 9223372036854775807) (h5 : n ≤ 60) :
    Calls Try.prog 90 #[pair q a n cap, .int .i64 s] w fun e w' => e = .returned (.bool (winsB q l s)) ∧ Ext w w' := by
  have hi := h.alloc (.cells #[.int .i64 q, .slice a n cap] 60)
  have HL := Lib.hid h.hlen
  go_enter Try.func90, Try.ntmps90
  go_wp2
  go_quiet ((go_at_call 103; exact quiet_same (i_sumOver s (hi.drewN _) h0 h1 h5)))
  go_wp2
  go_ret
  exact ⟨ret_bool (by unfold winsB; rw [HL.out]), below_drewN (Ext.alloc _ _) _⟩

set_option maxHeartbeats 400000 in
theorem i_all {w : World} {q : Int} {a : Option Addr} {n cap : Nat} (hn : n ≤ 5) :
    Calls Try.prog 91 #[pair q a n cap] w fun e w' => e = .returned (.int .i64 (cN n : Int)) ∧ Ext w w' := by
  have HW := Lib.hid ((wrap_pow n hn).trans (cN_pow n).symm)
  go_enter Try.func91, Try.ntmps91
  go_wp2
  go_ret
  exact ⟨ret_int HW.out, Ext.alloc _ _⟩

set_option maxHeartbeats 400000 in
theorem s_l20Wins {w : World} {q : Int} {a : Option Addr} {n cap : Nat} {l : List Int} (s : Int) (h : Ints w a n cap l) (h0 : 0 ≤ s) (h1 : s ≤ 9223372036854775807) (h5 : n ≤ 5) :
    Calls Try.prog 87 #[pair q a n cap, .int .i64 s] w fun e w' => e = .returned (.bool (winsB q l s)) ∧ Ext w w' := by
  have hi := h.alloc (.cells #[.int .i64 q, .slice a n cap] 60)
  have HL := Lib.hid h.hlen
  go_enter Try.func87, Try.ntmps87
  go_wp2
  go_loop [5, 6] (fun t i => ∃ k : Nat, k ≤ n ∧ i = .int .i64 k ∧ t = .int .i64 (sumTo s l k)) (fun _ i => n - (intOf i).toNat)
  case atStart => exact ⟨0, Nat.zero_le _, rfl, rfl⟩
  case round =>
    obtain ⟨k, hk, rfl, rfl⟩ := hrel
    by_cases hlt : k < n
    · obtain ⟨b, off, rfl, hc⟩ := hi.at hlt
      have hp := hasP_bit s k h0 (by omega)
      cases hbit : bit s k
      all_goals
        rw [hbit] at hp
        have HB := Lib.hid hbit
        clear hbit
        go_wp2_with (first | (go_at_call 93; refine (s_HasPlayer _ _ _ h1).mono ?_; rintro e w' ⟨rfl, rfl⟩))
        go_round
        case rel => exact ⟨k + 1, by omega, by go_num, by simp only [sumTo, HB.out]; rfl⟩
        case measure => simp [intOf]; omega
    · go_wp2
      go_ret
      have hkn : k = n := by omega
      subst hkn
      exact ⟨ret_bool (by unfold winsB; rw [HL.out]), Ext.alloc _ _⟩

theorem valid_len {lo x : Int} {l : List Int} (h : validPair lo x l = true) : 1 ≤ l.length ∧ l.length ≤ 5 := by
  unfold validPair small inB at h
  simp only [Bool.and_eq_true, decide_eq_true_eq] at h
  omega

end Go.Proofs.Ytekgbblpnfohfaa
