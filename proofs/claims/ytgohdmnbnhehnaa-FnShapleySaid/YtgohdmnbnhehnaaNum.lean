/- What the small integer functions compute: within, l1In, total, l18Sum, l18Small, and the library's IndexFunc and ContainsFunc on integers. -/
import Derived.Test.YtgohdmnbnhehnaaBase
namespace Go.Proofs.Ytgohdmnbnhehnaa
set_option linter.unusedVariables false
open Go.RowKit

set_option maxHeartbeats 400000 in
theorem i_within (n lo hi : Int) (w : World) :
    Calls Try.prog 69 #[.int .i64 n, .int .i64 lo, .int .i64 hi] w fun e w' => e = .returned (.bool (inB n lo hi)) ∧ w = w' := by
  go_enter Try.func69, Try.ntmps69
  go_wp2
  all_goals go_ret; refine ⟨?_, rfl⟩; simp [inB, *]
  intro h; omega

set_option maxHeartbeats 400000 in
theorem s_l1In (n lo hi : Int) (w : World) :
    Calls Try.prog 70 #[.int .i64 n, .int .i64 lo, .int .i64 hi] w fun e w' => e = .returned (.bool (inB n lo hi)) ∧ w = w' := by
  go_enter Try.func70, Try.ntmps70
  go_wp2
  all_goals go_ret; refine ⟨?_, rfl⟩; simp [inB, *]
  intro h; omega

set_option maxHeartbeats 400000 in
theorem i_total {w : World} {a : Option Addr} {n cap : Nat} {l : List Int} (h : Ints w a n cap l) :
    Calls Try.prog 99 #[.slice a n cap] w fun e w' => e = .returned (.int .i64 (sumW l)) ∧ w = w' := by
  have hn := h.hcap
  have hm := h.hmax
  go_enter Try.func99, Try.ntmps99
  go_wp2
  go_loop [3, 8] (fun s i => ∃ k : Nat, k ≤ n ∧ i = .int .i64 k ∧ s = .int .i64 (sumW (l.take k))) (fun _ i => n - (intOf i).toNat)
  case atStart => exact ⟨0, Nat.zero_le _, rfl, rfl⟩
  case round =>
    obtain ⟨k, hk, rfl, rfl⟩ := hrel
    by_cases hlt : k < n
    · obtain ⟨b, off, rfl, hc⟩ := h.at hlt
      go_wp2
      all_goals
        go_round
        case rel => exact ⟨k + 1, by omega, by go_num, by rw [take_snoc (by have := h.hlen; omega), sumW_snoc]⟩
        case measure => simp [intOf]; omega
    · go_wp2
      go_ret
      exact ⟨ret_int (by rw [List.take_of_length_le (by have := h.hlen; omega)]), rfl⟩

set_option maxHeartbeats 400000 in
theorem s_l18Sum {w : World} {a : Option Addr} {n cap : Nat} {l : List Int} (h : Ints w a n cap l) :
    Calls Try.prog 101 #[.slice a n cap] w fun e w' => e = .returned (.int .i64 (sumW l)) ∧ w = w' := by
  have hn := h.hcap
  have hm := h.hmax
  go_enter Try.func101, Try.ntmps101
  go_wp2
  go_loop [3, 4] (fun s i => ∃ k : Nat, k ≤ n ∧ i = .int .i64 k ∧ s = .int .i64 (sumW (l.take k))) (fun _ i => n - (intOf i).toNat)
  case atStart => exact ⟨0, Nat.zero_le _, rfl, rfl⟩
  case round =>
    obtain ⟨k, hk, rfl, rfl⟩ := hrel
    by_cases hlt : k < n
    · obtain ⟨b, off, rfl, hc⟩ := h.at hlt
      go_wp2
      all_goals
        go_round
        case rel => exact ⟨k + 1, by omega, by go_num, by rw [take_snoc (by have := h.hlen; omega), sumW_snoc]⟩
        case measure => simp [intOf]; omega
    · go_wp2
      go_ret
      exact ⟨ret_int (by rw [List.take_of_length_le (by have := h.hlen; omega)]), rfl⟩

/-- All numbers lie from 0 to most, and there are one to five. -/
def small (l : List Int) (most : Int) : Bool := l.all (inB · 0 most) && inB l.length 1 5

theorem all_get {p : Int → Bool} {l : List Int} (h : l.all p = true) {k : Nat} (hk : k < l.length) : p (l[k]?.getD 0) = true := by
  have := List.all_eq_true.1 h (l[k]) (List.getElem_mem hk); simpa [hk] using this

set_option maxHeartbeats 400000 in
theorem s_l18Small {w : World} {a : Option Addr} {n cap : Nat} {l : List Int} (most : Int) (h : Ints w a n cap l) :
    Calls Try.prog 133 #[.slice a n cap, .int .i64 most] w fun e w' => e = .returned (.bool (small l most)) ∧ w = w' := by
  have hn := h.hcap
  have hm := h.hmax
  go_enter Try.func133, Try.ntmps133
  go_wp2
  go_loop [5] (fun i => ∃ k : Nat, k ≤ n ∧ i = .int .i64 k ∧ (l.take k).all (inB · 0 most) = true) (fun i => n - (intOf i).toNat)
  case atStart => exact ⟨0, Nat.zero_le _, rfl, rfl⟩
  case round =>
    obtain ⟨k, hk, rfl, hall⟩ := hrel
    have HA := Lib.hid hall
    clear hall
    by_cases hlt : k < n
    · obtain ⟨b, off, rfl, hc⟩ := h.at hlt
      have HL := Lib.hid h.hlen
      by_cases hb : inB (l[k]?.getD 0) 0 most = true
      · have HB := Lib.hid hb
        go_wp2_with (first | (go_at_call 70; refine (s_l1In _ _ _ _).mono ?_; rintro e w' ⟨rfl, rfl⟩))
        go_round
        case rel => exact ⟨k + 1, by omega, by go_num, by rw [take_snoc (by have := HL.out; omega), List.all_append, HA.out]; simpa using HB.out⟩
        case measure => simp [intOf]; omega
      · have HB := Lib.hid hb
        simp only [Bool.not_eq_true] at hb
        go_wp2_with (first | (go_at_call 70; refine (s_l1In _ _ _ _).mono ?_; rintro e w' ⟨rfl, rfl⟩))
        go_ret
        refine ⟨ret_bool ?_, rfl⟩
        symm
        unfold small
        cases hx : l.all (inB · 0 most)
        · rfl
        · exact absurd (all_get hx (by have := HL.out; omega)) HB.out
    · have HL := Lib.hid h.hlen
      go_wp2_with (first | (go_at_call 70; refine (s_l1In _ _ _ _).mono ?_; rintro e w' ⟨rfl, rfl⟩))
      go_ret
      refine ⟨ret_bool ?_, rfl⟩
      have := HA.out
      have hl := HL.out
      rw [List.take_of_length_le (by omega)] at this
      simp only [small, this, Bool.true_and]
      rw [hl]

end Go.Proofs.Ytgohdmnbnhehnaa
