/- Coalitions less a player, as the machine makes them. -/
import Derived.Test.YtgohdmnbnhehnaaBits
namespace Go.Proofs.Ytgohdmnbnhehnaa
set_option linter.unusedVariables false
open Go.RowKit

theorem cut_nat : ∀ s : Fin 32, ∀ k : Fin 5, bits .andNot .i64 ((s.val : Nat) : Int) (2 ^ k.val) = (if bit ((s.val : Nat) : Int) k.val then ((s.val : Nat) : Int) - 2 ^ k.val else ((s.val : Nat) : Int)) ∧ (bit ((s.val : Nat) : Int) k.val = true → (2 : Int) ^ k.val ≤ ((s.val : Nat) : Int)) := by decide +kernel
/-- The coalition without a player, as the program makes it. -/
theorem cut (s k : Nat) (hs : s < 32) (hk : k < 5) : bits .andNot .i64 (s : Int) (2 ^ k) = (if bit (s : Int) k then (s : Int) - 2 ^ k else (s : Int)) := (cut_nat ⟨s, hs⟩ ⟨k, hk⟩).1
theorem cut_le (s k : Nat) (hs : s < 32) (hk : k < 5) (hb : bit (s : Int) k = true) : (2 : Int) ^ k ≤ (s : Int) := (cut_nat ⟨s, hs⟩ ⟨k, hk⟩).2 hb
theorem cut_all_nat : ∀ n : Fin 6, ∀ k : Fin 5, k.val < n.val → bits .andNot .i64 ((cN n.val : Int) - 1) (2 ^ k.val) = (cN n.val : Int) - 1 - 2 ^ k.val ∧ 0 ≤ (cN n.val : Int) - 1 - 2 ^ k.val := by decide +kernel
theorem cut_all (n k : Nat) (hn : n ≤ 5) (hk : k < n) : bits .andNot .i64 ((cN n : Int) - 1) (2 ^ k) = (cN n : Int) - 1 - 2 ^ k ∧ 0 ≤ (cN n : Int) - 1 - 2 ^ k := cut_all_nat ⟨n, by omega⟩ ⟨k, by omega⟩ hk
theorem s_l2B (k : Nat) (h : k ≤ 5) (w : World) : Calls Try.prog 65 #[.int .i64 (k : Int)] w fun e w' => e = .returned (.int .i64 (2 ^ k)) ∧ w = w' := by
  have := s_l2Bit k w
  rwa [cntC_nat k h, cN_pow] at this

theorem kwrap_pow (k : Nat) (h : k ≤ 5) : IntKind.i64.wrap ((2 : Int) ^ k) = 2 ^ k := by
  have := pow_pos k
  have := pow_le5 k h
  rw [IntKind.wrap_i64]; omega

end Go.Proofs.Ytgohdmnbnhehnaa
