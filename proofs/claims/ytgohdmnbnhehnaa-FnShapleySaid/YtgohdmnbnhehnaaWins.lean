/- Votings: which coalitions win. -/
import Derived.Test.YtgohdmnbnhehnaaBits
import Derived.Test.YtgohdmnbnhehnaaConv
namespace Go.Proofs.Ytgohdmnbnhehnaa
set_option linter.unusedVariables false
open Go.RowKit

/-- Does a coalition win? -/
def winsB (q : Int) (l : List Int) (s : Int) : Bool := decide (q ≤ sumTo s l l.length)

theorem valid_len {lo x : Int} {l : List Int} (h : validPair lo x l = true) : 1 ≤ l.length ∧ l.length ≤ 5 := by
  unfold validPair small inB at h
  simp only [Bool.and_eq_true, decide_eq_true_eq] at h
  omega

end Go.Proofs.Ytgohdmnbnhehnaa
