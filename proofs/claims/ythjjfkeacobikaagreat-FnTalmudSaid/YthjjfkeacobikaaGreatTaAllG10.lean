import Derived.Test.YthjjfkeacobikaaGreatTaAllG7
import Derived.Test.YthjjfkeacobikaaGreatTaAllG9
import Derived.Test.YthjjfkeacobikaaGreatTaAllG3
import Derived.Deep.DeepCutAuto
import Derived.Test.YthjjfkeacobikaaGreatTaAllG0
import Derived.Test.YthjjfkeacobikaaGreatTaAllG2
set_option linter.unusedVariables false
set_option linter.unusedSimpArgs false
namespace Go.Proofs.YthjjfkeacobikaaGreat
open Go.RowKit
theorem valid_len {lo x : Int} {l : List Int} (h : validPair lo x l = true) : 1 ≤ l.length ∧ l.length ≤ 5 := by
 unfold validPair small inB at h
 simp only [Bool.and_eq_true, decide_eq_true_eq] at h
 omega
end Go.Proofs.YthjjfkeacobikaaGreat
