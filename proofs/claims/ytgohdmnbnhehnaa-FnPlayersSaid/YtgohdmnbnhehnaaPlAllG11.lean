import Derived.Test.YtgohdmnbnhehnaaPlAllG10
import Derived.Test.YtgohdmnbnhehnaaPlAllG0
import Derived.Deep.RegionHeld3
import Derived.Test.YtgohdmnbnhehnaaPlAllG9
import Derived.Test.YtgohdmnbnhehnaaPlAllG4
import Derived.Test.YtgohdmnbnhehnaaPlAllG6
import Derived.Test.YtgohdmnbnhehnaaPlAllG7
import Derived.Test.YtgohdmnbnhehnaaPlAllG8
namespace Go.Proofs.Ytgohdmnbnhehnaa
set_option linter.unusedVariables false
open Go.RowKit
theorem shapL_ok {n : Nat} {V : List Int} (h : gameOk (n : Int) V = true) : shapL (n : Int) V = avgT (shV n) V (factI (n : Int)) n := by
  unfold shapL; rw [shapT_ok _ h, Int.toNat_natCast]
theorem avgT_at {wt : Nat → Int} {V : List Int} {d : Int} {n k : Nat} (h : k < n) : (avgT wt V d n)[k]?.getD (0, 0) = avgR wt V d k := by simp [avgT, h]
end Go.Proofs.Ytgohdmnbnhehnaa
