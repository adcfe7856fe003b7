import Derived.Test.YthjjfkeacobikaaGreatVoAllG5
import Derived.Test.YthjjfkeacobikaaGreatVoAllG3
import Derived.Deep.DeepCutAuto
namespace Go.Proofs.YthjjfkeacobikaaGreat
set_option linter.unusedVariables false
set_option linter.unusedSimpArgs false
set_option maxRecDepth 100000
open Go.RowKit
def memR (l : List Int) (k : Nat) : List Int := l.map fun s => bitI (hasP s (k : Int))
def memM (n : Nat) (l : List Int) : List (List Int) := (List.range n).map (memR l)
theorem memM_succ (k : Nat) (l : List Int) : memM k l ++ [memR l k] = memM (k + 1) l := by simp [memM, List.range_succ]
theorem memR_snoc {l : List Int} {j k : Nat} {b : Bool} (h : j < l.length) (hb : hasP (l[j]?.getD 0) (k : Int) = b) : memR (l.take j) k ++ [bitI b] = memR (l.take (j + 1)) k := by
 rw [take_snoc h, ← hb]; simp [memR]
end Go.Proofs.YthjjfkeacobikaaGreat
