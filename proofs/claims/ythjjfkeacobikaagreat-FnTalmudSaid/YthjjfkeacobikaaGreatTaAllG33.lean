import Derived.Test.YthjjfkeacobikaaGreatTaAllG32
import Derived.Test.YthjjfkeacobikaaGreatTaAllG19
import Derived.Test.YthjjfkeacobikaaGreatTaAllG11
set_option linter.unusedVariables false
set_option linter.unusedSimpArgs false
namespace Go.Proofs.YthjjfkeacobikaaGreat
theorem zs_all : ∀ q : Fin 6, ∀ i : Fin 5, i.val < q.val → hasP ((cN q.val : Int) - 1) ((i.val : Nat) : Int) = true := by decide +kernel
theorem zs_grand {q : Nat} (hq : q ≤ 5) {z : Nat → Rat} : zs q z ((cN q : Int) - 1) = sumN z q := by
 unfold zs
 refine sumN_congr fun i hi => ?_
 rw [zs_all ⟨q, by omega⟩ ⟨i, by omega⟩ hi]
 show _ * ((1 : Int) : Rat) = _
 grind
end Go.Proofs.YthjjfkeacobikaaGreat
