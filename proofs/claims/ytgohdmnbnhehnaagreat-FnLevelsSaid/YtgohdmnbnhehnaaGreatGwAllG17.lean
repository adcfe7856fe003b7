import Derived.Test.YtgohdmnbnhehnaaGreatGwAllG16
import Derived.Test.YtgohdmnbnhehnaaGreatGwAllG33
import Derived.Test.YtgohdmnbnhehnaaGreatGwAllG6
import Derived.Lib.SliceRun
namespace Go.Proofs.YtgohdmnbnhehnaaGreat
set_option linter.unusedVariables false
set_option linter.unusedSimpArgs false
set_option maxRecDepth 100000
open Go.RowKit
structure Kept (p : Int → Bool) (l M : List Int) (i j : Nat) : Prop where
 len : M.length = l.length
 le : i ≤ j
 jl : j ≤ l.length
 lo : M.take i = (l.take j).filter fun x => !p x
 hi : ∀ k, j ≤ k → M[k]?.getD 0 = l[k]?.getD 0
theorem below_setCells' {B : Nat} {a : World} (b : Nat) (hb : B ≤ b) : ∀ (vs : List Value) (o : Nat) {w : World}, Below B a w → Below B a (w.setCells b o vs)
 | [], _, _, h => h
 | v :: r, o, w, h => below_setCells' b hb r (o + 1) (h.setCell hb v)
end Go.Proofs.YtgohdmnbnhehnaaGreat
