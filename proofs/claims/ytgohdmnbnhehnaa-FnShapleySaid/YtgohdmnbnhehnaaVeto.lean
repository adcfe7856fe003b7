/- VetoPlayers on both sides. -/
import Derived.Test.YtgohdmnbnhehnaaWins
import Derived.Test.YtgohdmnbnhehnaaOrders
import Derived.Test.YtgohdmnbnhehnaaCut
namespace Go.Proofs.Ytgohdmnbnhehnaa
set_option linter.unusedVariables false
open Go.RowKit

/-- Of the first m players those without whom the others do not win. -/
def vetoT (q : Int) (l : List Int) (m : Nat) : List Int := if validPair 1 q l then ((List.range m).filter fun (k : Nat) => !winsB q l ((cN l.length : Int) - 1 - 2 ^ k)).map (fun (k : Nat) => (k : Int)) else []
def vetoL (q : Int) (l : List Int) : List Int := vetoT q l l.length
theorem vetoT_zero (q : Int) (l : List Int) : vetoT q l 0 = [] := by unfold vetoT; simp
theorem vetoT_not {q : Int} {l : List Int} (m : Nat) (h : validPair 1 q l = false) : vetoT q l m = [] := by unfold vetoT; rw [h]; rfl
theorem vetoT_succ {q : Int} {l : List Int} (m : Nat) (h : validPair 1 q l = true) : vetoT q l (m + 1) = vetoT q l m ++ (if winsB q l ((cN l.length : Int) - 1 - 2 ^ m) then [] else [(m : Int)]) := by
  unfold vetoT
  rw [h]
  simp only [List.range_succ, List.filter_append, List.map_append, if_true]
  congr 1
  cases hw : winsB q l ((cN l.length : Int) - 1 - 2 ^ m) <;> simp [hw]
theorem vetoT_len (q : Int) (l : List Int) (m : Nat) : (vetoT q l m).length ≤ m := by
  unfold vetoT
  split
  · simpa using List.length_filter_le (fun (k : Nat) => !winsB q l ((cN l.length : Int) - 1 - 2 ^ k)) (List.range m)
  · simp
theorem vetoL_len (q : Int) (l : List Int) : (vetoL q l).length ≤ 1048576 := by
  unfold vetoL
  cases h : validPair 1 q l
  · rw [vetoT_not _ h]; simp
  · have := vetoT_len q l l.length
    have := valid_len h
    omega

end Go.Proofs.Ytgohdmnbnhehnaa
