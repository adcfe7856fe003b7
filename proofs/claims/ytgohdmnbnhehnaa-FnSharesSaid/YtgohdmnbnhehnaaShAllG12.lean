import Derived.Test.YtgohdmnbnhehnaaShAllG11
import Derived.Test.YtgohdmnbnhehnaaShAllG3
import Derived.Test.YtgohdmnbnhehnaaShAllG0
import Derived.Test.YtgohdmnbnhehnaaShAllG2
import Derived.Deep.RegionWith
import Derived.Test.YtgohdmnbnhehnaaShAllG4
namespace Go.Proofs.Ytgohdmnbnhehnaa
set_option linter.unusedVariables false
set_option linter.unusedSimpArgs false
open Go.RowKit
def memN (s : Int) (m : Nat) : List Nat := (List.range m).filter fun (k : Nat) => bit s k
def memI (s : Int) (m : Nat) : List Int := (memN s m).map fun (k : Nat) => (k : Int)
theorem memI_succ (s : Int) (m : Nat) : memI s (m + 1) = memI s m ++ (if bit s m then [(m : Int)] else []) := by
  unfold memI memN
  cases h : bit s m <;> simp [List.range_succ, h]
theorem memI_len (s : Int) (m : Nat) : (memI s m).length ≤ m := by
  unfold memI memN
  simpa using List.length_filter_le (fun (k : Nat) => bit s k) (List.range m)
theorem memI_at (s : Int) (i : Nat) (h : i < (memI s 5).length) : ∃ k : Nat, (memI s 5)[i]?.getD 0 = (k : Int) ∧ k < 5 ∧ bit s k = true ∧ (memN s 5)[i]? = some k := by
  have h' : i < (memN s 5).length := by simpa [memI] using h
  refine ⟨(memN s 5)[i], ?_, ?_⟩
  · simp [memI, h']
  · have hm : (memN s 5)[i] ∈ memN s 5 := List.getElem_mem h'
    have h2 := List.mem_filter.1 hm
    exact ⟨List.mem_range.1 h2.1, h2.2, by simp [h']⟩
end Go.Proofs.Ytgohdmnbnhehnaa
