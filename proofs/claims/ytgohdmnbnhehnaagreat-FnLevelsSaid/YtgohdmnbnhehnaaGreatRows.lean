/-
  No cell of these rows narrows 'for every input' (looked for: loops, veiled, ifaces, maps, wideKeys, modest, calm, conditions, laid).
  DERIVED. THE GIVEN ROWS OF THIS SEAT. 7 by the template 'for every input the law returns true; each argument reads behind the call as it read before'; 0 by the template 'total and deterministic' (their statements: YtgohdmnbnhehnaaGreatTotals.lean).
  GIVEN WITH THE SEED: the statements are not yours to turn. If you find one false, say at which input.
  Laid BY PROGRAM, IN A SANDBOX (cutbox-rows.mjs): the forced cells as the released guide's own fill.sh prints them over the translation 357a143bc550e8e7… (all of the seat's roots in one cut). By AI agents, Wed Nov 11 2026. No macro, syntax, notation, axiom, sorry.
-/
import Derived.Test.YtgohdmnbnhehnaaGreatChecked
import GoSem.Claim
import GoSem.ClaimJoined
import GoSem.ClaimMapViews
import Derived.JoinedTies
import Derived.KernelRfl
namespace Go.Proofs.YtgohdmnbnhehnaaGreat
/- THE CELL 'sum', in the pinned program and in every row, IS THE sha256 OF THE DUMP (.gsa) THAT YtgohdmnbnhehnaaGreatProg.lean LOADS. Nothing in Lean hashes anything: it is a label: what it is worth is what the hold of that sum in a sandbox is worth. -/
noncomputable def Tryz.pinned : Pinned := { name := "ytgohdmnbnhehnaagreat", sum := "357a143bc550e8e763522e9613b01a2e0b54e0eb3e3e63fe74f8e90f83500096", checked := Tryz.checked }
namespace Rows
def none {H : Type} : Left H := { results := [], args := [] }

/-- 'laws.FnExactIsBalancedSet': WHATEVER THE INPUT: true; the input reads as it did. -/
def fnExactIsBalancedSetSpec : ChangeSpec := { name := "fnExactIsBalancedSet", fn := fun _ => fun
  | [d1, d2] => { results := [.lit (.bool true)], args := [d1, d2] }
  | _ => none }
def fnExactIsBalancedSetRow : OpenClaim := { program := "ytgohdmnbnhehnaagreat", sum := "357a143bc550e8e763522e9613b01a2e0b54e0eb3e3e63fe74f8e90f83500096", func := "loop.example/g00520/laws.FnExactIsBalancedSet", spec := "fnExactIsBalancedSet", unfollowed := true, recurses := true, apart := false }
def FnExactIsBalancedSetSaid : Prop := fnExactIsBalancedSetRow.holds Tryz.pinned (OpenSpec.ofChange fnExactIsBalancedSetSpec)

/-- ITS FALSE NEIGHBOUR: 'it returns false'. Refute it at one input. -/
def fnExactIsBalancedSetWrong : ChangeSpec := { name := "fnExactIsBalancedSet", fn := fun _ => fun
  | [d1, d2] => { results := [.lit (.bool false)], args := [d1, d2] }
  | _ => none }
def FnExactIsBalancedSetWrongFalsely : Prop := fnExactIsBalancedSetRow.holds Tryz.pinned (OpenSpec.ofChange fnExactIsBalancedSetWrong)

/-- 'laws.FnExactStablePrices': WHATEVER THE INPUT: true; the input reads as it did. -/
def fnExactStablePricesSpec : ChangeSpec := { name := "fnExactStablePrices", fn := fun _ => fun
  | [d] => { results := [.lit (.bool true)], args := [d] }
  | _ => none }
def fnExactStablePricesRow : OpenClaim := { program := "ytgohdmnbnhehnaagreat", sum := "357a143bc550e8e763522e9613b01a2e0b54e0eb3e3e63fe74f8e90f83500096", func := "loop.example/g00520/laws.FnExactStablePrices", spec := "fnExactStablePrices", unfollowed := true, recurses := true, apart := false }
def FnExactStablePricesSaid : Prop := fnExactStablePricesRow.holds Tryz.pinned (OpenSpec.ofChange fnExactStablePricesSpec)

/-- ITS FALSE NEIGHBOUR: 'it returns false'. Refute it at one input. -/
def fnExactStablePricesWrong : ChangeSpec := { name := "fnExactStablePrices", fn := fun _ => fun
  | [d] => { results := [.lit (.bool false)], args := [d] }
  | _ => none }
def FnExactStablePricesWrongFalsely : Prop := fnExactStablePricesRow.holds Tryz.pinned (OpenSpec.ofChange fnExactStablePricesWrong)

/-- 'laws.FnExactFindNucleolus': WHATEVER THE INPUT: true; the input reads as it did. -/
def fnExactFindNucleolusSpec : ChangeSpec := { name := "fnExactFindNucleolus", fn := fun _ => fun
  | [d] => { results := [.lit (.bool true)], args := [d] }
  | _ => none }
def fnExactFindNucleolusRow : OpenClaim := { program := "ytgohdmnbnhehnaagreat", sum := "357a143bc550e8e763522e9613b01a2e0b54e0eb3e3e63fe74f8e90f83500096", func := "loop.example/g00520/laws.FnExactFindNucleolus", spec := "fnExactFindNucleolus", unfollowed := true, recurses := true, apart := false }
def FnExactFindNucleolusSaid : Prop := fnExactFindNucleolusRow.holds Tryz.pinned (OpenSpec.ofChange fnExactFindNucleolusSpec)

/-- ITS FALSE NEIGHBOUR: 'it returns false'. Refute it at one input. -/
def fnExactFindNucleolusWrong : ChangeSpec := { name := "fnExactFindNucleolus", fn := fun _ => fun
  | [d] => { results := [.lit (.bool false)], args := [d] }
  | _ => none }
def FnExactFindNucleolusWrongFalsely : Prop := fnExactFindNucleolusRow.holds Tryz.pinned (OpenSpec.ofChange fnExactFindNucleolusWrong)

/-- 'laws.FnExactIsNucleolus': WHATEVER THE INPUT: true; the input reads as it did. -/
def fnExactIsNucleolusSpec : ChangeSpec := { name := "fnExactIsNucleolus", fn := fun _ => fun
  | [d1, d2] => { results := [.lit (.bool true)], args := [d1, d2] }
  | _ => none }
def fnExactIsNucleolusRow : OpenClaim := { program := "ytgohdmnbnhehnaagreat", sum := "357a143bc550e8e763522e9613b01a2e0b54e0eb3e3e63fe74f8e90f83500096", func := "loop.example/g00520/laws.FnExactIsNucleolus", spec := "fnExactIsNucleolus", unfollowed := true, recurses := true, apart := false }
def FnExactIsNucleolusSaid : Prop := fnExactIsNucleolusRow.holds Tryz.pinned (OpenSpec.ofChange fnExactIsNucleolusSpec)

/-- ITS FALSE NEIGHBOUR: 'it returns false'. Refute it at one input. -/
def fnExactIsNucleolusWrong : ChangeSpec := { name := "fnExactIsNucleolus", fn := fun _ => fun
  | [d1, d2] => { results := [.lit (.bool false)], args := [d1, d2] }
  | _ => none }
def FnExactIsNucleolusWrongFalsely : Prop := fnExactIsNucleolusRow.holds Tryz.pinned (OpenSpec.ofChange fnExactIsNucleolusWrong)

/-- 'laws.FnExactFirstUnbalanced': WHATEVER THE INPUT: true; the input reads as it did. -/
def fnExactFirstUnbalancedSpec : ChangeSpec := { name := "fnExactFirstUnbalanced", fn := fun _ => fun
  | [d1, d2] => { results := [.lit (.bool true)], args := [d1, d2] }
  | _ => none }
def fnExactFirstUnbalancedRow : OpenClaim := { program := "ytgohdmnbnhehnaagreat", sum := "357a143bc550e8e763522e9613b01a2e0b54e0eb3e3e63fe74f8e90f83500096", func := "loop.example/g00520/laws.FnExactFirstUnbalanced", spec := "fnExactFirstUnbalanced", unfollowed := true, recurses := true, apart := false }
def FnExactFirstUnbalancedSaid : Prop := fnExactFirstUnbalancedRow.holds Tryz.pinned (OpenSpec.ofChange fnExactFirstUnbalancedSpec)

/-- ITS FALSE NEIGHBOUR: 'it returns false'. Refute it at one input. -/
def fnExactFirstUnbalancedWrong : ChangeSpec := { name := "fnExactFirstUnbalanced", fn := fun _ => fun
  | [d1, d2] => { results := [.lit (.bool false)], args := [d1, d2] }
  | _ => none }
def FnExactFirstUnbalancedWrongFalsely : Prop := fnExactFirstUnbalancedRow.holds Tryz.pinned (OpenSpec.ofChange fnExactFirstUnbalancedWrong)

/-- 'laws.FnStages': WHATEVER THE INPUT: true; the input reads as it did. -/
def fnStagesSpec : ChangeSpec := { name := "fnStages", fn := fun _ => fun
  | [d] => { results := [.lit (.bool true)], args := [d] }
  | _ => none }
def fnStagesRow : OpenClaim := { program := "ytgohdmnbnhehnaagreat", sum := "357a143bc550e8e763522e9613b01a2e0b54e0eb3e3e63fe74f8e90f83500096", func := "loop.example/g00520/laws.FnStages", spec := "fnStages", unfollowed := true, recurses := true, apart := false }
def FnStagesSaid : Prop := fnStagesRow.holds Tryz.pinned (OpenSpec.ofChange fnStagesSpec)

/-- ITS FALSE NEIGHBOUR: 'it returns false'. Refute it at one input. -/
def fnStagesWrong : ChangeSpec := { name := "fnStages", fn := fun _ => fun
  | [d] => { results := [.lit (.bool false)], args := [d] }
  | _ => none }
def FnStagesWrongFalsely : Prop := fnStagesRow.holds Tryz.pinned (OpenSpec.ofChange fnStagesWrong)

/-- 'laws.FnLevels': WHATEVER THE INPUT: true; the input reads as it did. -/
def fnLevelsSpec : ChangeSpec := { name := "fnLevels", fn := fun _ => fun
  | [d] => { results := [.lit (.bool true)], args := [d] }
  | _ => none }
def fnLevelsRow : OpenClaim := { program := "ytgohdmnbnhehnaagreat", sum := "357a143bc550e8e763522e9613b01a2e0b54e0eb3e3e63fe74f8e90f83500096", func := "loop.example/g00520/laws.FnLevels", spec := "fnLevels", unfollowed := true, recurses := true, apart := false }
def FnLevelsSaid : Prop := fnLevelsRow.holds Tryz.pinned (OpenSpec.ofChange fnLevelsSpec)

/-- ITS FALSE NEIGHBOUR: 'it returns false'. Refute it at one input. -/
def fnLevelsWrong : ChangeSpec := { name := "fnLevels", fn := fun _ => fun
  | [d] => { results := [.lit (.bool false)], args := [d] }
  | _ => none }
def FnLevelsWrongFalsely : Prop := fnLevelsRow.holds Tryz.pinned (OpenSpec.ofChange fnLevelsWrong)

/- THE SECOND FORM. 'bulk': how many values and letters a reading holds, each counted each time it is reached (what is shared counts as often as it is met; a slice's spare places count too). A statement '..UptoSaid' is the law's where the arguments, and the package variables that the reading takes, are together of bulk at most 1048576: NARROWER than '..Said'. Prove '..Said' where nothing that the law and all that it calls make is longer than what came in: it says more and counts as full. Else prove '..UptoSaid'. A law counts once. -/
mutual
def uptoBulk {H : Type} : DataW H → Nat
  | .lit (.string bytes) => bytes.length + 1
  | .lit _ => 1
  | .nil => 1
  | .ptr d => uptoBulk d + 1
  | .slice elems spare => uptoBulkAll elems + uptoBulkAll spare + 1
  | .agg parts => uptoBulkAll parts + 1
  | .iface _ d => uptoBulk d + 1
  | .map entries => uptoBulkEntries entries + 1
  | .held _ => 1
def uptoBulkAll {H : Type} : List (DataW H) → Nat
  | [] => 0
  | d :: r => uptoBulk d + uptoBulkAll r
def uptoBulkEntries {H : Type} : List (Lit × DataW H) → Nat
  | [] => 0
  | x :: r => uptoBulkEntry x + uptoBulkEntries r
def uptoBulkEntry {H : Type} : Lit × DataW H → Nat
  | (.string bytes, d) => bytes.length + uptoBulk d + 1
  | (_, d) => uptoBulk d + 1
 end
def uptoSmall : (H : Type) → List (DataW H) → Bool := fun _ ds => decide (uptoBulkAll ds ≤ 1048576)
def OpenSpec.upto (s : _root_.Go.ChangeSpec) : _root_.Go.OpenSpec := { _root_.Go.OpenSpec.ofChange s with cond := some uptoSmall }

/-- 'laws.FnExactIsBalancedSet', WHERE WHAT IT READS IS OF BULK AT MOST 1048576: true; the input reads as it did. -/
def fnExactIsBalancedSetUptoRow : OpenClaim := { program := "ytgohdmnbnhehnaagreat", sum := "357a143bc550e8e763522e9613b01a2e0b54e0eb3e3e63fe74f8e90f83500096", func := "loop.example/g00520/laws.FnExactIsBalancedSet", spec := "fnExactIsBalancedSet", unfollowed := true, recurses := true, apart := false, narrowed := true }
def FnExactIsBalancedSetUptoSaid : Prop := fnExactIsBalancedSetUptoRow.holds Tryz.pinned (OpenSpec.upto fnExactIsBalancedSetSpec)

/-- 'laws.FnExactStablePrices', WHERE WHAT IT READS IS OF BULK AT MOST 1048576: true; the input reads as it did. -/
def fnExactStablePricesUptoRow : OpenClaim := { program := "ytgohdmnbnhehnaagreat", sum := "357a143bc550e8e763522e9613b01a2e0b54e0eb3e3e63fe74f8e90f83500096", func := "loop.example/g00520/laws.FnExactStablePrices", spec := "fnExactStablePrices", unfollowed := true, recurses := true, apart := false, narrowed := true }
def FnExactStablePricesUptoSaid : Prop := fnExactStablePricesUptoRow.holds Tryz.pinned (OpenSpec.upto fnExactStablePricesSpec)

/-- 'laws.FnExactFindNucleolus', WHERE WHAT IT READS IS OF BULK AT MOST 1048576: true; the input reads as it did. -/
def fnExactFindNucleolusUptoRow : OpenClaim := { program := "ytgohdmnbnhehnaagreat", sum := "357a143bc550e8e763522e9613b01a2e0b54e0eb3e3e63fe74f8e90f83500096", func := "loop.example/g00520/laws.FnExactFindNucleolus", spec := "fnExactFindNucleolus", unfollowed := true, recurses := true, apart := false, narrowed := true }
def FnExactFindNucleolusUptoSaid : Prop := fnExactFindNucleolusUptoRow.holds Tryz.pinned (OpenSpec.upto fnExactFindNucleolusSpec)

/-- 'laws.FnExactIsNucleolus', WHERE WHAT IT READS IS OF BULK AT MOST 1048576: true; the input reads as it did. -/
def fnExactIsNucleolusUptoRow : OpenClaim := { program := "ytgohdmnbnhehnaagreat", sum := "357a143bc550e8e763522e9613b01a2e0b54e0eb3e3e63fe74f8e90f83500096", func := "loop.example/g00520/laws.FnExactIsNucleolus", spec := "fnExactIsNucleolus", unfollowed := true, recurses := true, apart := false, narrowed := true }
def FnExactIsNucleolusUptoSaid : Prop := fnExactIsNucleolusUptoRow.holds Tryz.pinned (OpenSpec.upto fnExactIsNucleolusSpec)

/-- 'laws.FnExactFirstUnbalanced', WHERE WHAT IT READS IS OF BULK AT MOST 1048576: true; the input reads as it did. -/
def fnExactFirstUnbalancedUptoRow : OpenClaim := { program := "ytgohdmnbnhehnaagreat", sum := "357a143bc550e8e763522e9613b01a2e0b54e0eb3e3e63fe74f8e90f83500096", func := "loop.example/g00520/laws.FnExactFirstUnbalanced", spec := "fnExactFirstUnbalanced", unfollowed := true, recurses := true, apart := false, narrowed := true }
def FnExactFirstUnbalancedUptoSaid : Prop := fnExactFirstUnbalancedUptoRow.holds Tryz.pinned (OpenSpec.upto fnExactFirstUnbalancedSpec)

/-- 'laws.FnStages', WHERE WHAT IT READS IS OF BULK AT MOST 1048576: true; the input reads as it did. -/
def fnStagesUptoRow : OpenClaim := { program := "ytgohdmnbnhehnaagreat", sum := "357a143bc550e8e763522e9613b01a2e0b54e0eb3e3e63fe74f8e90f83500096", func := "loop.example/g00520/laws.FnStages", spec := "fnStages", unfollowed := true, recurses := true, apart := false, narrowed := true }
def FnStagesUptoSaid : Prop := fnStagesUptoRow.holds Tryz.pinned (OpenSpec.upto fnStagesSpec)

/-- 'laws.FnLevels', WHERE WHAT IT READS IS OF BULK AT MOST 1048576: true; the input reads as it did. -/
def fnLevelsUptoRow : OpenClaim := { program := "ytgohdmnbnhehnaagreat", sum := "357a143bc550e8e763522e9613b01a2e0b54e0eb3e3e63fe74f8e90f83500096", func := "loop.example/g00520/laws.FnLevels", spec := "fnLevels", unfollowed := true, recurses := true, apart := false, narrowed := true }
def FnLevelsUptoSaid : Prop := fnLevelsUptoRow.holds Tryz.pinned (OpenSpec.upto fnLevelsSpec)

end Rows
end Go.Proofs.YtgohdmnbnhehnaaGreat
