/-
  No cell of these rows narrows 'for every input' (looked for: loops, veiled, ifaces, maps, wideKeys, modest, calm, conditions, laid).
  DERIVED. THE GIVEN ROWS OF THIS SEAT. 11 by the template 'for every input the law returns true; each argument reads behind the call as it read before'; 0 by the template 'total and deterministic' (their statements: YtokpmflhgehicaaTotals.lean).
  GIVEN WITH THE SEED: the statements are not yours to turn. If you find one false, say at which input.
  Laid BY PROGRAM, IN A SANDBOX (cutbox-rows.mjs): the forced cells as the released guide's own fill.sh prints them over the translation 07f6b112a8a471bd… (all of the seat's roots in one cut). By AI agents, Wed Nov 11 2026. No macro, syntax, notation, axiom, sorry.
-/
import Derived.Test.YtokpmflhgehicaaChecked
import GoSem.Claim
import GoSem.ClaimJoined
import GoSem.ClaimMapViews
import Derived.JoinedTies
import Derived.KernelRfl
namespace Go.Proofs.Ytokpmflhgehicaa
/- THE CELL 'sum', in the pinned program and in every row, IS THE sha256 OF THE DUMP (.gsa) THAT YtokpmflhgehicaaProg.lean LOADS. Nothing in Lean hashes anything: it is a label: what it is worth is what the hold of that sum in a sandbox is worth. -/
noncomputable def Try.pinned : Pinned := { name := "ytokpmflhgehicaa", sum := "07f6b112a8a471bda406fe23fd21567f796d0be0f1090ab5f34173dd22a46fdc", checked := Try.checked }
namespace Rows
def none {H : Type} : Left H := { results := [], args := [] }

/-- 'laws.FnExactEqualNucleolus': WHATEVER THE INPUT: true; the input reads as it did. -/
def fnExactEqualNucleolusSpec : ChangeSpec := { name := "fnExactEqualNucleolus", fn := fun _ => fun
  | [d1, d2] => { results := [.lit (.bool true)], args := [d1, d2] }
  | _ => none }
def fnExactEqualNucleolusRow : OpenClaim := { program := "ytokpmflhgehicaa", sum := "07f6b112a8a471bda406fe23fd21567f796d0be0f1090ab5f34173dd22a46fdc", func := "loop.example/g00520/laws.FnExactEqualNucleolus", spec := "fnExactEqualNucleolus", apart := false }
def FnExactEqualNucleolusSaid : Prop := fnExactEqualNucleolusRow.holds Try.pinned (OpenSpec.ofChange fnExactEqualNucleolusSpec)

/-- ITS FALSE NEIGHBOUR: 'it returns false'. Refute it at one input. -/
def fnExactEqualNucleolusWrong : ChangeSpec := { name := "fnExactEqualNucleolus", fn := fun _ => fun
  | [d1, d2] => { results := [.lit (.bool false)], args := [d1, d2] }
  | _ => none }
def FnExactEqualNucleolusWrongFalsely : Prop := fnExactEqualNucleolusRow.holds Try.pinned (OpenSpec.ofChange fnExactEqualNucleolusWrong)

/-- 'laws.FnExactProportionalShares': WHATEVER THE INPUT: true; the input reads as it did. -/
def fnExactProportionalSharesSpec : ChangeSpec := { name := "fnExactProportionalShares", fn := fun _ => fun
  | [d] => { results := [.lit (.bool true)], args := [d] }
  | _ => none }
def fnExactProportionalSharesRow : OpenClaim := { program := "ytokpmflhgehicaa", sum := "07f6b112a8a471bda406fe23fd21567f796d0be0f1090ab5f34173dd22a46fdc", func := "loop.example/g00520/laws.FnExactProportionalShares", spec := "fnExactProportionalShares", unfollowed := true, recurses := true, apart := false }
def FnExactProportionalSharesSaid : Prop := fnExactProportionalSharesRow.holds Try.pinned (OpenSpec.ofChange fnExactProportionalSharesSpec)

/-- ITS FALSE NEIGHBOUR: 'it returns false'. Refute it at one input. -/
def fnExactProportionalSharesWrong : ChangeSpec := { name := "fnExactProportionalShares", fn := fun _ => fun
  | [d] => { results := [.lit (.bool false)], args := [d] }
  | _ => none }
def FnExactProportionalSharesWrongFalsely : Prop := fnExactProportionalSharesRow.holds Try.pinned (OpenSpec.ofChange fnExactProportionalSharesWrong)

/-- 'laws.FnExactBestTrades': WHATEVER THE INPUT: true; the input reads as it did. -/
def fnExactBestTradesSpec : ChangeSpec := { name := "fnExactBestTrades", fn := fun _ => fun
  | [d1, d2] => { results := [.lit (.bool true)], args := [d1, d2] }
  | _ => none }
def fnExactBestTradesRow : OpenClaim := { program := "ytokpmflhgehicaa", sum := "07f6b112a8a471bda406fe23fd21567f796d0be0f1090ab5f34173dd22a46fdc", func := "loop.example/g00520/laws.FnExactBestTrades", spec := "fnExactBestTrades", unfollowed := true, recurses := true, apart := false }
def FnExactBestTradesSaid : Prop := fnExactBestTradesRow.holds Try.pinned (OpenSpec.ofChange fnExactBestTradesSpec)

/-- ITS FALSE NEIGHBOUR: 'it returns false'. Refute it at one input. -/
def fnExactBestTradesWrong : ChangeSpec := { name := "fnExactBestTrades", fn := fun _ => fun
  | [d1, d2] => { results := [.lit (.bool false)], args := [d1, d2] }
  | _ => none }
def FnExactBestTradesWrongFalsely : Prop := fnExactBestTradesRow.holds Try.pinned (OpenSpec.ofChange fnExactBestTradesWrong)

/-- 'laws.FnExactBanzhafValue': WHATEVER THE INPUT: true; the input reads as it did. -/
def fnExactBanzhafValueSpec : ChangeSpec := { name := "fnExactBanzhafValue", fn := fun _ => fun
  | [d] => { results := [.lit (.bool true)], args := [d] }
  | _ => none }
def fnExactBanzhafValueRow : OpenClaim := { program := "ytokpmflhgehicaa", sum := "07f6b112a8a471bda406fe23fd21567f796d0be0f1090ab5f34173dd22a46fdc", func := "loop.example/g00520/laws.FnExactBanzhafValue", spec := "fnExactBanzhafValue", unfollowed := true, recurses := true, apart := false }
def FnExactBanzhafValueSaid : Prop := fnExactBanzhafValueRow.holds Try.pinned (OpenSpec.ofChange fnExactBanzhafValueSpec)

/-- ITS FALSE NEIGHBOUR: 'it returns false'. Refute it at one input. -/
def fnExactBanzhafValueWrong : ChangeSpec := { name := "fnExactBanzhafValue", fn := fun _ => fun
  | [d] => { results := [.lit (.bool false)], args := [d] }
  | _ => none }
def FnExactBanzhafValueWrongFalsely : Prop := fnExactBanzhafValueRow.holds Try.pinned (OpenSpec.ofChange fnExactBanzhafValueWrong)

/-- 'laws.FnExactAssignmentGame': WHATEVER THE INPUT: true; the input reads as it did. -/
def fnExactAssignmentGameSpec : ChangeSpec := { name := "fnExactAssignmentGame", fn := fun _ => fun
  | [d] => { results := [.lit (.bool true)], args := [d] }
  | _ => none }
def fnExactAssignmentGameRow : OpenClaim := { program := "ytokpmflhgehicaa", sum := "07f6b112a8a471bda406fe23fd21567f796d0be0f1090ab5f34173dd22a46fdc", func := "loop.example/g00520/laws.FnExactAssignmentGame", spec := "fnExactAssignmentGame", unfollowed := true, recurses := true, apart := false }
def FnExactAssignmentGameSaid : Prop := fnExactAssignmentGameRow.holds Try.pinned (OpenSpec.ofChange fnExactAssignmentGameSpec)

/-- ITS FALSE NEIGHBOUR: 'it returns false'. Refute it at one input. -/
def fnExactAssignmentGameWrong : ChangeSpec := { name := "fnExactAssignmentGame", fn := fun _ => fun
  | [d] => { results := [.lit (.bool false)], args := [d] }
  | _ => none }
def FnExactAssignmentGameWrongFalsely : Prop := fnExactAssignmentGameRow.holds Try.pinned (OpenSpec.ofChange fnExactAssignmentGameWrong)

/-- 'laws.FnExactEqualAwards': WHATEVER THE INPUT: true; the input reads as it did. -/
def fnExactEqualAwardsSpec : ChangeSpec := { name := "fnExactEqualAwards", fn := fun _ => fun
  | [d1, d2] => { results := [.lit (.bool true)], args := [d1, d2] }
  | _ => none }
def fnExactEqualAwardsRow : OpenClaim := { program := "ytokpmflhgehicaa", sum := "07f6b112a8a471bda406fe23fd21567f796d0be0f1090ab5f34173dd22a46fdc", func := "loop.example/g00520/laws.FnExactEqualAwards", spec := "fnExactEqualAwards", unfollowed := true, recurses := true, apart := false }
def FnExactEqualAwardsSaid : Prop := fnExactEqualAwardsRow.holds Try.pinned (OpenSpec.ofChange fnExactEqualAwardsSpec)

/-- ITS FALSE NEIGHBOUR: 'it returns false'. Refute it at one input. -/
def fnExactEqualAwardsWrong : ChangeSpec := { name := "fnExactEqualAwards", fn := fun _ => fun
  | [d1, d2] => { results := [.lit (.bool false)], args := [d1, d2] }
  | _ => none }
def FnExactEqualAwardsWrongFalsely : Prop := fnExactEqualAwardsRow.holds Try.pinned (OpenSpec.ofChange fnExactEqualAwardsWrong)

/-- 'laws.FnExactEqualLosses': WHATEVER THE INPUT: true; the input reads as it did. -/
def fnExactEqualLossesSpec : ChangeSpec := { name := "fnExactEqualLosses", fn := fun _ => fun
  | [d1, d2] => { results := [.lit (.bool true)], args := [d1, d2] }
  | _ => none }
def fnExactEqualLossesRow : OpenClaim := { program := "ytokpmflhgehicaa", sum := "07f6b112a8a471bda406fe23fd21567f796d0be0f1090ab5f34173dd22a46fdc", func := "loop.example/g00520/laws.FnExactEqualLosses", spec := "fnExactEqualLosses", unfollowed := true, recurses := true, apart := false }
def FnExactEqualLossesSaid : Prop := fnExactEqualLossesRow.holds Try.pinned (OpenSpec.ofChange fnExactEqualLossesSpec)

/-- ITS FALSE NEIGHBOUR: 'it returns false'. Refute it at one input. -/
def fnExactEqualLossesWrong : ChangeSpec := { name := "fnExactEqualLosses", fn := fun _ => fun
  | [d1, d2] => { results := [.lit (.bool false)], args := [d1, d2] }
  | _ => none }
def FnExactEqualLossesWrongFalsely : Prop := fnExactEqualLossesRow.holds Try.pinned (OpenSpec.ofChange fnExactEqualLossesWrong)

/-- 'laws.FnExactStageLP': WHATEVER THE INPUT: true; the input reads as it did. -/
def fnExactStageLPSpec : ChangeSpec := { name := "fnExactStageLP", fn := fun _ => fun
  | [d1, d2] => { results := [.lit (.bool true)], args := [d1, d2] }
  | _ => none }
def fnExactStageLPRow : OpenClaim := { program := "ytokpmflhgehicaa", sum := "07f6b112a8a471bda406fe23fd21567f796d0be0f1090ab5f34173dd22a46fdc", func := "loop.example/g00520/laws.FnExactStageLP", spec := "fnExactStageLP", unfollowed := true, recurses := true, apart := false }
def FnExactStageLPSaid : Prop := fnExactStageLPRow.holds Try.pinned (OpenSpec.ofChange fnExactStageLPSpec)

/-- ITS FALSE NEIGHBOUR: 'it returns false'. Refute it at one input. -/
def fnExactStageLPWrong : ChangeSpec := { name := "fnExactStageLP", fn := fun _ => fun
  | [d1, d2] => { results := [.lit (.bool false)], args := [d1, d2] }
  | _ => none }
def FnExactStageLPWrongFalsely : Prop := fnExactStageLPRow.holds Try.pinned (OpenSpec.ofChange fnExactStageLPWrong)

/-- 'laws.FnExactTalmudShares': WHATEVER THE INPUT: true; the input reads as it did. -/
def fnExactTalmudSharesSpec : ChangeSpec := { name := "fnExactTalmudShares", fn := fun _ => fun
  | [d] => { results := [.lit (.bool true)], args := [d] }
  | _ => none }
def fnExactTalmudSharesRow : OpenClaim := { program := "ytokpmflhgehicaa", sum := "07f6b112a8a471bda406fe23fd21567f796d0be0f1090ab5f34173dd22a46fdc", func := "loop.example/g00520/laws.FnExactTalmudShares", spec := "fnExactTalmudShares", unfollowed := true, recurses := true, apart := false }
def FnExactTalmudSharesSaid : Prop := fnExactTalmudSharesRow.holds Try.pinned (OpenSpec.ofChange fnExactTalmudSharesSpec)

/-- ITS FALSE NEIGHBOUR: 'it returns false'. Refute it at one input. -/
def fnExactTalmudSharesWrong : ChangeSpec := { name := "fnExactTalmudShares", fn := fun _ => fun
  | [d] => { results := [.lit (.bool false)], args := [d] }
  | _ => none }
def FnExactTalmudSharesWrongFalsely : Prop := fnExactTalmudSharesRow.holds Try.pinned (OpenSpec.ofChange fnExactTalmudSharesWrong)

/-- 'laws.FnExactRankOf': WHATEVER THE INPUT: true; the input reads as it did. -/
def fnExactRankOfSpec : ChangeSpec := { name := "fnExactRankOf", fn := fun _ => fun
  | [d1, d2] => { results := [.lit (.bool true)], args := [d1, d2] }
  | _ => none }
def fnExactRankOfRow : OpenClaim := { program := "ytokpmflhgehicaa", sum := "07f6b112a8a471bda406fe23fd21567f796d0be0f1090ab5f34173dd22a46fdc", func := "loop.example/g00520/laws.FnExactRankOf", spec := "fnExactRankOf", unfollowed := true, recurses := true, apart := false }
def FnExactRankOfSaid : Prop := fnExactRankOfRow.holds Try.pinned (OpenSpec.ofChange fnExactRankOfSpec)

/-- ITS FALSE NEIGHBOUR: 'it returns false'. Refute it at one input. -/
def fnExactRankOfWrong : ChangeSpec := { name := "fnExactRankOf", fn := fun _ => fun
  | [d1, d2] => { results := [.lit (.bool false)], args := [d1, d2] }
  | _ => none }
def FnExactRankOfWrongFalsely : Prop := fnExactRankOfRow.holds Try.pinned (OpenSpec.ofChange fnExactRankOfWrong)

/-- 'laws.FnOrders': WHATEVER THE INPUT: true; the input reads as it did. -/
def fnOrdersSpec : ChangeSpec := { name := "fnOrders", fn := fun _ => fun
  | [d] => { results := [.lit (.bool true)], args := [d] }
  | _ => none }
def fnOrdersRow : OpenClaim := { program := "ytokpmflhgehicaa", sum := "07f6b112a8a471bda406fe23fd21567f796d0be0f1090ab5f34173dd22a46fdc", func := "loop.example/g00520/laws.FnOrders", spec := "fnOrders", unfollowed := true, recurses := true, apart := false }
def FnOrdersSaid : Prop := fnOrdersRow.holds Try.pinned (OpenSpec.ofChange fnOrdersSpec)

/-- ITS FALSE NEIGHBOUR: 'it returns false'. Refute it at one input. -/
def fnOrdersWrong : ChangeSpec := { name := "fnOrders", fn := fun _ => fun
  | [d] => { results := [.lit (.bool false)], args := [d] }
  | _ => none }
def FnOrdersWrongFalsely : Prop := fnOrdersRow.holds Try.pinned (OpenSpec.ofChange fnOrdersWrong)

/- THE SECOND FORM. 'bulk': how many values and letters a reading holds, each counted each time it is reached (what is shared counts as often as it is met; a slice's spare places count too). A statement '..UptoSaid' is the law's where the arguments, and the package variables that the reading takes, are together of bulk at most 1048576: NARROWER than '..Said'. Prove '..Said' where nothing that the law and all that it calls make is longer than what came in: it says more and counts as full. Else prove '..UptoSaid'. A law counts once. -/
mutual
def uptoBulk {H : Type} : DataW H → Nat
  | .lit (.string bytes) => bytes.length + 1
  | .lit _ => 1
  | .nil => 1
  | .ptr d => uptoBulk d + 1
  | .slice elems spare => uptoBulkAll elems + uptoBulkAll spare + 1
  | .agg parts => uptoBulkAll parts + 1
  | .iface _ d => uptoBulk d + 1
  | .map entries => uptoBulkEntries entries + 1
  | .held _ => 1
def uptoBulkAll {H : Type} : List (DataW H) → Nat
  | [] => 0
  | d :: r => uptoBulk d + uptoBulkAll r
def uptoBulkEntries {H : Type} : List (Lit × DataW H) → Nat
  | [] => 0
  | x :: r => uptoBulkEntry x + uptoBulkEntries r
def uptoBulkEntry {H : Type} : Lit × DataW H → Nat
  | (.string bytes, d) => bytes.length + uptoBulk d + 1
  | (_, d) => uptoBulk d + 1
 end
def uptoSmall : (H : Type) → List (DataW H) → Bool := fun _ ds => decide (uptoBulkAll ds ≤ 1048576)
def OpenSpec.upto (s : _root_.Go.ChangeSpec) : _root_.Go.OpenSpec := { _root_.Go.OpenSpec.ofChange s with cond := some uptoSmall }

/-- 'laws.FnExactEqualNucleolus', WHERE WHAT IT READS IS OF BULK AT MOST 1048576: true; the input reads as it did. -/
def fnExactEqualNucleolusUptoRow : OpenClaim := { program := "ytokpmflhgehicaa", sum := "07f6b112a8a471bda406fe23fd21567f796d0be0f1090ab5f34173dd22a46fdc", func := "loop.example/g00520/laws.FnExactEqualNucleolus", spec := "fnExactEqualNucleolus", apart := false, narrowed := true }
def FnExactEqualNucleolusUptoSaid : Prop := fnExactEqualNucleolusUptoRow.holds Try.pinned (OpenSpec.upto fnExactEqualNucleolusSpec)

/-- 'laws.FnExactProportionalShares', WHERE WHAT IT READS IS OF BULK AT MOST 1048576: true; the input reads as it did. -/
def fnExactProportionalSharesUptoRow : OpenClaim := { program := "ytokpmflhgehicaa", sum := "07f6b112a8a471bda406fe23fd21567f796d0be0f1090ab5f34173dd22a46fdc", func := "loop.example/g00520/laws.FnExactProportionalShares", spec := "fnExactProportionalShares", unfollowed := true, recurses := true, apart := false, narrowed := true }
def FnExactProportionalSharesUptoSaid : Prop := fnExactProportionalSharesUptoRow.holds Try.pinned (OpenSpec.upto fnExactProportionalSharesSpec)

/-- 'laws.FnExactBestTrades', WHERE WHAT IT READS IS OF BULK AT MOST 1048576: true; the input reads as it did. -/
def fnExactBestTradesUptoRow : OpenClaim := { program := "ytokpmflhgehicaa", sum := "07f6b112a8a471bda406fe23fd21567f796d0be0f1090ab5f34173dd22a46fdc", func := "loop.example/g00520/laws.FnExactBestTrades", spec := "fnExactBestTrades", unfollowed := true, recurses := true, apart := false, narrowed := true }
def FnExactBestTradesUptoSaid : Prop := fnExactBestTradesUptoRow.holds Try.pinned (OpenSpec.upto fnExactBestTradesSpec)

/-- 'laws.FnExactBanzhafValue', WHERE WHAT IT READS IS OF BULK AT MOST 1048576: true; the input reads as it did. -/
def fnExactBanzhafValueUptoRow : OpenClaim := { program := "ytokpmflhgehicaa", sum := "07f6b112a8a471bda406fe23fd21567f796d0be0f1090ab5f34173dd22a46fdc", func := "loop.example/g00520/laws.FnExactBanzhafValue", spec := "fnExactBanzhafValue", unfollowed := true, recurses := true, apart := false, narrowed := true }
def FnExactBanzhafValueUptoSaid : Prop := fnExactBanzhafValueUptoRow.holds Try.pinned (OpenSpec.upto fnExactBanzhafValueSpec)

/-- 'laws.FnExactAssignmentGame', WHERE WHAT IT READS IS OF BULK AT MOST 1048576: true; the input reads as it did. -/
def fnExactAssignmentGameUptoRow : OpenClaim := { program := "ytokpmflhgehicaa", sum := "07f6b112a8a471bda406fe23fd21567f796d0be0f1090ab5f34173dd22a46fdc", func := "loop.example/g00520/laws.FnExactAssignmentGame", spec := "fnExactAssignmentGame", unfollowed := true, recurses := true, apart := false, narrowed := true }
def FnExactAssignmentGameUptoSaid : Prop := fnExactAssignmentGameUptoRow.holds Try.pinned (OpenSpec.upto fnExactAssignmentGameSpec)

/-- 'laws.FnExactEqualAwards', WHERE WHAT IT READS IS OF BULK AT MOST 1048576: true; the input reads as it did. -/
def fnExactEqualAwardsUptoRow : OpenClaim := { program := "ytokpmflhgehicaa", sum := "07f6b112a8a471bda406fe23fd21567f796d0be0f1090ab5f34173dd22a46fdc", func := "loop.example/g00520/laws.FnExactEqualAwards", spec := "fnExactEqualAwards", unfollowed := true, recurses := true, apart := false, narrowed := true }
def FnExactEqualAwardsUptoSaid : Prop := fnExactEqualAwardsUptoRow.holds Try.pinned (OpenSpec.upto fnExactEqualAwardsSpec)

/-- 'laws.FnExactEqualLosses', WHERE WHAT IT READS IS OF BULK AT MOST 1048576: true; the input reads as it did. -/
def fnExactEqualLossesUptoRow : OpenClaim := { program := "ytokpmflhgehicaa", sum := "07f6b112a8a471bda406fe23fd21567f796d0be0f1090ab5f34173dd22a46fdc", func := "loop.example/g00520/laws.FnExactEqualLosses", spec := "fnExactEqualLosses", unfollowed := true, recurses := true, apart := false, narrowed := true }
def FnExactEqualLossesUptoSaid : Prop := fnExactEqualLossesUptoRow.holds Try.pinned (OpenSpec.upto fnExactEqualLossesSpec)

/-- 'laws.FnExactStageLP', WHERE WHAT IT READS IS OF BULK AT MOST 1048576: true; the input reads as it did. -/
def fnExactStageLPUptoRow : OpenClaim := { program := "ytokpmflhgehicaa", sum := "07f6b112a8a471bda406fe23fd21567f796d0be0f1090ab5f34173dd22a46fdc", func := "loop.example/g00520/laws.FnExactStageLP", spec := "fnExactStageLP", unfollowed := true, recurses := true, apart := false, narrowed := true }
def FnExactStageLPUptoSaid : Prop := fnExactStageLPUptoRow.holds Try.pinned (OpenSpec.upto fnExactStageLPSpec)

/-- 'laws.FnExactTalmudShares', WHERE WHAT IT READS IS OF BULK AT MOST 1048576: true; the input reads as it did. -/
def fnExactTalmudSharesUptoRow : OpenClaim := { program := "ytokpmflhgehicaa", sum := "07f6b112a8a471bda406fe23fd21567f796d0be0f1090ab5f34173dd22a46fdc", func := "loop.example/g00520/laws.FnExactTalmudShares", spec := "fnExactTalmudShares", unfollowed := true, recurses := true, apart := false, narrowed := true }
def FnExactTalmudSharesUptoSaid : Prop := fnExactTalmudSharesUptoRow.holds Try.pinned (OpenSpec.upto fnExactTalmudSharesSpec)

/-- 'laws.FnExactRankOf', WHERE WHAT IT READS IS OF BULK AT MOST 1048576: true; the input reads as it did. -/
def fnExactRankOfUptoRow : OpenClaim := { program := "ytokpmflhgehicaa", sum := "07f6b112a8a471bda406fe23fd21567f796d0be0f1090ab5f34173dd22a46fdc", func := "loop.example/g00520/laws.FnExactRankOf", spec := "fnExactRankOf", unfollowed := true, recurses := true, apart := false, narrowed := true }
def FnExactRankOfUptoSaid : Prop := fnExactRankOfUptoRow.holds Try.pinned (OpenSpec.upto fnExactRankOfSpec)

/-- 'laws.FnOrders', WHERE WHAT IT READS IS OF BULK AT MOST 1048576: true; the input reads as it did. -/
def fnOrdersUptoRow : OpenClaim := { program := "ytokpmflhgehicaa", sum := "07f6b112a8a471bda406fe23fd21567f796d0be0f1090ab5f34173dd22a46fdc", func := "loop.example/g00520/laws.FnOrders", spec := "fnOrders", unfollowed := true, recurses := true, apart := false, narrowed := true }
def FnOrdersUptoSaid : Prop := fnOrdersUptoRow.holds Try.pinned (OpenSpec.upto fnOrdersSpec)

end Rows
end Go.Proofs.Ytokpmflhgehicaa
