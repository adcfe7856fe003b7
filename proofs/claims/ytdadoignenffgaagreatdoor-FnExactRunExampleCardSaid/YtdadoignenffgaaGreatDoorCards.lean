/-
  DERIVED. GIVEN WITH THE SEED: THE CARDS: each row of YtdadoignenffgaaGreatDoorRows.lean that lists a variable, with what it lists TIED to the program's text (the seventh form; the later family's looks); each row that meets fmt, with fmt's text TOLD by the authors' own Lean function (tested against real Go, not proved from fmt's source: count such statements apart). THE CARD IS WHAT COUNTS. Prove the row's statement (the work); the ties are given (YtdadoignenffgaaGreatDoorTie.lean); close each card by the builder's one call (the guide's Derived/Test/ToyasCard.lean, 'card_holds'). Laid BY PROGRAM, IN A SANDBOX (cutbox-door.mjs). By AI agents, Wed Nov 11 2026. No macro, syntax, notation, axiom, sorry.
-/
import Derived.Test.YtdadoignenffgaaGreatDoorRows
import GoSem.ClaimSeven
namespace Go.Proofs.YtdadoignenffgaaGreatDoor
namespace Rows

/-- THE TIED CARD OF 'laws.FnExactSolveText'. -/
def fnExactSolveTextCard : Claim7 := { stood := { row := fnExactSolveTextRow, standIns := [], harness := (true, "0d5e2bdb25189b62e5bc31b8e06a99b6f297579bb52ffdcb801d2ecc514ba673"), looks := false }, kinds := [], alts := [], laidByText := true, laidKinds := [.data, .data, .data], laidTests := true, laidLooks := .later }
def FnExactSolveTextCardSaid : Prop := Claim7.holds Tryz.pinned (.plain (OpenSpec.ofChange fnExactSolveTextSpec)) fnExactSolveTextCard

/-- THE TIED CARD OF 'laws.FnExactRunExample'. -/
def fnExactRunExampleCard : Claim7 := { stood := { row := fnExactRunExampleRow, standIns := [], harness := (true, "0d5e2bdb25189b62e5bc31b8e06a99b6f297579bb52ffdcb801d2ecc514ba673"), looks := false }, kinds := [], alts := [], laidByText := true, laidKinds := [.data, .data, .data], laidTests := true, laidLooks := .later }
def FnExactRunExampleCardSaid : Prop := Claim7.holds Tryz.pinned (.plain (OpenSpec.ofChange fnExactRunExampleSpec)) fnExactRunExampleCard

/-- THE TIED CARD OF 'laws.FnExamples'. -/
def fnExamplesCard : Claim7 := { stood := { row := fnExamplesRow, standIns := [], harness := (true, "0d5e2bdb25189b62e5bc31b8e06a99b6f297579bb52ffdcb801d2ecc514ba673"), looks := false }, kinds := [], alts := [], laidByText := true, laidKinds := [.data, .data, .data], laidTests := true, laidLooks := .later }
def FnExamplesCardSaid : Prop := Claim7.holds Tryz.pinned (.plain (OpenSpec.ofChange fnExamplesSpec)) fnExamplesCard

/-- THE SECOND FORM's CARD OF 'laws.FnExactSolveText'. -/
def fnExactSolveTextUptoCard : Claim7 := { stood := { row := fnExactSolveTextUptoRow, standIns := [], harness := (true, "0d5e2bdb25189b62e5bc31b8e06a99b6f297579bb52ffdcb801d2ecc514ba673"), looks := false }, kinds := [], alts := [], laidByText := true, laidKinds := [.data, .data, .data], laidTests := true, laidLooks := .later }
def FnExactSolveTextUptoCardSaid : Prop := Claim7.holds Tryz.pinned (.plain (OpenSpec.upto fnExactSolveTextSpec)) fnExactSolveTextUptoCard

/-- THE SECOND FORM's CARD OF 'laws.FnExactRunExample'. -/
def fnExactRunExampleUptoCard : Claim7 := { stood := { row := fnExactRunExampleUptoRow, standIns := [], harness := (true, "0d5e2bdb25189b62e5bc31b8e06a99b6f297579bb52ffdcb801d2ecc514ba673"), looks := false }, kinds := [], alts := [], laidByText := true, laidKinds := [.data, .data, .data], laidTests := true, laidLooks := .later }
def FnExactRunExampleUptoCardSaid : Prop := Claim7.holds Tryz.pinned (.plain (OpenSpec.upto fnExactRunExampleSpec)) fnExactRunExampleUptoCard

/-- THE SECOND FORM's CARD OF 'laws.FnExamples'. -/
def fnExamplesUptoCard : Claim7 := { stood := { row := fnExamplesUptoRow, standIns := [], harness := (true, "0d5e2bdb25189b62e5bc31b8e06a99b6f297579bb52ffdcb801d2ecc514ba673"), looks := false }, kinds := [], alts := [], laidByText := true, laidKinds := [.data, .data, .data], laidTests := true, laidLooks := .later }
def FnExamplesUptoCardSaid : Prop := Claim7.holds Tryz.pinned (.plain (OpenSpec.upto fnExamplesSpec)) fnExamplesUptoCard
end Rows
end Go.Proofs.YtdadoignenffgaaGreatDoor
