/-
  DERIVED. GIVEN WITH THE SEED: THE CARDS: each row of YthpahcbmpoknmaaGreatDoorRows.lean that lists a variable, with what it lists TIED to the program's text (the seventh form; the later family's looks); each row that meets fmt, with fmt's text TOLD by the authors' own Lean function (tested against real Go, not proved from fmt's source: count such statements apart). THE CARD IS WHAT COUNTS. Prove the row's statement (the work); the ties are given (YthpahcbmpoknmaaGreatDoorTie.lean); close each card by the builder's one call (the guide's Derived/Test/ToyasCard.lean, 'card_holds'). Laid BY PROGRAM, IN A SANDBOX (cutbox-door.mjs). By AI agents, Wed Nov 11 2026. No macro, syntax, notation, axiom, sorry.
-/
import Derived.Test.YthpahcbmpoknmaaGreatDoorRows
import GoSem.ClaimSeven
namespace Go.Proofs.YthpahcbmpoknmaaGreatDoor
namespace Rows

/-- THE TIED CARD OF 'laws.FnSession'. -/
def fnSessionCard : Claim7 := { stood := { row := fnSessionRow, standIns := [], harness := (true, "04e49b8248aa3540502f65055d1547b22be30932d2b0dca1f3fde335bb42e7b7"), looks := false }, kinds := [], alts := [], laidByText := true, laidKinds := [.data, .data, .data, .data, .pinned], laidTests := true, laidLooks := .later }
def FnSessionCardSaid : Prop := Claim7.holds Tryz.pinned (.plain (OpenSpec.ofChange fnSessionSpec)) fnSessionCard

/-- THE TIED CARD OF 'laws.FnExactExecuteLine'. -/
def fnExactExecuteLineCard : Claim7 := { stood := { row := fnExactExecuteLineRow, standIns := [], harness := (true, "04e49b8248aa3540502f65055d1547b22be30932d2b0dca1f3fde335bb42e7b7"), looks := false }, kinds := [], alts := [], laidByText := true, laidKinds := [.data, .data, .data, .data, .pinned], laidTests := true, laidLooks := .later }
def FnExactExecuteLineCardSaid : Prop := Claim7.holds Tryz.pinned (.plain (OpenSpec.ofChange fnExactExecuteLineSpec)) fnExactExecuteLineCard

/-- THE SECOND FORM's CARD OF 'laws.FnSession'. -/
def fnSessionUptoCard : Claim7 := { stood := { row := fnSessionUptoRow, standIns := [], harness := (true, "04e49b8248aa3540502f65055d1547b22be30932d2b0dca1f3fde335bb42e7b7"), looks := false }, kinds := [], alts := [], laidByText := true, laidKinds := [.data, .data, .data, .data, .pinned], laidTests := true, laidLooks := .later }
def FnSessionUptoCardSaid : Prop := Claim7.holds Tryz.pinned (.plain (OpenSpec.upto fnSessionSpec)) fnSessionUptoCard

/-- THE SECOND FORM's CARD OF 'laws.FnExactExecuteLine'. -/
def fnExactExecuteLineUptoCard : Claim7 := { stood := { row := fnExactExecuteLineUptoRow, standIns := [], harness := (true, "04e49b8248aa3540502f65055d1547b22be30932d2b0dca1f3fde335bb42e7b7"), looks := false }, kinds := [], alts := [], laidByText := true, laidKinds := [.data, .data, .data, .data, .pinned], laidTests := true, laidLooks := .later }
def FnExactExecuteLineUptoCardSaid : Prop := Claim7.holds Tryz.pinned (.plain (OpenSpec.upto fnExactExecuteLineSpec)) fnExactExecuteLineUptoCard
end Rows
end Go.Proofs.YthpahcbmpoknmaaGreatDoor
