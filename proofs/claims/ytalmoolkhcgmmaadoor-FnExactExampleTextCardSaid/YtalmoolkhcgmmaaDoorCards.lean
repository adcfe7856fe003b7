/-
  DERIVED. GIVEN WITH THE SEED: THE CARDS: each row of YtalmoolkhcgmmaaDoorRows.lean that lists a variable, with what it lists TIED to the program's text (the seventh form; the later family's looks); each row that meets fmt, with fmt's text TOLD by the authors' own Lean function (tested against real Go, not proved from fmt's source: count such statements apart). THE CARD IS WHAT COUNTS. Prove the row's statement (the work); the ties are given (YtalmoolkhcgmmaaDoorTie.lean); close each card by the builder's one call (the guide's Derived/Test/ToyasCard.lean, 'card_holds'). Laid BY PROGRAM, IN A SANDBOX (cutbox-door.mjs). By AI agents, Wed Nov 11 2026. No macro, syntax, notation, axiom, sorry.
-/
import Derived.Test.YtalmoolkhcgmmaaDoorRows
import GoSem.ClaimSeven
namespace Go.Proofs.YtalmoolkhcgmmaaDoor
namespace Rows

/-- THE TIED CARD OF 'laws.FnExactExampleText'. -/
def fnExactExampleTextCard : Claim7 := { stood := { row := fnExactExampleTextRow, standIns := [], harness := (true, "549197227c268b21b44ed22ec48607824ff88dcdb4d6cb1aae0d1a07808270fb"), looks := false }, kinds := [], alts := [], laidByText := true, laidKinds := [.data, .data, .data], laidTests := true, laidLooks := .later }
def FnExactExampleTextCardSaid : Prop := Claim7.holds Tryd.pinned (.plain (OpenSpec.ofChange fnExactExampleTextSpec)) fnExactExampleTextCard

/-- THE SECOND FORM's CARD OF 'laws.FnExactExampleText'. -/
def fnExactExampleTextUptoCard : Claim7 := { stood := { row := fnExactExampleTextUptoRow, standIns := [], harness := (true, "549197227c268b21b44ed22ec48607824ff88dcdb4d6cb1aae0d1a07808270fb"), looks := false }, kinds := [], alts := [], laidByText := true, laidKinds := [.data, .data, .data], laidTests := true, laidLooks := .later }
def FnExactExampleTextUptoCardSaid : Prop := Claim7.holds Tryd.pinned (.plain (OpenSpec.upto fnExactExampleTextSpec)) fnExactExampleTextUptoCard
end Rows
end Go.Proofs.YtalmoolkhcgmmaaDoor
