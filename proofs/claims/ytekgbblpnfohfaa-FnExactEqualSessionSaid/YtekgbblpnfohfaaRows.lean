/-
  No cell of these rows narrows 'for every input' (looked for: loops, veiled, ifaces, maps, wideKeys, modest, calm, conditions, laid).
  DERIVED. THE GIVEN ROWS OF THIS SEAT. 12 by the template 'for every input the law returns true; each argument reads behind the call as it read before'; 0 by the template 'total and deterministic' (their statements: YtekgbblpnfohfaaTotals.lean).
  GIVEN WITH THE SEED: the statements are not yours to turn. If you find one false, say at which input.
  Laid BY PROGRAM, IN A SANDBOX (cutbox-rows.mjs): the forced cells as the released guide's own fill.sh prints them over the translation aff6075ea4ccd1a6… (all of the seat's roots in one cut). By AI agents, Wed Nov 11 2026. No macro, syntax, notation, axiom, sorry.
-/
import Derived.Test.YtekgbblpnfohfaaChecked
import GoSem.Claim
import GoSem.ClaimJoined
import GoSem.ClaimMapViews
import Derived.JoinedTies
import Derived.KernelRfl
namespace Go.Proofs.Ytekgbblpnfohfaa
/- THE CELL 'sum', in the pinned program and in every row, IS THE sha256 OF THE DUMP (.gsa) THAT YtekgbblpnfohfaaProg.lean LOADS. Nothing in Lean hashes anything: it is a label: what it is worth is what the hold of that sum in a sandbox is worth. -/
noncomputable def Try.pinned : Pinned := { name := "ytekgbblpnfohfaa", sum := "aff6075ea4ccd1a654ea67105027c99b19f0d9967736cb2d17fb6364550d952d", checked := Try.checked }
namespace Rows
def none {H : Type} : Left H := { results := [], args := [] }

/-- 'laws.FnExactEqualNucleolus': WHATEVER THE INPUT: true; the input reads as it did. -/
def fnExactEqualNucleolusSpec : ChangeSpec := { name := "fnExactEqualNucleolus", fn := fun _ => fun
  | [d1, d2] => { results := [.lit (.bool true)], args := [d1, d2] }
  | _ => none }
def fnExactEqualNucleolusRow : OpenClaim := { program := "ytekgbblpnfohfaa", sum := "aff6075ea4ccd1a654ea67105027c99b19f0d9967736cb2d17fb6364550d952d", func := "loop.example/g00520/laws.FnExactEqualNucleolus", spec := "fnExactEqualNucleolus", apart := false }
def FnExactEqualNucleolusSaid : Prop := fnExactEqualNucleolusRow.holds Try.pinned (OpenSpec.ofChange fnExactEqualNucleolusSpec)

/-- ITS FALSE NEIGHBOUR: 'it returns false'. Refute it at one input. -/
def fnExactEqualNucleolusWrong : ChangeSpec := { name := "fnExactEqualNucleolus", fn := fun _ => fun
  | [d1, d2] => { results := [.lit (.bool false)], args := [d1, d2] }
  | _ => none }
def FnExactEqualNucleolusWrongFalsely : Prop := fnExactEqualNucleolusRow.holds Try.pinned (OpenSpec.ofChange fnExactEqualNucleolusWrong)

/-- 'laws.FnExactMarginalVector': WHATEVER THE INPUT: true; the input reads as it did. -/
def fnExactMarginalVectorSpec : ChangeSpec := { name := "fnExactMarginalVector", fn := fun _ => fun
  | [d1, d2] => { results := [.lit (.bool true)], args := [d1, d2] }
  | _ => none }
def fnExactMarginalVectorRow : OpenClaim := { program := "ytekgbblpnfohfaa", sum := "aff6075ea4ccd1a654ea67105027c99b19f0d9967736cb2d17fb6364550d952d", func := "loop.example/g00520/laws.FnExactMarginalVector", spec := "fnExactMarginalVector", unfollowed := true, recurses := true, apart := false }
def FnExactMarginalVectorSaid : Prop := fnExactMarginalVectorRow.holds Try.pinned (OpenSpec.ofChange fnExactMarginalVectorSpec)

/-- ITS FALSE NEIGHBOUR: 'it returns false'. Refute it at one input. -/
def fnExactMarginalVectorWrong : ChangeSpec := { name := "fnExactMarginalVector", fn := fun _ => fun
  | [d1, d2] => { results := [.lit (.bool false)], args := [d1, d2] }
  | _ => none }
def FnExactMarginalVectorWrongFalsely : Prop := fnExactMarginalVectorRow.holds Try.pinned (OpenSpec.ofChange fnExactMarginalVectorWrong)

/-- 'laws.FnExactEqualSession': WHATEVER THE INPUT: true; the input reads as it did. -/
def fnExactEqualSessionSpec : ChangeSpec := { name := "fnExactEqualSession", fn := fun _ => fun
  | [d1, d2] => { results := [.lit (.bool true)], args := [d1, d2] }
  | _ => none }
def fnExactEqualSessionRow : OpenClaim := { program := "ytekgbblpnfohfaa", sum := "aff6075ea4ccd1a654ea67105027c99b19f0d9967736cb2d17fb6364550d952d", func := "loop.example/g00520/laws.FnExactEqualSession", spec := "fnExactEqualSession", apart := false }
def FnExactEqualSessionSaid : Prop := fnExactEqualSessionRow.holds Try.pinned (OpenSpec.ofChange fnExactEqualSessionSpec)

/-- ITS FALSE NEIGHBOUR: 'it returns false'. Refute it at one input. -/
def fnExactEqualSessionWrong : ChangeSpec := { name := "fnExactEqualSession", fn := fun _ => fun
  | [d1, d2] => { results := [.lit (.bool false)], args := [d1, d2] }
  | _ => none }
def FnExactEqualSessionWrongFalsely : Prop := fnExactEqualSessionRow.holds Try.pinned (OpenSpec.ofChange fnExactEqualSessionWrong)

/-- 'laws.FnExactVetoPlayers': WHATEVER THE INPUT: true; the input reads as it did. -/
def fnExactVetoPlayersSpec : ChangeSpec := { name := "fnExactVetoPlayers", fn := fun _ => fun
  | [d] => { results := [.lit (.bool true)], args := [d] }
  | _ => none }
def fnExactVetoPlayersRow : OpenClaim := { program := "ytekgbblpnfohfaa", sum := "aff6075ea4ccd1a654ea67105027c99b19f0d9967736cb2d17fb6364550d952d", func := "loop.example/g00520/laws.FnExactVetoPlayers", spec := "fnExactVetoPlayers", unfollowed := true, recurses := true, apart := false }
def FnExactVetoPlayersSaid : Prop := fnExactVetoPlayersRow.holds Try.pinned (OpenSpec.ofChange fnExactVetoPlayersSpec)

/-- ITS FALSE NEIGHBOUR: 'it returns false'. Refute it at one input. -/
def fnExactVetoPlayersWrong : ChangeSpec := { name := "fnExactVetoPlayers", fn := fun _ => fun
  | [d] => { results := [.lit (.bool false)], args := [d] }
  | _ => none }
def FnExactVetoPlayersWrongFalsely : Prop := fnExactVetoPlayersRow.holds Try.pinned (OpenSpec.ofChange fnExactVetoPlayersWrong)

/-- 'laws.FnExactSameVoting': WHATEVER THE INPUT: true; the input reads as it did. -/
def fnExactSameVotingSpec : ChangeSpec := { name := "fnExactSameVoting", fn := fun _ => fun
  | [d1, d2] => { results := [.lit (.bool true)], args := [d1, d2] }
  | _ => none }
def fnExactSameVotingRow : OpenClaim := { program := "ytekgbblpnfohfaa", sum := "aff6075ea4ccd1a654ea67105027c99b19f0d9967736cb2d17fb6364550d952d", func := "loop.example/g00520/laws.FnExactSameVoting", spec := "fnExactSameVoting", unfollowed := true, recurses := true, apart := false }
def FnExactSameVotingSaid : Prop := fnExactSameVotingRow.holds Try.pinned (OpenSpec.ofChange fnExactSameVotingSpec)

/-- ITS FALSE NEIGHBOUR: 'it returns false'. Refute it at one input. -/
def fnExactSameVotingWrong : ChangeSpec := { name := "fnExactSameVoting", fn := fun _ => fun
  | [d1, d2] => { results := [.lit (.bool false)], args := [d1, d2] }
  | _ => none }
def FnExactSameVotingWrongFalsely : Prop := fnExactSameVotingRow.holds Try.pinned (OpenSpec.ofChange fnExactSameVotingWrong)

/-- 'laws.FnExactSwingsOf': WHATEVER THE INPUT: true; the input reads as it did. -/
def fnExactSwingsOfSpec : ChangeSpec := { name := "fnExactSwingsOf", fn := fun _ => fun
  | [d] => { results := [.lit (.bool true)], args := [d] }
  | _ => none }
def fnExactSwingsOfRow : OpenClaim := { program := "ytekgbblpnfohfaa", sum := "aff6075ea4ccd1a654ea67105027c99b19f0d9967736cb2d17fb6364550d952d", func := "loop.example/g00520/laws.FnExactSwingsOf", spec := "fnExactSwingsOf", unfollowed := true, recurses := true, apart := false }
def FnExactSwingsOfSaid : Prop := fnExactSwingsOfRow.holds Try.pinned (OpenSpec.ofChange fnExactSwingsOfSpec)

/-- ITS FALSE NEIGHBOUR: 'it returns false'. Refute it at one input. -/
def fnExactSwingsOfWrong : ChangeSpec := { name := "fnExactSwingsOf", fn := fun _ => fun
  | [d] => { results := [.lit (.bool false)], args := [d] }
  | _ => none }
def FnExactSwingsOfWrongFalsely : Prop := fnExactSwingsOfRow.holds Try.pinned (OpenSpec.ofChange fnExactSwingsOfWrong)

/-- 'laws.FnExactMinimalWinning': WHATEVER THE INPUT: true; the input reads as it did. -/
def fnExactMinimalWinningSpec : ChangeSpec := { name := "fnExactMinimalWinning", fn := fun _ => fun
  | [d] => { results := [.lit (.bool true)], args := [d] }
  | _ => none }
def fnExactMinimalWinningRow : OpenClaim := { program := "ytekgbblpnfohfaa", sum := "aff6075ea4ccd1a654ea67105027c99b19f0d9967736cb2d17fb6364550d952d", func := "loop.example/g00520/laws.FnExactMinimalWinning", spec := "fnExactMinimalWinning", unfollowed := true, recurses := true, apart := false }
def FnExactMinimalWinningSaid : Prop := fnExactMinimalWinningRow.holds Try.pinned (OpenSpec.ofChange fnExactMinimalWinningSpec)

/-- ITS FALSE NEIGHBOUR: 'it returns false'. Refute it at one input. -/
def fnExactMinimalWinningWrong : ChangeSpec := { name := "fnExactMinimalWinning", fn := fun _ => fun
  | [d] => { results := [.lit (.bool false)], args := [d] }
  | _ => none }
def FnExactMinimalWinningWrongFalsely : Prop := fnExactMinimalWinningRow.holds Try.pinned (OpenSpec.ofChange fnExactMinimalWinningWrong)

/-- 'laws.FnExactVotingGame': WHATEVER THE INPUT: true; the input reads as it did. -/
def fnExactVotingGameSpec : ChangeSpec := { name := "fnExactVotingGame", fn := fun _ => fun
  | [d] => { results := [.lit (.bool true)], args := [d] }
  | _ => none }
def fnExactVotingGameRow : OpenClaim := { program := "ytekgbblpnfohfaa", sum := "aff6075ea4ccd1a654ea67105027c99b19f0d9967736cb2d17fb6364550d952d", func := "loop.example/g00520/laws.FnExactVotingGame", spec := "fnExactVotingGame", unfollowed := true, recurses := true, apart := false }
def FnExactVotingGameSaid : Prop := fnExactVotingGameRow.holds Try.pinned (OpenSpec.ofChange fnExactVotingGameSpec)

/-- ITS FALSE NEIGHBOUR: 'it returns false'. Refute it at one input. -/
def fnExactVotingGameWrong : ChangeSpec := { name := "fnExactVotingGame", fn := fun _ => fun
  | [d] => { results := [.lit (.bool false)], args := [d] }
  | _ => none }
def FnExactVotingGameWrongFalsely : Prop := fnExactVotingGameRow.holds Try.pinned (OpenSpec.ofChange fnExactVotingGameWrong)

/-- 'laws.FnExactBankruptcyGame': WHATEVER THE INPUT: true; the input reads as it did. -/
def fnExactBankruptcyGameSpec : ChangeSpec := { name := "fnExactBankruptcyGame", fn := fun _ => fun
  | [d] => { results := [.lit (.bool true)], args := [d] }
  | _ => none }
def fnExactBankruptcyGameRow : OpenClaim := { program := "ytekgbblpnfohfaa", sum := "aff6075ea4ccd1a654ea67105027c99b19f0d9967736cb2d17fb6364550d952d", func := "loop.example/g00520/laws.FnExactBankruptcyGame", spec := "fnExactBankruptcyGame", unfollowed := true, recurses := true, apart := false }
def FnExactBankruptcyGameSaid : Prop := fnExactBankruptcyGameRow.holds Try.pinned (OpenSpec.ofChange fnExactBankruptcyGameSpec)

/-- ITS FALSE NEIGHBOUR: 'it returns false'. Refute it at one input. -/
def fnExactBankruptcyGameWrong : ChangeSpec := { name := "fnExactBankruptcyGame", fn := fun _ => fun
  | [d] => { results := [.lit (.bool false)], args := [d] }
  | _ => none }
def FnExactBankruptcyGameWrongFalsely : Prop := fnExactBankruptcyGameRow.holds Try.pinned (OpenSpec.ofChange fnExactBankruptcyGameWrong)

/-- 'laws.FnExactProportionalShares': WHATEVER THE INPUT: true; the input reads as it did. -/
def fnExactProportionalSharesSpec : ChangeSpec := { name := "fnExactProportionalShares", fn := fun _ => fun
  | [d] => { results := [.lit (.bool true)], args := [d] }
  | _ => none }
def fnExactProportionalSharesRow : OpenClaim := { program := "ytekgbblpnfohfaa", sum := "aff6075ea4ccd1a654ea67105027c99b19f0d9967736cb2d17fb6364550d952d", func := "loop.example/g00520/laws.FnExactProportionalShares", spec := "fnExactProportionalShares", unfollowed := true, recurses := true, apart := false }
def FnExactProportionalSharesSaid : Prop := fnExactProportionalSharesRow.holds Try.pinned (OpenSpec.ofChange fnExactProportionalSharesSpec)

/-- ITS FALSE NEIGHBOUR: 'it returns false'. Refute it at one input. -/
def fnExactProportionalSharesWrong : ChangeSpec := { name := "fnExactProportionalShares", fn := fun _ => fun
  | [d] => { results := [.lit (.bool false)], args := [d] }
  | _ => none }
def FnExactProportionalSharesWrongFalsely : Prop := fnExactProportionalSharesRow.holds Try.pinned (OpenSpec.ofChange fnExactProportionalSharesWrong)

/-- 'laws.FnExactBestOrder': WHATEVER THE INPUT: true; the input reads as it did. -/
def fnExactBestOrderSpec : ChangeSpec := { name := "fnExactBestOrder", fn := fun _ => fun
  | [d1, d2] => { results := [.lit (.bool true)], args := [d1, d2] }
  | _ => none }
def fnExactBestOrderRow : OpenClaim := { program := "ytekgbblpnfohfaa", sum := "aff6075ea4ccd1a654ea67105027c99b19f0d9967736cb2d17fb6364550d952d", func := "loop.example/g00520/laws.FnExactBestOrder", spec := "fnExactBestOrder", unfollowed := true, recurses := true, apart := false }
def FnExactBestOrderSaid : Prop := fnExactBestOrderRow.holds Try.pinned (OpenSpec.ofChange fnExactBestOrderSpec)

/-- ITS FALSE NEIGHBOUR: 'it returns false'. Refute it at one input. -/
def fnExactBestOrderWrong : ChangeSpec := { name := "fnExactBestOrder", fn := fun _ => fun
  | [d1, d2] => { results := [.lit (.bool false)], args := [d1, d2] }
  | _ => none }
def FnExactBestOrderWrongFalsely : Prop := fnExactBestOrderRow.holds Try.pinned (OpenSpec.ofChange fnExactBestOrderWrong)

/-- 'laws.FnExactBestTrades': WHATEVER THE INPUT: true; the input reads as it did. -/
def fnExactBestTradesSpec : ChangeSpec := { name := "fnExactBestTrades", fn := fun _ => fun
  | [d1, d2] => { results := [.lit (.bool true)], args := [d1, d2] }
  | _ => none }
def fnExactBestTradesRow : OpenClaim := { program := "ytekgbblpnfohfaa", sum := "aff6075ea4ccd1a654ea67105027c99b19f0d9967736cb2d17fb6364550d952d", func := "loop.example/g00520/laws.FnExactBestTrades", spec := "fnExactBestTrades", unfollowed := true, recurses := true, apart := false }
def FnExactBestTradesSaid : Prop := fnExactBestTradesRow.holds Try.pinned (OpenSpec.ofChange fnExactBestTradesSpec)

/-- ITS FALSE NEIGHBOUR: 'it returns false'. Refute it at one input. -/
def fnExactBestTradesWrong : ChangeSpec := { name := "fnExactBestTrades", fn := fun _ => fun
  | [d1, d2] => { results := [.lit (.bool false)], args := [d1, d2] }
  | _ => none }
def FnExactBestTradesWrongFalsely : Prop := fnExactBestTradesRow.holds Try.pinned (OpenSpec.ofChange fnExactBestTradesWrong)

/- THE SECOND FORM. 'bulk': how many values and letters a reading holds, each counted each time it is reached (what is shared counts as often as it is met; a slice's spare places count too). A statement '..UptoSaid' is the law's where the arguments, and the package variables that the reading takes, are together of bulk at most 1048576: NARROWER than '..Said'. Prove '..Said' where nothing that the law and all that it calls make is longer than what came in: it says more and counts as full. Else prove '..UptoSaid'. A law counts once. -/
mutual
def uptoBulk {H : Type} : DataW H → Nat
  | .lit (.string bytes) => bytes.length + 1
  | .lit _ => 1
  | .nil => 1
  | .ptr d => uptoBulk d + 1
  | .slice elems spare => uptoBulkAll elems + uptoBulkAll spare + 1
  | .agg parts => uptoBulkAll parts + 1
  | .iface _ d => uptoBulk d + 1
  | .map entries => uptoBulkEntries entries + 1
  | .held _ => 1
def uptoBulkAll {H : Type} : List (DataW H) → Nat
  | [] => 0
  | d :: r => uptoBulk d + uptoBulkAll r
def uptoBulkEntries {H : Type} : List (Lit × DataW H) → Nat
  | [] => 0
  | x :: r => uptoBulkEntry x + uptoBulkEntries r
def uptoBulkEntry {H : Type} : Lit × DataW H → Nat
  | (.string bytes, d) => bytes.length + uptoBulk d + 1
  | (_, d) => uptoBulk d + 1
 end
def uptoSmall : (H : Type) → List (DataW H) → Bool := fun _ ds => decide (uptoBulkAll ds ≤ 1048576)
def OpenSpec.upto (s : _root_.Go.ChangeSpec) : _root_.Go.OpenSpec := { _root_.Go.OpenSpec.ofChange s with cond := some uptoSmall }

/-- 'laws.FnExactEqualNucleolus', WHERE WHAT IT READS IS OF BULK AT MOST 1048576: true; the input reads as it did. -/
def fnExactEqualNucleolusUptoRow : OpenClaim := { program := "ytekgbblpnfohfaa", sum := "aff6075ea4ccd1a654ea67105027c99b19f0d9967736cb2d17fb6364550d952d", func := "loop.example/g00520/laws.FnExactEqualNucleolus", spec := "fnExactEqualNucleolus", apart := false, narrowed := true }
def FnExactEqualNucleolusUptoSaid : Prop := fnExactEqualNucleolusUptoRow.holds Try.pinned (OpenSpec.upto fnExactEqualNucleolusSpec)

/-- 'laws.FnExactMarginalVector', WHERE WHAT IT READS IS OF BULK AT MOST 1048576: true; the input reads as it did. -/
def fnExactMarginalVectorUptoRow : OpenClaim := { program := "ytekgbblpnfohfaa", sum := "aff6075ea4ccd1a654ea67105027c99b19f0d9967736cb2d17fb6364550d952d", func := "loop.example/g00520/laws.FnExactMarginalVector", spec := "fnExactMarginalVector", unfollowed := true, recurses := true, apart := false, narrowed := true }
def FnExactMarginalVectorUptoSaid : Prop := fnExactMarginalVectorUptoRow.holds Try.pinned (OpenSpec.upto fnExactMarginalVectorSpec)

/-- 'laws.FnExactEqualSession', WHERE WHAT IT READS IS OF BULK AT MOST 1048576: true; the input reads as it did. -/
def fnExactEqualSessionUptoRow : OpenClaim := { program := "ytekgbblpnfohfaa", sum := "aff6075ea4ccd1a654ea67105027c99b19f0d9967736cb2d17fb6364550d952d", func := "loop.example/g00520/laws.FnExactEqualSession", spec := "fnExactEqualSession", apart := false, narrowed := true }
def FnExactEqualSessionUptoSaid : Prop := fnExactEqualSessionUptoRow.holds Try.pinned (OpenSpec.upto fnExactEqualSessionSpec)

/-- 'laws.FnExactVetoPlayers', WHERE WHAT IT READS IS OF BULK AT MOST 1048576: true; the input reads as it did. -/
def fnExactVetoPlayersUptoRow : OpenClaim := { program := "ytekgbblpnfohfaa", sum := "aff6075ea4ccd1a654ea67105027c99b19f0d9967736cb2d17fb6364550d952d", func := "loop.example/g00520/laws.FnExactVetoPlayers", spec := "fnExactVetoPlayers", unfollowed := true, recurses := true, apart := false, narrowed := true }
def FnExactVetoPlayersUptoSaid : Prop := fnExactVetoPlayersUptoRow.holds Try.pinned (OpenSpec.upto fnExactVetoPlayersSpec)

/-- 'laws.FnExactSameVoting', WHERE WHAT IT READS IS OF BULK AT MOST 1048576: true; the input reads as it did. -/
def fnExactSameVotingUptoRow : OpenClaim := { program := "ytekgbblpnfohfaa", sum := "aff6075ea4ccd1a654ea67105027c99b19f0d9967736cb2d17fb6364550d952d", func := "loop.example/g00520/laws.FnExactSameVoting", spec := "fnExactSameVoting", unfollowed := true, recurses := true, apart := false, narrowed := true }
def FnExactSameVotingUptoSaid : Prop := fnExactSameVotingUptoRow.holds Try.pinned (OpenSpec.upto fnExactSameVotingSpec)

/-- 'laws.FnExactSwingsOf', WHERE WHAT IT READS IS OF BULK AT MOST 1048576: true; the input reads as it did. -/
def fnExactSwingsOfUptoRow : OpenClaim := { program := "ytekgbblpnfohfaa", sum := "aff6075ea4ccd1a654ea67105027c99b19f0d9967736cb2d17fb6364550d952d", func := "loop.example/g00520/laws.FnExactSwingsOf", spec := "fnExactSwingsOf", unfollowed := true, recurses := true, apart := false, narrowed := true }
def FnExactSwingsOfUptoSaid : Prop := fnExactSwingsOfUptoRow.holds Try.pinned (OpenSpec.upto fnExactSwingsOfSpec)

/-- 'laws.FnExactMinimalWinning', WHERE WHAT IT READS IS OF BULK AT MOST 1048576: true; the input reads as it did. -/
def fnExactMinimalWinningUptoRow : OpenClaim := { program := "ytekgbblpnfohfaa", sum := "aff6075ea4ccd1a654ea67105027c99b19f0d9967736cb2d17fb6364550d952d", func := "loop.example/g00520/laws.FnExactMinimalWinning", spec := "fnExactMinimalWinning", unfollowed := true, recurses := true, apart := false, narrowed := true }
def FnExactMinimalWinningUptoSaid : Prop := fnExactMinimalWinningUptoRow.holds Try.pinned (OpenSpec.upto fnExactMinimalWinningSpec)

/-- 'laws.FnExactVotingGame', WHERE WHAT IT READS IS OF BULK AT MOST 1048576: true; the input reads as it did. -/
def fnExactVotingGameUptoRow : OpenClaim := { program := "ytekgbblpnfohfaa", sum := "aff6075ea4ccd1a654ea67105027c99b19f0d9967736cb2d17fb6364550d952d", func := "loop.example/g00520/laws.FnExactVotingGame", spec := "fnExactVotingGame", unfollowed := true, recurses := true, apart := false, narrowed := true }
def FnExactVotingGameUptoSaid : Prop := fnExactVotingGameUptoRow.holds Try.pinned (OpenSpec.upto fnExactVotingGameSpec)

/-- 'laws.FnExactBankruptcyGame', WHERE WHAT IT READS IS OF BULK AT MOST 1048576: true; the input reads as it did. -/
def fnExactBankruptcyGameUptoRow : OpenClaim := { program := "ytekgbblpnfohfaa", sum := "aff6075ea4ccd1a654ea67105027c99b19f0d9967736cb2d17fb6364550d952d", func := "loop.example/g00520/laws.FnExactBankruptcyGame", spec := "fnExactBankruptcyGame", unfollowed := true, recurses := true, apart := false, narrowed := true }
def FnExactBankruptcyGameUptoSaid : Prop := fnExactBankruptcyGameUptoRow.holds Try.pinned (OpenSpec.upto fnExactBankruptcyGameSpec)

/-- 'laws.FnExactProportionalShares', WHERE WHAT IT READS IS OF BULK AT MOST 1048576: true; the input reads as it did. -/
def fnExactProportionalSharesUptoRow : OpenClaim := { program := "ytekgbblpnfohfaa", sum := "aff6075ea4ccd1a654ea67105027c99b19f0d9967736cb2d17fb6364550d952d", func := "loop.example/g00520/laws.FnExactProportionalShares", spec := "fnExactProportionalShares", unfollowed := true, recurses := true, apart := false, narrowed := true }
def FnExactProportionalSharesUptoSaid : Prop := fnExactProportionalSharesUptoRow.holds Try.pinned (OpenSpec.upto fnExactProportionalSharesSpec)

/-- 'laws.FnExactBestOrder', WHERE WHAT IT READS IS OF BULK AT MOST 1048576: true; the input reads as it did. -/
def fnExactBestOrderUptoRow : OpenClaim := { program := "ytekgbblpnfohfaa", sum := "aff6075ea4ccd1a654ea67105027c99b19f0d9967736cb2d17fb6364550d952d", func := "loop.example/g00520/laws.FnExactBestOrder", spec := "fnExactBestOrder", unfollowed := true, recurses := true, apart := false, narrowed := true }
def FnExactBestOrderUptoSaid : Prop := fnExactBestOrderUptoRow.holds Try.pinned (OpenSpec.upto fnExactBestOrderSpec)

/-- 'laws.FnExactBestTrades', WHERE WHAT IT READS IS OF BULK AT MOST 1048576: true; the input reads as it did. -/
def fnExactBestTradesUptoRow : OpenClaim := { program := "ytekgbblpnfohfaa", sum := "aff6075ea4ccd1a654ea67105027c99b19f0d9967736cb2d17fb6364550d952d", func := "loop.example/g00520/laws.FnExactBestTrades", spec := "fnExactBestTrades", unfollowed := true, recurses := true, apart := false, narrowed := true }
def FnExactBestTradesUptoSaid : Prop := fnExactBestTradesUptoRow.holds Try.pinned (OpenSpec.upto fnExactBestTradesSpec)

end Rows
end Go.Proofs.Ytekgbblpnfohfaa
