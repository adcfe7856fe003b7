/-
  No cell of these rows narrows 'for every input' (looked for: loops, veiled, ifaces, maps, wideKeys, modest, calm, conditions, laid).
  DERIVED. THE GIVEN ROWS OF THIS SEAT. 5 by the template 'for every input the law returns true; each argument reads behind the call as it read before'; 0 by the template 'total and deterministic' (their statements: YtgohdmnbnhehnaaTotals.lean).
  GIVEN WITH THE SEED: the statements are not yours to turn. If you find one false, say at which input.
  Laid BY PROGRAM, IN A SANDBOX (cutbox-rows.mjs): the forced cells as the released guide's own fill.sh prints them over the translation d771290c0d9a70a8… (all of the seat's roots in one cut). By AI agents, Wed Nov 11 2026. No macro, syntax, notation, axiom, sorry.
-/
import Derived.Test.YtgohdmnbnhehnaaChecked
import GoSem.Claim
import GoSem.ClaimJoined
import GoSem.ClaimMapViews
import Derived.JoinedTies
import Derived.KernelRfl
namespace Go.Proofs.Ytgohdmnbnhehnaa
/- THE CELL 'sum', in the pinned program and in every row, IS THE sha256 OF THE DUMP (.gsa) THAT YtgohdmnbnhehnaaProg.lean LOADS. Nothing in Lean hashes anything: it is a label: what it is worth is what the hold of that sum in a sandbox is worth. -/
noncomputable def Try.pinned : Pinned := { name := "ytgohdmnbnhehnaa", sum := "d771290c0d9a70a8593816254ccd6e951bf4b575b503635f65cd5075167a8240", checked := Try.checked }
namespace Rows
def none {H : Type} : Left H := { results := [], args := [] }

/-- 'laws.FnPlayers': WHATEVER THE INPUT: true; the input reads as it did. -/
def fnPlayersSpec : ChangeSpec := { name := "fnPlayers", fn := fun _ => fun
  | [d] => { results := [.lit (.bool true)], args := [d] }
  | _ => none }
def fnPlayersRow : OpenClaim := { program := "ytgohdmnbnhehnaa", sum := "d771290c0d9a70a8593816254ccd6e951bf4b575b503635f65cd5075167a8240", func := "loop.example/g00520/laws.FnPlayers", spec := "fnPlayers", unfollowed := true, recurses := true, apart := false }
def FnPlayersSaid : Prop := fnPlayersRow.holds Try.pinned (OpenSpec.ofChange fnPlayersSpec)

/-- ITS FALSE NEIGHBOUR: 'it returns false'. Refute it at one input. -/
def fnPlayersWrong : ChangeSpec := { name := "fnPlayers", fn := fun _ => fun
  | [d] => { results := [.lit (.bool false)], args := [d] }
  | _ => none }
def FnPlayersWrongFalsely : Prop := fnPlayersRow.holds Try.pinned (OpenSpec.ofChange fnPlayersWrong)

/-- 'laws.FnShapley': WHATEVER THE INPUT: true; the input reads as it did. -/
def fnShapleySpec : ChangeSpec := { name := "fnShapley", fn := fun _ => fun
  | [d] => { results := [.lit (.bool true)], args := [d] }
  | _ => none }
def fnShapleyRow : OpenClaim := { program := "ytgohdmnbnhehnaa", sum := "d771290c0d9a70a8593816254ccd6e951bf4b575b503635f65cd5075167a8240", func := "loop.example/g00520/laws.FnShapley", spec := "fnShapley", unfollowed := true, recurses := true, apart := false }
def FnShapleySaid : Prop := fnShapleyRow.holds Try.pinned (OpenSpec.ofChange fnShapleySpec)

/-- ITS FALSE NEIGHBOUR: 'it returns false'. Refute it at one input. -/
def fnShapleyWrong : ChangeSpec := { name := "fnShapley", fn := fun _ => fun
  | [d] => { results := [.lit (.bool false)], args := [d] }
  | _ => none }
def FnShapleyWrongFalsely : Prop := fnShapleyRow.holds Try.pinned (OpenSpec.ofChange fnShapleyWrong)

/-- 'laws.FnConvex': WHATEVER THE INPUT: true; the input reads as it did. -/
def fnConvexSpec : ChangeSpec := { name := "fnConvex", fn := fun _ => fun
  | [d] => { results := [.lit (.bool true)], args := [d] }
  | _ => none }
def fnConvexRow : OpenClaim := { program := "ytgohdmnbnhehnaa", sum := "d771290c0d9a70a8593816254ccd6e951bf4b575b503635f65cd5075167a8240", func := "loop.example/g00520/laws.FnConvex", spec := "fnConvex", unfollowed := true, recurses := true, apart := false }
def FnConvexSaid : Prop := fnConvexRow.holds Try.pinned (OpenSpec.ofChange fnConvexSpec)

/-- ITS FALSE NEIGHBOUR: 'it returns false'. Refute it at one input. -/
def fnConvexWrong : ChangeSpec := { name := "fnConvex", fn := fun _ => fun
  | [d] => { results := [.lit (.bool false)], args := [d] }
  | _ => none }
def FnConvexWrongFalsely : Prop := fnConvexRow.holds Try.pinned (OpenSpec.ofChange fnConvexWrong)

/-- 'laws.FnShares': WHATEVER THE INPUT: true; the input reads as it did. -/
def fnSharesSpec : ChangeSpec := { name := "fnShares", fn := fun _ => fun
  | [d] => { results := [.lit (.bool true)], args := [d] }
  | _ => none }
def fnSharesRow : OpenClaim := { program := "ytgohdmnbnhehnaa", sum := "d771290c0d9a70a8593816254ccd6e951bf4b575b503635f65cd5075167a8240", func := "loop.example/g00520/laws.FnShares", spec := "fnShares", unfollowed := true, recurses := true, apart := false }
def FnSharesSaid : Prop := fnSharesRow.holds Try.pinned (OpenSpec.ofChange fnSharesSpec)

/-- ITS FALSE NEIGHBOUR: 'it returns false'. Refute it at one input. -/
def fnSharesWrong : ChangeSpec := { name := "fnShares", fn := fun _ => fun
  | [d] => { results := [.lit (.bool false)], args := [d] }
  | _ => none }
def FnSharesWrongFalsely : Prop := fnSharesRow.holds Try.pinned (OpenSpec.ofChange fnSharesWrong)

/-- 'laws.FnExactLevelsOf': WHATEVER THE INPUT: true; the input reads as it did. -/
def fnExactLevelsOfSpec : ChangeSpec := { name := "fnExactLevelsOf", fn := fun _ => fun
  | [d1, d2] => { results := [.lit (.bool true)], args := [d1, d2] }
  | _ => none }
def fnExactLevelsOfRow : OpenClaim := { program := "ytgohdmnbnhehnaa", sum := "d771290c0d9a70a8593816254ccd6e951bf4b575b503635f65cd5075167a8240", func := "loop.example/g00520/laws.FnExactLevelsOf", spec := "fnExactLevelsOf", unfollowed := true, recurses := true, apart := false }
def FnExactLevelsOfSaid : Prop := fnExactLevelsOfRow.holds Try.pinned (OpenSpec.ofChange fnExactLevelsOfSpec)

/-- ITS FALSE NEIGHBOUR: 'it returns false'. Refute it at one input. -/
def fnExactLevelsOfWrong : ChangeSpec := { name := "fnExactLevelsOf", fn := fun _ => fun
  | [d1, d2] => { results := [.lit (.bool false)], args := [d1, d2] }
  | _ => none }
def FnExactLevelsOfWrongFalsely : Prop := fnExactLevelsOfRow.holds Try.pinned (OpenSpec.ofChange fnExactLevelsOfWrong)

/- THE SECOND FORM. 'bulk': how many values and letters a reading holds, each counted each time it is reached (what is shared counts as often as it is met; a slice's spare places count too). A statement '..UptoSaid' is the law's where the arguments, and the package variables that the reading takes, are together of bulk at most 1048576: NARROWER than '..Said'. Prove '..Said' where nothing that the law and all that it calls make is longer than what came in: it says more and counts as full. Else prove '..UptoSaid'. A law counts once. -/
mutual
def uptoBulk {H : Type} : DataW H → Nat
  | .lit (.string bytes) => bytes.length + 1
  | .lit _ => 1
  | .nil => 1
  | .ptr d => uptoBulk d + 1
  | .slice elems spare => uptoBulkAll elems + uptoBulkAll spare + 1
  | .agg parts => uptoBulkAll parts + 1
  | .iface _ d => uptoBulk d + 1
  | .map entries => uptoBulkEntries entries + 1
  | .held _ => 1
def uptoBulkAll {H : Type} : List (DataW H) → Nat
  | [] => 0
  | d :: r => uptoBulk d + uptoBulkAll r
def uptoBulkEntries {H : Type} : List (Lit × DataW H) → Nat
  | [] => 0
  | x :: r => uptoBulkEntry x + uptoBulkEntries r
def uptoBulkEntry {H : Type} : Lit × DataW H → Nat
  | (.string bytes, d) => bytes.length + uptoBulk d + 1
  | (_, d) => uptoBulk d + 1
 end
def uptoSmall : (H : Type) → List (DataW H) → Bool := fun _ ds => decide (uptoBulkAll ds ≤ 1048576)
def OpenSpec.upto (s : _root_.Go.ChangeSpec) : _root_.Go.OpenSpec := { _root_.Go.OpenSpec.ofChange s with cond := some uptoSmall }

/-- 'laws.FnPlayers', WHERE WHAT IT READS IS OF BULK AT MOST 1048576: true; the input reads as it did. -/
def fnPlayersUptoRow : OpenClaim := { program := "ytgohdmnbnhehnaa", sum := "d771290c0d9a70a8593816254ccd6e951bf4b575b503635f65cd5075167a8240", func := "loop.example/g00520/laws.FnPlayers", spec := "fnPlayers", unfollowed := true, recurses := true, apart := false, narrowed := true }
def FnPlayersUptoSaid : Prop := fnPlayersUptoRow.holds Try.pinned (OpenSpec.upto fnPlayersSpec)

/-- 'laws.FnShapley', WHERE WHAT IT READS IS OF BULK AT MOST 1048576: true; the input reads as it did. -/
def fnShapleyUptoRow : OpenClaim := { program := "ytgohdmnbnhehnaa", sum := "d771290c0d9a70a8593816254ccd6e951bf4b575b503635f65cd5075167a8240", func := "loop.example/g00520/laws.FnShapley", spec := "fnShapley", unfollowed := true, recurses := true, apart := false, narrowed := true }
def FnShapleyUptoSaid : Prop := fnShapleyUptoRow.holds Try.pinned (OpenSpec.upto fnShapleySpec)

/-- 'laws.FnConvex', WHERE WHAT IT READS IS OF BULK AT MOST 1048576: true; the input reads as it did. -/
def fnConvexUptoRow : OpenClaim := { program := "ytgohdmnbnhehnaa", sum := "d771290c0d9a70a8593816254ccd6e951bf4b575b503635f65cd5075167a8240", func := "loop.example/g00520/laws.FnConvex", spec := "fnConvex", unfollowed := true, recurses := true, apart := false, narrowed := true }
def FnConvexUptoSaid : Prop := fnConvexUptoRow.holds Try.pinned (OpenSpec.upto fnConvexSpec)

/-- 'laws.FnShares', WHERE WHAT IT READS IS OF BULK AT MOST 1048576: true; the input reads as it did. -/
def fnSharesUptoRow : OpenClaim := { program := "ytgohdmnbnhehnaa", sum := "d771290c0d9a70a8593816254ccd6e951bf4b575b503635f65cd5075167a8240", func := "loop.example/g00520/laws.FnShares", spec := "fnShares", unfollowed := true, recurses := true, apart := false, narrowed := true }
def FnSharesUptoSaid : Prop := fnSharesUptoRow.holds Try.pinned (OpenSpec.upto fnSharesSpec)

/-- 'laws.FnExactLevelsOf', WHERE WHAT IT READS IS OF BULK AT MOST 1048576: true; the input reads as it did. -/
def fnExactLevelsOfUptoRow : OpenClaim := { program := "ytgohdmnbnhehnaa", sum := "d771290c0d9a70a8593816254ccd6e951bf4b575b503635f65cd5075167a8240", func := "loop.example/g00520/laws.FnExactLevelsOf", spec := "fnExactLevelsOf", unfollowed := true, recurses := true, apart := false, narrowed := true }
def FnExactLevelsOfUptoSaid : Prop := fnExactLevelsOfUptoRow.holds Try.pinned (OpenSpec.upto fnExactLevelsOfSpec)

end Rows
end Go.Proofs.Ytgohdmnbnhehnaa
