/-
  No cell of these rows narrows 'for every input' (looked for: loops, veiled, ifaces, maps, wideKeys, modest, calm, conditions, laid).
  DERIVED. THE GIVEN ROWS OF THIS SEAT. 6 by the template 'for every input the law returns true; each argument reads behind the call as it read before'; 0 by the template 'total and deterministic' (their statements: YtdlkeeimhkgggaaTotals.lean).
  GIVEN WITH THE SEED: the statements are not yours to turn. If you find one false, say at which input.
  Laid BY PROGRAM, IN A SANDBOX (cutbox-rows.mjs): the forced cells as the released guide's own fill.sh prints them over the translation 752434b5c0bc4f36… (all of the seat's roots in one cut). By AI agents, Wed Nov 11 2026. No macro, syntax, notation, axiom, sorry.
-/
import Derived.Test.YtdlkeeimhkgggaaChecked
import GoSem.Claim
import GoSem.ClaimJoined
import GoSem.ClaimMapViews
import Derived.JoinedTies
import Derived.KernelRfl
namespace Go.Proofs.Ytdlkeeimhkgggaa
/- THE CELL 'sum', in the pinned program and in every row, IS THE sha256 OF THE DUMP (.gsa) THAT YtdlkeeimhkgggaaProg.lean LOADS. Nothing in Lean hashes anything: it is a label: what it is worth is what the hold of that sum in a sandbox is worth. -/
noncomputable def Try.pinned : Pinned := { name := "ytdlkeeimhkgggaa", sum := "752434b5c0bc4f367ae89921620dbb04df7032cc2344d87bdde2b858ecca13bf", checked := Try.checked }
namespace Rows
def none {H : Type} : Left H := { results := [], args := [] }

/-- 'laws.FnExactIsValidClaims': WHATEVER THE INPUT: true; the input reads as it did. -/
def fnExactIsValidClaimsSpec : ChangeSpec := { name := "fnExactIsValidClaims", fn := fun _ => fun
  | [d] => { results := [.lit (.bool true)], args := [d] }
  | _ => none }
def fnExactIsValidClaimsRow : OpenClaim := { program := "ytdlkeeimhkgggaa", sum := "752434b5c0bc4f367ae89921620dbb04df7032cc2344d87bdde2b858ecca13bf", func := "loop.example/g00520/laws.FnExactIsValidClaims", spec := "fnExactIsValidClaims", unfollowed := true, recurses := true, apart := false }
def FnExactIsValidClaimsSaid : Prop := fnExactIsValidClaimsRow.holds Try.pinned (OpenSpec.ofChange fnExactIsValidClaimsSpec)

/-- ITS FALSE NEIGHBOUR: 'it returns false'. Refute it at one input. -/
def fnExactIsValidClaimsWrong : ChangeSpec := { name := "fnExactIsValidClaims", fn := fun _ => fun
  | [d] => { results := [.lit (.bool false)], args := [d] }
  | _ => none }
def FnExactIsValidClaimsWrongFalsely : Prop := fnExactIsValidClaimsRow.holds Try.pinned (OpenSpec.ofChange fnExactIsValidClaimsWrong)

/-- 'laws.FnExactIsValidVoting': WHATEVER THE INPUT: true; the input reads as it did. -/
def fnExactIsValidVotingSpec : ChangeSpec := { name := "fnExactIsValidVoting", fn := fun _ => fun
  | [d] => { results := [.lit (.bool true)], args := [d] }
  | _ => none }
def fnExactIsValidVotingRow : OpenClaim := { program := "ytdlkeeimhkgggaa", sum := "752434b5c0bc4f367ae89921620dbb04df7032cc2344d87bdde2b858ecca13bf", func := "loop.example/g00520/laws.FnExactIsValidVoting", spec := "fnExactIsValidVoting", unfollowed := true, recurses := true, apart := false }
def FnExactIsValidVotingSaid : Prop := fnExactIsValidVotingRow.holds Try.pinned (OpenSpec.ofChange fnExactIsValidVotingSpec)

/-- ITS FALSE NEIGHBOUR: 'it returns false'. Refute it at one input. -/
def fnExactIsValidVotingWrong : ChangeSpec := { name := "fnExactIsValidVoting", fn := fun _ => fun
  | [d] => { results := [.lit (.bool false)], args := [d] }
  | _ => none }
def FnExactIsValidVotingWrongFalsely : Prop := fnExactIsValidVotingRow.holds Try.pinned (OpenSpec.ofChange fnExactIsValidVotingWrong)

/-- 'laws.FnExactIsValidMarket': WHATEVER THE INPUT: true; the input reads as it did. -/
def fnExactIsValidMarketSpec : ChangeSpec := { name := "fnExactIsValidMarket", fn := fun _ => fun
  | [d] => { results := [.lit (.bool true)], args := [d] }
  | _ => none }
def fnExactIsValidMarketRow : OpenClaim := { program := "ytdlkeeimhkgggaa", sum := "752434b5c0bc4f367ae89921620dbb04df7032cc2344d87bdde2b858ecca13bf", func := "loop.example/g00520/laws.FnExactIsValidMarket", spec := "fnExactIsValidMarket", unfollowed := true, recurses := true, apart := false }
def FnExactIsValidMarketSaid : Prop := fnExactIsValidMarketRow.holds Try.pinned (OpenSpec.ofChange fnExactIsValidMarketSpec)

/-- ITS FALSE NEIGHBOUR: 'it returns false'. Refute it at one input. -/
def fnExactIsValidMarketWrong : ChangeSpec := { name := "fnExactIsValidMarket", fn := fun _ => fun
  | [d] => { results := [.lit (.bool false)], args := [d] }
  | _ => none }
def FnExactIsValidMarketWrongFalsely : Prop := fnExactIsValidMarketRow.holds Try.pinned (OpenSpec.ofChange fnExactIsValidMarketWrong)

/-- 'laws.FnExactAllOrders': WHATEVER THE INPUT: true; the input reads as it did. -/
def fnExactAllOrdersSpec : ChangeSpec := { name := "fnExactAllOrders", fn := fun _ => fun
  | [d] => { results := [.lit (.bool true)], args := [d] }
  | _ => none }
def fnExactAllOrdersRow : OpenClaim := { program := "ytdlkeeimhkgggaa", sum := "752434b5c0bc4f367ae89921620dbb04df7032cc2344d87bdde2b858ecca13bf", func := "loop.example/g00520/laws.FnExactAllOrders", spec := "fnExactAllOrders", unfollowed := true, recurses := true, apart := false }
def FnExactAllOrdersSaid : Prop := fnExactAllOrdersRow.holds Try.pinned (OpenSpec.ofChange fnExactAllOrdersSpec)

/-- ITS FALSE NEIGHBOUR: 'it returns false'. Refute it at one input. -/
def fnExactAllOrdersWrong : ChangeSpec := { name := "fnExactAllOrders", fn := fun _ => fun
  | [d] => { results := [.lit (.bool false)], args := [d] }
  | _ => none }
def FnExactAllOrdersWrongFalsely : Prop := fnExactAllOrdersRow.holds Try.pinned (OpenSpec.ofChange fnExactAllOrdersWrong)

/-- 'laws.FnExactRankOf': WHATEVER THE INPUT: true; the input reads as it did. -/
def fnExactRankOfSpec : ChangeSpec := { name := "fnExactRankOf", fn := fun _ => fun
  | [d1, d2] => { results := [.lit (.bool true)], args := [d1, d2] }
  | _ => none }
def fnExactRankOfRow : OpenClaim := { program := "ytdlkeeimhkgggaa", sum := "752434b5c0bc4f367ae89921620dbb04df7032cc2344d87bdde2b858ecca13bf", func := "loop.example/g00520/laws.FnExactRankOf", spec := "fnExactRankOf", unfollowed := true, recurses := true, apart := false }
def FnExactRankOfSaid : Prop := fnExactRankOfRow.holds Try.pinned (OpenSpec.ofChange fnExactRankOfSpec)

/-- ITS FALSE NEIGHBOUR: 'it returns false'. Refute it at one input. -/
def fnExactRankOfWrong : ChangeSpec := { name := "fnExactRankOf", fn := fun _ => fun
  | [d1, d2] => { results := [.lit (.bool false)], args := [d1, d2] }
  | _ => none }
def FnExactRankOfWrongFalsely : Prop := fnExactRankOfRow.holds Try.pinned (OpenSpec.ofChange fnExactRankOfWrong)

/-- 'laws.FnExactIsDictator': WHATEVER THE INPUT: true; the input reads as it did. -/
def fnExactIsDictatorSpec : ChangeSpec := { name := "fnExactIsDictator", fn := fun _ => fun
  | [d1, d2] => { results := [.lit (.bool true)], args := [d1, d2] }
  | _ => none }
def fnExactIsDictatorRow : OpenClaim := { program := "ytdlkeeimhkgggaa", sum := "752434b5c0bc4f367ae89921620dbb04df7032cc2344d87bdde2b858ecca13bf", func := "loop.example/g00520/laws.FnExactIsDictator", spec := "fnExactIsDictator", unfollowed := true, recurses := true, apart := false }
def FnExactIsDictatorSaid : Prop := fnExactIsDictatorRow.holds Try.pinned (OpenSpec.ofChange fnExactIsDictatorSpec)

/-- ITS FALSE NEIGHBOUR: 'it returns false'. Refute it at one input. -/
def fnExactIsDictatorWrong : ChangeSpec := { name := "fnExactIsDictator", fn := fun _ => fun
  | [d1, d2] => { results := [.lit (.bool false)], args := [d1, d2] }
  | _ => none }
def FnExactIsDictatorWrongFalsely : Prop := fnExactIsDictatorRow.holds Try.pinned (OpenSpec.ofChange fnExactIsDictatorWrong)

/- THE SECOND FORM. 'bulk': how many values and letters a reading holds, each counted each time it is reached (what is shared counts as often as it is met; a slice's spare places count too). A statement '..UptoSaid' is the law's where the arguments, and the package variables that the reading takes, are together of bulk at most 1048576: NARROWER than '..Said'. Prove '..Said' where nothing that the law and all that it calls make is longer than what came in: it says more and counts as full. Else prove '..UptoSaid'. A law counts once. -/
mutual
def uptoBulk {H : Type} : DataW H → Nat
  | .lit (.string bytes) => bytes.length + 1
  | .lit _ => 1
  | .nil => 1
  | .ptr d => uptoBulk d + 1
  | .slice elems spare => uptoBulkAll elems + uptoBulkAll spare + 1
  | .agg parts => uptoBulkAll parts + 1
  | .iface _ d => uptoBulk d + 1
  | .map entries => uptoBulkEntries entries + 1
  | .held _ => 1
def uptoBulkAll {H : Type} : List (DataW H) → Nat
  | [] => 0
  | d :: r => uptoBulk d + uptoBulkAll r
def uptoBulkEntries {H : Type} : List (Lit × DataW H) → Nat
  | [] => 0
  | x :: r => uptoBulkEntry x + uptoBulkEntries r
def uptoBulkEntry {H : Type} : Lit × DataW H → Nat
  | (.string bytes, d) => bytes.length + uptoBulk d + 1
  | (_, d) => uptoBulk d + 1
 end
def uptoSmall : (H : Type) → List (DataW H) → Bool := fun _ ds => decide (uptoBulkAll ds ≤ 1048576)
def OpenSpec.upto (s : _root_.Go.ChangeSpec) : _root_.Go.OpenSpec := { _root_.Go.OpenSpec.ofChange s with cond := some uptoSmall }

/-- 'laws.FnExactIsValidClaims', WHERE WHAT IT READS IS OF BULK AT MOST 1048576: true; the input reads as it did. -/
def fnExactIsValidClaimsUptoRow : OpenClaim := { program := "ytdlkeeimhkgggaa", sum := "752434b5c0bc4f367ae89921620dbb04df7032cc2344d87bdde2b858ecca13bf", func := "loop.example/g00520/laws.FnExactIsValidClaims", spec := "fnExactIsValidClaims", unfollowed := true, recurses := true, apart := false, narrowed := true }
def FnExactIsValidClaimsUptoSaid : Prop := fnExactIsValidClaimsUptoRow.holds Try.pinned (OpenSpec.upto fnExactIsValidClaimsSpec)

/-- 'laws.FnExactIsValidVoting', WHERE WHAT IT READS IS OF BULK AT MOST 1048576: true; the input reads as it did. -/
def fnExactIsValidVotingUptoRow : OpenClaim := { program := "ytdlkeeimhkgggaa", sum := "752434b5c0bc4f367ae89921620dbb04df7032cc2344d87bdde2b858ecca13bf", func := "loop.example/g00520/laws.FnExactIsValidVoting", spec := "fnExactIsValidVoting", unfollowed := true, recurses := true, apart := false, narrowed := true }
def FnExactIsValidVotingUptoSaid : Prop := fnExactIsValidVotingUptoRow.holds Try.pinned (OpenSpec.upto fnExactIsValidVotingSpec)

/-- 'laws.FnExactIsValidMarket', WHERE WHAT IT READS IS OF BULK AT MOST 1048576: true; the input reads as it did. -/
def fnExactIsValidMarketUptoRow : OpenClaim := { program := "ytdlkeeimhkgggaa", sum := "752434b5c0bc4f367ae89921620dbb04df7032cc2344d87bdde2b858ecca13bf", func := "loop.example/g00520/laws.FnExactIsValidMarket", spec := "fnExactIsValidMarket", unfollowed := true, recurses := true, apart := false, narrowed := true }
def FnExactIsValidMarketUptoSaid : Prop := fnExactIsValidMarketUptoRow.holds Try.pinned (OpenSpec.upto fnExactIsValidMarketSpec)

/-- 'laws.FnExactAllOrders', WHERE WHAT IT READS IS OF BULK AT MOST 1048576: true; the input reads as it did. -/
def fnExactAllOrdersUptoRow : OpenClaim := { program := "ytdlkeeimhkgggaa", sum := "752434b5c0bc4f367ae89921620dbb04df7032cc2344d87bdde2b858ecca13bf", func := "loop.example/g00520/laws.FnExactAllOrders", spec := "fnExactAllOrders", unfollowed := true, recurses := true, apart := false, narrowed := true }
def FnExactAllOrdersUptoSaid : Prop := fnExactAllOrdersUptoRow.holds Try.pinned (OpenSpec.upto fnExactAllOrdersSpec)

/-- 'laws.FnExactRankOf', WHERE WHAT IT READS IS OF BULK AT MOST 1048576: true; the input reads as it did. -/
def fnExactRankOfUptoRow : OpenClaim := { program := "ytdlkeeimhkgggaa", sum := "752434b5c0bc4f367ae89921620dbb04df7032cc2344d87bdde2b858ecca13bf", func := "loop.example/g00520/laws.FnExactRankOf", spec := "fnExactRankOf", unfollowed := true, recurses := true, apart := false, narrowed := true }
def FnExactRankOfUptoSaid : Prop := fnExactRankOfUptoRow.holds Try.pinned (OpenSpec.upto fnExactRankOfSpec)

/-- 'laws.FnExactIsDictator', WHERE WHAT IT READS IS OF BULK AT MOST 1048576: true; the input reads as it did. -/
def fnExactIsDictatorUptoRow : OpenClaim := { program := "ytdlkeeimhkgggaa", sum := "752434b5c0bc4f367ae89921620dbb04df7032cc2344d87bdde2b858ecca13bf", func := "loop.example/g00520/laws.FnExactIsDictator", spec := "fnExactIsDictator", unfollowed := true, recurses := true, apart := false, narrowed := true }
def FnExactIsDictatorUptoSaid : Prop := fnExactIsDictatorUptoRow.holds Try.pinned (OpenSpec.upto fnExactIsDictatorSpec)

end Rows
end Go.Proofs.Ytdlkeeimhkgggaa
