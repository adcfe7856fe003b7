/-
  No cell of these rows narrows 'for every input' (looked for: loops, veiled, ifaces, maps, wideKeys, modest, calm, conditions, laid).
  DERIVED. THE GIVEN ROWS OF THIS SEAT. 6 by the template 'for every input the law returns true; each argument reads behind the call as it read before'; 0 by the template 'total and deterministic' (their statements: YthjjfkeacobikaaGreatTotals.lean).
  GIVEN WITH THE SEED: the statements are not yours to turn. If you find one false, say at which input.
  Laid BY PROGRAM, IN A SANDBOX (cutbox-rows.mjs): the forced cells as the released guide's own fill.sh prints them over the translation a6d0a2daa3a0d699… (all of the seat's roots in one cut). By AI agents, Wed Nov 11 2026. No macro, syntax, notation, axiom, sorry.
-/
import Derived.Test.YthjjfkeacobikaaGreatChecked
import GoSem.Claim
import GoSem.ClaimJoined
import GoSem.ClaimMapViews
import Derived.JoinedTies
import Derived.KernelRfl
namespace Go.Proofs.YthjjfkeacobikaaGreat
/- THE CELL 'sum', in the pinned program and in every row, IS THE sha256 OF THE DUMP (.gsa) THAT YthjjfkeacobikaaGreatProg.lean LOADS. Nothing in Lean hashes anything: it is a label: what it is worth is what the hold of that sum in a sandbox is worth. -/
noncomputable def Tryz.pinned : Pinned := { name := "ythjjfkeacobikaagreat", sum := "a6d0a2daa3a0d699195dbd3636822854a4d9b2989fa4e57e6bc9519fb7f957be", checked := Tryz.checked }
namespace Rows
def none {H : Type} : Left H := { results := [], args := [] }

/-- 'laws.FnVoting': WHATEVER THE INPUT: true; the input reads as it did. -/
def fnVotingSpec : ChangeSpec := { name := "fnVoting", fn := fun _ => fun
  | [d] => { results := [.lit (.bool true)], args := [d] }
  | _ => none }
def fnVotingRow : OpenClaim := { program := "ythjjfkeacobikaagreat", sum := "a6d0a2daa3a0d699195dbd3636822854a4d9b2989fa4e57e6bc9519fb7f957be", func := "loop.example/g00520/laws.FnVoting", spec := "fnVoting", unfollowed := true, recurses := true, apart := false }
def FnVotingSaid : Prop := fnVotingRow.holds Tryz.pinned (OpenSpec.ofChange fnVotingSpec)

/-- ITS FALSE NEIGHBOUR: 'it returns false'. Refute it at one input. -/
def fnVotingWrong : ChangeSpec := { name := "fnVoting", fn := fun _ => fun
  | [d] => { results := [.lit (.bool false)], args := [d] }
  | _ => none }
def FnVotingWrongFalsely : Prop := fnVotingRow.holds Tryz.pinned (OpenSpec.ofChange fnVotingWrong)

/-- 'laws.FnMarkets': WHATEVER THE INPUT: true; the input reads as it did. -/
def fnMarketsSpec : ChangeSpec := { name := "fnMarkets", fn := fun _ => fun
  | [d] => { results := [.lit (.bool true)], args := [d] }
  | _ => none }
def fnMarketsRow : OpenClaim := { program := "ythjjfkeacobikaagreat", sum := "a6d0a2daa3a0d699195dbd3636822854a4d9b2989fa4e57e6bc9519fb7f957be", func := "loop.example/g00520/laws.FnMarkets", spec := "fnMarkets", unfollowed := true, recurses := true, apart := false }
def FnMarketsSaid : Prop := fnMarketsRow.holds Tryz.pinned (OpenSpec.ofChange fnMarketsSpec)

/-- ITS FALSE NEIGHBOUR: 'it returns false'. Refute it at one input. -/
def fnMarketsWrong : ChangeSpec := { name := "fnMarkets", fn := fun _ => fun
  | [d] => { results := [.lit (.bool false)], args := [d] }
  | _ => none }
def FnMarketsWrongFalsely : Prop := fnMarketsRow.holds Tryz.pinned (OpenSpec.ofChange fnMarketsWrong)

/-- 'laws.FnTalmud': WHATEVER THE INPUT: true; the input reads as it did. -/
def fnTalmudSpec : ChangeSpec := { name := "fnTalmud", fn := fun _ => fun
  | [d] => { results := [.lit (.bool true)], args := [d] }
  | _ => none }
def fnTalmudRow : OpenClaim := { program := "ythjjfkeacobikaagreat", sum := "a6d0a2daa3a0d699195dbd3636822854a4d9b2989fa4e57e6bc9519fb7f957be", func := "loop.example/g00520/laws.FnTalmud", spec := "fnTalmud", unfollowed := true, recurses := true, apart := false }
def FnTalmudSaid : Prop := fnTalmudRow.holds Tryz.pinned (OpenSpec.ofChange fnTalmudSpec)

/-- ITS FALSE NEIGHBOUR: 'it returns false'. Refute it at one input. -/
def fnTalmudWrong : ChangeSpec := { name := "fnTalmud", fn := fun _ => fun
  | [d] => { results := [.lit (.bool false)], args := [d] }
  | _ => none }
def FnTalmudWrongFalsely : Prop := fnTalmudRow.holds Tryz.pinned (OpenSpec.ofChange fnTalmudWrong)

/-- 'laws.FnPure': WHATEVER THE INPUT: true; the input reads as it did. -/
def fnPureSpec : ChangeSpec := { name := "fnPure", fn := fun _ => fun
  | [d] => { results := [.lit (.bool true)], args := [d] }
  | _ => none }
def fnPureRow : OpenClaim := { program := "ythjjfkeacobikaagreat", sum := "a6d0a2daa3a0d699195dbd3636822854a4d9b2989fa4e57e6bc9519fb7f957be", func := "loop.example/g00520/laws.FnPure", spec := "fnPure", unfollowed := true, recurses := true, apart := false }
def FnPureSaid : Prop := fnPureRow.holds Tryz.pinned (OpenSpec.ofChange fnPureSpec)

/-- ITS FALSE NEIGHBOUR: 'it returns false'. Refute it at one input. -/
def fnPureWrong : ChangeSpec := { name := "fnPure", fn := fun _ => fun
  | [d] => { results := [.lit (.bool false)], args := [d] }
  | _ => none }
def FnPureWrongFalsely : Prop := fnPureRow.holds Tryz.pinned (OpenSpec.ofChange fnPureWrong)

/-- 'laws.FnLeastExcesses': WHATEVER THE INPUT: true; the input reads as it did. -/
def fnLeastExcessesSpec : ChangeSpec := { name := "fnLeastExcesses", fn := fun _ => fun
  | [d] => { results := [.lit (.bool true)], args := [d] }
  | _ => none }
def fnLeastExcessesRow : OpenClaim := { program := "ythjjfkeacobikaagreat", sum := "a6d0a2daa3a0d699195dbd3636822854a4d9b2989fa4e57e6bc9519fb7f957be", func := "loop.example/g00520/laws.FnLeastExcesses", spec := "fnLeastExcesses", unfollowed := true, recurses := true, apart := false }
def FnLeastExcessesSaid : Prop := fnLeastExcessesRow.holds Tryz.pinned (OpenSpec.ofChange fnLeastExcessesSpec)

/-- ITS FALSE NEIGHBOUR: 'it returns false'. Refute it at one input. -/
def fnLeastExcessesWrong : ChangeSpec := { name := "fnLeastExcesses", fn := fun _ => fun
  | [d] => { results := [.lit (.bool false)], args := [d] }
  | _ => none }
def FnLeastExcessesWrongFalsely : Prop := fnLeastExcessesRow.holds Tryz.pinned (OpenSpec.ofChange fnLeastExcessesWrong)

/-- 'laws.FnNucleolus': WHATEVER THE INPUT: true; the input reads as it did. -/
def fnNucleolusSpec : ChangeSpec := { name := "fnNucleolus", fn := fun _ => fun
  | [d] => { results := [.lit (.bool true)], args := [d] }
  | _ => none }
def fnNucleolusRow : OpenClaim := { program := "ythjjfkeacobikaagreat", sum := "a6d0a2daa3a0d699195dbd3636822854a4d9b2989fa4e57e6bc9519fb7f957be", func := "loop.example/g00520/laws.FnNucleolus", spec := "fnNucleolus", unfollowed := true, recurses := true, apart := false }
def FnNucleolusSaid : Prop := fnNucleolusRow.holds Tryz.pinned (OpenSpec.ofChange fnNucleolusSpec)

/-- ITS FALSE NEIGHBOUR: 'it returns false'. Refute it at one input. -/
def fnNucleolusWrong : ChangeSpec := { name := "fnNucleolus", fn := fun _ => fun
  | [d] => { results := [.lit (.bool false)], args := [d] }
  | _ => none }
def FnNucleolusWrongFalsely : Prop := fnNucleolusRow.holds Tryz.pinned (OpenSpec.ofChange fnNucleolusWrong)

/- THE SECOND FORM. 'bulk': how many values and letters a reading holds, each counted each time it is reached (what is shared counts as often as it is met; a slice's spare places count too). A statement '..UptoSaid' is the law's where the arguments, and the package variables that the reading takes, are together of bulk at most 1048576: NARROWER than '..Said'. Prove '..Said' where nothing that the law and all that it calls make is longer than what came in: it says more and counts as full. Else prove '..UptoSaid'. A law counts once. -/
mutual
def uptoBulk {H : Type} : DataW H → Nat
  | .lit (.string bytes) => bytes.length + 1
  | .lit _ => 1
  | .nil => 1
  | .ptr d => uptoBulk d + 1
  | .slice elems spare => uptoBulkAll elems + uptoBulkAll spare + 1
  | .agg parts => uptoBulkAll parts + 1
  | .iface _ d => uptoBulk d + 1
  | .map entries => uptoBulkEntries entries + 1
  | .held _ => 1
def uptoBulkAll {H : Type} : List (DataW H) → Nat
  | [] => 0
  | d :: r => uptoBulk d + uptoBulkAll r
def uptoBulkEntries {H : Type} : List (Lit × DataW H) → Nat
  | [] => 0
  | x :: r => uptoBulkEntry x + uptoBulkEntries r
def uptoBulkEntry {H : Type} : Lit × DataW H → Nat
  | (.string bytes, d) => bytes.length + uptoBulk d + 1
  | (_, d) => uptoBulk d + 1
 end
def uptoSmall : (H : Type) → List (DataW H) → Bool := fun _ ds => decide (uptoBulkAll ds ≤ 1048576)
def OpenSpec.upto (s : _root_.Go.ChangeSpec) : _root_.Go.OpenSpec := { _root_.Go.OpenSpec.ofChange s with cond := some uptoSmall }

/-- 'laws.FnVoting', WHERE WHAT IT READS IS OF BULK AT MOST 1048576: true; the input reads as it did. -/
def fnVotingUptoRow : OpenClaim := { program := "ythjjfkeacobikaagreat", sum := "a6d0a2daa3a0d699195dbd3636822854a4d9b2989fa4e57e6bc9519fb7f957be", func := "loop.example/g00520/laws.FnVoting", spec := "fnVoting", unfollowed := true, recurses := true, apart := false, narrowed := true }
def FnVotingUptoSaid : Prop := fnVotingUptoRow.holds Tryz.pinned (OpenSpec.upto fnVotingSpec)

/-- 'laws.FnMarkets', WHERE WHAT IT READS IS OF BULK AT MOST 1048576: true; the input reads as it did. -/
def fnMarketsUptoRow : OpenClaim := { program := "ythjjfkeacobikaagreat", sum := "a6d0a2daa3a0d699195dbd3636822854a4d9b2989fa4e57e6bc9519fb7f957be", func := "loop.example/g00520/laws.FnMarkets", spec := "fnMarkets", unfollowed := true, recurses := true, apart := false, narrowed := true }
def FnMarketsUptoSaid : Prop := fnMarketsUptoRow.holds Tryz.pinned (OpenSpec.upto fnMarketsSpec)

/-- 'laws.FnTalmud', WHERE WHAT IT READS IS OF BULK AT MOST 1048576: true; the input reads as it did. -/
def fnTalmudUptoRow : OpenClaim := { program := "ythjjfkeacobikaagreat", sum := "a6d0a2daa3a0d699195dbd3636822854a4d9b2989fa4e57e6bc9519fb7f957be", func := "loop.example/g00520/laws.FnTalmud", spec := "fnTalmud", unfollowed := true, recurses := true, apart := false, narrowed := true }
def FnTalmudUptoSaid : Prop := fnTalmudUptoRow.holds Tryz.pinned (OpenSpec.upto fnTalmudSpec)

/-- 'laws.FnPure', WHERE WHAT IT READS IS OF BULK AT MOST 1048576: true; the input reads as it did. -/
def fnPureUptoRow : OpenClaim := { program := "ythjjfkeacobikaagreat", sum := "a6d0a2daa3a0d699195dbd3636822854a4d9b2989fa4e57e6bc9519fb7f957be", func := "loop.example/g00520/laws.FnPure", spec := "fnPure", unfollowed := true, recurses := true, apart := false, narrowed := true }
def FnPureUptoSaid : Prop := fnPureUptoRow.holds Tryz.pinned (OpenSpec.upto fnPureSpec)

/-- 'laws.FnLeastExcesses', WHERE WHAT IT READS IS OF BULK AT MOST 1048576: true; the input reads as it did. -/
def fnLeastExcessesUptoRow : OpenClaim := { program := "ythjjfkeacobikaagreat", sum := "a6d0a2daa3a0d699195dbd3636822854a4d9b2989fa4e57e6bc9519fb7f957be", func := "loop.example/g00520/laws.FnLeastExcesses", spec := "fnLeastExcesses", unfollowed := true, recurses := true, apart := false, narrowed := true }
def FnLeastExcessesUptoSaid : Prop := fnLeastExcessesUptoRow.holds Tryz.pinned (OpenSpec.upto fnLeastExcessesSpec)

/-- 'laws.FnNucleolus', WHERE WHAT IT READS IS OF BULK AT MOST 1048576: true; the input reads as it did. -/
def fnNucleolusUptoRow : OpenClaim := { program := "ythjjfkeacobikaagreat", sum := "a6d0a2daa3a0d699195dbd3636822854a4d9b2989fa4e57e6bc9519fb7f957be", func := "loop.example/g00520/laws.FnNucleolus", spec := "fnNucleolus", unfollowed := true, recurses := true, apart := false, narrowed := true }
def FnNucleolusUptoSaid : Prop := fnNucleolusUptoRow.holds Tryz.pinned (OpenSpec.upto fnNucleolusSpec)

end Rows
end Go.Proofs.YthjjfkeacobikaaGreat
