/- Marking the rows of copies that a law made. -/
import Derived.Test.YtokpmflhgehicaaClaims
import Derived.Test.YtokpmflhgehicaaOwn
namespace Go.Proofs.Ytokpmflhgehicaa
set_option linter.unusedVariables false
open Go.RowKit

theorem l_markClaims {w : World} {x : Int} {base : Nat} {a : Option Addr} {n cap : Nat} {l : List Int} (h : OwnI w base (.slice a n cap) l) (k0 : Int) (h0 : 0 ≤ k0) (h1 : k0 + n ≤ 4611686018427387904) :
    Calls Try.prog 25 #[pair x a n cap, .int .i64 k0] w fun e w' => e = .returned (.int .i64 (k0 + n)) ∧ OwnI w' base (.slice a n cap) (seqI k0 n) ∧ w.grownBy w' (Value.slice a n cap).ownBlock := by
  have HO := Lib.hid (h.ext (Ext.alloc w (.cells #[.int .i64 x, .slice a n cap] 40)))
  clear h
  go_enter Try.func25, Try.ntmps25
  go_wp2_with fail
  refine (l_markIntS HO.out k0 h0 h1).mono ?_
  rintro e w1 ⟨rfl, ho, hg, hs⟩
  have HO1 := Lib.hid ho
  have HG := Lib.hid (grown_trans (grown_ext (Value.slice a n cap).ownBlock (Ext.alloc w (.cells #[.int .i64 x, .slice a n cap] 40))) hg (fun k hk => .inl hk))
  clear ho hg hs
  go_wp2
  go_ret
  exact ⟨rfl, HO1.out, HG.out⟩

end Go.Proofs.Ytokpmflhgehicaa
