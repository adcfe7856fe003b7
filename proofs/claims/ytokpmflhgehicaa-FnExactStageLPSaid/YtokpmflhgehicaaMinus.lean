/- A fraction with the other sign, on both sides. -/
import Derived.Test.YtokpmflhgehicaaRatOps
import Derived.Test.YtokpmflhgehicaaRatA
namespace Go.Proofs.Ytokpmflhgehicaa
set_option linter.unusedVariables false
set_option linter.unusedSimpArgs false
open Go.RowKit

set_option maxHeartbeats 2000000 in
theorem i_minus (x y : Int) (w : World) (h0 : -9223372036854775807 ≤ x) (h1 : x ≤ 9223372036854775807) :
    Calls Try.prog 134 #[ratV x y] w fun e w' => e = .returned (ratV (-x) y) ∧ Ext w w' := by
  go_enter Try.func134, Try.ntmps134
  go_wp2_with fail
  refine bodyPost_ret (v := ratV (-x) y) (by simp [results, Try.results134, go_sem]) rfl ⟨rfl, ?_⟩
  exact (Ext.alloc _ _).trans (Ext.alloc _ _)

set_option maxHeartbeats 2000000 in
theorem s_l7Negated (x y : Int) (w : World) (h0 : -9223372036854775807 ≤ x) (h1 : x ≤ 9223372036854775807) :
    Calls Try.prog 172 #[ratV x y] w fun e w' => e = .returned (ratV (-x) y) ∧ Ext w w' := by
  go_enter Try.func172, Try.ntmps172
  go_wp2_with fail
  refine bodyPost_ret (v := ratV (-x) y) (by simp [results, Try.results172, go_sem]) rfl ⟨rfl, ?_⟩
  exact (Ext.alloc _ _).trans (Ext.alloc _ _)

end Go.Proofs.Ytokpmflhgehicaa
