import Derived.Test.YthjjfkeacobikaaGreatTaAllG18
import Derived.Test.YthjjfkeacobikaaGreatTaAllG43
import Derived.Test.YthjjfkeacobikaaGreatTaAllG4
import Derived.Test.YthjjfkeacobikaaGreatTaAllG7
import Derived.Test.YthjjfkeacobikaaGreatTaAllG8
set_option linter.unusedVariables false
set_option linter.unusedSimpArgs false
namespace Go.Proofs.YthjjfkeacobikaaGreat
open Go.RowKit
set_option maxHeartbeats 2000000 in
theorem s_l7Negated (x y : Int) (w : World) (h0 : -9223372036854775807 ≤ x) (h1 : x ≤ 9223372036854775807) :
 Calls Tryz.prog 88 #[ratV x y] w fun e w' => e = .returned (ratV (-x) y) ∧ Ext w w' := by
 go_enter Tryz.func88, Tryz.ntmps88
 go_wp2_with fail
 refine bodyPost_ret (v := ratV (-x) y) (by simp [results, Tryz.results88, go_sem]) rfl ⟨rfl, ?_⟩
 exact (Ext.alloc _ _).trans (Ext.alloc _ _)
end Go.Proofs.YthjjfkeacobikaaGreat
