import Derived.Test.YthjjfkeacobikaaGreatVoAllG11
import Derived.Test.YthjjfkeacobikaaGreatVoAllG33
import Derived.Test.YthjjfkeacobikaaGreatVoAllG4
import Derived.Test.YthjjfkeacobikaaGreatVoAllG7
import Derived.Test.YthjjfkeacobikaaGreatVoAllG8
import Derived.Test.YthjjfkeacobikaaGreatVoAllG10
import Derived.Test.YthjjfkeacobikaaGreatVoAllG1
namespace Go.Proofs.YthjjfkeacobikaaGreat
set_option linter.unusedVariables false
set_option linter.unusedSimpArgs false
open Go.RowKit
def coreA (q n : Nat) : List (List Int) := memM q (seqI 1 (n - 1))
def coreB (q : Nat) : List Int := List.replicate q 1
def coreC (V : List Int) : List (Int × Int) := (V.drop 1).map fun v => (-v, 1)
theorem core_both {p : Int} {V : List Int} (h : gameOk p V = true) (A : List (List Int)) (B : List Int) : solveG boundI A B (coreC V) = solveS A B (coreC V) := by
 obtain ⟨q, rfl, _, _, _, _, hb⟩ := gameOk_len h
 refine solve_both fun _ j hj => Or.inl ⟨-((V.drop 1)[j]?.getD 0), ?_, ?_⟩
 ·unfold coreC at hj ⊢
  rw [List.length_map] at hj
  rw [List.getElem?_map, List.getElem?_eq_getElem hj]; rfl
 ·unfold coreC at hj
  rw [List.length_map] at hj
  rw [List.getElem?_eq_getElem hj, Option.getD_some]
  have := hb _ (List.mem_of_mem_drop (List.getElem_mem hj))
  omega
def slackR (g : Int) (r : LpR) : (Int × Int) × Bool := addR (g, 1) r.value
def negY (r : LpR) : List (Int × Int) := r.Y.map negR
def lastR (g : Int) (r : LpR) : (Int × Int) × Bool := addR ((negY r)[(negY r).length - 1]?.getD (0, 0)) (slackR g r).1
def ptR (g : Int) (r : LpR) : List (Int × Int) := (negY r).set ((negY r).length - 1) (lastR g r).1
set_option maxHeartbeats 2000000 in
theorem s_l7Negated (x y : Int) (w : World) (h0 : -9223372036854775807 ≤ x) (h1 : x ≤ 9223372036854775807) :
 Calls Tryz.prog 88 #[ratV x y] w fun e w' => e = .returned (ratV (-x) y) ∧ Ext w w' := by
 go_enter Tryz.func88, Tryz.ntmps88
 go_wp2_with fail
 refine bodyPost_ret (v := ratV (-x) y) (by simp [results, Tryz.results88, go_sem]) rfl ⟨rfl, ?_⟩
 exact (Ext.alloc _ _).trans (Ext.alloc _ _)
end Go.Proofs.YthjjfkeacobikaaGreat
