import Derived.Test.YtgohdmnbnhehnaaGreatGwAllG6
import Derived.Test.YtgohdmnbnhehnaaGreatGwAllG3
import Derived.Deep.DeepCutAuto
namespace Go.Proofs.YtgohdmnbnhehnaaGreat
set_option linter.unusedVariables false
set_option linter.unusedSimpArgs false
open Go.RowKit
structure Fixs (w : World) (a : Option Addr) (n cap : Nat) (l : List (Int × Int × Int)) : Prop where
 hlen : l.length = n
 hcap : n ≤ cap
 hmax : cap ≤ 9223372036854775807
 cell : ∀ k, k < n → ∃ b off, a = some ⟨b, off, none⟩ ∧ ∀ k, k < n → w.cell? ⟨b, off + k * 3, none⟩ = some (.int .i64 (l[k]?.getD (0, 0, 0)).1) ∧ w.cell? ⟨b, off + k * 3 + 1, none⟩ = some (.int .i64 (l[k]?.getD (0, 0, 0)).2.1) ∧ w.cell? ⟨b, off + k * 3 + 2, none⟩ = some (.int .i64 (l[k]?.getD (0, 0, 0)).2.2)
def fixC (p : Int × Int × Int) : List Value := [.int .i64 p.1, .int .i64 p.2.1, .int .i64 p.2.2]
def fixCells (l : List (Int × Int × Int)) : Array Value := (l.flatMap fixC).toArray
theorem fixC_at : ∀ (l : List (Int × Int × Int)) (k : Nat), k < l.length → (l.flatMap fixC)[k * 3]? = some (.int .i64 (l[k]?.getD (0, 0, 0)).1) ∧ (l.flatMap fixC)[k * 3 + 1]? = some (.int .i64 (l[k]?.getD (0, 0, 0)).2.1) ∧ (l.flatMap fixC)[k * 3 + 2]? = some (.int .i64 (l[k]?.getD (0, 0, 0)).2.2)
 | [], k, h => absurd h (by simp)
 | p :: l, 0, _ => by simp [fixC]
 | p :: l, k + 1, h => by
   have := fixC_at l k (by simpa using h)
   rw [show (k + 1) * 3 = k * 3 + 1 + 1 + 1 by omega]
   simpa [fixC] using this
theorem fixC_set : ∀ (l : List (Int × Int × Int)) (k : Nat) (x y z : Int), k < l.length → (((l.flatMap fixC).set (k * 3) (.int .i64 x)).set (k * 3 + 1) (.int .i64 y)).set (k * 3 + 2) (.int .i64 z) = (l.set k (x, y, z)).flatMap fixC
 | [], k, _, _, _, h => absurd h (by simp)
 | p :: l, 0, _, _, _, _ => by simp [fixC]
 | p :: l, k + 1, x, y, z, h => by
   have := fixC_set l k x y z (by simpa using h)
   rw [show (k + 1) * 3 = k * 3 + 1 + 1 + 1 by omega]
   simpa [fixC] using this
def FRow (w : World) (b : Nat) (t : TypeId) (l : List (Int × Int × Int)) : Prop := w.heap[b]? = some (.cells (fixCells l) t (0, 0))
end Go.Proofs.YtgohdmnbnhehnaaGreat
