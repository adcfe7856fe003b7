/- The Shapley value as the average of what the players add in all orders. Plain. -/
import Derived.Test.YtgohdmnbnhehnaaShapM
import Derived.Test.YtgohdmnbnhehnaaMarg
import Derived.Test.YtgohdmnbnhehnaaOrders2
namespace Go.Proofs.Ytgohdmnbnhehnaa
set_option linter.unusedVariables false
open Go.RowKit

/-- What the players add in an order, as sums of values with factors. -/
def mvE (n : Nat) (ord : List Int) : Nat → List (List (Nat × Int))
  | 0 => List.replicate n []
  | k + 1 => (mvE n ord k).set (pos ord k) [(sN ord (k + 1), 1), (sN ord k, -1)]
theorem mvE_eval (n : Nat) (V ord : List Int) : ∀ k, mvL n V ord k = (mvE n ord k).map fun e => evalE e V
  | 0 => by simp [mvL, mvE, evalE]
  | k + 1 => by
    unfold mvL mvE
    rw [List.map_set, mvE_eval n V ord k]
    congr 1
    simp [evalE]; omega
theorem mvE_len (n : Nat) (ord : List Int) : ∀ k, (mvE n ord k).length = n
  | 0 => by simp [mvE]
  | k + 1 => by simp [mvE, mvE_len n ord k]
theorem mvE_at (n : Nat) (V ord : List Int) (m k : Nat) : (mvL n V ord m)[k]?.getD 0 = evalE ((mvE n ord m)[k]?.getD []) V := by
  rw [mvE_eval, List.getElem?_map]
  cases (mvE n ord m)[k]? <;> rfl
def ordE (n k : Nat) : List (Nat × Int) := (ordersF n n []).flatMap fun ord => (mvE n ord n)[k]?.getD []
theorem sum_evalG {α : Type} (V : List Int) (f : α → List (Nat × Int)) : ∀ l : List α, evalE (l.flatMap f) V = (l.map fun k => evalE (f k) V).sum
  | [] => rfl
  | k :: l => by rw [List.flatMap_cons, evalE_append, sum_evalG V f l, List.map_cons, List.sum_cons]
theorem ord_dec : ∀ n : Fin 6, ∀ k : Fin 5, k.val < n.val → ((ordE n.val k.val ++ avgE (shV n.val) k.val (cN n.val)).all (fun p => decide (p.1 < 32)) && (List.range 32).all (fun t => decide (coefE (ordE n.val k.val) t = coefE (avgE (shV n.val) k.val (cN n.val)) t))) = true := by decide +kernel
theorem ord_sum {n k : Nat} (h5 : n ≤ 5) (hk : k < n) (V : List Int) : ((ordersF n n []).map fun ord => (mvL n V ord n)[k]?.getD 0).sum = avgS (shV n) V k (cN n) := by
  have hd := ord_dec ⟨n, by omega⟩ ⟨k, by omega⟩ hk
  rw [Bool.and_eq_true] at hd
  have h := evalE_same hd.1 hd.2 V
  rw [avgE_eval] at h
  rw [← h]
  unfold ordE
  rw [sum_evalG]
  congr 1
  exact List.map_congr_left fun ord _ => mvE_at n V ord n k
theorem ord_count : ∀ n : Fin 6, ((ordersF n.val n.val []).length : Int) = factN n.val := by decide +kernel

end Go.Proofs.Ytgohdmnbnhehnaa
