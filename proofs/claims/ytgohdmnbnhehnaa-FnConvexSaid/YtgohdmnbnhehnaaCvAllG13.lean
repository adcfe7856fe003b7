import Derived.Test.YtgohdmnbnhehnaaCvAllG12
import Derived.Test.YtgohdmnbnhehnaaCvAllG7
import Derived.Test.YtgohdmnbnhehnaaCvAllG8
import Derived.Test.YtgohdmnbnhehnaaCvAllG11
namespace Go.Proofs.Ytgohdmnbnhehnaa
set_option linter.unusedVariables false
open Go.RowKit
theorem mvL_bd {n : Nat} {V : List Int} (hV : ∀ x ∈ V, -500 ≤ x ∧ x ≤ 500) (ord : List Int) (j : Nat) : ∀ m, -1000 ≤ (mvL n V ord m)[j]?.getD 0 ∧ (mvL n V ord m)[j]?.getD 0 ≤ 1000
  | 0 => by
    unfold mvL
    by_cases h : j < n
    · simp [h]
    · rw [List.getElem?_eq_none (by simp; omega)]; simp
  | m + 1 => by
    unfold mvL
    have ih := mvL_bd (n := n) hV ord j m
    have h1 := getD_bd hV (sN ord (m + 1))
    have h2 := getD_bd hV (sN ord m)
    by_cases e : j = pos ord m
    · subst e
      by_cases hj : pos ord m < (mvL n V ord m).length
      · rw [List.getElem?_set_self hj]; simp only [Option.getD_some]; omega
      · rw [List.getElem?_eq_none (by simp; omega)]; simp
    · rw [List.getElem?_set_ne (Ne.symm e)]; exact ih
theorem ordersOf_F {n : Nat} (h1 : 1 ≤ n) (h5 : n ≤ 5) : ordersOf (n : Int) = ordersF n n [] := by
  unfold ordersOf; rw [if_pos (by omega), Int.toNat_natCast]
theorem shapL_len' {n : Nat} {V : List Int} (h : gameOk (n : Int) V = true) : (shapL (n : Int) V).length = n := by rw [shapL_ok h, avgT_len]
end Go.Proofs.Ytgohdmnbnhehnaa
namespace Go.Proofs.Ytgohdmnbnhehnaa
set_option linter.unusedVariables false
open Go.RowKit
def excR (v : Int) (r : Int × Int) : Option (Int × Int) := if (subR (v, 1) r).2 = true then some (subR (v, 1) r).1 else none
def excS (V : List Int) (X : List (Int × Int)) (s : Nat) : Option (Int × Int) := (shareP X s).bind (excR (V[s]?.getD 0))
def excL (V : List Int) (X : List (Int × Int)) (lo m : Nat) : Option (List (Int × Int)) := runT (fun k => excS V X (lo + k)) m
def allX (p : Int) (V : List Int) (X : List (Int × Int)) : Option (List (Int × Int)) := if payP p V X = true then excL V X 1 (V.length - 2) else none
def coreS (p : Int) (V : List Int) (X : List (Int × Int)) : Bool := match allX p V X with
  | none => false
  | some l => l.all fun e => decide (e.1 ≤ 0)
theorem allX_not {p : Int} {V : List Int} {X : List (Int × Int)} (h : payP p V X = false) : allX p V X = none := by unfold allX; rw [if_neg (by rw [h]; simp)]
theorem allX_ok {p : Int} {V : List Int} {X : List (Int × Int)} (h : payP p V X = true) : allX p V X = excL V X 1 (V.length - 2) := by unfold allX; rw [if_pos h]
theorem payP_game {p : Int} {V : List Int} {X : List (Int × Int)} (h : payP p V X = true) : gameOk p V = true := by
  unfold payP at h; simp only [Bool.and_eq_true] at h; exact h.1
end Go.Proofs.Ytgohdmnbnhehnaa
namespace Go.Proofs.Ytgohdmnbnhehnaa
set_option linter.unusedVariables false
set_option linter.unusedSimpArgs false
set_option maxRecDepth 100000
open Go.RowKit
theorem wholeL_snoc {C : List Int} {k : Nat} (h : k < C.length) : wholeL (C.take k) ++ [(C[k]?.getD 0, 1)] = wholeL (C.take (k + 1)) := by
  rw [take_snoc h]; simp [wholeL]
end Go.Proofs.Ytgohdmnbnhehnaa
