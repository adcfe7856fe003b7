/- The Shapley value: its two laws in numbers. Plain. -/
import Derived.Test.YtgohdmnbnhehnaaShapO
import Derived.Test.YtgohdmnbnhehnaaAddG
import Derived.Test.YtgohdmnbnhehnaaBest
namespace Go.Proofs.Ytgohdmnbnhehnaa
set_option linter.unusedVariables false
open Go.RowKit

theorem mvL_bd {n : Nat} {V : List Int} (hV : ∀ x ∈ V, -500 ≤ x ∧ x ≤ 500) (ord : List Int) (j : Nat) : ∀ m, -1000 ≤ (mvL n V ord m)[j]?.getD 0 ∧ (mvL n V ord m)[j]?.getD 0 ≤ 1000
  | 0 => by
    unfold mvL
    by_cases h : j < n
    · simp [h]
    · rw [List.getElem?_eq_none (by simp; omega)]; simp
  | m + 1 => by
    unfold mvL
    have ih := mvL_bd (n := n) hV ord j m
    have h1 := getD_bd hV (sN ord (m + 1))
    have h2 := getD_bd hV (sN ord m)
    by_cases e : j = pos ord m
    · subst e
      by_cases hj : pos ord m < (mvL n V ord m).length
      · rw [List.getElem?_set_self hj]; simp only [Option.getD_some]; omega
      · rw [List.getElem?_eq_none (by simp; omega)]; simp
    · rw [List.getElem?_set_ne (Ne.symm e)]; exact ih
/-- What player k adds in the first m orders. -/
def ordS (n : Nat) (V : List Int) (k m : Nat) : Int := (((ordersOf (n : Int)).take m).map fun ord => (mvL n V ord n)[k]?.getD 0).sum
theorem ordS_zero (n : Nat) (V : List Int) (k : Nat) : ordS n V k 0 = 0 := rfl
theorem ordS_succ {n : Nat} {V : List Int} {k m : Nat} (h : m < (ordersOf (n : Int)).length) : ordS n V k (m + 1) = ordS n V k m + (mvL n V ((ordersOf (n : Int))[m]?.getD []) n)[k]?.getD 0 := by
  unfold ordS
  rw [List.take_succ_eq_append_getElem h, List.map_append, List.sum_append]
  simp [h]
theorem ordS_bd {n : Nat} {V : List Int} (hV : ∀ x ∈ V, -500 ≤ x ∧ x ≤ 500) (k : Nat) : ∀ m : Nat, m ≤ (ordersOf (n : Int)).length → -(1000 * m : Int) ≤ ordS n V k m ∧ ordS n V k m ≤ 1000 * m
  | 0, _ => by simp [ordS]
  | m + 1, h => by
    have ih := ordS_bd (n := n) hV k m (by omega)
    have := mvL_bd (n := n) hV ((ordersOf (n : Int))[m]?.getD []) k n
    rw [ordS_succ (n := n) (V := V) (k := k) (show m < (ordersOf (n : Int)).length by omega)]
    omega
theorem ordersOf_F {n : Nat} (h1 : 1 ≤ n) (h5 : n ≤ 5) : ordersOf (n : Int) = ordersF n n [] := by
  unfold ordersOf; rw [if_pos (by omega), Int.toNat_natCast]
theorem shapL_len' {n : Nat} {V : List Int} (h : gameOk (n : Int) V = true) : (shapL (n : Int) V).length = n := by rw [shapL_ok h, avgT_len]
/-- The Shapley value is the average over all orders. -/
theorem shap_avg {n : Nat} {V : List Int} (h : gameOk (n : Int) V = true) {k : Nat} (hk : k < n) :
    ((shapL (n : Int) V)[k]?.getD (0, 0)).1 * ((ordersOf (n : Int)).length : Int) = ordS n V k (ordersOf (n : Int)).length * ((shapL (n : Int) V)[k]?.getD (0, 0)).2 ∧
    (ordersOf (n : Int)).length ≤ 120 ∧ 0 ≤ ((shapL (n : Int) V)[k]?.getD (0, 0)).2 ∧ ((shapL (n : Int) V)[k]?.getD (0, 0)).2 ≤ 120 ∧ -32000000 ≤ ((shapL (n : Int) V)[k]?.getD (0, 0)).1 ∧ ((shapL (n : Int) V)[k]?.getD (0, 0)).1 ≤ 32000000 := by
  obtain ⟨n', hn, h1, h5, hlen, h0, hV⟩ := gameOk_len h
  obtain rfl : n = n' := by omega
  have hf := shap_fr h5 hV hlen k
  have hb := factN_bd n h5
  have hs := hf.1.size
  have hv := valR_bd hf.1.1
  rw [shapL_ok h, avgT_at hk]
  have hc := ord_count ⟨n, by omega⟩
  have ho := ord_sum h5 hk V
  have hl : ordS n V k (ordersOf (n : Int)).length = avgS (shV n) V k (cN n) := by
    unfold ordS; rw [List.take_length, ordersOf_F h1 h5]; exact ho
  rw [hl, ordersOf_F h1 h5]
  simp only at hc
  refine ⟨by rw [hc]; exact hf.1.2.2, by omega, by omega, by omega, by omega, by omega⟩
theorem addOk_parts {p p' : Int} {V V' : List Int} (h : addOk p V p' V' = true) : gameOk p V = true ∧ gameOk p' V' = true ∧ p = p' ∧ gameOk p (addL V V') = true := by
  unfold addOk at h
  simp only [Bool.and_eq_true, decide_eq_true_eq] at h
  exact h
/-- The Shapley value is additive. -/
theorem shap_sum {p p' : Int} {V V' : List Int} (h : addOk p V p' V' = true) {k : Nat} (hk : k < (shapL p (addL V V')).length) :
    addR ((shapL p V)[k]?.getD (0, 0)) ((shapL p' V')[k]?.getD (0, 0)) = ((shapL p (addL V V'))[k]?.getD (0, 0), true) ∧ k < (shapL p V).length ∧ k < (shapL p' V').length := by
  obtain ⟨g1, g2, rfl, g3⟩ := addOk_parts h
  obtain ⟨n, rfl, h1, h5, hlen, h0, hV⟩ := gameOk_len g1
  obtain ⟨n2, hn2, _, _, hlen2, _, hV2⟩ := gameOk_len g2
  obtain rfl : n = n2 := by omega
  obtain ⟨n3, hn3, _, _, hlen3, _, hV3⟩ := gameOk_len g3
  obtain rfl : n = n3 := by omega
  rw [shapL_len' g3] at hk
  rw [shapL_len' g1, shapL_len' g2]
  refine ⟨?_, hk, hk⟩
  have f1 := shap_fr h5 hV hlen k
  have f2 := shap_fr h5 hV2 hlen2 k
  have f3 := shap_fr h5 hV3 hlen3 k
  have hadd := avgS_add (shV n) V V' (addL V V') k (fun t => addL_at (by rw [hlen, hlen2]) t) (cN n)
  have hb := factN_bd n h5
  rw [shapL_ok g1, shapL_ok g2, shapL_ok g3, avgT_at hk, avgT_at hk, avgT_at hk]
  have b1 := f1.1.size
  have b2 := f2.1.size
  have v1 := valR_bd f1.1.1
  have v2 := valR_bd f2.1.1
  generalize avgR (shV n) V (factI (n : Int)) k = P1 at *
  generalize avgR (shV n) V' (factI (n : Int)) k = P2 at *
  generalize avgR (shV n) (addL V V') (factI (n : Int)) k = P3 at *
  have m1 := small_mul (x := P1.1) (y := P2.2) (a := 160000000) (b := 120) (by omega) (by omega)
  have m2 := small_mul (x := P2.1) (y := P1.2) (a := 160000000) (b := 120) (by omega) (by omega)
  obtain ⟨r, ha, hf⟩ := f1.1.add f2.1 (z := avgS (shV n) V k (cN n) + avgS (shV n) V' k (cN n)) (F := factN n) (by omega) (by omega) (by omega) (by omega) (by grind)
  rw [ha]
  rw [← hadd] at hf
  rw [hf.eq f3.1 rfl]

end Go.Proofs.Ytgohdmnbnhehnaa
