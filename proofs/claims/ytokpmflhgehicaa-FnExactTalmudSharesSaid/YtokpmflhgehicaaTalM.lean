/- The rule of the Talmud: plain words. No fraction grows too great. -/
import Derived.Test.YtokpmflhgehicaaLosses
import Derived.Test.YtokpmflhgehicaaShares
namespace Go.Proofs.Ytokpmflhgehicaa
set_option linter.unusedVariables false
set_option linter.unusedSimpArgs false

/-- A small fraction: at least 0, at most 500, over at most e. -/
def Small (e : Int) (p : Int × Int) : Prop := ∃ y E : Int, Fr p y E ∧ 0 ≤ y ∧ y ≤ 500 * E ∧ E ≤ e
theorem mul120 {a m b : Int} (h0 : 0 ≤ a) (h1 : a ≤ b) (hm : 0 ≤ m) : a * m ≤ b * m := Int.mul_le_mul_of_nonneg_right h1 hm

/-- n (n-1) .. of k factors. -/
def fallN (n : Nat) : Nat → Int
  | 0 => 1
  | k + 1 => fallN n k * ((n - k : Nat) : Int)
theorem fallN_bd {n : Nat} (hn : n ≤ 5) {k : Nat} (hk : k ≤ n) : 1 ≤ fallN n k ∧ fallN n k ≤ 120 := by
  have : ∀ n : Fin 6, ∀ k : Fin 6, k.val ≤ n.val → 1 ≤ fallN n.val k.val ∧ fallN n.val k.val ≤ 120 := by decide +kernel
  exact this ⟨n, by omega⟩ ⟨k, by omega⟩ hk

/-- What is left after k of the order, and the row: all small. -/
structure Runs (C : List Int) (n k : Nat) (st : (Int × Int) × List (Int × Int)) : Prop where
  left : ∃ x, Fr st.1 x (fallN n k) ∧ 0 ≤ x ∧ x ≤ 500 * fallN n k
  row : ∀ j, j < k → Small 120 (st.2[ordA C n j]?.getD (0, 0))
  len : st.2.length = n

theorem small_parts {p : Int × Int} {x D : Int} (h : Fr p x D) (hx : 0 ≤ x) (hx' : x ≤ 500 * D) (hD : D ≤ 1000) : 1 ≤ p.2 ∧ p.2 ≤ 1000 ∧ 0 ≤ p.1 ∧ p.1 ≤ 500000 := by
  have h1 := h.size
  have h2 := valR_bd h.1
  have h3 := h.2.2
  have h4 := h.2.1
  refine ⟨h2.1, by omega, ?_, by omega⟩
  rcases Int.lt_or_le p.1 0 with h | h
  · have : p.1 * D < 0 := Int.mul_neg_of_neg_of_pos h h4
    have : 0 ≤ x * p.2 := Int.mul_nonneg hx (by omega)
    omega
  · exact h
theorem diff_bd {p q : Int × Int} (h : 1 ≤ p.2 ∧ p.2 ≤ 1000 ∧ 0 ≤ p.1 ∧ p.1 ≤ 500000) (k : 1 ≤ q.2 ∧ q.2 ≤ 1000 ∧ 0 ≤ q.1 ∧ q.1 ≤ 500000) : -1000000000000000000 ≤ p.1 * q.2 - q.1 * p.2 ∧ p.1 * q.2 - q.1 * p.2 ≤ 1000000000000000000 := by
  have h1 := mul_bd (x := p.1) (y := q.2) (by omega) (by omega) (by omega) (by omega)
  have a1 : p.1 * q.2 ≤ 500000 * 1000 := Int.mul_le_mul (by omega) (by omega) (by omega) (by omega)
  have a2 : q.1 * p.2 ≤ 500000 * 1000 := Int.mul_le_mul (by omega) (by omega) (by omega) (by omega)
  have a3 : 0 ≤ p.1 * q.2 := Int.mul_nonneg (by omega) (by omega)
  have a4 : 0 ≤ q.1 * p.2 := Int.mul_nonneg (by omega) (by omega)
  omega

theorem runs_step {C : List Int} {n k : Nat} (hn : n ≤ 5) (hk : k < n) (hC : ∀ j : Nat, 0 ≤ C[j]?.getD 0 ∧ C[j]?.getD 0 ≤ 100) {st : (Int × Int) × List (Int × Int)} (h : Runs C n k st) :
    ∃ st', stepA C n st k = some st' ∧ Runs C n (k + 1) st' := by
  obtain ⟨x, hf, hx0, hx1⟩ := h.left
  obtain ⟨d1, d2⟩ := fallN_bd hn (Nat.le_of_lt hk)
  obtain ⟨e1, e2⟩ := fallN_bd hn (show k + 1 ≤ n from hk)
  have hm1 : 1 ≤ ((n - k : Nat) : Int) := by omega
  have hE : fallN n (k + 1) = fallN n k * ((n - k : Nat) : Int) := rfl
  generalize hm : ((n - k : Nat) : Int) = m at *
  generalize hD : fallN n k = D at *
  generalize hEE : fallN n (k + 1) = E at *
  have hmE : x ≤ x * m := by have := Int.mul_le_mul_of_nonneg_left hm1 hx0; omega
  have hxE : x * m ≤ 500 * E := by rw [hE, ← Int.mul_assoc]; exact Int.mul_le_mul_of_nonneg_right hx1 (by omega)
  -- the equal part
  obtain ⟨r, hdiv, hr⟩ := hf.div (Fr.int m (by omega) (by omega)) (by omega) (z := x) (F := E) (by omega) (by omega) (by omega) (by rw [hE]; grind)
  -- the share
  have hc := hC (ordA C n k)
  generalize hcv : C[ordA C n k]?.getD 0 = c at *
  have hcf := Fr.int c (by omega) (by omega)
  obtain ⟨s, y, hs, hsf, hy0, hy1⟩ : ∃ s y, shareA C st.1 (n - k) (ordA C n k) = s ∧ Fr s y E ∧ 0 ≤ y ∧ y ≤ x := by
    unfold shareA
    rw [hm, hdiv, hcv]
    by_cases hlt : cmpR (c, 1) r < 0
    · rw [if_pos hlt]
      rw [hcf.cmp hr] at hlt
      have hcx : c * E < x * 1 := by
        split at hlt
        · assumption
        · split at hlt <;> omega
      have := hcf.scale (k := E) (by omega)
      rw [Int.one_mul] at this
      exact ⟨_, _, rfl, this, Int.mul_nonneg hc.1 (by omega), by omega⟩
    · rw [if_neg hlt]
      exact ⟨_, _, rfl, hr, hx0, Int.le_refl _⟩
  have hfm : Fr st.1 (x * m) E := by rw [hE]; exact hf.scale (by omega)
  obtain ⟨l, hsub, hl⟩ := hfm.sub hsf (z := x * m - y) (F := E) (by omega) (by omega) (by omega)
    (diff_bd (small_parts hf hx0 hx1 (by omega)) (small_parts hsf hy0 (by omega) (by omega))) (by grind)
  refine ⟨(l, st.2.set (ordA C n k) s), ?_, ⟨_, by rw [hEE]; exact hl, by omega, by omega⟩, fun j hj => ?_, by simp [h.len]⟩
  · unfold stepA
    rw [hm, hdiv, hs, hsub, if_pos ⟨rfl, rfl⟩]
  · have hsm : Small 120 s := ⟨y, E, hsf, hy0, by omega, e2⟩
    by_cases he : ordA C n j = ordA C n k
    · rw [he]
      have := (ordA_lt C n hk).1
      simp [List.getElem?_set, h.len, this, hsm]
    · simp only
      rw [List.getElem?_set_ne (Ne.symm he)]
      have : j ≠ k := fun e => he (by rw [e])
      exact h.row j (by omega)
theorem runs_all {C : List Int} {n : Nat} (hn : n ≤ 5) (hC : ∀ j : Nat, 0 ≤ C[j]?.getD 0 ∧ C[j]?.getD 0 ≤ 100) {A : Int} (h0 : 0 ≤ A) (h1 : A ≤ 500) : ∀ k, k ≤ n → ∃ st, runA C n (A, 1) (List.replicate n (0, 0)) k = some st ∧ Runs C n k st
  | 0, _ => ⟨_, rfl, ⟨A, Fr.int A (by omega) (by omega), h0, by simp [fallN]; omega⟩, fun j hj => absurd hj (by omega), by simp⟩
  | k + 1, hk => by
    obtain ⟨st, h2, h3⟩ := runs_all hn hC h0 h1 k (by omega)
    obtain ⟨st', h4, h5⟩ := runs_step hn (by omega) hC h3
    exact ⟨st', by rw [runA_succ C n h2, h4], h5⟩

theorem valid_small {x : Int} {C : List Int} (h : validPair 0 x C = true) : ∀ j : Nat, 0 ≤ C[j]?.getD 0 ∧ C[j]?.getD 0 ≤ 100 := by
  have hv := valid_claims h
  intro j
  by_cases hj : j < C.length
  · exact hv.2.2.2.2.2.2 j hj
  · rw [List.getElem?_eq_none (by omega)]; simp
/-- The awards of a whole amount. -/
theorem award_whole {x : Int} {C : List Int} (h : validPair 0 x C = true) {A : Int} (h0 : 0 ≤ A) (h1 : A ≤ sumW C) : awardOk C A 1 = true ∧ (awardL C A 1).length = C.length ∧ ∀ i, i < C.length → Small 120 ((awardL C A 1)[i]?.getD (0, 0)) := by
  have hv := valid_claims h
  have hC := valid_small h
  have hfit : fitsR C A 1 = true := by
    have hfA := Fr.int A (by omega) (by omega)
    have hfS := Fr.int (sumW C) (by omega) (by omega)
    simp only [fitsR, small, Bool.and_eq_true, List.all_eq_true, inB, decide_eq_true_eq]
    refine ⟨⟨fun c hc => ?_, by omega, by omega⟩, hfA.1, h0, ?_⟩
    · obtain ⟨j, hj, rfl⟩ := List.getElem_of_mem hc
      have := hC j
      rw [List.getElem?_eq_getElem hj] at this
      simp only [Option.getD_some] at this
      omega
    · rw [hfA.cmp hfS]
      split
      · omega
      · split <;> omega
  obtain ⟨st, h2, h3⟩ := runs_all hv.2.1 hC h0 (by omega) C.length (Nat.le_refl _)
  have hO : awardOk C A 1 = true := by unfold awardOk; rw [hfit, h2]; rfl
  have hL : awardL C A 1 = st.2 := by unfold awardL; rw [if_pos hfit, h2]; rfl
  refine ⟨hO, by rw [hL]; exact h3.len, fun i hi => ?_⟩
  obtain ⟨k, hk, he⟩ := ordA_all C C.length hi
  rw [hL, ← he]
  exact h3.row k hk

/-- Half of it. -/
def halfR (p : Int × Int) : Int × Int := (divR p (2, 1)).1
theorem half_small {p : Int × Int} (h : Small 120 p) : (divR p (2, 1)).2 = true ∧ Small 240 (halfR p) := by
  obtain ⟨y, E, hf, h0, h1, h2⟩ := h
  have hE := hf.2.1
  obtain ⟨r, h3, h4⟩ := hf.div (Fr.int 2 (by omega) (by omega)) (by omega) (z := y) (F := E * 2) (by omega) (by omega) (by omega) (by grind)
  unfold halfR
  rw [h3]
  exact ⟨rfl, y, E * 2, h4, h0, by omega, by omega⟩
def talA (x : Int) (C : List Int) : Int := if 2 * x ≤ sumW C then 2 * x else 2 * (sumW C - x)
def talH (x : Int) (C : List Int) : List (Int × Int) := (awardL C (talA x C) 1).map halfR
def talL (x : Int) (C : List Int) : List (Int × Int) := if validPair 0 x C = true then (if 2 * x ≤ sumW C then talH x C else (lessL C (talH x C)).getD []) else []
theorem talA_bd {x : Int} {C : List Int} (h : validPair 0 x C = true) : 0 ≤ talA x C ∧ talA x C ≤ sumW C := by
  have hv := valid_claims h
  unfold talA
  split <;> omega
theorem tal_award {x : Int} {C : List Int} (h : validPair 0 x C = true) : awardOk C (talA x C) 1 = true ∧ (awardL C (talA x C) 1).length = C.length ∧ ∀ i, i < C.length → (divR ((awardL C (talA x C) 1)[i]?.getD (0, 0)) (2, 1)).2 = true ∧ Small 240 (halfR ((awardL C (talA x C) 1)[i]?.getD (0, 0))) := by
  obtain ⟨h1, h2, h3⟩ := award_whole h (talA_bd h).1 (talA_bd h).2
  exact ⟨h1, h2, fun i hi => half_small (h3 i hi)⟩
theorem talH_len {x : Int} {C : List Int} (h : validPair 0 x C = true) : (talH x C).length = C.length := by
  unfold talH
  rw [List.length_map]
  exact (tal_award h).2.1
theorem map_at {f : Int × Int → Int × Int} {L : List (Int × Int)} {i : Nat} (h : i < L.length) : (L.map f)[i]?.getD (0, 0) = f (L[i]?.getD (0, 0)) := by simp [h]
theorem tal_less {x : Int} {C : List Int} (h : validPair 0 x C = true) : lessL C (talH x C) = runT (loseF C (talH x C)) C.length ∧ (lessL C (talH x C)).isSome = true := by
  have hC := valid_small h
  have hv := valid_claims h
  have hfit : fitL C = true := by
    unfold fitL
    rw [List.all_eq_true]
    intro c hc
    obtain ⟨j, hj, rfl⟩ := List.getElem_of_mem hc
    have := hC j
    rw [List.getElem?_eq_getElem hj] at this
    simp only [Option.getD_some] at this
    simp only [inB, Bool.and_eq_true, decide_eq_true_eq]
    omega
  have h1 := lessL_eq hfit (talH_len h)
  refine ⟨h1, ?_⟩
  rw [h1, runT_all (F := fun i => (subR (C[i]?.getD 0, 1) ((talH x C)[i]?.getD (0, 0))).1) fun i hi => ?_]
  · rfl
  · unfold loseF
    rw [if_pos]
    have hl := (tal_award h).2.1
    have : (talH x C)[i]?.getD (0, 0) = halfR ((awardL C (talA x C) 1)[i]?.getD (0, 0)) := by unfold talH; rw [map_at (by omega)]
    rw [this]
    obtain ⟨y, E, hf, h0, h2, h3⟩ := ((tal_award h).2.2 i hi).2
    have hE := hf.2.1
    have hc := hC i
    generalize C[i]?.getD 0 = c at *
    have hcf := Fr.int c (by omega) (by omega)
    have hcE : c * E ≤ 100 * 240 := Int.mul_le_mul (by omega) (by omega) (by omega) (by omega)
    have hc0 : 0 ≤ c * E := Int.mul_nonneg (by omega) (by omega)
    obtain ⟨r, h4, _⟩ := hcf.sub hf (z := c * E - y) (F := E) (by omega) (by omega) (by omega) (diff_bd (by simp only; omega) (small_parts hf h0 h2 (by omega))) (by grind)
    rw [h4]
theorem talL_len (x : Int) (C : List Int) : (talL x C).length ≤ 5 := by
  unfold talL
  split
  · next h =>
    have hv := valid_claims h
    split
    · rw [talH_len h]; omega
    · rw [(tal_less h).1]
      exact Nat.le_trans (runT_getD_le _) hv.2.1
  · simp

end Go.Proofs.Ytokpmflhgehicaa
