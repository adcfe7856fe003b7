/- What the program makes of a stage is what the reference makes: columns, costs, rows. Plain. -/
import Derived.Test.YtokpmflhgehicaaStageI
import Derived.Test.YtokpmflhgehicaaFr
namespace Go.Proofs.Ytokpmflhgehicaa
set_option linter.unusedVariables false
open Go.RowKit

/-- The levels, and that of all players. -/
def extE (n : Nat) (L : List (Int × Int × Int)) : List (Int × Int × Int) := L ++ [((n : Int) - 1, 0, 1)]
theorem subR_zero {v : Int} (h : -500 ≤ v ∧ v ≤ 500) : subR (0, 1) (v, 1) = ((-v, 1), true) := by
  have h1 : valR (0, 1) = true := by decide
  have h2 : valR (v, 1) = true := valR_mk (by omega) (by omega) (by simp only; omega) (by simp only; omega) (by simp only; rw [gI_nat]; simp)
  unfold subR
  rw [h1, h2]
  simp only [Bool.and_self, if_true]
  rw [show (0 : Int) * 1 - v * 1 = -v by omega, show (1 : Int) * 1 = 1 by rfl]
  have h3 : valR (-v, 1) = true := valR_mk (by omega) (by omega) (by simp only; omega) (by simp only; omega) (by simp only; rw [gI_nat]; simp)
  have hg : gI (-v) 1 = 1 := by rw [gI_nat]; simp
  unfold ratOf
  rw [if_neg (by simp [inB]; omega), if_neg (by omega), hg]
  simp only [Int.tdiv_one]
  unfold cutR
  rw [if_pos h3]
theorem costC_grand {V : List Int} {n : Nat} (hn : V.length = n) (h1 : 1 ≤ n) (hV : ∀ y ∈ V, -500 ≤ y ∧ y ≤ 500) : costC V ((n : Int) - 1, 0, 1) = (-(V[n - 1]?.getD 0), 1) := by
  have hb := getD_bd hV (n - 1)
  unfold costC
  simp only
  rw [show ((n : Int) - 1).toNat = n - 1 by omega, subR_zero hb]
theorem cols_ext {V : List Int} {n : Nat} (hn : V.length = n) (h1 : 1 ≤ n) (hV : ∀ y ∈ V, -500 ≤ y ∧ y ≤ 500) (L : List (Int × Int × Int)) : frontC V (freeL L (n - 2)) ++ fixedC V (extE n L) = colsL V L := by
  have e1 : fixedC V (extE n L) = fixedC V L ++ twoC ((n : Int) - 1) (costC V ((n : Int) - 1, 0, 1)) := by
    unfold extE fixedC
    rw [List.flatMap_append]
    simp
  rw [e1, costC_grand hn h1 hV]
  unfold colsL
  rw [hn, List.append_assoc]
/-- The cost of f comes out. -/
def fitC (V : List Int) (f : Int × Int × Int) : Bool := (subR f.2 (V[f.1.toNat]?.getD 0, 1)).2
theorem subR_val {a b : Int × Int} (h : (subR a b).2 = true) : valR (subR a b).1 = true := by
  unfold subR at h ⊢
  split at h
  · next h1 => rw [if_pos h1]; exact ratOf_val h
  · simp at h
theorem subR_no {a b : Int × Int} (h : (subR a b).2 = false) : (subR a b).1 = (0, 0) := by
  unfold subR at h ⊢
  split at h
  · next h1 => rw [if_pos h1]; exact ratOf_fail h
  · next h1 => rw [if_neg h1]
theorem valR_int {v : Int} (h : -1000000000 ≤ v ∧ v ≤ 1000000000) : valR (v, 1) = true := valR_mk (by simp) (by simp) (by simp only; omega) (by simp only; omega) (by simp only; rw [gI_nat]; simp)
theorem allV_cols {V : List Int} {n : Nat} (hn : V.length = n) (h1 : 1 ≤ n) (hV : ∀ y ∈ V, -500 ≤ y ∧ y ≤ 500) {L : List (Int × Int × Int)} : allV (stC V L) = (extE n L).all (fitC V) := by
  have h0 : stC V L = (frontC V (freeL L (n - 2))).map (fun c => c.2.2.2) ++ (extE n L).flatMap fun f => [costC V f, (-(costC V f).1, (costC V f).2)] := by
    unfold stC
    rw [← cols_ext hn h1 hV, List.map_append]
    congr 1
    unfold fixedC
    rw [List.map_flatMap]
    rfl
  have h2 : ((frontC V (freeL L (n - 2))).map fun c => c.2.2.2).all valR = true := by
    rw [List.all_eq_true]
    intro x hx
    obtain ⟨c, hc, rfl⟩ := List.mem_map.1 hx
    obtain ⟨s, _, rfl⟩ := List.mem_map.1 hc
    have := getD_bd hV s.toNat
    exact valR_int (by omega)
  unfold allV
  rw [h0, List.all_append, h2, Bool.true_and, List.all_flatMap]
  congr 1
  funext f
  unfold fitC
  cases hf : (subR f.2 (V[f.1.toNat]?.getD 0, 1)).2
  · have := subR_no hf
    unfold costC
    rw [this]
    decide
  · have := subR_val hf
    have h3 := valR_neg (subR f.2 (V[f.1.toNat]?.getD 0, 1)).1.1 (subR f.2 (V[f.1.toNat]?.getD 0, 1)).1.2
    unfold costC
    simp only [List.all_cons, List.all_nil, Bool.and_true]
    rw [h3, this]; rfl

/-- A row in which the seconds of the pairs from m on, before j, are negated. -/
def negTo (m j : Nat) (r : List Int) : List Int := r.mapIdx fun i x => if m < i ∧ (i - m) % 2 = 1 ∧ i < j then -x else x
theorem negTo_len (m j : Nat) (r : List Int) : (negTo m j r).length = r.length := by simp [negTo]
theorem negTo_at {m j : Nat} {r : List Int} {i : Nat} (h : i < r.length) : (negTo m j r)[i]?.getD 0 = if m < i ∧ (i - m) % 2 = 1 ∧ i < j then -(r[i]?.getD 0) else r[i]?.getD 0 := by
  simp [negTo, h]
theorem negTo_start (m : Nat) (r : List Int) : negTo m (m + 1) r = r := by
  apply List.ext_getElem (by simp [negTo])
  intro i h1 h2
  simp only [negTo, List.getElem_mapIdx]
  rw [if_neg (by omega)]
theorem negTo_step {m t : Nat} {r : List Int} (h : m + 1 + 2 * t < r.length) : (negTo m (m + 1 + 2 * t) r).set (m + 1 + 2 * t) (-(r[m + 1 + 2 * t]?.getD 0)) = negTo m (m + 1 + 2 * (t + 1)) r := by
  apply List.ext_getElem (by simp [negTo])
  intro i h1 h2
  rw [List.getElem_set]
  simp only [negTo, List.getElem_mapIdx]
  simp only [negTo, List.length_mapIdx] at h2
  split
  · next e => subst e; rw [if_pos (by omega), List.getElem?_eq_getElem h]; rfl
  · next e =>
    by_cases hc : m < i ∧ (i - m) % 2 = 1 ∧ i < m + 1 + 2 * t
    · rw [if_pos hc, if_pos (by omega)]
    · rw [if_neg hc, if_neg (by omega)]
theorem negTo_end {m j : Nat} {r : List Int} (h : r.length ≤ j) : negTo m j r = negTo m r.length r := by
  apply List.ext_getElem (by simp [negTo])
  intro i h1 h2
  simp only [negTo, List.getElem_mapIdx]
  simp only [negTo, List.length_mapIdx] at h2
  by_cases hc : m < i ∧ (i - m) % 2 = 1
  · rw [if_pos ⟨hc.1, hc.2, by omega⟩, if_pos ⟨hc.1, hc.2, by omega⟩]
  · rw [if_neg (by omega), if_neg (by omega)]
theorem fixed_sign (V : List Int) : ∀ (E : List (Int × Int × Int)) (i : Nat) (c : Col), (fixedC V E)[i]? = some c → c.2.1 = if i % 2 = 1 then -1 else 1
  | [], i, c, h => by simp [fixedC] at h
  | f :: E, 0, c, h => by
    simp only [fixedC, List.flatMap_cons, twoC, List.cons_append, List.getElem?_cons_zero, Option.some.injEq] at h
    subst h; rfl
  | f :: E, 1, c, h => by
    simp only [fixedC, List.flatMap_cons, twoC, List.cons_append, List.getElem?_cons_succ, List.getElem?_cons_zero, Option.some.injEq] at h
    subst h; rfl
  | f :: E, i + 2, c, h => by
    simp only [fixedC, List.flatMap_cons, twoC, List.cons_append, List.nil_append, List.getElem?_cons_succ] at h
    have := fixed_sign V E i c h
    rw [this]
    have : (i + 2) % 2 = i % 2 := by omega
    rw [this]
theorem fixed_free (V : List Int) (E : List (Int × Int × Int)) : ∀ c ∈ fixedC V E, c.2.2.1 = false := by
  intro c hc
  obtain ⟨f, _, h2⟩ := List.mem_flatMap.1 hc
  simp only [twoC, List.mem_cons, List.not_mem_nil, or_false] at h2
  rcases h2 with rfl | rfl <;> rfl
/-- The rows of members, negated in the seconds of the pairs, are the reference's rows. -/
theorem neg_rows (V : List Int) (fr : List Int) (E : List (Int × Int × Int)) (q k : Nat) (hk : k < q) :
    negTo fr.length ((frontC V fr ++ fixedC V E).map (·.1)).length (memR ((frontC V fr ++ fixedC V E).map (·.1)) k) = rowC (frontC V fr ++ fixedC V E) q k := by
  apply List.ext_getElem (by simp [negTo, memR, rowC])
  intro i h1 h2
  simp only [rowC, List.length_map] at h2
  simp only [negTo, memR, rowC, List.getElem_mapIdx, List.getElem_map, List.length_map]
  unfold onC
  rw [if_pos hk]
  by_cases hi : i < fr.length
  · rw [if_neg (by omega)]
    have : (frontC V fr ++ fixedC V E)[i].2.1 = 1 := by
      rw [List.getElem_append_left (by rw [frontC_len]; exact hi)]
      simp [frontC]
    rw [this]; omega
  · have hl := frontC_len V fr
    have hb : i - (frontC V fr).length < (fixedC V E).length := by rw [List.length_append] at h2; omega
    have e : (frontC V fr ++ fixedC V E)[i] = (fixedC V E)[i - (frontC V fr).length] := List.getElem_append_right (by omega)
    have hs := fixed_sign V E (i - (frontC V fr).length) _ (List.getElem?_eq_getElem hb)
    rw [← e, hl] at hs
    rw [hs]
    by_cases hc : (i - fr.length) % 2 = 1
    · rw [if_pos ⟨by omega, hc, h2⟩, if_pos hc]; omega
    · rw [if_neg (by omega), if_neg hc]; omega
theorem last_row (V : List Int) (fr : List Int) (E : List (Int × Int × Int)) (q : Nat) : List.replicate fr.length 1 ++ List.replicate (2 * E.length) 0 = rowC (frontC V fr ++ fixedC V E) q q := by
  unfold rowC
  rw [List.map_append]
  congr 1
  · refine (List.eq_replicate_iff.2 ⟨by rw [List.length_map, frontC_len], fun x hx => ?_⟩).symm
    obtain ⟨c, hc, rfl⟩ := List.mem_map.1 hx
    obtain ⟨s, _, rfl⟩ := List.mem_map.1 hc
    simp [onC, bitI]
  · refine (List.eq_replicate_iff.2 ⟨by rw [List.length_map, fixedC_len], fun x hx => ?_⟩).symm
    obtain ⟨c, hc, rfl⟩ := List.mem_map.1 hx
    have := fixed_free V E c hc
    simp [onC, this, bitI]
theorem ones_last (q : Nat) : List.replicate q 0 ++ [(1 : Int)] = stB q := by
  unfold stB
  rw [List.range_succ, List.map_append]
  congr 1
  · refine (List.eq_replicate_iff.2 ⟨by simp, fun x hx => ?_⟩).symm
    obtain ⟨k, hk, rfl⟩ := List.mem_map.1 hx
    have : k < q := List.mem_range.1 hk
    rw [decide_eq_false (by omega)]; rfl
  · simp [bitI]

/-- The matrix whose first i rows are negated in the seconds of the pairs. -/
def negM (m N i : Nat) (A : List (List Int)) : List (List Int) := A.mapIdx fun r row => if r < i then negTo m N row else row
theorem negM_len (m N i : Nat) (A : List (List Int)) : (negM m N i A).length = A.length := by simp [negM]
theorem negM_zero (m N : Nat) (A : List (List Int)) : negM m N 0 A = A := by
  apply List.ext_getElem (by simp [negM])
  intro r h1 h2
  simp [negM]
theorem negM_at {m N i : Nat} {A : List (List Int)} (h : i < A.length) : (negM m N i A)[i]?.getD [] = A[i]?.getD [] := by
  simp [negM, h]
theorem negM_step {m N i : Nat} {A : List (List Int)} (h : i < A.length) : (negM m N i A).set i (negTo m N (A[i]?.getD [])) = negM m N (i + 1) A := by
  apply List.ext_getElem (by simp [negM])
  intro r h1 h2
  rw [List.getElem_set]
  simp only [negM, List.getElem_mapIdx]
  split
  · next e => subst e; rw [if_pos (by omega), List.getElem?_eq_getElem h]; rfl
  · next e =>
    by_cases hr : r < i
    · rw [if_pos hr, if_pos (by omega)]
    · rw [if_neg hr, if_neg (by omega)]
theorem negM_all (m N : Nat) (A : List (List Int)) : negM m N A.length A = A.map (negTo m N) := by
  apply List.ext_getElem (by simp [negM])
  intro r h1 h2
  simp only [negM, List.length_mapIdx] at h1
  simp only [negM, List.getElem_mapIdx, List.getElem_map]
  rw [if_pos h1]
theorem memM_len (q : Nat) (l : List Int) : (memM q l).length = q := by simp [memM]
theorem memM_row {q : Nat} {l : List Int} {k : Nat} (h : k < q) : (memM q l)[k]?.getD [] = memR l k := by simp [memM, h]
theorem memR_len (l : List Int) (k : Nat) : (memR l k).length = l.length := by simp [memR]
theorem bitI_bd (b : Bool) : 0 ≤ bitI b ∧ bitI b ≤ 1 := by cases b <;> decide
theorem memR_bd (l : List Int) (k j : Nat) : 0 ≤ (memR l k)[j]?.getD 0 ∧ (memR l k)[j]?.getD 0 ≤ 1 := by
  by_cases h : j < l.length
  · have : (memR l k)[j]?.getD 0 = bitI (hasP l[j] (k : Int)) := by simp [memR, h]
    rw [this]; exact bitI_bd _
  · rw [List.getElem?_eq_none (by rw [memR_len]; omega)]; simp
theorem neg_all (V : List Int) (fr : List Int) (E : List (Int × Int × Int)) (q : Nat) :
    negM fr.length ((frontC V fr ++ fixedC V E).map (·.1)).length q (memM q ((frontC V fr ++ fixedC V E).map (·.1))) = (List.range q).map (rowC (frontC V fr ++ fixedC V E) q) := by
  have := negM_all fr.length ((frontC V fr ++ fixedC V E).map (·.1)).length (memM q ((frontC V fr ++ fixedC V E).map (·.1)))
  rw [memM_len] at this
  rw [this]
  unfold memM
  rw [List.map_map]
  apply List.map_congr_left
  intro k hk
  exact neg_rows V fr E q k (List.mem_range.1 hk)

end Go.Proofs.Ytokpmflhgehicaa
