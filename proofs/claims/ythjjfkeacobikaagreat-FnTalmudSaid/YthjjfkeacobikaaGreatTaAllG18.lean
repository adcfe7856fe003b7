import Derived.Test.YthjjfkeacobikaaGreatTaAllG17
set_option linter.unusedVariables false
set_option linter.unusedSimpArgs false
namespace Go.Proofs.YthjjfkeacobikaaGreat
theorem dotN_spec {X Y : List (Int × Int)} : ∀ {k : Nat} {v : Int × Int}, dotN X Y k = some v → valR v = true ∧ (∀ j, j < k → valR (X[j]?.getD (0, 0)) = true ∧ valR (Y[j]?.getD (0, 0)) = true) ∧ val v = sumN (fun j => vrow X j * vrow Y j) k
 | 0, v, e => by
   simp only [dotN, Option.some.injEq] at e
   subst e
   refine ⟨rfl, fun j hj => absurd hj (by omega), ?_⟩
   unfold val sumN; simp; grind
 | k + 1, v, e => by
   simp only [dotN] at e
   cases e0 : dotN X Y k with
   | none => rw [e0] at e; cases e
   | some s =>
     rw [e0] at e
     simp only [Option.bind_some] at e
     split at e
     ·next h2 =>
      simp only [Option.some.injEq] at e
      obtain ⟨h3, h4, h5⟩ := dotN_spec e0
      obtain ⟨m1, m2, m3, m4⟩ := val_mul h2.1
      obtain ⟨a1, a2, a3, a4⟩ := val_add h2.2
      rw [← e]
      refine ⟨a3, fun j hj => ?_, ?_⟩
      ·by_cases hjk : j < k
       ·exact h4 j hjk
       ·obtain rfl : j = k := by omega
        exact ⟨m1, m2⟩
      ·rw [a4, m4, h5]; rfl
     ·cases e
theorem dotL_spec {X Y : List (Int × Int)} {v : Int × Int} (e : dotL X Y = some v) : X.length = Y.length ∧ valR v = true ∧ (∀ j, j < X.length → valR (X[j]?.getD (0, 0)) = true ∧ valR (Y[j]?.getD (0, 0)) = true) ∧ val v = sumN (fun j => vrow X j * vrow Y j) X.length := by
 unfold dotL at e
 split at e
 ·next h => exact ⟨h, dotN_spec e⟩
 ·cases e
theorem dotN_comm (X Y : List (Int × Int)) : ∀ k, dotN X Y k = dotN Y X k
 | 0 => rfl
 | k + 1 => by simp only [dotN, dotN_comm X Y k, mulR_comm (X[k]?.getD (0, 0))]
theorem dotL_comm (X Y : List (Int × Int)) : dotL X Y = dotL Y X := by
 unfold dotL
 by_cases h : X.length = Y.length
 ·rw [if_pos h, if_pos h.symm, h, dotN_comm]
 ·rw [if_neg h, if_neg (fun e => h e.symm)]
theorem getD_map_neg (Y : List (Int × Int)) (k : Nat) : (Y.map negR)[k]?.getD (0, 0) = negR (Y[k]?.getD (0, 0)) := by
 rw [List.getElem?_map]; cases Y[k]? <;> rfl
theorem dotN_neg (X Y : List (Int × Int)) : ∀ k, dotN X (Y.map negR) k = (dotN X Y k).map negR
 | 0 => rfl
 | k + 1 => by
   simp only [dotN, dotN_neg X Y k, getD_map_neg, mulR_neg]
   cases dotN X Y k with
   | none => rfl
   | some s =>
     simp only [Option.map_some, Option.bind_some, addR_neg]
     split <;> rfl
theorem dotL_neg (X Y : List (Int × Int)) : dotL X (Y.map negR) = (dotL X Y).map negR := by
 unfold dotL
 rw [List.length_map]
 split
 ·exact dotN_neg X Y _
 ·rfl
theorem wholeL_neg (l : List Int) : wholeL (l.map fun x => -x) = (wholeL l).map negR := by
 unfold wholeL; rw [List.map_map, List.map_map]; rfl
def niceC (A : List (List Int)) (C : List (Int × Int)) (j : Nat) : Prop :=
 (∃ x : Int, C[j]?.getD (0, 0) = (x, 1) ∧ -1000000 ≤ x ∧ x ≤ 1000000) ∨ ∃ j', j' < C.length ∧ C[j']?.getD (0, 0) = negR (C[j]?.getD (0, 0)) ∧ colL A j' = (colL A j).map fun x => -x
theorem bound_le {A : List (List Int)} {Y C : List (Int × Int)} {j : Nat} (h : boundI A Y C j = true) : boundS A Y C j = true := by
 unfold boundI at h
 unfold boundS
 cases e : dotL Y (wholeL (colL A j)) with
 | none => rw [e] at h; cases h
 | some v =>
   rw [e] at h
   simp only [Bool.and_eq_true, decide_eq_true_eq] at h ⊢
   obtain ⟨s1, s2, s3, s4⟩ := val_sub h.1
   rw [val_le s1 s2]
   have := (val_nonneg s3).1 h.2
   rw [s4] at this; grind
theorem fit_sub {x : Int} {v c : Int × Int} (h1 : -1000000 ≤ x) (h2 : x ≤ 1000000) (hv : valR v = true) (hc : valR c = true) (e : val c = (x : Rat) - val v) : subR (x, 1) v = (c, true) := by
 have hb := valR_bd hv
 have kb := valR_bd hc
 have hx : valR (x, 1) = true := (Fr.int x (by omega) (by omega)).1
 have hn : (x * v.2).natAbs ≤ 1000000 * 1000000000 := by
  rw [Int.natAbs_mul]; exact Nat.mul_le_mul (by omega) (by omega)
 have key : (x * v.2 - v.1 * 1) * c.2 = c.1 * (1 * v.2) := by
  have a := ratne (show v.2 ≠ 0 by omega)
  have b := ratne (show c.2 ≠ 0 by omega)
  have : ((x : Rat) * v.2 - v.1) * c.2 = c.1 * v.2 := by unfold val at e; grind
  have h3 : (x * v.2 - v.1) * c.2 = c.1 * v.2 := by exact_mod_cast this
  grind
 unfold subR
 rw [if_pos (by rw [hx, hv]; rfl)]
 simp only
 obtain ⟨r, e1, e2⟩ := ratOf_is (n := x * v.2 - v.1 * 1) (d := 1 * v.2) (x := c.1) (D := c.2) (by omega) (by omega) (by omega) (by omega) (by omega) (by omega) key
 rw [e1]
 have := Fr.eq e2 (Fr.self hc) rfl
 rw [this]
theorem bound_int {A : List (List Int)} {Y C : List (Int × Int)} {j : Nat} {c : Int × Int} (hc : valR c = true) (hn : ∃ x : Int, C[j]?.getD (0, 0) = (x, 1) ∧ -1000000 ≤ x ∧ x ≤ 1000000) (h : boundS A Y C j = true)
 (e : ∀ v, dotL Y (wholeL (colL A j)) = some v → val c = val (C[j]?.getD (0, 0)) - val v) : boundI A Y C j = true := by
 obtain ⟨x, hx, h1, h2⟩ := hn
 unfold boundS at h
 unfold boundI
 cases e0 : dotL Y (wholeL (colL A j)) with
 | none => rw [e0] at h; cases h
 | some v =>
   rw [e0] at h
   have hcv := e v e0
   have hv := (dotL_spec e0).2.1
   simp only [hx, decide_eq_true_eq] at h hcv ⊢
   rw [val_whole] at hcv
   rw [fit_sub h1 h2 hv hc hcv]
   simp only [Bool.true_and, decide_eq_true_eq]
   rw [val_nonneg hc, hcv]
   have := (val_le (Fr.int x (by omega) (by omega)).1 hv).1 h
   rw [val_whole] at this; grind
theorem subR_self {c : Int × Int} (h : valR c = true) : subR c c = ((0, 1), true) := by
 have hb := valR_bd h
 unfold subR
 rw [if_pos (by rw [h]; rfl), Int.sub_self]
 have hp : 0 < c.2 * c.2 := Int.mul_pos (by omega) (by omega)
 obtain ⟨r, e1, e2⟩ := ratOf_is (n := 0) (d := c.2 * c.2) (x := 0) (D := 1) hp (by omega) (bd18 ⟨by omega, hb.2.1⟩ ⟨by omega, hb.2.1⟩).2 (by omega) (by omega) (by omega) (by omega)
 rw [e1]
 have := Fr.eq e2 (Fr.int 0 (by omega) (by omega)) rfl
 rw [this]
theorem bound_pair {A : List (List Int)} {Y C : List (Int × Int)} {j j' : Nat} (hv : valR (C[j]?.getD (0, 0)) = true) (e1 : C[j']?.getD (0, 0) = negR (C[j]?.getD (0, 0))) (e2 : colL A j' = (colL A j).map fun x => -x)
 (h : boundS A Y C j = true) (h' : boundS A Y C j' = true) : boundI A Y C j = true := by
 unfold boundS at h h'
 unfold boundI
 rw [e2, wholeL_neg, dotL_neg, e1] at h'
 cases e0 : dotL Y (wholeL (colL A j)) with
 | none => rw [e0] at h; cases h
 | some v =>
   rw [e0] at h h'
   have hvv := (dotL_spec e0).2.1
   simp only [decide_eq_true_eq, Option.map_some] at h h'
   rw [val_le hv hvv] at h
   rw [val_le (by rw [valR_negR]; exact hv) (by rw [valR_negR]; exact hvv), val_neg, val_neg] at h'
   have hval : val (C[j]?.getD (0, 0)) = val v := by grind
   have := val_inj hv hvv hval
   simp only
   rw [this, subR_self hvv]; rfl
theorem okLP_parts {A : List (List Int)} {B : List Int} {C : List (Int × Int)} (h : okLP A B C = true) : C.length ≤ 70 ∧ A.length ≤ 8 ∧ B.length = A.length ∧ (∀ j, j < C.length → valR (C[j]?.getD (0, 0)) = true) ∧
 (∀ i, i < A.length → (A[i]?.getD []).length = C.length ∧ ∀ x ∈ A[i]?.getD [], -5000 ≤ x ∧ x ≤ 5000) ∧ ∀ i, i < B.length → -5000 ≤ B[i]?.getD 0 ∧ B[i]?.getD 0 ≤ 5000 := by
 unfold okLP allV at h
 simp only [Bool.and_eq_true, decide_eq_true_eq, List.all_eq_true, inB] at h
 obtain ⟨h1, h2, h3, h4, h5, h6⟩ := h
 refine ⟨h1, h2, h3, fun j hj => ?_, fun i hi => ?_, fun i hi => ?_⟩
 ·rw [List.getElem?_eq_getElem hj]; exact h4 _ (List.getElem_mem _)
 ·rw [List.getElem?_eq_getElem hi]; exact h5 _ (List.getElem_mem _)
 ·rw [List.getElem?_eq_getElem hi]; exact h6 _ (List.getElem_mem _)
theorem sideI_cases (b : Int) : (b < 0 ∧ sideI b = -1) ∨ (¬ b < 0 ∧ sideI b = 1) := by
 unfold sideI; by_cases h : b < 0
 ·exact .inl ⟨h, if_pos h⟩
 ·exact .inr ⟨h, if_neg h⟩
theorem startRow_at {A : List (List Int)} {B : List Int} {n : Nat} {i : Nat} (hl : (A[i]?.getD []).length = n) (hi : i < A.length) :
 (startRow A B i).length = n + A.length + 1 ∧ (∀ j, j < n → (startRow A B i)[j]?.getD (0, 0) = (sideI (B[i]?.getD 0) * (A[i]?.getD [])[j]?.getD 0, 1)) ∧ (∀ k, k < A.length → (startRow A B i)[n + k]?.getD (0, 0) = if k = i then (1, 1) else (0, 1)) ∧ (startRow A B i)[n + A.length]?.getD (0, 0) = (sideI (B[i]?.getD 0) * B[i]?.getD 0, 1) := by
 have e1 : ((A[i]?.getD []).map fun x => (sideI (B[i]?.getD 0) * x, (1 : Int))).length = n := by rw [List.length_map, hl]
 have e2 : (unitL A.length i).length = A.length := by simp [unitL]
 unfold startRow
 refine ⟨by simp [hl, e2]; omega, fun j hj => ?_, fun k hk => ?_, ?_⟩
 ·rw [List.getElem?_append_left (by rw [List.length_append, e1]; omega), List.getElem?_append_left (by omega), List.getElem?_map]
  rw [List.getElem?_eq_getElem (l := A[i]?.getD []) (by rw [hl]; exact hj)]; rfl
 ·rw [List.getElem?_append_left (by rw [List.length_append, e1, e2]; omega), List.getElem?_append_right (by omega), e1, Nat.add_sub_cancel_left]
  unfold unitL
  rw [List.getElem?_map, List.getElem?_range hk]; rfl
 ·rw [List.getElem?_append_right (by rw [List.length_append, e1, e2]; omega), List.length_append, e1, e2]; simp
theorem val_ints (x : Int) (h : -1000000000 ≤ x) (h' : x ≤ 1000000000) : valR (x, 1) = true := (Fr.int x h h').1
theorem start_inv {A : List (List Int)} {B : List Int} {C : List (Int × Int)} (h : okLP A B C = true) : TInv C.length A.length (fun k j => vrow (startRow A B k) j) (startT A B C.length) := by
 obtain ⟨h1, h2, h3, h4, h5, h6⟩ := okLP_parts h
 have hrow : ∀ i, i < A.length → (startT A B C.length).row i = startRow A B i := by
  intro i hi
  unfold startT Tb.row
  simp only [List.getElem?_map, List.getElem?_range hi, Option.map_some, Option.getD_some]
 refine ⟨rfl, by simp [startT], by simp [startT], fun b hb => ?_, fun i hi => ?_, fun i hi => ?_⟩
 ·simp only [startT, List.mem_map, List.mem_range] at hb
  obtain ⟨i, hi, rfl⟩ := hb
  omega
 ·rw [hrow i hi]
  obtain ⟨r1, r2, r3, r4⟩ := startRow_at (B := B) (h5 i hi).1 hi
  refine ⟨r1, fun j hj => ?_⟩
  by_cases hj1 : j < C.length
  ·rw [r2 j hj1]
   have hm : (A[i]?.getD [])[j]?.getD 0 ∈ A[i]?.getD [] := by
    rw [List.getElem?_eq_getElem (l := A[i]?.getD []) (by rw [(h5 i hi).1]; exact hj1)]
    exact List.getElem_mem _
   have hbd := (h5 i hi).2 _ hm
   refine val_ints _ ?_ ?_ <;> rcases sideI_cases (B[i]?.getD 0) with ⟨_, e⟩ | ⟨_, e⟩ <;> rw [e] <;> omega
  ·by_cases hj2 : j < C.length + A.length
   ·obtain ⟨k, rfl⟩ : ∃ k, j = C.length + k := ⟨j - C.length, by omega⟩
    rw [r3 k (by omega)]; split <;> rfl
   ·obtain rfl : j = C.length + A.length := by omega
    rw [r4]
    have := h6 i (by omega)
    refine val_ints _ ?_ ?_ <;> rcases sideI_cases (B[i]?.getD 0) with ⟨_, e⟩ | ⟨_, e⟩ <;> rw [e] <;> omega
 ·rw [hrow i hi]
  obtain ⟨r1, r2, r3, r4⟩ := startRow_at (B := B) (h5 i hi).1 hi
  intro j hj
  rw [sumN_one (i := i) hi]
  ·unfold vrow
   rw [r3 i hi, if_pos rfl]
   have : val (1, 1) = 1 := by unfold val; grind
   rw [this]; grind
  ·intro k hk hki
   unfold vrow
   rw [r3 k hk, if_neg hki]
   have : val (0, 1) = 0 := by unfold val; grind
   rw [this]; grind
theorem sumN_neg (f : Nat → Rat) : ∀ m, sumN (fun k => - f k) m = - sumN f m
 | 0 => by simp [sumN]
 | m + 1 => by simp only [sumN, sumN_neg f m]; grind
theorem side_val (b x : Int) : val (sideI b * x, 1) = (sideI b : Rat) * (x : Rat) := by rw [val_whole]; exact_mod_cast rfl
theorem dualO_val (B : List Int) (cs : List (Int × Int)) (n i : Nat) : val (dualO B cs n i) = - ((sideI (B[i]?.getD 0) : Rat) * vrow cs (n + i)) := by
 unfold dualO sgnR
 rcases sideI_cases (B[i]?.getD 0) with ⟨h, e⟩ | ⟨h, e⟩
 ·rw [if_pos h, e, val_neg, val_neg]; unfold vrow
  have : ((-1 : Int) : Rat) = -1 := by exact_mod_cast rfl
  rw [this]; grind
 ·rw [if_neg h, e, val_neg]; unfold vrow
  have : ((1 : Int) : Rat) = 1 := by exact_mod_cast rfl
  rw [this]; grind
theorem raw_opt {A : List (List Int)} {B : List Int} {C : List (Int × Int)} (ok : okLP A B C = true) {r : LpR} (h : rawT A B C = some r) (hs : r.status = 1) :
 ∃ cs, okRow (C.length + A.length + 1) cs ∧ r.Y.length = B.length ∧ r.value = negR (cs[C.length + A.length]?.getD (0, 0)) ∧ (∀ j, j < C.length → vrow cs j = val (C[j]?.getD (0, 0)) - sumN (fun k => vrow r.Y k * (((A[k]?.getD [])[j]?.getD 0 : Int) : Rat)) A.length) ∧
   vrow cs (C.length + A.length) = - sumN (fun k => vrow r.Y k * ((B[k]?.getD 0 : Int) : Rat)) A.length := by
 obtain ⟨h1, h2, h3, h4, h5, h6⟩ := okLP_parts ok
 unfold rawT at h
 rw [h3] at h
 cases e1 : phaseT (costs1 C.length A.length) 1000 (startT A B C.length) with
 | none => rw [e1] at h; cases h
 | some p1 =>
   rw [e1] at h
   simp only [Option.bind_some] at h
   split at h
   ·rw [Option.map_eq_some_iff] at h
    obtain ⟨Y, _, rfl⟩ := h
    cases hs
   ·cases e2 : driveN C.length (p1.t, p1.left) A.length with
    | none => rw [e2] at h; cases h
    | some s =>
      rw [e2] at h
      simp only [Option.bind_some] at h
      rw [Option.map_eq_some_iff] at h
      obtain ⟨p2, e3, h⟩ := h
      split at h
      ·subst h; cases hs
      ·have i1 := (phaseT_inv (start_inv ok) e1).1
       have i2 := (driveN_inv (s := (p1.t, p1.left)) i1 e2).1
       obtain ⟨i3, e4, _⟩ := phaseT_inv i2 e3
       obtain ⟨c1, c2⟩ := costT_spec i3 e4
       subst h
       have hc2 : ∀ j, (costs2 C A.length ++ [(0, 1)])[j]?.getD (0, 0) = if j < C.length then C[j]?.getD (0, 0) else if j < C.length + A.length + 1 then (0, 1) else (0, 0) := by
        intro j
        unfold costs2
        by_cases hj : j < C.length
        ·rw [if_pos hj, List.append_assoc, List.getElem?_append_left hj]
        ·rw [if_neg hj, List.append_assoc, List.getElem?_append_right (by omega)]
         have : List.replicate A.length ((0 : Int), (1 : Int)) ++ [(0, 1)] = List.replicate (A.length + 1) (0, 1) := by rw [List.replicate_succ']
         rw [this, List.getElem?_replicate]
         by_cases hj2 : j < C.length + A.length + 1
         ·rw [if_pos hj2, if_pos (by omega)]; rfl
         ·rw [if_neg hj2, if_neg (by omega)]; rfl
       have hz : ∀ k, k < A.length + 1 → vrow (costs2 C A.length ++ [(0, 1)]) (C.length + k) = 0 := by
        intro k hk
        unfold vrow
        rw [hc2, if_neg (by omega), if_pos (by omega)]
        unfold val; grind
       have hY : ∀ k, k < A.length → vrow ((List.range A.length).map (dualO B p2.costs C.length)) k = - ((sideI (B[k]?.getD 0) : Rat) * vrow p2.costs (C.length + k)) := by
        intro k hk
        unfold vrow
        rw [List.getElem?_map, List.getElem?_range hk, Option.map_some, Option.getD_some, dualO_val]; rfl
       refine ⟨p2.costs, c1, by simp [h3], rfl, fun j hj => ?_, ?_⟩
       ·have hr := c2 j (by omega)
        have hcj : vrow (costs2 C A.length ++ [(0, 1)]) j = val (C[j]?.getD (0, 0)) := by unfold vrow; rw [hc2, if_pos hj]
        have hsum : sumN (fun k => (vrow p2.costs (C.length + k) - vrow (costs2 C A.length ++ [(0, 1)]) (C.length + k)) * vrow (startRow A B k) j) A.length = sumN (fun k => - (vrow ((List.range A.length).map (dualO B p2.costs C.length)) k * (((A[k]?.getD [])[j]?.getD 0 : Int) : Rat))) A.length :=
         sumN_congr fun k hk => by
          rw [hz k (by omega), hY k hk]
          have : vrow (startRow A B k) j = (sideI (B[k]?.getD 0) : Rat) * (((A[k]?.getD [])[j]?.getD 0 : Int) : Rat) := by
           unfold vrow; rw [(startRow_at (B := B) (h5 k hk).1 hk).2.1 j hj, side_val]
          rw [this]; grind
        rw [hsum, sumN_neg, hcj] at hr
        simp only
        grind
       ·have hr := c2 (C.length + A.length) (by omega)
        have hsum : sumN (fun k => (vrow p2.costs (C.length + k) - vrow (costs2 C A.length ++ [(0, 1)]) (C.length + k)) * vrow (startRow A B k) (C.length + A.length)) A.length = sumN (fun k => - (vrow ((List.range A.length).map (dualO B p2.costs C.length)) k * ((B[k]?.getD 0 : Int) : Rat))) A.length :=
         sumN_congr fun k hk => by
          rw [hz k (by omega), hY k hk]
          have : vrow (startRow A B k) (C.length + A.length) = (sideI (B[k]?.getD 0) : Rat) * ((B[k]?.getD 0 : Int) : Rat) := by
           unfold vrow; rw [(startRow_at (B := B) (h5 k hk).1 hk).2.2.2, side_val]
          rw [this]; grind
        rw [hsum, sumN_neg, hz A.length (by omega)] at hr
        simp only
        grind
theorem colL_at (A : List (List Int)) (j k : Nat) (hk : k < A.length) : (colL A j)[k]?.getD 0 = (A[k]?.getD [])[j]?.getD 0 := by
 unfold colL
 rw [List.getElem?_map, List.getElem?_eq_getElem hk]; rfl
theorem check_eq {A : List (List Int)} {B : List Int} {C : List (Int × Int)} (ok : okLP A B C = true) (hn : ∀ j, j < C.length → niceC A C j) {r : LpR} (h : rawT A B C = some r) : checkG boundI A B C r = checkG boundS A B C r := by
 unfold checkG
 split
 ·next hs =>
  obtain ⟨cs, c1, c2, c3, c4, c5⟩ := raw_opt ok h hs
  obtain ⟨h1, h2, h3, h4, h5, h6⟩ := okLP_parts ok
  have key : (List.range C.length).all (boundI A r.Y C) = (List.range C.length).all (boundS A r.Y C) := by
   rw [Bool.eq_iff_iff, List.all_eq_true, List.all_eq_true]
   constructor
   ·intro ha j hj; exact bound_le (ha j hj)
   ·intro ha j hj
    have hj' := List.mem_range.1 hj
    rcases hn j hj' with hi | ⟨j', hj2, e1, e2⟩
    ·refine bound_int (c1.2 j (by omega)) hi (ha j hj) fun v hv => ?_
     have := c4 j hj'
     unfold vrow at this
     rw [this]
     obtain ⟨d1, d2, d3, d4⟩ := dotL_spec hv
     rw [d4, c2, h3]
     congr 1
     refine sumN_congr fun k hk => ?_
     unfold vrow
     rw [wholeL_at (by simp [colL]; omega), colL_at A j k hk, val_whole]
    ·exact bound_pair (h4 j hj') e1 e2 (ha j hj) (ha j' (List.mem_range.2 hj2))
  rw [key]
 ·rfl
theorem solve_eq {A : List (List Int)} {B : List Int} {C : List (Int × Int)} (hn : okLP A B C = true → ∀ j, j < C.length → niceC A C j) : solveG boundI A B C = solveG boundS A B C := by
 unfold solveG
 split
 ·next ok =>
  cases e : rawT A B C with
  | none => rfl
  | some r => simp only [check_eq ok (hn ok) e]
 ·rfl
def dualS (B : List Int) (base : Int × Int) (cs : List (Int × Int)) (n i : Nat) : Int × Int := sgnR (B[i]?.getD 0) (subR base (cs[n + i]?.getD (0, 0))).1
def rawS (A : List (List Int)) (B : List Int) (C : List (Int × Int)) : Option LpR :=
 (phaseT (costs1 C.length B.length) 1000 (startT A B C.length)).bind fun p1 =>
   if (p1.costs[C.length + B.length]?.getD (0, 0)).1 < 0 then
    some ⟨2, [], (List.range B.length).map (dualS B (1, 1) p1.costs C.length), [], (0, 0), 1000 - p1.left⟩
   else (driveN C.length (p1.t, p1.left) B.length).bind fun s => (phaseT (costs2 C B.length) s.2 s.1).map fun p2 =>
    if 0 ≤ p2.col then ⟨3, (solT p2.t).take C.length, [], rayN p2.t C.length p2.col.toNat B.length, (0, 0), 1000 - p2.left⟩
    else ⟨1, (solT p2.t).take C.length, (List.range B.length).map (dualS B (0, 1) p2.costs C.length), [], negR (p2.costs[C.length + B.length]?.getD (0, 0)), 1000 - p2.left⟩
def solveS (A : List (List Int)) (B : List Int) (C : List (Int × Int)) : LpR :=
 if okLP A B C = true then
  match rawS A B C with
  | none => lpZero 4
  | some r => if checkG boundS A B C r = true then r else lpZero 4
 else lpZero 0
theorem dualS_some {B : List Int} {base : Int × Int} {cs : List (Int × Int)} {n i : Nat} {x : Int × Int} (h : dualF B base cs n i = some x) : dualS B base cs n i = x := by
 unfold dualF at h
 split at h
 ·exact Option.some.inj h
 ·cases h
theorem subR_badz {a b : Int × Int} (h : (subR a b).2 = false) : (subR a b).1 = (0, 0) := by
 unfold subR at h ⊢
 split
 ·next hv => rw [if_pos hv] at h; exact ratOf_no h
 ·rfl
theorem dualS_none {B : List Int} {base : Int × Int} {cs : List (Int × Int)} {n i : Nat} (h : dualF B base cs n i = none) : valR (dualS B base cs n i) = false := by
 unfold dualF at h
 split at h
 ·cases h
 ·next hf =>
  unfold dualS
  rw [subR_badz (by simpa using hf)]
  unfold sgnR negR
  split <;> rfl
theorem dualS_opt {B : List Int} {cs : List (Int × Int)} {n i : Nat} (hv : valR (cs[n + i]?.getD (0, 0)) = true) : dualS B (0, 1) cs n i = dualO B cs n i := by
 unfold dualS dualO
 rw [fit_sub (x := 0) (c := negR (cs[n + i]?.getD (0, 0))) (by omega) (by omega) hv (by rw [valR_negR]; exact hv) (by rw [val_neg]; grind)]
theorem runT_fails {f : Nat → Option (Int × Int)} : ∀ {k : Nat}, runT f k = none → ∃ i, i < k ∧ f i = none
 | 0, h => by cases h
 | k + 1, h => by
   cases hk : runT f k with
   | none => obtain ⟨i, hi, hf⟩ := runT_fails hk; exact ⟨i, by omega, hf⟩
   | some l =>
     cases hf : f k with
     | none => exact ⟨k, by omega, hf⟩
     | some x => rw [runT_some hk hf] at h; cases h
theorem rawS_eq {A : List (List Int)} {B : List Int} {C : List (Int × Int)} (ok : okLP A B C = true) :
 rawS A B C = rawT A B C ∨ (rawT A B C = none ∧ ∃ r, rawS A B C = some r ∧ checkG boundS A B C r = false) := by
 obtain ⟨h1, h2, h3, h4, h5, h6⟩ := okLP_parts ok
 unfold rawS rawT
 cases e1 : phaseT (costs1 C.length B.length) 1000 (startT A B C.length) with
 | none => exact Or.inl rfl
 | some p1 =>
   simp only [Option.bind_some]
   by_cases hneg : (p1.costs[C.length + B.length]?.getD (0, 0)).1 < 0
   ·rw [if_pos hneg, if_pos hneg]
    cases hr : runT (dualF B (1, 1) p1.costs C.length) B.length with
    | some Y =>
      left
      have hY : (List.range B.length).map (dualS B (1, 1) p1.costs C.length) = Y := by
       have := runT_all (f := dualF B (1, 1) p1.costs C.length) (F := dualS B (1, 1) p1.costs C.length) (k := B.length) fun i hi => by
        have := runT_at hr i hi
        rw [this, dualS_some this]
       rw [hr] at this
       exact (Option.some.inj this).symm
      rw [hY]; rfl
    | none =>
      right
      refine ⟨rfl, _, rfl, ?_⟩
      obtain ⟨i, hi, hf⟩ := runT_fails hr
      have hv := dualS_none hf
      unfold checkG
      rw [if_neg (by simp), if_pos rfl]
      simp only
      rw [Bool.and_eq_false_iff]
      right
      unfold proofNo
      rw [Bool.and_eq_false_iff]
      right
      cases hd : dotL ((List.range B.length).map (dualS B (1, 1) p1.costs C.length)) (wholeL B) with
      | none => rfl
      | some v =>
        exfalso
        have := ((dotL_spec hd).2.2.1 i (by simpa using hi)).1
        rw [List.getElem?_map, List.getElem?_range hi, Option.map_some, Option.getD_some, hv] at this
        cases this
   ·rw [if_neg hneg, if_neg hneg]
    left
    cases e2 : driveN C.length (p1.t, p1.left) B.length with
    | none => rfl
    | some s =>
      simp only [Option.bind_some]
      cases e3 : phaseT (costs2 C B.length) s.2 s.1 with
      | none => rfl
      | some p2 =>
        simp only [Option.map_some]
        split
        ·rfl
        ·have i1 := (phaseT_inv (start_inv ok) e1).1
         have i2 := (driveN_inv (s := (p1.t, p1.left)) i1 e2).1
         obtain ⟨i3, e4, _⟩ := phaseT_inv i2 e3
         obtain ⟨c1, c2⟩ := costT_spec i3 e4
         congr 2
         apply List.map_congr_left
         intro i hi
         exact dualS_opt (c1.2 _ (by have := List.mem_range.1 hi; omega))
theorem solveS_eq (A : List (List Int)) (B : List Int) (C : List (Int × Int)) : solveS A B C = solveG boundS A B C := by
 unfold solveS solveG
 split
 ·next ok =>
  rcases rawS_eq ok with h | ⟨h1, r, h2, h3⟩
  ·rw [h]; cases rawT A B C <;> rfl
  ·rw [h1, h2]; simp only; rw [h3]; rfl
 ·rfl
theorem solve_both {A : List (List Int)} {B : List Int} {C : List (Int × Int)} (hn : okLP A B C = true → ∀ j, j < C.length → niceC A C j) : solveG boundI A B C = solveS A B C := by rw [solveS_eq]; exact solve_eq hn
theorem raw_val {A : List (List Int)} {B : List Int} {C : List (Int × Int)} (ok : okLP A B C = true) {r : LpR} (h : rawT A B C = some r) (hs : r.status = 1) :
 r.Y.length = B.length ∧ valR r.value = true ∧ (∀ k, k < r.Y.length → valR (r.Y[k]?.getD (0, 0)) = true) := by
 obtain ⟨h1, h2, h3, h4, h5, h6⟩ := okLP_parts ok
 unfold rawT at h
 rw [h3] at h
 cases e1 : phaseT (costs1 C.length A.length) 1000 (startT A B C.length) with
 | none => rw [e1] at h; cases h
 | some p1 =>
   rw [e1] at h
   simp only [Option.bind_some] at h
   split at h
   ·rw [Option.map_eq_some_iff] at h
    obtain ⟨Y, _, rfl⟩ := h
    cases hs
   ·cases e2 : driveN C.length (p1.t, p1.left) A.length with
    | none => rw [e2] at h; cases h
    | some s =>
      rw [e2] at h
      simp only [Option.bind_some] at h
      rw [Option.map_eq_some_iff] at h
      obtain ⟨p2, e3, h⟩ := h
      split at h
      ·subst h; cases hs
      ·have i1 := (phaseT_inv (start_inv ok) e1).1
       have i2 := (driveN_inv (s := (p1.t, p1.left)) i1 e2).1
       obtain ⟨i3, e4, _⟩ := phaseT_inv i2 e3
       obtain ⟨c1, c2⟩ := costT_spec i3 e4
       subst h
       refine ⟨by simp [h3], ?_, fun k hk => ?_⟩
       ·simp only
        rw [valR_negR]
        exact c1.2 _ (by omega)
       ·simp only [List.length_map, List.length_range] at hk
        simp only
        rw [List.getElem?_map, List.getElem?_range hk, Option.map_some, Option.getD_some]
        have hv := c1.2 (C.length + k) (by omega)
        unfold dualO sgnR
        split
        ·rw [valR_negR, valR_negR]; exact hv
        ·rw [valR_negR]; exact hv
theorem solveG_val {bound : List (List Int) → List (Int × Int) → List (Int × Int) → Nat → Bool} {A : List (List Int)} {B : List Int} {C : List (Int × Int)} (h : (solveG bound A B C).status = 1) :
 okLP A B C = true ∧ rawT A B C = some (solveG bound A B C) ∧ checkG bound A B C (solveG bound A B C) = true ∧ (solveG bound A B C).Y.length = B.length ∧ valR (solveG bound A B C).value = true ∧ ∀ k, k < (solveG bound A B C).Y.length → valR ((solveG bound A B C).Y[k]?.getD (0, 0)) = true := by
 cases ok : okLP A B C with
 | false => unfold solveG at h; rw [if_neg (by rw [ok]; simp)] at h; cases h
 | true =>
   cases hr : rawT A B C with
   | none =>
     have e : solveG bound A B C = lpZero 4 := by unfold solveG; rw [if_pos ok, hr]
     rw [e] at h; cases h
   | some r =>
     have e : solveG bound A B C = if checkG bound A B C r = true then r else lpZero 4 := by unfold solveG; rw [if_pos ok, hr]
     by_cases hc : checkG bound A B C r = true
     ·rw [if_pos hc] at e
      rw [e] at h ⊢
      have := raw_val ok hr h
      exact ⟨rfl, rfl, hc, this⟩
     ·rw [if_neg hc] at e
      rw [e] at h
      cases h
theorem sumN_le {f g : Nat → Rat} : ∀ {m}, (∀ k, k < m → f k ≤ g k) → sumN f m ≤ sumN g m
 | 0, _ => Rat.le_refl
 | m + 1, h => by
   have h1 := sumN_le (m := m) (fun k hk => h k (by omega))
   have h2 := h m (by omega)
   simp only [sumN]; grind
theorem vrow_wholeC (l : List Int) (j : Nat) (hj : j < l.length) : vrow (wholeL l) j = ((l[j]?.getD 0 : Int) : Rat) := by
 unfold vrow
 rw [wholeL_at hj, val_whole]
def ent (A : List (List Int)) (i j : Nat) : Int := (A[i]?.getD [])[j]?.getD 0
structure Cert (A : List (List Int)) (B : List Int) (C : List (Int × Int)) (r : LpR) : Prop where
 xl : r.X.length = C.length
 yl : r.Y.length = A.length
 bl : B.length = A.length
 x0 : ∀ j, j < C.length → 0 ≤ vrow r.X j
 row : ∀ i, i < A.length → sumN (fun j => (ent A i j : Rat) * vrow r.X j) C.length = ((B[i]?.getD 0 : Int) : Rat)
 col : ∀ j, j < C.length → sumN (fun i => vrow r.Y i * (ent A i j : Rat)) A.length ≤ vrow C j
 cx : val r.value = sumN (fun j => vrow C j * vrow r.X j) C.length
 yb : val r.value = sumN (fun i => vrow r.Y i * ((B[i]?.getD 0 : Int) : Rat)) A.length
theorem cert_of {A : List (List Int)} {B : List Int} {C : List (Int × Int)} (ok : okLP A B C = true) {r : LpR} (hc : checkG boundI A B C r = true) (hs : r.status = 1) : Cert A B C r := by
 obtain ⟨h1, h2, h3, h4, h5, h6⟩ := okLP_parts ok
 unfold checkG at hc
 rw [if_pos hs] at hc
 obtain ⟨hf, hc⟩ := both hc
 obtain ⟨hy, hc⟩ := both hc
 obtain ⟨hb, hm⟩ := both hc
 unfold feasB at hf
 obtain ⟨hxl, hf⟩ := both hf
 obtain ⟨hpos, hg⟩ := both hf
 have hxl := of_decide_eq_true hxl
 have hyl := of_decide_eq_true hy
 have hxv : ∀ j, j < r.X.length → valR (r.X[j]?.getD (0, 0)) = true ∧ 0 ≤ (r.X[j]?.getD (0, 0)).1 := by
  intro j hj
  have := List.all_eq_true.1 hpos (r.X[j]) (List.getElem_mem hj)
  obtain ⟨a, b⟩ := both this
  rw [List.getElem?_eq_getElem hj, Option.getD_some]
  exact ⟨a, of_decide_eq_true b⟩
 unfold meetB at hm
 cases e1 : dotL C r.X with
 | none => rw [e1] at hm; cases hm
 | some x =>
   cases e2 : dotL r.Y (wholeL B) with
   | none => rw [e1, e2] at hm; cases hm
   | some y =>
     rw [e1, e2] at hm
     obtain ⟨hxy, hxv2⟩ := both hm
     have hxy := of_decide_eq_true hxy
     have hxr := of_decide_eq_true hxv2
     obtain ⟨d1, _, _, d4⟩ := dotL_spec e1
     obtain ⟨f1, _, _, f4⟩ := dotL_spec e2
     refine ⟨hxl, by rw [hyl, h3], h3, fun j hj => (val_nonneg (hxv j (by omega)).1).1 (hxv j (by omega)).2, fun i hi => ?_, fun j hj => ?_, ?_, ?_⟩
     ·have := of_decide_eq_true (List.all_eq_true.1 hg i (List.mem_range.2 hi))
      obtain ⟨k1, _, _, k4⟩ := dotL_spec this
      rw [wholeL_len] at k1 k4
      rw [val_whole] at k4
      rw [k4, k1, hxl]
      exact sumN_congr fun j hj => by rw [vrow_wholeC _ _ (by omega)]; rfl
     ·have := List.all_eq_true.1 hb j (List.mem_range.2 hj)
      unfold boundI at this
      cases e3 : dotL r.Y (wholeL (colL A j)) with
      | none => rw [e3] at this; cases this
      | some v =>
        rw [e3] at this
        obtain ⟨s1, s2⟩ := both this
        obtain ⟨g1, g2, g3, g4⟩ := val_sub s1
        have hnn := (val_nonneg g3).1 (of_decide_eq_true s2)
        obtain ⟨k1, _, _, k4⟩ := dotL_spec e3
        have hcl : (colL A j).length = A.length := by unfold colL; simp
        rw [wholeL_len, hcl] at k1
        have e4 : sumN (fun i => vrow r.Y i * (ent A i j : Rat)) A.length = val v := by
         rw [k4, k1]
         exact sumN_congr fun i hi => by rw [vrow_wholeC _ _ (by rw [hcl]; exact hi), colL_at _ _ _ hi]; rfl
        rw [e4]
        show val v ≤ val (C[j]?.getD (0, 0))
        grind
     ·rw [← hxr, d4]
     ·rw [← hxr, hxy, f4, f1, wholeL_len, h3]
      exact sumN_congr fun i hi => by rw [vrow_wholeC _ _ (by omega)]
end Go.Proofs.YthjjfkeacobikaaGreat
