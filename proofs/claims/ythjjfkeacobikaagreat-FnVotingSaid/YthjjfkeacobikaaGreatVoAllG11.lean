import Derived.Test.YthjjfkeacobikaaGreatVoAllG10
namespace Go.Proofs.YthjjfkeacobikaaGreat
set_option linter.unusedVariables false
def dualS (B : List Int) (base : Int × Int) (cs : List (Int × Int)) (n i : Nat) : Int × Int := sgnR (B[i]?.getD 0) (subR base (cs[n + i]?.getD (0, 0))).1
def rawS (A : List (List Int)) (B : List Int) (C : List (Int × Int)) : Option LpR :=
 (phaseT (costs1 C.length B.length) 1000 (startT A B C.length)).bind fun p1 =>
   if (p1.costs[C.length + B.length]?.getD (0, 0)).1 < 0 then
    some ⟨2, [], (List.range B.length).map (dualS B (1, 1) p1.costs C.length), [], (0, 0), 1000 - p1.left⟩
   else (driveN C.length (p1.t, p1.left) B.length).bind fun s => (phaseT (costs2 C B.length) s.2 s.1).map fun p2 =>
    if 0 ≤ p2.col then ⟨3, (solT p2.t).take C.length, [], rayN p2.t C.length p2.col.toNat B.length, (0, 0), 1000 - p2.left⟩
    else ⟨1, (solT p2.t).take C.length, (List.range B.length).map (dualS B (0, 1) p2.costs C.length), [], negR (p2.costs[C.length + B.length]?.getD (0, 0)), 1000 - p2.left⟩
def solveS (A : List (List Int)) (B : List Int) (C : List (Int × Int)) : LpR :=
 if okLP A B C = true then
  match rawS A B C with
  | none => lpZero 4
  | some r => if checkG boundS A B C r = true then r else lpZero 4
 else lpZero 0
theorem dualS_some {B : List Int} {base : Int × Int} {cs : List (Int × Int)} {n i : Nat} {x : Int × Int} (h : dualF B base cs n i = some x) : dualS B base cs n i = x := by
 unfold dualF at h
 split at h
 ·exact Option.some.inj h
 ·cases h
theorem subR_badz {a b : Int × Int} (h : (subR a b).2 = false) : (subR a b).1 = (0, 0) := by
 unfold subR at h ⊢
 split
 ·next hv => rw [if_pos hv] at h; exact ratOf_no h
 ·rfl
theorem dualS_none {B : List Int} {base : Int × Int} {cs : List (Int × Int)} {n i : Nat} (h : dualF B base cs n i = none) : valR (dualS B base cs n i) = false := by
 unfold dualF at h
 split at h
 ·cases h
 ·next hf =>
  unfold dualS
  rw [subR_badz (by simpa using hf)]
  unfold sgnR negR
  split <;> rfl
theorem dualS_opt {B : List Int} {cs : List (Int × Int)} {n i : Nat} (hv : valR (cs[n + i]?.getD (0, 0)) = true) : dualS B (0, 1) cs n i = dualO B cs n i := by
 unfold dualS dualO
 rw [fit_sub (x := 0) (c := negR (cs[n + i]?.getD (0, 0))) (by omega) (by omega) hv (by rw [valR_negR]; exact hv) (by rw [val_neg]; grind)]
theorem runT_fails {f : Nat → Option (Int × Int)} : ∀ {k : Nat}, runT f k = none → ∃ i, i < k ∧ f i = none
 | 0, h => by cases h
 | k + 1, h => by
   cases hk : runT f k with
   | none => obtain ⟨i, hi, hf⟩ := runT_fails hk; exact ⟨i, by omega, hf⟩
   | some l =>
     cases hf : f k with
     | none => exact ⟨k, by omega, hf⟩
     | some x => rw [runT_some hk hf] at h; cases h
theorem rawS_eq {A : List (List Int)} {B : List Int} {C : List (Int × Int)} (ok : okLP A B C = true) :
 rawS A B C = rawT A B C ∨ (rawT A B C = none ∧ ∃ r, rawS A B C = some r ∧ checkG boundS A B C r = false) := by
 obtain ⟨h1, h2, h3, h4, h5, h6⟩ := okLP_parts ok
 unfold rawS rawT
 cases e1 : phaseT (costs1 C.length B.length) 1000 (startT A B C.length) with
 | none => exact Or.inl rfl
 | some p1 =>
   simp only [Option.bind_some]
   by_cases hneg : (p1.costs[C.length + B.length]?.getD (0, 0)).1 < 0
   ·rw [if_pos hneg, if_pos hneg]
    cases hr : runT (dualF B (1, 1) p1.costs C.length) B.length with
    | some Y =>
      left
      have hY : (List.range B.length).map (dualS B (1, 1) p1.costs C.length) = Y := by
       have := runT_all (f := dualF B (1, 1) p1.costs C.length) (F := dualS B (1, 1) p1.costs C.length) (k := B.length) fun i hi => by
        have := runT_at hr i hi
        rw [this, dualS_some this]
       rw [hr] at this
       exact (Option.some.inj this).symm
      rw [hY]; rfl
    | none =>
      right
      refine ⟨rfl, _, rfl, ?_⟩
      obtain ⟨i, hi, hf⟩ := runT_fails hr
      have hv := dualS_none hf
      unfold checkG
      rw [if_neg (by simp), if_pos rfl]
      simp only
      rw [Bool.and_eq_false_iff]
      right
      unfold proofNo
      rw [Bool.and_eq_false_iff]
      right
      cases hd : dotL ((List.range B.length).map (dualS B (1, 1) p1.costs C.length)) (wholeL B) with
      | none => rfl
      | some v =>
        exfalso
        have := ((dotL_spec hd).2.2.1 i (by simpa using hi)).1
        rw [List.getElem?_map, List.getElem?_range hi, Option.map_some, Option.getD_some, hv] at this
        cases this
   ·rw [if_neg hneg, if_neg hneg]
    left
    cases e2 : driveN C.length (p1.t, p1.left) B.length with
    | none => rfl
    | some s =>
      simp only [Option.bind_some]
      cases e3 : phaseT (costs2 C B.length) s.2 s.1 with
      | none => rfl
      | some p2 =>
        simp only [Option.map_some]
        split
        ·rfl
        ·have i1 := (phaseT_inv (start_inv ok) e1).1
         have i2 := (driveN_inv (s := (p1.t, p1.left)) i1 e2).1
         obtain ⟨i3, e4, _⟩ := phaseT_inv i2 e3
         obtain ⟨c1, c2⟩ := costT_spec i3 e4
         congr 2
         apply List.map_congr_left
         intro i hi
         exact dualS_opt (c1.2 _ (by have := List.mem_range.1 hi; omega))
theorem solveS_eq (A : List (List Int)) (B : List Int) (C : List (Int × Int)) : solveS A B C = solveG boundS A B C := by
 unfold solveS solveG
 split
 ·next ok =>
  rcases rawS_eq ok with h | ⟨h1, r, h2, h3⟩
  ·rw [h]; cases rawT A B C <;> rfl
  ·rw [h1, h2]; simp only; rw [h3]; rfl
 ·rfl
theorem solve_both {A : List (List Int)} {B : List Int} {C : List (Int × Int)} (hn : okLP A B C = true → ∀ j, j < C.length → niceC A C j) : solveG boundI A B C = solveS A B C := by rw [solveS_eq]; exact solve_eq hn
theorem raw_val {A : List (List Int)} {B : List Int} {C : List (Int × Int)} (ok : okLP A B C = true) {r : LpR} (h : rawT A B C = some r) (hs : r.status = 1) :
 r.Y.length = B.length ∧ valR r.value = true ∧ (∀ k, k < r.Y.length → valR (r.Y[k]?.getD (0, 0)) = true) := by
 obtain ⟨h1, h2, h3, h4, h5, h6⟩ := okLP_parts ok
 unfold rawT at h
 rw [h3] at h
 cases e1 : phaseT (costs1 C.length A.length) 1000 (startT A B C.length) with
 | none => rw [e1] at h; cases h
 | some p1 =>
   rw [e1] at h
   simp only [Option.bind_some] at h
   split at h
   ·rw [Option.map_eq_some_iff] at h
    obtain ⟨Y, _, rfl⟩ := h
    cases hs
   ·cases e2 : driveN C.length (p1.t, p1.left) A.length with
    | none => rw [e2] at h; cases h
    | some s =>
      rw [e2] at h
      simp only [Option.bind_some] at h
      rw [Option.map_eq_some_iff] at h
      obtain ⟨p2, e3, h⟩ := h
      split at h
      ·subst h; cases hs
      ·have i1 := (phaseT_inv (start_inv ok) e1).1
       have i2 := (driveN_inv (s := (p1.t, p1.left)) i1 e2).1
       obtain ⟨i3, e4, _⟩ := phaseT_inv i2 e3
       obtain ⟨c1, c2⟩ := costT_spec i3 e4
       subst h
       refine ⟨by simp [h3], ?_, fun k hk => ?_⟩
       ·simp only
        rw [valR_negR]
        exact c1.2 _ (by omega)
       ·simp only [List.length_map, List.length_range] at hk
        simp only
        rw [List.getElem?_map, List.getElem?_range hk, Option.map_some, Option.getD_some]
        have hv := c1.2 (C.length + k) (by omega)
        unfold dualO sgnR
        split
        ·rw [valR_negR, valR_negR]; exact hv
        ·rw [valR_negR]; exact hv
theorem solveG_val {bound : List (List Int) → List (Int × Int) → List (Int × Int) → Nat → Bool} {A : List (List Int)} {B : List Int} {C : List (Int × Int)} (h : (solveG bound A B C).status = 1) :
 okLP A B C = true ∧ rawT A B C = some (solveG bound A B C) ∧ checkG bound A B C (solveG bound A B C) = true ∧ (solveG bound A B C).Y.length = B.length ∧ valR (solveG bound A B C).value = true ∧ ∀ k, k < (solveG bound A B C).Y.length → valR ((solveG bound A B C).Y[k]?.getD (0, 0)) = true := by
 cases ok : okLP A B C with
 | false => unfold solveG at h; rw [if_neg (by rw [ok]; simp)] at h; cases h
 | true =>
   cases hr : rawT A B C with
   | none =>
     have e : solveG bound A B C = lpZero 4 := by unfold solveG; rw [if_pos ok, hr]
     rw [e] at h; cases h
   | some r =>
     have e : solveG bound A B C = if checkG bound A B C r = true then r else lpZero 4 := by unfold solveG; rw [if_pos ok, hr]
     by_cases hc : checkG bound A B C r = true
     ·rw [if_pos hc] at e
      rw [e] at h ⊢
      have := raw_val ok hr h
      exact ⟨rfl, rfl, hc, this⟩
     ·rw [if_neg hc] at e
      rw [e] at h
      cases h
theorem sumN_le {f g : Nat → Rat} : ∀ {m}, (∀ k, k < m → f k ≤ g k) → sumN f m ≤ sumN g m
 | 0, _ => Rat.le_refl
 | m + 1, h => by
   have h1 := sumN_le (m := m) (fun k hk => h k (by omega))
   have h2 := h m (by omega)
   simp only [sumN]; grind
theorem sumN_nn {f : Nat → Rat} : ∀ {m}, (∀ k, k < m → 0 ≤ f k) → 0 ≤ sumN f m
 | 0, _ => Rat.le_refl
 | m + 1, h => by
   have h1 := sumN_nn (m := m) (fun k hk => h k (by omega))
   have h2 := h m (by omega)
   simp only [sumN]; grind
theorem sumN_but {y : Nat → Rat} {e : Nat → Rat} {k m : Nat} (hk : k < m) (h1 : ∀ i, i < m → i ≠ k → e i = 1) (h0 : e k = 0) : sumN (fun i => y i * e i) m = sumN y m - y k := by
 have e1 : sumN (fun i => y i * e i) m = sumN (fun i => y i + (-1) * (if i = k then y i else 0)) m := sumN_congr fun i hi => by
  by_cases hik : i = k
  ·subst hik; rw [if_pos rfl, h0]; grind
  ·rw [if_neg hik, h1 i hi hik]; grind
 rw [e1, sumN_lin, sumN_one hk (fun i _ hik => if_neg hik), if_pos rfl]
 grind
theorem vrow_wholeC (l : List Int) (j : Nat) (hj : j < l.length) : vrow (wholeL l) j = ((l[j]?.getD 0 : Int) : Rat) := by
 unfold vrow
 rw [wholeL_at hj, val_whole]
def ent (A : List (List Int)) (i j : Nat) : Int := (A[i]?.getD [])[j]?.getD 0
structure Cert (A : List (List Int)) (B : List Int) (C : List (Int × Int)) (r : LpR) : Prop where
 xl : r.X.length = C.length
 yl : r.Y.length = A.length
 bl : B.length = A.length
 x0 : ∀ j, j < C.length → 0 ≤ vrow r.X j
 row : ∀ i, i < A.length → sumN (fun j => (ent A i j : Rat) * vrow r.X j) C.length = ((B[i]?.getD 0 : Int) : Rat)
 col : ∀ j, j < C.length → sumN (fun i => vrow r.Y i * (ent A i j : Rat)) A.length ≤ vrow C j
 cx : val r.value = sumN (fun j => vrow C j * vrow r.X j) C.length
 yb : val r.value = sumN (fun i => vrow r.Y i * ((B[i]?.getD 0 : Int) : Rat)) A.length
theorem cert_of {A : List (List Int)} {B : List Int} {C : List (Int × Int)} (ok : okLP A B C = true) {r : LpR} (hc : checkG boundI A B C r = true) (hs : r.status = 1) : Cert A B C r := by
 obtain ⟨h1, h2, h3, h4, h5, h6⟩ := okLP_parts ok
 unfold checkG at hc
 rw [if_pos hs] at hc
 obtain ⟨hf, hc⟩ := both hc
 obtain ⟨hy, hc⟩ := both hc
 obtain ⟨hb, hm⟩ := both hc
 unfold feasB at hf
 obtain ⟨hxl, hf⟩ := both hf
 obtain ⟨hpos, hg⟩ := both hf
 have hxl := of_decide_eq_true hxl
 have hyl := of_decide_eq_true hy
 have hxv : ∀ j, j < r.X.length → valR (r.X[j]?.getD (0, 0)) = true ∧ 0 ≤ (r.X[j]?.getD (0, 0)).1 := by
  intro j hj
  have := List.all_eq_true.1 hpos (r.X[j]) (List.getElem_mem hj)
  obtain ⟨a, b⟩ := both this
  rw [List.getElem?_eq_getElem hj, Option.getD_some]
  exact ⟨a, of_decide_eq_true b⟩
 unfold meetB at hm
 cases e1 : dotL C r.X with
 | none => rw [e1] at hm; cases hm
 | some x =>
   cases e2 : dotL r.Y (wholeL B) with
   | none => rw [e1, e2] at hm; cases hm
   | some y =>
     rw [e1, e2] at hm
     obtain ⟨hxy, hxv2⟩ := both hm
     have hxy := of_decide_eq_true hxy
     have hxr := of_decide_eq_true hxv2
     obtain ⟨d1, _, _, d4⟩ := dotL_spec e1
     obtain ⟨f1, _, _, f4⟩ := dotL_spec e2
     refine ⟨hxl, by rw [hyl, h3], h3, fun j hj => (val_nonneg (hxv j (by omega)).1).1 (hxv j (by omega)).2, fun i hi => ?_, fun j hj => ?_, ?_, ?_⟩
     ·have := of_decide_eq_true (List.all_eq_true.1 hg i (List.mem_range.2 hi))
      obtain ⟨k1, _, _, k4⟩ := dotL_spec this
      rw [wholeL_len] at k1 k4
      rw [val_whole] at k4
      rw [k4, k1, hxl]
      exact sumN_congr fun j hj => by rw [vrow_wholeC _ _ (by omega)]; rfl
     ·have := List.all_eq_true.1 hb j (List.mem_range.2 hj)
      unfold boundI at this
      cases e3 : dotL r.Y (wholeL (colL A j)) with
      | none => rw [e3] at this; cases this
      | some v =>
        rw [e3] at this
        obtain ⟨s1, s2⟩ := both this
        obtain ⟨g1, g2, g3, g4⟩ := val_sub s1
        have hnn := (val_nonneg g3).1 (of_decide_eq_true s2)
        obtain ⟨k1, _, _, k4⟩ := dotL_spec e3
        have hcl : (colL A j).length = A.length := by unfold colL; simp
        rw [wholeL_len, hcl] at k1
        have e4 : sumN (fun i => vrow r.Y i * (ent A i j : Rat)) A.length = val v := by
         rw [k4, k1]
         exact sumN_congr fun i hi => by rw [vrow_wholeC _ _ (by rw [hcl]; exact hi), colL_at _ _ _ hi]; rfl
        rw [e4]
        show val v ≤ val (C[j]?.getD (0, 0))
        grind
     ·rw [← hxr, d4]
     ·rw [← hxr, hxy, f4, f1, wholeL_len, h3]
      exact sumN_congr fun i hi => by rw [vrow_wholeC _ _ (by omega)]
end Go.Proofs.YthjjfkeacobikaaGreat
