import Derived.Test.YthjjfkeacobikaaGreatMkAllG11
import Derived.Test.YthjjfkeacobikaaGreatMkAllG35
import Derived.Test.YthjjfkeacobikaaGreatMkAllG4
namespace Go.Proofs.YthjjfkeacobikaaGreat
set_option linter.unusedVariables false
theorem sumN_le {f g : Nat → Rat} : ∀ {m}, (∀ k, k < m → f k ≤ g k) → sumN f m ≤ sumN g m
 | 0, _ => Rat.le_refl
 | m + 1, h => by
   have h1 := sumN_le (m := m) (fun k hk => h k (by omega))
   have h2 := h m (by omega)
   simp only [sumN]; grind
theorem vrow_wholeC (l : List Int) (j : Nat) (hj : j < l.length) : vrow (wholeL l) j = ((l[j]?.getD 0 : Int) : Rat) := by
 unfold vrow
 rw [wholeL_at hj, val_whole]
def ent (A : List (List Int)) (i j : Nat) : Int := (A[i]?.getD [])[j]?.getD 0
structure Cert (A : List (List Int)) (B : List Int) (C : List (Int × Int)) (r : LpR) : Prop where
 xl : r.X.length = C.length
 yl : r.Y.length = A.length
 bl : B.length = A.length
 x0 : ∀ j, j < C.length → 0 ≤ vrow r.X j
 row : ∀ i, i < A.length → sumN (fun j => (ent A i j : Rat) * vrow r.X j) C.length = ((B[i]?.getD 0 : Int) : Rat)
 col : ∀ j, j < C.length → sumN (fun i => vrow r.Y i * (ent A i j : Rat)) A.length ≤ vrow C j
 cx : val r.value = sumN (fun j => vrow C j * vrow r.X j) C.length
 yb : val r.value = sumN (fun i => vrow r.Y i * ((B[i]?.getD 0 : Int) : Rat)) A.length
theorem cert_of {A : List (List Int)} {B : List Int} {C : List (Int × Int)} (ok : okLP A B C = true) {r : LpR} (hc : checkG boundI A B C r = true) (hs : r.status = 1) : Cert A B C r := by
 obtain ⟨h1, h2, h3, h4, h5, h6⟩ := okLP_parts ok
 unfold checkG at hc
 rw [if_pos hs] at hc
 obtain ⟨hf, hc⟩ := both hc
 obtain ⟨hy, hc⟩ := both hc
 obtain ⟨hb, hm⟩ := both hc
 unfold feasB at hf
 obtain ⟨hxl, hf⟩ := both hf
 obtain ⟨hpos, hg⟩ := both hf
 have hxl := of_decide_eq_true hxl
 have hyl := of_decide_eq_true hy
 have hxv : ∀ j, j < r.X.length → valR (r.X[j]?.getD (0, 0)) = true ∧ 0 ≤ (r.X[j]?.getD (0, 0)).1 := by
  intro j hj
  have := List.all_eq_true.1 hpos (r.X[j]) (List.getElem_mem hj)
  obtain ⟨a, b⟩ := both this
  rw [List.getElem?_eq_getElem hj, Option.getD_some]
  exact ⟨a, of_decide_eq_true b⟩
 unfold meetB at hm
 cases e1 : dotL C r.X with
 | none => rw [e1] at hm; cases hm
 | some x =>
   cases e2 : dotL r.Y (wholeL B) with
   | none => rw [e1, e2] at hm; cases hm
   | some y =>
     rw [e1, e2] at hm
     obtain ⟨hxy, hxv2⟩ := both hm
     have hxy := of_decide_eq_true hxy
     have hxr := of_decide_eq_true hxv2
     obtain ⟨d1, _, _, d4⟩ := dotL_spec e1
     obtain ⟨f1, _, _, f4⟩ := dotL_spec e2
     refine ⟨hxl, by rw [hyl, h3], h3, fun j hj => (val_nonneg (hxv j (by omega)).1).1 (hxv j (by omega)).2, fun i hi => ?_, fun j hj => ?_, ?_, ?_⟩
     ·have := of_decide_eq_true (List.all_eq_true.1 hg i (List.mem_range.2 hi))
      obtain ⟨k1, _, _, k4⟩ := dotL_spec this
      rw [wholeL_len] at k1 k4
      rw [val_whole] at k4
      rw [k4, k1, hxl]
      exact sumN_congr fun j hj => by rw [vrow_wholeC _ _ (by omega)]; rfl
     ·have := List.all_eq_true.1 hb j (List.mem_range.2 hj)
      unfold boundI at this
      cases e3 : dotL r.Y (wholeL (colL A j)) with
      | none => rw [e3] at this; cases this
      | some v =>
        rw [e3] at this
        obtain ⟨s1, s2⟩ := both this
        obtain ⟨g1, g2, g3, g4⟩ := val_sub s1
        have hnn := (val_nonneg g3).1 (of_decide_eq_true s2)
        obtain ⟨k1, _, _, k4⟩ := dotL_spec e3
        have hcl : (colL A j).length = A.length := by unfold colL; simp
        rw [wholeL_len, hcl] at k1
        have e4 : sumN (fun i => vrow r.Y i * (ent A i j : Rat)) A.length = val v := by
         rw [k4, k1]
         exact sumN_congr fun i hi => by rw [vrow_wholeC _ _ (by rw [hcl]; exact hi), colL_at _ _ _ hi]; rfl
        rw [e4]
        show val v ≤ val (C[j]?.getD (0, 0))
        grind
     ·rw [← hxr, d4]
     ·rw [← hxr, hxy, f4, f1, wholeL_len, h3]
      exact sumN_congr fun i hi => by rw [vrow_wholeC _ _ (by omega)]
set_option linter.unusedSimpArgs false
open Go.RowKit
def coreA (q n : Nat) : List (List Int) := memM q (seqI 1 (n - 1))
def coreB (q : Nat) : List Int := List.replicate q 1
def coreC (V : List Int) : List (Int × Int) := (V.drop 1).map fun v => (-v, 1)
theorem core_both {p : Int} {V : List Int} (h : gameOk p V = true) (A : List (List Int)) (B : List Int) : solveG boundI A B (coreC V) = solveS A B (coreC V) := by
 obtain ⟨q, rfl, _, _, _, _, hb⟩ := gameOk_len h
 refine solve_both fun _ j hj => Or.inl ⟨-((V.drop 1)[j]?.getD 0), ?_, ?_⟩
 ·unfold coreC at hj ⊢
  rw [List.length_map] at hj
  rw [List.getElem?_map, List.getElem?_eq_getElem hj]; rfl
 ·unfold coreC at hj
  rw [List.length_map] at hj
  rw [List.getElem?_eq_getElem hj, Option.getD_some]
  have := hb _ (List.mem_of_mem_drop (List.getElem_mem hj))
  omega
def slackR (g : Int) (r : LpR) : (Int × Int) × Bool := addR (g, 1) r.value
def negY (r : LpR) : List (Int × Int) := r.Y.map negR
def lastR (g : Int) (r : LpR) : (Int × Int) × Bool := addR ((negY r)[(negY r).length - 1]?.getD (0, 0)) (slackR g r).1
def ptR (g : Int) (r : LpR) : List (Int × Int) := (negY r).set ((negY r).length - 1) (lastR g r).1
def stabS (g : Int) (r : LpR) : Option (List (Int × Int)) :=
 if r.status = 1 then (if (slackR g r).2 = true then (if (slackR g r).1.1 < 0 then none else if (lastR g r).2 = true then some (ptR g r) else none) else none) else none
def stabI (g : Int) (r : LpR) : Option (List (Int × Int)) :=
 if r.status = 1 then (if 0 < cmpR (negR r.value) (g, 1) then none else if ((slackR g r).2 && (lastR g r).2) = true then some (ptR g r) else none) else none
theorem sign_same {a x b c : Int} (hb : 0 < b) (hc : 0 < c) (h : a * c = x * b) : a < 0 ↔ x < 0 := by
 constructor
 ·intro ha
  rcases Int.lt_or_le x 0 with h1 | h1
  ·exact h1
  ·have h2 := Int.mul_neg_of_neg_of_pos ha hc
   have h3 := Int.mul_nonneg h1 (Int.le_of_lt hb)
   omega
 ·intro hx
  rcases Int.lt_or_le a 0 with h1 | h1
  ·exact h1
  ·have h2 := Int.mul_neg_of_neg_of_pos hx hb
   have h3 := Int.mul_nonneg h1 (Int.le_of_lt hc)
   omega
theorem slack_sign {g : Int} {r : LpR} (h : (slackR g r).2 = true) : 0 < cmpR (negR r.value) (g, 1) ↔ (slackR g r).1.1 < 0 := by
 unfold slackR at h ⊢
 obtain ⟨h1, h2, h3, _⟩ := val_add h
 have hb := valR_bd h2
 have hs := valR_bd h3
 have hn : valR (negR r.value) = true := by rw [valR_negR]; exact h2
 have he : addR (g, 1) r.value = ratOf (g * r.value.2 + r.value.1 * 1) (1 * r.value.2) := by unfold addR; rw [h1, h2]; rfl
 rw [he] at h hs ⊢
 have hf := (ratOf_fr (by omega) h)
 have hc : cmpR (negR r.value) (g, 1) = if -r.value.1 * 1 < g * r.value.2 then -1 else if g * r.value.2 < -r.value.1 * 1 then 1 else 0 := by unfold cmpR; rw [hn, h1]; rfl
 rw [hc]
 have hsg := sign_same (a := (ratOf (g * r.value.2 + r.value.1 * 1) (1 * r.value.2)).1.1) (x := g * r.value.2 + r.value.1 * 1) (b := (ratOf (g * r.value.2 + r.value.1 * 1) (1 * r.value.2)).1.2) (c := r.value.2) (by omega) (by omega) (by have := hf.2.2; rw [Int.one_mul] at this; simpa using this)
 rw [hsg]
 by_cases h5 : -r.value.1 * 1 < g * r.value.2
 ·rw [if_pos h5]; omega
 ·rw [if_neg h5]
  by_cases h6 : g * r.value.2 < -r.value.1 * 1
  ·rw [if_pos h6]; omega
  ·rw [if_neg h6]; omega
theorem stab_same (g : Int) (r : LpR) : stabI g r = stabS g r := by
 unfold stabI stabS
 by_cases h : r.status = 1
 ·rw [if_pos h, if_pos h]
  cases hf : (slackR g r).2
  ·simp
  ·have := slack_sign hf
   simp only [this]
   by_cases hn : (slackR g r).1.1 < 0
   ·simp [hn]
   ·simp [hn]
 ·rw [if_neg h, if_neg h]
end Go.Proofs.YthjjfkeacobikaaGreat
