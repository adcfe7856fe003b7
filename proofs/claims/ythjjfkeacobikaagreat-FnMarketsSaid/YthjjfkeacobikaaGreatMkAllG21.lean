import Derived.Test.YthjjfkeacobikaaGreatMkAllG2
import Derived.Test.YthjjfkeacobikaaGreatMkAllG3
import Derived.Test.YthjjfkeacobikaaGreatMkAllG20
import Derived.Test.YthjjfkeacobikaaGreatMkAllG12
import Derived.Test.YthjjfkeacobikaaGreatMkAllG1
import Derived.Deep.RegionLaw
import Derived.Deep.RegionHeld3
set_option linter.unusedVariables false
set_option linter.unusedSimpArgs false
namespace Go.Proofs.YthjjfkeacobikaaGreat
theorem tcut_nat : ∀ s : Fin 32, ∀ k : Fin 5, bits .andNot .i64 ((s.val : Nat) : Int) (2 ^ k.val) = (if bit ((s.val : Nat) : Int) k.val then ((s.val - 2 ^ k.val : Nat) : Int) else ((s.val : Nat) : Int)) := by decide +kernel
theorem tcut {s k : Nat} (hs : s < 32) (hk : k < 5) (h : bit (s : Int) k = true) : bits .andNot .i64 (s : Int) (2 ^ k) = ((s - 2 ^ k : Nat) : Int) := by
 have := tcut_nat ⟨s, hs⟩ ⟨k, hk⟩
 simp only [h, if_true] at this
 exact this
theorem tcut_bit_nat : ∀ s : Fin 32, ∀ k : Fin 5, ∀ j : Fin 5, bit ((s.val : Nat) : Int) k.val = true → bit ((s.val - 2 ^ k.val : Nat) : Int) j.val = (bit ((s.val : Nat) : Int) j.val && !decide (j.val = k.val)) := by decide +kernel
theorem tcut_bit {s k j : Nat} (hs : s < 32) (hk : k < 5) (hj : j < 5) (h : bit (s : Int) k = true) : bit ((s - 2 ^ k : Nat) : Int) j = (bit (s : Int) j && !decide (j = k)) := tcut_bit_nat ⟨s, hs⟩ ⟨k, hk⟩ ⟨j, hj⟩ h
section
variable (S B : Nat) (G : List (List Int)) (s : Nat)
def gain (i j : Nat) : Int := (G[i]?.getD [])[j]?.getD 0
def freeJ (taken : List Int) (i j : Nat) : Bool := bit (s : Int) i && (bit (s : Int) (S + j) && !hasI taken (j : Int))
def bestF : Nat → List Int → List Int × Int
 | 0, _ => ([], 0)
 | r + 1, taken => (List.range B).foldl (fun acc j => if freeJ S s taken (S - (r + 1)) j = true then (if (bestF r (taken ++ [(j : Int)])).2 + gain G (S - (r + 1)) j > acc.2 then ((j : Int) :: (bestF r (taken ++ [(j : Int)])).1, (bestF r (taken ++ [(j : Int)])).2 + gain G (S - (r + 1)) j) else acc) else acc)
     (-1 :: (bestF r taken).1, (bestF r taken).2)
def bestTo (r : Nat) (taken : List Int) (k : Nat) : List Int × Int :=
 (List.range k).foldl (fun acc j => if freeJ S s taken (S - (r + 1)) j = true then (if (bestF S B G s r (taken ++ [(j : Int)])).2 + gain G (S - (r + 1)) j > acc.2 then ((j : Int) :: (bestF S B G s r (taken ++ [(j : Int)])).1, (bestF S B G s r (taken ++ [(j : Int)])).2 + gain G (S - (r + 1)) j) else acc) else acc)
   (-1 :: (bestF S B G s r taken).1, (bestF S B G s r taken).2)
theorem bestF_succ (r : Nat) (taken : List Int) : bestF S B G s (r + 1) taken = bestTo S B G s r taken B := rfl
theorem bestTo_zero (r : Nat) (taken : List Int) : bestTo S B G s r taken 0 = (-1 :: (bestF S B G s r taken).1, (bestF S B G s r taken).2) := rfl
theorem bestTo_succ (r : Nat) (taken : List Int) (k : Nat) : bestTo S B G s r taken (k + 1) = if freeJ S s taken (S - (r + 1)) k = true then (if (bestF S B G s r (taken ++ [(k : Int)])).2 + gain G (S - (r + 1)) k > (bestTo S B G s r taken k).2 then ((k : Int) :: (bestF S B G s r (taken ++ [(k : Int)])).1, (bestF S B G s r (taken ++ [(k : Int)])).2 + gain G (S - (r + 1)) k) else bestTo S B G s r taken k) else bestTo S B G s r taken k := by
 unfold bestTo
 rw [List.range_succ, List.foldl_append]
 rfl
theorem bestF_bd (hG : ∀ i j, 0 ≤ gain G i j ∧ gain G i j ≤ 100) : ∀ (r : Nat) (taken : List Int), (bestF S B G s r taken).1.length = r ∧ 0 ≤ (bestF S B G s r taken).2 ∧ (bestF S B G s r taken).2 ≤ 100 * r
 | 0, _ => by simp [bestF]
 | r + 1, taken => by
   rw [bestF_succ]
   have hb : ∀ k, (bestTo S B G s r taken k).1.length = r + 1 ∧ 0 ≤ (bestTo S B G s r taken k).2 ∧ (bestTo S B G s r taken k).2 ≤ 100 * (r + 1 : Nat) := by
    intro k
    induction k with
    | zero =>
      have := bestF_bd hG r taken
      rw [bestTo_zero]
      simp only [List.length_cons]
      omega
    | succ k ih =>
      rw [bestTo_succ]
      have h1 := bestF_bd hG r (taken ++ [(k : Int)])
      have h2 := hG (S - (r + 1)) k
      split
      ·split
       ·simp only [List.length_cons]; omega
       ·exact ih
      ·exact ih
   exact hb B
theorem bestTo_bd (hG : ∀ i j, 0 ≤ gain G i j ∧ gain G i j ≤ 100) (r : Nat) (taken : List Int) (k : Nat) : (bestTo S B G s r taken k).1.length = r + 1 ∧ 0 ≤ (bestTo S B G s r taken k).2 ∧ (bestTo S B G s r taken k).2 ≤ 100 * (r + 1 : Nat) := by
 induction k with
 | zero =>
   have := bestF_bd S B G s hG r taken
   rw [bestTo_zero]
   simp only [List.length_cons]
   omega
 | succ k ih =>
   rw [bestTo_succ]
   have h1 := bestF_bd S B G s hG r (taken ++ [(k : Int)])
   have h2 := hG (S - (r + 1)) k
   split
   ·split
    ·simp only [List.length_cons]; omega
    ·exact ih
   ·exact ih
structure Srch where
 now : List Int
 best : List Int
 most : Int
def walkF : Nat → Nat → Int → Srch → Srch
 | 0, left, sum, st => if sum > st.most then ⟨st.now, st.now, sum⟩ else st
 | r + 1, left, sum, st =>
   if bit (s : Int) (S - (r + 1)) = false then walkF r left sum ⟨st.now.set (S - (r + 1)) (-1), st.best, st.most⟩
   else (List.range B).foldl (fun st j => if bit (left : Int) (S + j) = true then walkF r (left - 2 ^ (S + j)) (sum + gain G (S - (r + 1)) j) ⟨st.now.set (S - (r + 1)) (j : Int), st.best, st.most⟩ else st)
    (walkF r left sum ⟨st.now.set (S - (r + 1)) (-1), st.best, st.most⟩)
def walkTo (r left : Nat) (sum : Int) (st : Srch) (k : Nat) : Srch :=
 (List.range k).foldl (fun st j => if bit (left : Int) (S + j) = true then walkF S B G s r (left - 2 ^ (S + j)) (sum + gain G (S - (r + 1)) j) ⟨st.now.set (S - (r + 1)) (j : Int), st.best, st.most⟩ else st)
   (walkF S B G s r left sum ⟨st.now.set (S - (r + 1)) (-1), st.best, st.most⟩)
theorem walkF_not {r left : Nat} {sum : Int} {st : Srch} (h : bit (s : Int) (S - (r + 1)) = false) : walkF S B G s (r + 1) left sum st = walkF S B G s r left sum ⟨st.now.set (S - (r + 1)) (-1), st.best, st.most⟩ := by
 rw [walkF, if_pos h]
theorem walkF_to {r left : Nat} {sum : Int} {st : Srch} (h : bit (s : Int) (S - (r + 1)) = true) : walkF S B G s (r + 1) left sum st = walkTo S B G s r left sum st B := by
 rw [walkF, if_neg (by simp [h])]; rfl
theorem walkTo_zero (r left : Nat) (sum : Int) (st : Srch) : walkTo S B G s r left sum st 0 = walkF S B G s r left sum ⟨st.now.set (S - (r + 1)) (-1), st.best, st.most⟩ := rfl
theorem walkTo_succ (r left : Nat) (sum : Int) (st : Srch) (k : Nat) : walkTo S B G s r left sum st (k + 1) = if bit (left : Int) (S + k) = true then walkF S B G s r (left - 2 ^ (S + k)) (sum + gain G (S - (r + 1)) k) ⟨(walkTo S B G s r left sum st k).now.set (S - (r + 1)) (k : Int), (walkTo S B G s r left sum st k).best, (walkTo S B G s r left sum st k).most⟩ else walkTo S B G s r left sum st k := by
 simp only [walkTo, List.range_succ, List.foldl_append, List.foldl_cons, List.foldl_nil]
def Found (i : Nat) (now : List Int) (sum : Int) (st0 : Srch) (b : List Int × Int) (out : Srch) : Prop :=
 out.now.length = S ∧ out.now.take i = now.take i ∧ ((st0.most < sum + b.2 ∧ out.best = now.take i ++ b.1 ∧ out.most = sum + b.2) ∨ (¬ st0.most < sum + b.2 ∧ out.best = st0.best ∧ out.most = st0.most))
theorem take_set_self {l : List Int} {i : Nat} (x : Int) (h : i < l.length) : (l.set i x).take (i + 1) = l.take i ++ [x] := by
 rw [List.take_set, List.take_succ_eq_append_getElem h, List.set_append_right _ _ (by simp; omega)]
 congr 1
 have : i - (l.take i).length = 0 := by simp; omega
 rw [this]; rfl
theorem walkF_best (hS : S + B ≤ 5) : ∀ (r left : Nat) (taken : List Int) (sum : Int) (st : Srch), r ≤ S → st.now.length = S → left < 32 →
 (∀ j, j < B → bit (left : Int) (S + j) = (bit (s : Int) (S + j) && !hasI taken (j : Int))) →
 Found S (S - r) st.now sum st (bestF S B G s r taken) (walkF S B G s r left sum st)
 | 0, left, taken, sum, st, hr, hl, hlt, hbit => by
   have ht : st.now.take S = st.now := List.take_of_length_le (by omega)
   unfold Found
   simp only [bestF, walkF, Nat.sub_zero, ht, List.append_nil, Int.add_zero]
   by_cases h : sum > st.most
   ·rw [if_pos h]; exact ⟨hl, ht, .inl ⟨h, rfl, rfl⟩⟩
   ·rw [if_neg h]; exact ⟨hl, ht, .inr ⟨h, rfl, rfl⟩⟩
 | r + 1, left, taken, sum, st, hr, hl, hlt, hbit => by
   have hi : S - r = S - (r + 1) + 1 := by omega
   obtain ⟨i, hI⟩ : ∃ i, i = S - (r + 1) := ⟨_, rfl⟩
   have hiS : i < S := by omega
   have hiS' : S - r = i + 1 := by omega
   have h0 : Found S i st.now sum st (-1 :: (bestF S B G s r taken).1, (bestF S B G s r taken).2) (walkF S B G s r left sum ⟨st.now.set i (-1), st.best, st.most⟩) := by
    have ih := walkF_best hS r left taken sum ⟨st.now.set i (-1), st.best, st.most⟩ (by omega) (by simpa using hl) hlt hbit
    unfold Found at ih ⊢
    rw [hiS'] at ih
    simp only [take_set_self _ (show i < st.now.length by omega)] at ih
    obtain ⟨g1, g2, g3⟩ := ih
    refine ⟨g1, ?_, ?_⟩
    ·have := congrArg (List.take i) g2
     rw [List.take_take, Nat.min_eq_left (by omega), List.take_left' (by simp; omega)] at this
     exact this
    ·simpa [List.append_assoc] using g3
   cases hb : bit (s : Int) (S - (r + 1))
   ·rw [walkF_not _ _ _ _ hb, bestF_succ, ← hI]
    have hno : ∀ k, bestTo S B G s r taken k = (-1 :: (bestF S B G s r taken).1, (bestF S B G s r taken).2) := by
     intro k
     induction k with
     | zero => rfl
     | succ k ih => rw [bestTo_succ, if_neg (by simp [freeJ, hb]), ih]
    rw [hno]
    exact h0
   ·rw [walkF_to _ _ _ _ hb, bestF_succ]
    have hall : ∀ k, k ≤ B → Found S i st.now sum st (bestTo S B G s r taken k) (walkTo S B G s r left sum st k) := by
     intro k
     induction k with
     | zero => intro _; rw [walkTo_zero, bestTo_zero, ← hI]; exact h0
     | succ k ihk =>
       intro hk
       have ihk := ihk (by omega)
       rw [walkTo_succ, bestTo_succ]
       have hf : freeJ S s taken (S - (r + 1)) k = bit (left : Int) (S + k) := by unfold freeJ; rw [hb, hbit k (by omega)]; simp
       rw [hf]
       by_cases hk2 : bit (left : Int) (S + k) = true
       ·rw [if_pos hk2, if_pos hk2, ← hI]
        generalize hst : walkTo S B G s r left sum st k = w1 at ihk ⊢
        generalize hbt : bestTo S B G s r taken k = b1 at ihk ⊢
        obtain ⟨l1, l2, l3⟩ := ihk
        have ih := walkF_best hS r (left - 2 ^ (S + k)) (taken ++ [(k : Int)]) (sum + gain G i k) ⟨w1.now.set i (k : Int), w1.best, w1.most⟩ (by omega) (by simpa using l1) (Nat.lt_of_le_of_lt (Nat.sub_le _ _) hlt) (by
         intro j hj
         rw [tcut_bit hlt (by omega) (by omega) hk2, hbit j hj]
         unfold hasI
         rw [List.contains_append]
         by_cases hjk : j = k
         ·subst hjk; simp
         ·have h1 : decide (S + j = S + k) = false := by simp; omega
          have h2 : [(k : Int)].contains (j : Int) = false := by simp; omega
          rw [h1, h2]; simp)
        generalize bestF S B G s r (taken ++ [(k : Int)]) = b2 at ih ⊢
        generalize walkF S B G s r (left - 2 ^ (S + k)) (sum + gain G i k) ⟨w1.now.set i (k : Int), w1.best, w1.most⟩ = w2 at ih ⊢
        unfold Found at ih
        rw [hiS'] at ih
        simp only [take_set_self _ (show i < w1.now.length by omega), l2] at ih
        obtain ⟨g1, g2, g3⟩ := ih
        have gt : w2.now.take i = st.now.take i := by
         have := congrArg (List.take i) g2
         rw [List.take_take, Nat.min_eq_left (by omega), List.take_left' (by simp; omega)] at this
         exact this
        unfold Found
        refine ⟨g1, gt, ?_⟩
        by_cases hgt : b2.2 + gain G i k > b1.2
        ·rw [if_pos hgt]
         rcases g3 with ⟨p1, p2, p3⟩ | ⟨p1, p2, p3⟩
         ·refine .inl ⟨?_, by rw [p2]; simp, by simp only; omega⟩
          try simp only
          rcases l3 with ⟨q1, q2, q3⟩ | ⟨q1, q2, q3⟩ <;> omega
         ·try simp only at p1 p2 p3 ⊢
          rcases l3 with ⟨q1, q2, q3⟩ | ⟨q1, q2, q3⟩
          ·omega
          ·exact .inr ⟨by omega, by rw [p2, q2], by omega⟩
        ·rw [if_neg hgt]
         rcases g3 with ⟨p1, p2, p3⟩ | ⟨p1, p2, p3⟩
         ·try simp only at p1 p2 p3
          rcases l3 with ⟨q1, q2, q3⟩ | ⟨q1, q2, q3⟩ <;> omega
         ·try simp only at p1 p2 p3
          rcases l3 with ⟨q1, q2, q3⟩ | ⟨q1, q2, q3⟩
          ·exact .inl ⟨q1, by rw [p2, q2], by omega⟩
          ·exact .inr ⟨q1, by rw [p2, q2], by omega⟩
       ·rw [if_neg hk2, if_neg hk2]
        exact ihk
    have := hall B (Nat.le_refl _)
    rwa [← hI]
end
end Go.Proofs.YthjjfkeacobikaaGreat
namespace Go.Proofs.YthjjfkeacobikaaGreat
open Go.RowKit
def sumZ (f : Nat → Int) : Nat → Int
 | 0 => 0
 | m + 1 => sumZ f m + f m
theorem sumZ_congr {f g : Nat → Int} : ∀ {m}, (∀ k, k < m → f k = g k) → sumZ f m = sumZ g m
 | 0, _ => rfl
 | m + 1, h => by rw [sumZ, sumZ, sumZ_congr (m := m) (fun k hk => h k (by omega)), h m (by omega)]
theorem sumZ_one {f g : Nat → Int} {k : Nat} {d : Int} : ∀ {m}, k < m → (∀ j, j < m → j ≠ k → f j = g j) → f k = g k + d → sumZ f m = sumZ g m + d
 | m + 1, hk, h, hd => by
   rw [sumZ, sumZ]
   by_cases e : k = m
   ·subst e
    rw [sumZ_congr (f := f) (g := g) (fun j hj => h j (by omega) (by omega)), hd]; omega
   ·rw [sumZ_one (m := m) (by omega) (fun j hj hjk => h j (by omega) hjk) hd, h m (by omega) (Ne.symm e)]; omega
theorem sumZ_add (f : Nat → Int) (a : Nat) : ∀ b, sumZ f (a + b) = sumZ f a + sumZ (fun j => f (a + j)) b
 | 0 => by simp [sumZ]
 | b + 1 => by rw [← Nat.add_assoc, sumZ, sumZ_add f a b, sumZ]; omega
section
variable {S B : Nat} {G : List (List Int)} {s : Nat} {u v : Nat → Int}
def sellS (s : Nat) (u : Nat → Int) (i : Nat) : Int := if bit (s : Int) i = true then u i else 0
def buyS (S s : Nat) (v : Nat → Int) (taken : List Int) (j : Nat) : Int := if (bit (s : Int) (S + j) && !hasI taken (j : Int)) = true then v j else 0
theorem sellS_nn (hu : ∀ i, 0 ≤ u i) (i : Nat) : 0 ≤ sellS s u i := by
 unfold sellS
 split
 ·exact hu i
 ·omega
theorem buyS_nn (hv : ∀ j, 0 ≤ v j) (taken : List Int) (j : Nat) : 0 ≤ buyS S s v taken j := by
 unfold buyS
 split
 ·exact hv j
 ·omega
theorem buyS_snoc {taken : List Int} {k : Nat} (hk : k < B) (hb : bit (s : Int) (S + k) = true) (hf : hasI taken (k : Int) = false) : sumZ (buyS S s v taken) B = sumZ (buyS S s v (taken ++ [(k : Int)])) B + v k := by
 refine sumZ_one hk (fun j hj hjk => ?_) ?_
 ·unfold buyS hasI
  have : (taken ++ [(k : Int)]).contains (j : Int) = taken.contains (j : Int) := by
   rw [Bool.eq_iff_iff]
   simp
   omega
  rw [this]
 ·unfold buyS
  rw [hb, hf]
  have : hasI (taken ++ [(k : Int)]) (k : Int) = true := by unfold hasI; simp
  rw [this]
  simp
theorem bestF_le (hu : ∀ i, 0 ≤ u i) (hv : ∀ j, 0 ≤ v j) (hc : ∀ i j, i < S → j < B → gain G i j ≤ u i + v j) : ∀ (r : Nat) (taken : List Int), r ≤ S → (bestF S B G s r taken).2 ≤ sumZ (sellS s u) S - sumZ (sellS s u) (S - r) + sumZ (buyS S s v taken) B
 | 0, taken, _ => by
   have hb : ∀ m, 0 ≤ sumZ (buyS S s v taken) m := by
    intro m
    induction m with
    | zero => simp [sumZ]
    | succ m ih => rw [sumZ]; have := buyS_nn (S := S) (s := s) hv taken m; omega
   have := hb B
   simp only [bestF, Nat.sub_zero]
   omega
 | r + 1, taken, hr => by
   rw [bestF_succ]
   have hst : sumZ (sellS s u) (S - r) = sumZ (sellS s u) (S - (r + 1)) + sellS s u (S - (r + 1)) := by
    have e : S - r = (S - (r + 1)) + 1 := by omega
    rw [e, sumZ]
   have hs0 : 0 ≤ sellS s u (S - (r + 1)) := sellS_nn hu _
   have hb : ∀ k, k ≤ B → (bestTo S B G s r taken k).2 ≤ sumZ (sellS s u) S - sumZ (sellS s u) (S - (r + 1)) + sumZ (buyS S s v taken) B := by
    intro k
    induction k with
    | zero =>
      intro _
      have := bestF_le hu hv hc r taken (by omega)
      rw [bestTo_zero]
      show (bestF S B G s r taken).2 ≤ _
      omega
    | succ k ih =>
      intro hk
      have ih := ih (by omega)
      rw [bestTo_succ]
      split
      ·next hf =>
       unfold freeJ at hf
       simp only [Bool.and_eq_true, Bool.not_eq_true'] at hf
       split
       ·have h1 := bestF_le hu hv hc r (taken ++ [(k : Int)]) (by omega)
        have h2 := buyS_snoc (B := B) (S := S) (s := s) (v := v) (by omega) hf.2.1 hf.2.2
        have h3 := hc (S - (r + 1)) k (by omega) (by omega)
        have h4 : sellS s u (S - (r + 1)) = u (S - (r + 1)) := by unfold sellS; rw [if_pos hf.1]
        show (bestF S B G s r (taken ++ [(k : Int)])).2 + gain G (S - (r + 1)) k ≤ _
        omega
       ·exact ih
      ·exact ih
   exact hb B (Nat.le_refl _)
def shareZ (S : Nat) (u v : Nat → Int) (i : Nat) : Int := if i < S then u i else v (i - S)
theorem asg_core (hu : ∀ i, 0 ≤ u i) (hv : ∀ j, 0 ≤ v j) (hc : ∀ i j, i < S → j < B → gain G i j ≤ u i + v j) (s : Nat) : (bestF S B G s S []).2 ≤ sumZ (fun i => if bit (s : Int) i = true then shareZ S u v i else 0) (S + B) := by
 have h := bestF_le (s := s) hu hv hc S [] (Nat.le_refl _)
 rw [Nat.sub_self] at h
 rw [sumZ_add]
 have e1 : sumZ (fun i => if bit (s : Int) i = true then shareZ S u v i else 0) S = sumZ (sellS s u) S := sumZ_congr fun k hk => by unfold sellS shareZ; rw [if_pos hk]
 have e2 : sumZ (fun j => if bit (s : Int) (S + j) = true then shareZ S u v (S + j) else 0) B = sumZ (buyS S s v []) B := sumZ_congr fun k hk => by
  have hs : shareZ S u v (S + k) = v k := by unfold shareZ; rw [if_neg (by omega), Nat.add_sub_cancel_left]
  unfold buyS
  rw [hs]
  have : hasI [] (k : Int) = false := rfl
  rw [this]
  simp
 rw [e1, e2]
 have h0 : sumZ (sellS s u) 0 = 0 := rfl
 omega
theorem bestTo_ge {r : Nat} {taken : List Int} {j : Nat} (hf : freeJ S s taken (S - (r + 1)) j = true) : ∀ {k : Nat}, j < k → (bestF S B G s r (taken ++ [(j : Int)])).2 + gain G (S - (r + 1)) j ≤ (bestTo S B G s r taken k).2
 | k + 1, hk => by
   rw [bestTo_succ]
   by_cases e : j = k
   ·subst e
    rw [if_pos hf]
    split
    ·exact Int.le_refl _
    ·omega
   ·have ih := bestTo_ge (k := k) hf (by omega)
    split
    ·split
     ·show _ ≤ (bestF S B G s r (taken ++ [(k : Int)])).2 + gain G (S - (r + 1)) k
      omega
     ·exact ih
    ·exact ih
theorem bestTo_skip (r : Nat) (taken : List Int) : ∀ k, (bestF S B G s r taken).2 ≤ (bestTo S B G s r taken k).2
 | 0 => by rw [bestTo_zero]; exact Int.le_refl _
 | k + 1 => by
   have ih := bestTo_skip r taken k
   rw [bestTo_succ]
   split
   ·split
    ·show _ ≤ (bestF S B G s r (taken ++ [(k : Int)])).2 + gain G (S - (r + 1)) k
     omega
    ·exact ih
   ·exact ih
theorem bestF_take {r : Nat} {taken : List Int} {j : Nat} (hf : freeJ S s taken (S - (r + 1)) j = true) (hj : j < B) : (bestF S B G s r (taken ++ [(j : Int)])).2 + gain G (S - (r + 1)) j ≤ (bestF S B G s (r + 1) taken).2 := by rw [bestF_succ]; exact bestTo_ge hf hj
theorem bestF_skip (r : Nat) (taken : List Int) : (bestF S B G s r taken).2 ≤ (bestF S B G s (r + 1) taken).2 := by rw [bestF_succ]; exact bestTo_skip r taken B
end
theorem asg_prices {S B : Nat} {G : List (List Int)} (h1 : 1 ≤ S) (h2 : S ≤ 2) (h3 : 1 ≤ B) (h4 : B ≤ 2) (hG : ∀ i j, 0 ≤ gain G i j ∧ gain G i j ≤ 100) :
 ∃ u v : Nat → Int, (∀ i, 0 ≤ u i) ∧ (∀ j, 0 ≤ v j) ∧ (∀ i j, i < S → j < B → gain G i j ≤ u i + v j) ∧ sumZ (shareZ S u v) (S + B) ≤ (bestF S B G (cN (S + B) - 1) S []).2 := by
 obtain ⟨a, ha⟩ : ∃ a, a = gain G 0 0 := ⟨_, rfl⟩
 obtain ⟨b, hb⟩ : ∃ a, a = gain G 0 1 := ⟨_, rfl⟩
 obtain ⟨c, hc⟩ : ∃ a, a = gain G 1 0 := ⟨_, rfl⟩
 obtain ⟨d, hd⟩ : ∃ a, a = gain G 1 1 := ⟨_, rfl⟩
 have ga := hG 0 0
 have gb := hG 0 1
 have gc := hG 1 0
 have gd := hG 1 1
 rw [← ha] at ga
 rw [← hb] at gb
 rw [← hc] at gc
 rw [← hd] at gd
 have hz : ∀ (S B s : Nat) (t : List Int), (bestF S B G s 0 t).2 = 0 := fun _ _ _ _ => rfl
 have hSB : (S = 1 ∧ B = 1) ∨ (S = 1 ∧ B = 2) ∨ (S = 2 ∧ B = 1) ∨ (S = 2 ∧ B = 2) := by omega
 rcases hSB with ⟨rfl, rfl⟩ | ⟨rfl, rfl⟩ | ⟨rfl, rfl⟩ | ⟨rfl, rfl⟩
 ·have t1 := bestF_take (S := 1) (B := 1) (G := G) (s := cN 2 - 1) (r := 0) (taken := []) (j := 0) (by decide) (by omega)
  rw [hz] at t1
  simp only [Nat.sub_self, Nat.zero_add, Nat.reduceSub, Nat.reduceAdd] at t1 ⊢
  rw [← ha] at t1
  refine ⟨fun _ => a, fun _ => 0, fun _ => ga.1, fun _ => Int.le_refl _, fun i j hi hj => ?_, ?_⟩
  ·obtain rfl : i = 0 := by omega
   obtain rfl : j = 0 := by omega
   dsimp only
   omega
  ·simp [sumZ, shareZ]; omega
 ·have t1 := bestF_take (S := 1) (B := 2) (G := G) (s := cN 3 - 1) (r := 0) (taken := []) (j := 0) (by decide) (by omega)
  have t2 := bestF_take (S := 1) (B := 2) (G := G) (s := cN 3 - 1) (r := 0) (taken := []) (j := 1) (by decide) (by omega)
  rw [hz] at t1 t2
  simp only [Nat.sub_self, Nat.zero_add, Nat.reduceSub, Nat.reduceAdd] at t1 t2 ⊢
  rw [← ha] at t1
  rw [← hb] at t2
  refine ⟨fun _ => max a b, fun _ => 0, fun _ => (by dsimp only; omega), fun _ => Int.le_refl _, fun i j hi hj => ?_, ?_⟩
  ·obtain rfl : i = 0 := by omega
   have : j = 0 ∨ j = 1 := by omega
   rcases this with rfl | rfl <;> dsimp only <;> omega
  ·simp [sumZ, shareZ]; omega
 ·have t1 := bestF_take (S := 2) (B := 1) (G := G) (s := cN 3 - 1) (r := 1) (taken := []) (j := 0) (by decide) (by omega)
  have t2 := bestF_skip (S := 2) (B := 1) (G := G) (s := cN 3 - 1) 0 [((0 : Nat) : Int)]
  have t3 := bestF_skip (S := 2) (B := 1) (G := G) (s := cN 3 - 1) 1 []
  have t4 := bestF_take (S := 2) (B := 1) (G := G) (s := cN 3 - 1) (r := 0) (taken := []) (j := 0) (by decide) (by omega)
  rw [hz] at t2 t4
  simp only [Nat.sub_self, Nat.zero_add, Nat.reduceSub, Nat.reduceAdd, List.nil_append] at t1 t2 t3 t4 ⊢
  rw [← ha] at t1
  rw [← hc] at t4
  refine ⟨fun _ => 0, fun _ => max a c, fun _ => Int.le_refl _, fun _ => (by dsimp only; omega), fun i j hi hj => ?_, ?_⟩
  ·obtain rfl : j = 0 := by omega
   have : i = 0 ∨ i = 1 := by omega
   rcases this with rfl | rfl <;> dsimp only <;> omega
  ·simp [sumZ, shareZ]; omega
 ·have t1 := bestF_take (S := 2) (B := 2) (G := G) (s := cN 4 - 1) (r := 1) (taken := []) (j := 0) (by decide) (by omega)
  have t2 := bestF_take (S := 2) (B := 2) (G := G) (s := cN 4 - 1) (r := 0) (taken := [((0 : Nat) : Int)]) (j := 1) (by decide) (by omega)
  have t3 := bestF_take (S := 2) (B := 2) (G := G) (s := cN 4 - 1) (r := 1) (taken := []) (j := 1) (by decide) (by omega)
  have t4 := bestF_take (S := 2) (B := 2) (G := G) (s := cN 4 - 1) (r := 0) (taken := [((1 : Nat) : Int)]) (j := 0) (by decide) (by omega)
  rw [hz] at t2 t4
  simp only [Nat.sub_self, Nat.zero_add, Nat.reduceSub, Nat.reduceAdd, List.nil_append] at t1 t2 t3 t4 ⊢
  rw [← ha] at t1
  rw [← hd] at t2
  rw [← hb] at t3
  rw [← hc] at t4
  by_cases hm : b + c ≤ a + d
  ·refine ⟨fun i => if i = 0 then max 0 (b - d) else max 0 (d - b), fun j => if j = 0 then a - max 0 (b - d) else min b d, fun i => ?_, fun j => ?_, fun i j hi hj => ?_, ?_⟩
   ·show 0 ≤ if i = 0 then _ else _
    split <;> omega
   ·show 0 ≤ if j = 0 then _ else _
    split <;> omega
   ·have hi' : i = 0 ∨ i = 1 := by omega
    have hj' : j = 0 ∨ j = 1 := by omega
    rcases hi' with rfl | rfl <;> rcases hj' with rfl | rfl <;> simp <;> omega
   ·simp [sumZ, shareZ]; omega
  ·refine ⟨fun i => if i = 0 then max 0 (a - c) else max 0 (c - a), fun j => if j = 0 then min a c else b - max 0 (a - c), fun i => ?_, fun j => ?_, fun i j hi hj => ?_, ?_⟩
   ·show 0 ≤ if i = 0 then _ else _
    split <;> omega
   ·show 0 ≤ if j = 0 then _ else _
    split <;> omega
   ·have hi' : i = 0 ∨ i = 1 := by omega
    have hj' : j = 0 ∨ j = 1 := by omega
    rcases hi' with rfl | rfl <;> rcases hj' with rfl | rfl <;> simp <;> omega
   ·simp [sumZ, shareZ]; omega
end Go.Proofs.YthjjfkeacobikaaGreat
namespace Go.Proofs.YthjjfkeacobikaaGreat
set_option maxRecDepth 100000
open Go.RowKit
theorem OwnI.lit1 (w : World) (base : Nat) (x : Int) (hb : base ≤ w.heap.size) : OwnI (w.alloc (.cells #[.int .i64 x] 3)) base (.slice (some ⟨w.heap.size, 0, none⟩) 1 1) [x] :=
 World.ownsRow_lit w #[.int .i64 x] 1 hb (by simp [maxLen]) rfl
theorem Ints.one' (w : World) (x : Int) (t : TypeId) (n : Nat) (hn : n = w.heap.size) : Ints (w.alloc (.cells #[.int .i64 x] t)) (some ⟨n, 0, none⟩) 1 1 [x] := by
 subst hn
 exact Ints.one w x t
theorem OwnI.made' (w : World) (base n : Nat) (hn : n = w.heap.size) (hb : base ≤ w.heap.size) : OwnI (w.alloc (.cells #[] 3)) base (.slice (some ⟨n, 0, none⟩) 0 0) [] := by
 subst hn
 exact OwnI.made w base hb
structure GoodM (S B : Nat) (G : List (List Int)) : Prop where
 s1 : 1 ≤ S
 b1 : 1 ≤ B
 sb : S + B ≤ 5
 rows : G.length = S
 row : ∀ i, i < S → (G[i]?.getD []).length = B
 bd : ∀ i j, 0 ≤ gain G i j ∧ gain G i j ≤ 100
theorem validM_good {x y : Int} {G : List (List Int)} (h : validM x y G = true) : ∃ S B : Nat, x = S ∧ y = B ∧ GoodM S B G := by
 simp only [validM, Bool.and_eq_true, decide_eq_true_eq, List.all_eq_true] at h
 obtain ⟨⟨⟨⟨⟨h1, h2⟩, h3⟩, h4⟩, h5⟩, h6⟩ := h
 refine ⟨x.toNat, y.toNat, by omega, by omega, by omega, by omega, by omega, by omega, fun i hi => ?_, fun i j => ?_⟩
 ·have hl : i < G.length := by omega
  have := (h6 _ (List.getElem_mem hl)).2
  simp [hl]; omega
 ·unfold gain
  by_cases hl : i < G.length
  ·have := (h6 _ (List.getElem_mem hl)).1
   simp only [List.getElem?_eq_getElem hl, Option.getD_some]
   by_cases hj : j < G[i].length
   ·have := this _ (List.getElem_mem hj)
    simp only [inB, Bool.and_eq_true, decide_eq_true_eq] at this
    simpa [hj] using this
   ·simp [List.getElem?_eq_none (by omega : G[i].length ≤ j)]
  ·simp [List.getElem?_eq_none (by omega : G.length ≤ i)]
theorem Ints.grown1 {w w' : World} {row : Option Nat} {b : Nat} {x : Int} (h : Ints w (some ⟨b, 0, none⟩) 1 1 [x]) (hg : w.grownBy w' row) (hne : row ≠ some b) : Ints w' (some ⟨b, 0, none⟩) 1 1 [x] := by
 obtain ⟨b', off, e, hc⟩ := h.at (k := 0) (by omega)
 simp only [Option.some.injEq, Addr.mk.injEq, and_true] at e
 obtain ⟨rfl, rfl⟩ := e
 have hb := hg.block b (World.block_lt_of_cell? w _ hc) (fun e => hne e.symm)
 refine ⟨rfl, Nat.le_refl _, by omega, fun k hk => ⟨b, 0, rfl, fun k hk => ?_⟩⟩
 obtain rfl : k = 0 := by omega
 rw [← hc]
 simp [World.cell?, hb]
set_option maxHeartbeats 8000000 in
theorem s_l19Best {S B s : Nat} {G : List (List Int)} (hM : GoodM S B G) (hs : s < 32) : ∀ (r i : Nat) (ii : Int), ii = (i : Int) → i + r = S → ∀ (w : World) (a : Option Addr) (n cap : Nat) (ta : Option Addr) (tn tc : Nat) (taken : List Int),
 IntSS w a n cap G → Ints w ta tn tc taken → taken.length ≤ i →
 Calls Tryz.prog 100 #[triple S B a n cap, .int .i64 (s : Int), .int .i64 ii, .slice ta tn tc] w fun e w' =>
  (∃ v, e = .returned (.tuple #[v, .int .i64 (bestF S B G s r taken).2]) ∧ OwnI w' w.heap.size v (bestF S B G s r taken).1) ∧ Ext w w' := by
 have hsb := hM.sb
 intro r
 induction r with
 | zero =>
   intro i ii hii hi w a n cap ta tn tc taken hG hT hl
   subst hii
   have heq : ((i : Int) == (S : Int)) = true := by simp; omega
   have HX := Lib.hid (Ext.alloc w (.cells #[.int .i64 (S : Int), .int .i64 (B : Int), .slice a n cap] 52))
   have HZ := Lib.hid (show bestF S B G s 0 taken = ([], 0) from rfl)
   clear hG hT hl hi
   go_enter Tryz.func100, Tryz.ntmps100
   go_wp2
   rw [HZ.out]
   refine bodyPost_ret (v := .tuple #[.slice (some ⟨w.heap.size + 1, 0, none⟩) 0 0, .int .i64 0]) (by simp [results, Tryz.results100, go_sem]) rfl ⟨⟨_, rfl, OwnI.made' _ _ _ (by simp) (by simp)⟩, HX.out.trans (Ext.alloc _ _)⟩
 | succ r ih =>
   intro i ii hii hi w a n cap ta tn tc taken hG hT hl
   subst hii
   have heq : ((i : Int) == (S : Int)) = false := by simp; omega
   have hiS : i < S := by omega
   have hi' : S - (r + 1) = i := by omega
   have HX := Lib.hid (Ext.alloc w (.cells #[.int .i64 (S : Int), .int .i64 (B : Int), .slice a n cap] 52))
   have HG := Lib.hid (hG.ext HX.out)
   have HT := Lib.hid (hT.ext HX.out)
   have HTL := Lib.hid hT.hlen
   have htl : tn ≤ 5 := by have := hT.hlen; omega
   have HNS := Lib.hid (show n = S by have := hG.hlen; have := hM.rows; omega)
   have HI := Lib.hid hi'
   have HSUM := Lib.hid hi
   have HL := Lib.hid hl
   have HIH := Lib.hid ih
   have HM := Lib.hid hM
   have hn := hG.hcap
   have hm := hG.hmax
   clear hG hT hl hi ih hi' hM
   go_enter Tryz.func100, Tryz.ntmps100
   go_wp2_with fail
   refine (HIH.out (i + 1) ((i : Int) + 1) (by simp) (by have := HSUM.out; omega) _ a n cap ta tn tc taken HG.out HT.out (by have := HL.out; omega)).mono ?_
   rintro e w1 ⟨⟨v0, rfl, ho⟩, hx⟩
   obtain ⟨a0, n0, p0, rfl, N0⟩ := ho.var
   have hbd0 := bestF_bd S B G s HM.out.bd r taken
   have hn0 : n0 = r := by have := N0.out; omega
   have X1 := Lib.hid hx
   have O0 := Lib.hid ho
   have hsz1 := hx.size
   simp at hsz1
   clear hx ho
   obtain ⟨b0, hb0⟩ : ∃ b, b = (bestF S B G s r taken).2 := ⟨_, rfl⟩
   obtain ⟨l0, hl0⟩ : ∃ l, l = (bestF S B G s r taken).1 := ⟨_, rfl⟩
   rw [← hb0, ← hl0] at hbd0
   rw [← hl0] at O0
   have HB0 := Lib.hid hb0
   have HL0 := Lib.hid hl0
   obtain ⟨hll, hb1, hb2⟩ := hbd0
   have HN0 := Lib.hid hn0
   have HLL := Lib.hid hll
   rw [← hb0]
   clear hb0 hl0 hn0 hll
   go_wp2_with (first
    | (at_builtin; refine append_ints rfl _ _ rfl (w.heap.size + 1) _ [(-1 : Int)] rfl (OwnI.lit1 _ _ _ (by omega)) _ n0 _ l0 rfl (O0.out.ext (Ext.alloc _ _)).ints (by have := HN0.out; have := HSUM.out; simp; omega) (by simp; omega) ?_; intro v2 w2 ho hg hnear; obtain ⟨a2, n2, c2, rfl, HN2⟩ := ho.var; have HO2 := Lib.hid ho; have X2 := Lib.hid (ext_grown (X1.out.trans (Ext.alloc _ _)) hg (fun j hj => by have := Option.some.inj (show some w1.heap.size = some j from hj); simp; omega)); clear ho hg hnear))
   have HBB := Lib.hid (fun k => bestTo_bd S B G s HM.out.bd r taken k)
   go_loopw [11, 12, 13] (fun t o j wr => ∃ (k : Nat) (a1 : Option Addr) (n1 p1 : Nat), k ≤ B ∧ j = .int .i64 (k : Int) ∧ t = .int .i64 (bestTo S B G s r taken k).2 ∧ o = .slice a1 n1 p1 ∧ Hid (OwnI wr (w.heap.size + 1) (.slice a1 n1 p1) (bestTo S B G s r taken k).1) ∧ Hid (Ext (w.alloc (.cells #[.int .i64 (S : Int), .int .i64 (B : Int), .slice a n cap] 52)) wr)) (fun _ _ j _ => B - (intOf j).toNat)
   case atStart => exact ⟨0, a2, n2, c2, Nat.zero_le _, rfl, by rw [bestTo_zero, ← HB0.out], rfl, Lib.hid (by rw [bestTo_zero, ← HL0.out]; exact HO2.out), Lib.hid X2.out⟩
   case round =>
    obtain ⟨k, a1, n1, p1, hk, rfl, rfl, rfl, HO3, HX3⟩ := hrel
    have hbb := HBB.out k
    obtain ⟨T, hT⟩ : ∃ T, T = (bestTo S B G s r taken k).2 := ⟨_, rfl⟩
    obtain ⟨Q, hQ⟩ : ∃ Q, Q = (bestTo S B G s r taken k).1 := ⟨_, rfl⟩
    rw [← hT]
    rw [← hT, ← hQ] at hbb
    rw [← hQ] at HO3
    obtain ⟨hql, ht1, ht2⟩ := hbb
    have HT1 := Lib.hid hT
    have HQ1 := Lib.hid hQ
    have HQL := Lib.hid hql
    clear hT hQ hql
    have c0 : wr.cell? ⟨w.heap.size, 0, none⟩ = some (.int .i64 (S : Int)) := HX3.out.cellSome (by simp)
    have c1 : wr.cell? ⟨w.heap.size, 1, none⟩ = some (.int .i64 (B : Int)) := HX3.out.cellSome (by simp)
    have c2' : wr.cell? ⟨w.heap.size, 2, none⟩ = some (.slice a n cap) := HX3.out.cellSome (by simp)
    have hr5 : r < 5 := by have := HSUM.out; omega
    by_cases hlt : k < B
    ·have HP1 := Lib.hid (hasP_bit (s : Int) i (by omega) (by omega))
     have HP2 := Lib.hid (show hasP (s : Int) ((S : Int) + (k : Int)) = bit (s : Int) (S + k) by have := hasP_bit (s : Int) (S + k) (by omega) (by omega); simpa using this)
     have HTw := Lib.hid (HT.out.ext HX3.out)
     have HGw := Lib.hid (HG.out.ext HX3.out)
     cases hbi : bit (s : Int) i
     ·have HF := Lib.hid (show freeJ S s taken (S - (r + 1)) k = false by unfold freeJ; rw [HI.out, hbi]; rfl)
      rw [hbi] at HP1
      clear hbi
      go_wp2_with (first | (go_at_call 79; refine (s_HasPlayer _ _ _ (by omega)).mono ?_; rw [HP1.out]; rintro e w' ⟨rfl, rfl⟩))
      go_roundw
      case rel => exact ⟨k + 1, a1, n1, p1, by omega, by go_num, by rw [bestTo_succ, HF.out, if_neg (by simp), ← HT1.out], rfl, Lib.hid (by rw [bestTo_succ, HF.out, if_neg (by simp), ← HQ1.out]; exact HO3.out), HX3⟩
      case measure => simp [intOf]; omega
     ·cases hbj : bit (s : Int) (S + k)
      ·have HF := Lib.hid (show freeJ S s taken (S - (r + 1)) k = false by unfold freeJ; rw [HI.out, hbi, hbj]; rfl)
       rw [hbi] at HP1
       rw [hbj] at HP2
       clear hbi hbj
       go_wp2_with (first | (go_at_call 79; refine (s_HasPlayer _ _ _ (by omega)).mono ?_; (first | rw [HP1.out] | rw [HP2.out]); rintro e w' ⟨rfl, rfl⟩))
       go_roundw
       case rel => exact ⟨k + 1, a1, n1, p1, by omega, by go_num, by rw [bestTo_succ, HF.out, if_neg (by simp), ← HT1.out], rfl, Lib.hid (by rw [bestTo_succ, HF.out, if_neg (by simp), ← HQ1.out]; exact HO3.out), HX3⟩
       case measure => simp [intOf]; omega
      ·have HH := Lib.hid (s_l1HasInt (k : Int) HTw.out)
       cases hhas : hasI taken (k : Int)
       ·have HF := Lib.hid (show freeJ S s taken (S - (r + 1)) k = true by unfold freeJ; rw [HI.out, hbi, hbj, hhas]; rfl)
        rw [hbi] at HP1
        rw [hbj] at HP2
        rw [hhas] at HH
        have hiG : i < n := by have := HNS.out; omega
        obtain ⟨gb, goff, ga, gn, gc, hga, hgc, hgr⟩ := HGw.out.at hiG
        have hgn : k < gn := by have h1 := hgr.hlen; have h2 := HM.out.row i hiS; omega
        obtain ⟨rb, roff, hra, hrc⟩ := hgr.at hgn
        have hgk := HM.out.bd i k
        obtain ⟨y, hy⟩ : ∃ y, y = gain G i k := ⟨_, rfl⟩
        have hrc : wr.cell? ⟨rb, roff + k, none⟩ = some (.int .i64 y) := by rw [hy]; exact hrc
        rw [← hy] at hgk
        have HY := Lib.hid hy
        have hgcap := hgr.hcap
        have hgmax := hgr.hmax
        clear hbi hbj hhas hgr hy
        subst hga hra
        have hbm := bestF_bd S B G s HM.out.bd r (taken ++ [(k : Int)])
        obtain ⟨sm, hsm⟩ : ∃ b, b = (bestF S B G s r (taken ++ [(k : Int)])).2 := ⟨_, rfl⟩
        obtain ⟨lm, hlm⟩ : ∃ l, l = (bestF S B G s r (taken ++ [(k : Int)])).1 := ⟨_, rfl⟩
        rw [← hsm, ← hlm] at hbm
        obtain ⟨hlml, hsm1, hsm2⟩ := hbm
        have HSM := Lib.hid hsm
        have HLM := Lib.hid hlm
        have HLML := Lib.hid hlml
        clear hsm hlm hlml
        go_wp2_with (first
         | (go_at_call 79; refine (s_HasPlayer _ _ _ (by omega)).mono ?_; (first | rw [HP1.out] | rw [HP2.out]); rintro e w' ⟨rfl, rfl⟩)
         | (go_at_call 170; refine HH.out.mono ?_; rintro e w' ⟨rfl, rfl⟩))
        have HKEEP := Lib.hid (fun (w' : World) (h : Ext wr w') => (⟨h.cellSome c0, h.cellSome c1, h.cellSome c2', h⟩ : w'.cell? ⟨w.heap.size, 0, none⟩ = some (.int .i64 (S : Int)) ∧ w'.cell? ⟨w.heap.size, 1, none⟩ = some (.int .i64 (B : Int)) ∧ w'.cell? ⟨w.heap.size, 2, none⟩ = some (.slice (some ⟨gb, goff, none⟩) n cap) ∧ Ext wr w'))
        have HW1 := Lib.hid (show IntKind.i64.wrap ((i : Int) + 1) = (i : Int) + 1 by rw [IntKind.wrap_i64]; omega)
        have hk2 : Ext wr wr.drew := Ext.drew wr
        have hka : Ext wr (wr.alloc (.cells #[] 3)).drew := (Ext.alloc _ _).trans (Ext.drew _)
        have hkb : Ext wr (wr.alloc (.cells #[.int .i64 (k : Int)] 3)).drew := (Ext.alloc _ _).trans (Ext.drew _)
        have hkab : Ext wr ((wr.alloc (.cells #[] 3)).alloc (.cells #[.int .i64 (k : Int)] 3)).drew := ((Ext.alloc _ _).trans (Ext.alloc _ _)).trans (Ext.drew _)
        have hkba : Ext wr ((wr.alloc (.cells #[.int .i64 (k : Int)] 3)).alloc (.cells #[] 3)).drew := ((Ext.alloc _ _).trans (Ext.alloc _ _)).trans (Ext.drew _)
        have HOA := Lib.hid (show OwnI (wr.alloc (.cells #[] 3)).drew wr.heap.size (.slice (some ⟨wr.heap.size, 0, none⟩) 0 0) [] from (OwnI.made' wr _ _ rfl (Nat.le_refl _)).ext (Ext.drew _))
        have HOAB := Lib.hid (show OwnI ((wr.alloc (.cells #[] 3)).alloc (.cells #[.int .i64 (k : Int)] 3)).drew wr.heap.size (.slice (some ⟨wr.heap.size, 0, none⟩) 0 0) [] from ((OwnI.made' wr _ _ rfl (Nat.le_refl _)).ext (Ext.alloc _ _)).ext (Ext.drew _))
        have HOBA := Lib.hid (show OwnI ((wr.alloc (.cells #[.int .i64 (k : Int)] 3)).alloc (.cells #[] 3)).drew wr.heap.size (.slice (some ⟨wr.heap.size + 1, 0, none⟩) 0 0) [] from (OwnI.made' (wr.alloc (.cells #[.int .i64 (k : Int)] 3)) wr.heap.size _ (by simp) (by simp)).ext (Ext.drew _))
        have HJAB := Lib.hid (show Ints ((wr.alloc (.cells #[] 3)).alloc (.cells #[.int .i64 (k : Int)] 3)).drew (some ⟨wr.heap.size + 1, 0, none⟩) 1 1 [(k : Int)] from (Ints.one' (wr.alloc (.cells #[] 3)) (k : Int) 3 (wr.heap.size + 1) (by simp)).ext (Ext.drew _))
        have HJBA := Lib.hid (show Ints ((wr.alloc (.cells #[.int .i64 (k : Int)] 3)).alloc (.cells #[] 3)).drew (some ⟨wr.heap.size, 0, none⟩) 1 1 [(k : Int)] from ((Ints.one' wr (k : Int) 3 wr.heap.size rfl).ext (Ext.alloc _ _)).ext (Ext.drew _))
        go_region_held3 (fun w' => w'.cell? ⟨w.heap.size, 0, none⟩ = some (.int .i64 (S : Int)) ∧ w'.cell? ⟨w.heap.size, 1, none⟩ = some (.int .i64 (B : Int)) ∧ w'.cell? ⟨w.heap.size, 2, none⟩ = some (.slice (some ⟨gb, goff, none⟩) n cap) ∧ Ext wr w')
         (first
           | with_reducible exact HKEEP.out _ hk2
           | with_reducible exact HKEEP.out _ hka
           | with_reducible exact HKEEP.out _ hkb
           | with_reducible exact HKEEP.out _ hkab
           | with_reducible exact HKEEP.out _ hkba
           | with_reducible exact HKEEP.out _ (hk2.trans (Ext.alloc _ _)))
         (first
           | (refine step_of_wp _ (by rfl) ?_
              refine wp_append_ints _ _ (by rfl) wr.heap.size (.slice (some ⟨wr.heap.size, 0, none⟩) 0 0) [] (by rfl) (by with_reducible exact HOA.out) ta tn tc taken (by rfl) (HTw.out.ext hka) (by simp; omega) (by simp) ?_
              intro v2 w3 ho hg hnear
              have hk2 : Ext wr w3 := ext_grown hka hg (fun j hj => by have := Option.some.inj (show some wr.heap.size = some j from hj); omega)
              rw [List.nil_append] at ho
              obtain ⟨A2, N2, C2, rfl, HN2'⟩ := ho.var
              have HO4 := Lib.hid (ho.ext (Ext.alloc _ (.cells #[.int .i64 (k : Int)] 3)))
              have HJ := Lib.hid (Ints.one' w3 (k : Int) 3 w3.heap.size rfl)
              have HB4 := Lib.hid (hk2.trans (Ext.alloc _ (.cells #[.int .i64 (k : Int)] 3)))
              clear ho hg hnear)
           | (refine step_of_wp _ (by rfl) ?_
              refine wp_append_ints _ _ (by rfl) wr.heap.size (.slice (some ⟨wr.heap.size, 0, none⟩) 0 0) [] (by rfl) (by with_reducible exact HOAB.out) ta tn tc taken (by rfl) (HTw.out.ext hkab) (by simp; omega) (by simp; omega) ?_
              intro v2 w3 ho hg hnear
              have hk2 : Ext wr w3 := ext_grown hkab hg (fun j hj => by have := Option.some.inj (show some wr.heap.size = some j from hj); omega)
              rw [List.nil_append] at ho
              obtain ⟨A2, N2, C2, rfl, HN2'⟩ := ho.var
              have HO4 := Lib.hid ho
              have HJ := Lib.hid (HJAB.out.grown1 hg (by simp [Value.ownBlock]))
              have HB4 := Lib.hid hk2
              clear ho hg hnear)
           | (refine step_of_wp _ (by rfl) ?_
              refine wp_append_ints _ _ (by rfl) wr.heap.size (.slice (some ⟨wr.heap.size + 1, 0, none⟩) 0 0) [] (by rfl) (by with_reducible exact HOBA.out) ta tn tc taken (by rfl) (HTw.out.ext hkba) (by simp; omega) (by simp; omega) ?_
              intro v2 w3 ho hg hnear
              have hk2 : Ext wr w3 := ext_grown hkba hg (fun j hj => by have := Option.some.inj (show some (wr.heap.size + 1) = some j from hj); omega)
              rw [List.nil_append] at ho
              obtain ⟨A2, N2, C2, rfl, HN2'⟩ := ho.var
              have HO4 := Lib.hid ho
              have HJ := Lib.hid (HJBA.out.grown1 hg (by simp [Value.ownBlock]))
              have HB4 := Lib.hid hk2
              clear ho hg hnear)
           | (refine step_of_wp _ (by rfl) ?_
              refine wp_append_ints _ _ (by rfl) wr.heap.size (.slice A2 N2 C2) taken (by rfl) (by with_reducible exact HO4.out) _ 1 1 [(k : Int)] (by rfl) HJ.out (by have := HTL.out; omega) (by have := HB4.out.size; simp at this ⊢; omega) ?_
              intro v3 w4 ho hg hnear
              have hk2 : Ext wr w4 := ext_grown HB4.out hg (fun j hj => (HO4.out.lt j hj).1)
              obtain ⟨A3, N3, C3, rfl, HN3'⟩ := ho.var
              have HO5 := Lib.hid ho
              clear ho hg hnear)
           | (go_at_call 100; rw [HW1.out]; refine (HIH.out (i + 1) ((i : Int) + 1) (by simp) (by have := HSUM.out; omega) _ (some ⟨gb, goff, none⟩) n cap A3 N3 C3 (taken ++ [(k : Int)]) (HGw.out.ext hk2) HO5.out.ints (by have := HL.out; simp; omega)).mono ?_; rw [← HSM.out, ← HLM.out]; rintro e w5 ⟨⟨v5, rfl, ho⟩, hx⟩; obtain ⟨a5, n5, c5, rfl, N5⟩ := ho.var; have HO6 := Lib.hid ho; have hk2 := hk2.trans hx; have hsz6 := hx.size; clear ho hx))
        all_goals
         have X5 := Lib.hid (HX3.out.trans hk2)
         have O3 := Lib.hid (HO3.out.ext hk2)
         replace c0 := hk2.cellSome c0
         replace c1 := hk2.cellSome c1
         replace c2' := hk2.cellSome c2'
         replace hgc := hk2.cellSome hgc
         replace hrc := hk2.cellSome hrc
         have hszw : w.heap.size + 1 ≤ w5.heap.size := by have := X5.out.size; simpa using this
         clear hk2 hka hkb hkab hkba HOA HOAB HOBA HJAB HJBA HKEEP
         by_cases hgt : T < sm + y
         ·have HGT := Lib.hid hgt
          go_wp2_with (first
           | (at_builtin; refine append_ints rfl _ _ rfl (w.heap.size + 1) _ [(k : Int)] rfl (OwnI.lit1 _ _ _ (by omega)) _ n5 _ lm rfl (HO6.out.ext (Ext.alloc _ _)).ints (by have := N5.out; have := HLML.out; simp; omega) (by simp; omega) ?_; intro v6 w6 ho hg hnear; obtain ⟨a6, n6, c6, rfl, HN6⟩ := ho.var; have HO7 := Lib.hid ho; have X6 := Lib.hid (ext_grown (X5.out.trans (Ext.alloc _ _)) hg (fun j hj => by have := Option.some.inj (show some w5.heap.size = some j from hj); simp; omega)); clear ho hg hnear))
          go_roundw
          case rel =>
           have hb : bestTo S B G s r taken (k + 1) = ((k : Int) :: lm, sm + y) := by rw [bestTo_succ, HF.out, if_pos rfl, ← HSM.out, ← HLM.out, HI.out, ← HY.out, ← HT1.out, if_pos (by have := HGT.out; omega)]
           exact ⟨k + 1, a6, n6, c6, by omega, by go_num, by rw [hb], rfl, Lib.hid (by rw [hb]; simpa using HO7.out), X6⟩
          case measure => simp [intOf]; omega
         ·have HGT := Lib.hid hgt
          go_wp2
          go_roundw
          case rel =>
           have hb : bestTo S B G s r taken (k + 1) = bestTo S B G s r taken k := by rw [bestTo_succ, HF.out, if_pos rfl, ← HSM.out, ← HLM.out, HI.out, ← HY.out, ← HT1.out, if_neg (by have := HGT.out; omega)]
           exact ⟨k + 1, a1, n1, p1, by omega, by go_num, by rw [hb, ← HT1.out], rfl, Lib.hid (by rw [hb, ← HQ1.out]; exact O3.out), X5⟩
          case measure => simp [intOf]; omega
       ·have HF := Lib.hid (show freeJ S s taken (S - (r + 1)) k = false by unfold freeJ; rw [HI.out, hbi, hbj, hhas]; rfl)
        rw [hbi] at HP1
        rw [hbj] at HP2
        rw [hhas] at HH
        clear hbi hbj hhas
        go_wp2_with (first
         | (go_at_call 79; refine (s_HasPlayer _ _ _ (by omega)).mono ?_; (first | rw [HP1.out] | rw [HP2.out]); rintro e w' ⟨rfl, rfl⟩)
         | (go_at_call 170; refine HH.out.mono ?_; rintro e w' ⟨rfl, rfl⟩))
        go_roundw
        case rel => exact ⟨k + 1, a1, n1, p1, by omega, by go_num, by rw [bestTo_succ, HF.out, if_neg (by simp), ← HT1.out], rfl, Lib.hid (by rw [bestTo_succ, HF.out, if_neg (by simp), ← HQ1.out]; exact HO3.out), HX3⟩
        case measure => simp [intOf]; omega
    ·go_wp2
     have hkB : k = B := by omega
     subst hkB
     refine bodyPost_ret (v := .tuple #[.slice a1 n1 p1, .int .i64 T]) (by simp [results, Tryz.results100, go_sem]) rfl ⟨⟨_, by rw [bestF_succ, HT1.out], ?_⟩, HX.out.trans HX3.out⟩
     rw [bestF_succ, ← HQ1.out]
     exact HO3.out.mono (by omega)
def tradeOk (x y : Int) (G : List (List Int)) (s : Int) : Bool := validM x y G && inB s 0 (cntC (x + y) - 1)
def tradeR (x y : Int) (G : List (List Int)) (s : Int) : List Int × Int := if tradeOk x y G s = true then bestF x.toNat y.toNat G s.toNat x.toNat [] else ([], 0)
theorem tradeR_not {x y : Int} {G : List (List Int)} {s : Int} (h : tradeOk x y G s = false) : tradeR x y G s = ([], 0) := by simp [tradeR, h]
theorem tradeR_ok {S B s : Nat} {G : List (List Int)} (h : tradeOk (S : Int) (B : Int) G (s : Int) = true) : tradeR (S : Int) (B : Int) G (s : Int) = bestF S B G s S [] := by simp [tradeR, h]
set_option maxHeartbeats 1000000 in
theorem s_BestTrades {w : World} {x y s : Int} {a : Option Addr} {n cap : Nat} {G : List (List Int)} (h : IntSS w a n cap G) :
 Calls Tryz.prog 41 #[triple x y a n cap, .int .i64 s] w fun e w' => (∃ v, e = .returned (.tuple #[v, .int .i64 (tradeR x y G s).2, .bool (tradeOk x y G s)]) ∧ OwnI w' w.heap.size v (tradeR x y G s).1) ∧ Ext w w' := by
 have HX := Lib.hid (Ext.alloc w (.cells #[.int .i64 x, .int .i64 y, .slice a n cap] 52))
 have HG := Lib.hid (h.ext HX.out)
 have HV := Lib.hid (s_IsValidMarket (x := x) (y := y) HG.out)
 clear h
 cases hv : validM x y G
 ·have HN := Lib.hid (show tradeOk x y G s = false by simp [tradeOk, hv])
  rw [hv] at HV
  clear hv
  go_enter Tryz.func41, Tryz.ntmps41
  go_wp2_with fail
  refine HV.out.mono ?_
  rintro e w1 ⟨rfl, hx⟩
  go_wp2
  rw [tradeR_not HN.out, HN.out]
  have hs := hx.size
  simp at hs
  refine bodyPost_ret (v := .tuple #[.slice (some ⟨w1.heap.size, 0, none⟩) 0 0, .int .i64 0, .bool false]) (by simp [results, Tryz.results41, go_sem]) rfl ⟨⟨_, rfl, OwnI.made' _ _ _ rfl (by omega)⟩, HX.out.trans (hx.trans (Ext.alloc _ _))⟩
 ·rw [hv] at HV
  obtain ⟨S, B, rfl, rfl, hM⟩ := validM_good hv
  have hsb := hM.sb
  have hcn := cntC_nat (S + B) hsb
  have hN := cN_le (S + B) hsb
  have hcn' : cntC ((S : Int) + (B : Int)) = (cN (S + B) : Int) := by rw [← hcn]; simp
  have HC := Lib.hid hcn'
  have HM := Lib.hid hM
  cases hin : inB s 0 ((cN (S + B) : Int) - 1)
  ·have HIN := Lib.hid hin
   have HN := Lib.hid (show tradeOk (S : Int) (B : Int) G s = false by simp [tradeOk, hv, hcn', hin])
   clear hv hin hcn' hcn hM
   go_enter Tryz.func41, Tryz.ntmps41
   go_wp2_with fail
   refine HV.out.mono ?_
   rintro e w1 ⟨rfl, hx⟩
   have c0 : w1.cell? ⟨w.heap.size, 0, none⟩ = some (.int .i64 (S : Int)) := hx.cellSome (by simp)
   have c1 : w1.cell? ⟨w.heap.size, 1, none⟩ = some (.int .i64 (B : Int)) := hx.cellSome (by simp)
   go_wp2_with (first
    | (go_at_call 73; refine (s_CountCoalitions _ _).mono ?_; rw [HC.out]; rintro e w' ⟨rfl, rfl⟩)
    | (go_at_call 95; refine (s_l1In _ _ _ _).mono ?_; rw [HIN.out]; rintro e w' ⟨rfl, rfl⟩))
   rw [tradeR_not HN.out, HN.out]
   have hs := hx.size
   simp at hs
   refine bodyPost_ret (v := .tuple #[.slice (some ⟨w1.heap.size, 0, none⟩) 0 0, .int .i64 0, .bool false]) (by simp [results, Tryz.results41, go_sem]) rfl ⟨⟨_, rfl, OwnI.made' _ _ _ rfl (by omega)⟩, HX.out.trans (hx.trans (Ext.alloc _ _))⟩
  ·have HIN := Lib.hid hin
   have HOK := Lib.hid (show tradeOk (S : Int) (B : Int) G s = true by simp [tradeOk, hv, hcn', hin])
   obtain ⟨t, rfl⟩ : ∃ t : Nat, s = t := ⟨s.toNat, by unfold inB at hin; simp at hin; omega⟩
   have ht : t < 32 := by unfold inB at hin; simp at hin; omega
   clear hv hin hcn' hcn hM
   go_enter Tryz.func41, Tryz.ntmps41
   go_wp2_with fail
   refine HV.out.mono ?_
   rintro e w1 ⟨rfl, hx⟩
   have c0 : w1.cell? ⟨w.heap.size, 0, none⟩ = some (.int .i64 (S : Int)) := hx.cellSome (by simp)
   have c1 : w1.cell? ⟨w.heap.size, 1, none⟩ = some (.int .i64 (B : Int)) := hx.cellSome (by simp)
   have c2 : w1.cell? ⟨w.heap.size, 2, none⟩ = some (.slice a n cap) := hx.cellSome (by simp)
   have hlt1 : w.heap.size < w1.heap.size := World.block_lt_of_cell? _ _ c0
   have X1 := Lib.hid (HX.out.trans hx)
   have HG1 := Lib.hid ((HG.out.ext hx).ext (Ext.alloc _ (.cells #[] 3)))
   clear hx
   go_wp2_with (first
    | (go_at_call 73; refine (s_CountCoalitions _ _).mono ?_; rw [HC.out]; rintro e w' ⟨rfl, rfl⟩)
    | (go_at_call 95; refine (s_l1In _ _ _ _).mono ?_; rw [HIN.out]; rintro e w' ⟨rfl, rfl⟩)
    | (go_at_call 100; refine (s_l19Best HM.out ht S 0 0 rfl (by omega) _ a n cap _ 0 0 [] HG1.out (OwnI.made' w1 0 _ rfl (by omega)).ints (by simp)).mono ?_; rw [← tradeR_ok HOK.out]; rintro e w2 ⟨⟨v, rfl, ho⟩, hx⟩))
   have hs := X1.out.size
   rw [HOK.out]
   refine bodyPost_ret (v := .tuple #[v, .int .i64 (tradeR (S : Int) (B : Int) G (t : Int)).2, .bool true]) (by simp [results, Tryz.results41, go_sem]) rfl ⟨⟨_, rfl, ho.mono (by simp; omega)⟩, X1.out.trans ((Ext.alloc _ _).trans hx)⟩
end Go.Proofs.YthjjfkeacobikaaGreat
