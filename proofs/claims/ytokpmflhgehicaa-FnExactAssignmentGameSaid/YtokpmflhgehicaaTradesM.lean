/- The best trades: the reference's recursion and the program's search give the same. Plain words, no program in sight. -/
import Derived.Test.YtokpmflhgehicaaBits
import Derived.Test.YtokpmflhgehicaaOrders
import Derived.Test.YtokpmflhgehicaaMarket
namespace Go.Proofs.Ytokpmflhgehicaa
set_option linter.unusedVariables false

theorem tcut_nat : ∀ s : Fin 32, ∀ k : Fin 5, bits .andNot .i64 ((s.val : Nat) : Int) (2 ^ k.val) = (if bit ((s.val : Nat) : Int) k.val then ((s.val - 2 ^ k.val : Nat) : Int) else ((s.val : Nat) : Int)) := by decide +kernel
theorem tcut {s k : Nat} (hs : s < 32) (hk : k < 5) (h : bit (s : Int) k = true) : bits .andNot .i64 (s : Int) (2 ^ k) = ((s - 2 ^ k : Nat) : Int) := by
  have := tcut_nat ⟨s, hs⟩ ⟨k, hk⟩
  simp only [h, if_true] at this
  exact this
theorem tcut_bit_nat : ∀ s : Fin 32, ∀ k : Fin 5, ∀ j : Fin 5, bit ((s.val : Nat) : Int) k.val = true → bit ((s.val - 2 ^ k.val : Nat) : Int) j.val = (bit ((s.val : Nat) : Int) j.val && !decide (j.val = k.val)) := by decide +kernel
theorem tcut_bit {s k j : Nat} (hs : s < 32) (hk : k < 5) (hj : j < 5) (h : bit (s : Int) k = true) : bit ((s - 2 ^ k : Nat) : Int) j = (bit (s : Int) j && !decide (j = k)) := tcut_bit_nat ⟨s, hs⟩ ⟨k, hk⟩ ⟨j, hj⟩ h

section
variable (S B : Nat) (G : List (List Int)) (s : Nat)

def gain (i j : Nat) : Int := (G[i]?.getD [])[j]?.getD 0
/-- May seller i trade with buyer j now? -/
def freeJ (taken : List Int) (i j : Nat) : Bool := bit (s : Int) i && (bit (s : Int) (S + j) && !hasI taken (j : Int))
/-- The reference's recursion: for the last r sellers. -/
def bestF : Nat → List Int → List Int × Int
  | 0, _ => ([], 0)
  | r + 1, taken => (List.range B).foldl (fun acc j => if freeJ S s taken (S - (r + 1)) j = true then (if (bestF r (taken ++ [(j : Int)])).2 + gain G (S - (r + 1)) j > acc.2 then ((j : Int) :: (bestF r (taken ++ [(j : Int)])).1, (bestF r (taken ++ [(j : Int)])).2 + gain G (S - (r + 1)) j) else acc) else acc)
      (-1 :: (bestF r taken).1, (bestF r taken).2)
/-- .. with the first k buyers only. -/
def bestTo (r : Nat) (taken : List Int) (k : Nat) : List Int × Int :=
  (List.range k).foldl (fun acc j => if freeJ S s taken (S - (r + 1)) j = true then (if (bestF S B G s r (taken ++ [(j : Int)])).2 + gain G (S - (r + 1)) j > acc.2 then ((j : Int) :: (bestF S B G s r (taken ++ [(j : Int)])).1, (bestF S B G s r (taken ++ [(j : Int)])).2 + gain G (S - (r + 1)) j) else acc) else acc)
      (-1 :: (bestF S B G s r taken).1, (bestF S B G s r taken).2)
theorem bestF_succ (r : Nat) (taken : List Int) : bestF S B G s (r + 1) taken = bestTo S B G s r taken B := rfl
theorem bestTo_zero (r : Nat) (taken : List Int) : bestTo S B G s r taken 0 = (-1 :: (bestF S B G s r taken).1, (bestF S B G s r taken).2) := rfl
theorem bestTo_succ (r : Nat) (taken : List Int) (k : Nat) : bestTo S B G s r taken (k + 1) = if freeJ S s taken (S - (r + 1)) k = true then (if (bestF S B G s r (taken ++ [(k : Int)])).2 + gain G (S - (r + 1)) k > (bestTo S B G s r taken k).2 then ((k : Int) :: (bestF S B G s r (taken ++ [(k : Int)])).1, (bestF S B G s r (taken ++ [(k : Int)])).2 + gain G (S - (r + 1)) k) else bestTo S B G s r taken k) else bestTo S B G s r taken k := by
  unfold bestTo
  rw [List.range_succ, List.foldl_append]
  rfl

/-- Sums of gains stay small, and the lists name as many sellers as asked. -/
theorem bestF_bd (hG : ∀ i j, 0 ≤ gain G i j ∧ gain G i j ≤ 100) : ∀ (r : Nat) (taken : List Int), (bestF S B G s r taken).1.length = r ∧ 0 ≤ (bestF S B G s r taken).2 ∧ (bestF S B G s r taken).2 ≤ 100 * r
  | 0, _ => by simp [bestF]
  | r + 1, taken => by
    rw [bestF_succ]
    have hb : ∀ k, (bestTo S B G s r taken k).1.length = r + 1 ∧ 0 ≤ (bestTo S B G s r taken k).2 ∧ (bestTo S B G s r taken k).2 ≤ 100 * (r + 1 : Nat) := by
      intro k
      induction k with
      | zero =>
        have := bestF_bd hG r taken
        rw [bestTo_zero]
        simp only [List.length_cons]
        omega
      | succ k ih =>
        rw [bestTo_succ]
        have h1 := bestF_bd hG r (taken ++ [(k : Int)])
        have h2 := hG (S - (r + 1)) k
        split
        · split
          · simp only [List.length_cons]; omega
          · exact ih
        · exact ih
    exact hb B
theorem bestTo_bd (hG : ∀ i j, 0 ≤ gain G i j ∧ gain G i j ≤ 100) (r : Nat) (taken : List Int) (k : Nat) : (bestTo S B G s r taken k).1.length = r + 1 ∧ 0 ≤ (bestTo S B G s r taken k).2 ∧ (bestTo S B G s r taken k).2 ≤ 100 * (r + 1 : Nat) := by
  induction k with
  | zero =>
    have := bestF_bd S B G s hG r taken
    rw [bestTo_zero]
    simp only [List.length_cons]
    omega
  | succ k ih =>
    rw [bestTo_succ]
    have h1 := bestF_bd S B G s hG r (taken ++ [(k : Int)])
    have h2 := hG (S - (r + 1)) k
    split
    · split
      · simp only [List.length_cons]; omega
      · exact ih
    · exact ih

/-- What the program's search has in memory: the trades now, the best ones, their sum. -/
structure Srch where
  now : List Int
  best : List Int
  most : Int
/-- The program's search, for the last r sellers. -/
def walkF : Nat → Nat → Int → Srch → Srch
  | 0, left, sum, st => if sum > st.most then ⟨st.now, st.now, sum⟩ else st
  | r + 1, left, sum, st =>
    if bit (s : Int) (S - (r + 1)) = false then walkF r left sum ⟨st.now.set (S - (r + 1)) (-1), st.best, st.most⟩
    else (List.range B).foldl (fun st j => if bit (left : Int) (S + j) = true then walkF r (left - 2 ^ (S + j)) (sum + gain G (S - (r + 1)) j) ⟨st.now.set (S - (r + 1)) (j : Int), st.best, st.most⟩ else st)
      (walkF r left sum ⟨st.now.set (S - (r + 1)) (-1), st.best, st.most⟩)
def walkTo (r left : Nat) (sum : Int) (st : Srch) (k : Nat) : Srch :=
  (List.range k).foldl (fun st j => if bit (left : Int) (S + j) = true then walkF S B G s r (left - 2 ^ (S + j)) (sum + gain G (S - (r + 1)) j) ⟨st.now.set (S - (r + 1)) (j : Int), st.best, st.most⟩ else st)
    (walkF S B G s r left sum ⟨st.now.set (S - (r + 1)) (-1), st.best, st.most⟩)
theorem walkF_not {r left : Nat} {sum : Int} {st : Srch} (h : bit (s : Int) (S - (r + 1)) = false) : walkF S B G s (r + 1) left sum st = walkF S B G s r left sum ⟨st.now.set (S - (r + 1)) (-1), st.best, st.most⟩ := by
  rw [walkF, if_pos h]
theorem walkF_to {r left : Nat} {sum : Int} {st : Srch} (h : bit (s : Int) (S - (r + 1)) = true) : walkF S B G s (r + 1) left sum st = walkTo S B G s r left sum st B := by
  rw [walkF, if_neg (by simp [h])]; rfl
theorem walkTo_zero (r left : Nat) (sum : Int) (st : Srch) : walkTo S B G s r left sum st 0 = walkF S B G s r left sum ⟨st.now.set (S - (r + 1)) (-1), st.best, st.most⟩ := rfl
theorem walkTo_succ (r left : Nat) (sum : Int) (st : Srch) (k : Nat) : walkTo S B G s r left sum st (k + 1) = if bit (left : Int) (S + k) = true then walkF S B G s r (left - 2 ^ (S + k)) (sum + gain G (S - (r + 1)) k) ⟨(walkTo S B G s r left sum st k).now.set (S - (r + 1)) (k : Int), (walkTo S B G s r left sum st k).best, (walkTo S B G s r left sum st k).most⟩ else walkTo S B G s r left sum st k := by
  simp only [walkTo, List.range_succ, List.foldl_append, List.foldl_cons, List.foldl_nil]

/-- The search after it has looked at all trades of the last sellers whose best are b: from most0 on. -/
def Found (i : Nat) (now : List Int) (sum : Int) (st0 : Srch) (b : List Int × Int) (out : Srch) : Prop :=
  out.now.length = S ∧ out.now.take i = now.take i ∧ ((st0.most < sum + b.2 ∧ out.best = now.take i ++ b.1 ∧ out.most = sum + b.2) ∨ (¬ st0.most < sum + b.2 ∧ out.best = st0.best ∧ out.most = st0.most))

theorem take_set_self {l : List Int} {i : Nat} (x : Int) (h : i < l.length) : (l.set i x).take (i + 1) = l.take i ++ [x] := by
  rw [List.take_set, List.take_succ_eq_append_getElem h, List.set_append_right _ _ (by simp; omega)]
  congr 1
  have : i - (l.take i).length = 0 := by simp; omega
  rw [this]; rfl

theorem walkF_best (hS : S + B ≤ 5) : ∀ (r left : Nat) (taken : List Int) (sum : Int) (st : Srch), r ≤ S → st.now.length = S → left < 32 →
    (∀ j, j < B → bit (left : Int) (S + j) = (bit (s : Int) (S + j) && !hasI taken (j : Int))) →
    Found S (S - r) st.now sum st (bestF S B G s r taken) (walkF S B G s r left sum st)
  | 0, left, taken, sum, st, hr, hl, hlt, hbit => by
    have ht : st.now.take S = st.now := List.take_of_length_le (by omega)
    unfold Found
    simp only [bestF, walkF, Nat.sub_zero, ht, List.append_nil, Int.add_zero]
    by_cases h : sum > st.most
    · rw [if_pos h]; exact ⟨hl, ht, .inl ⟨h, rfl, rfl⟩⟩
    · rw [if_neg h]; exact ⟨hl, ht, .inr ⟨h, rfl, rfl⟩⟩
  | r + 1, left, taken, sum, st, hr, hl, hlt, hbit => by
    have hi : S - r = S - (r + 1) + 1 := by omega
    obtain ⟨i, hI⟩ : ∃ i, i = S - (r + 1) := ⟨_, rfl⟩
    have hiS : i < S := by omega
    have hiS' : S - r = i + 1 := by omega
    -- the seller trades with nobody
    have h0 : Found S i st.now sum st (-1 :: (bestF S B G s r taken).1, (bestF S B G s r taken).2) (walkF S B G s r left sum ⟨st.now.set i (-1), st.best, st.most⟩) := by
      have ih := walkF_best hS r left taken sum ⟨st.now.set i (-1), st.best, st.most⟩ (by omega) (by simpa using hl) hlt hbit
      unfold Found at ih ⊢
      rw [hiS'] at ih
      simp only [take_set_self _ (show i < st.now.length by omega)] at ih
      obtain ⟨g1, g2, g3⟩ := ih
      refine ⟨g1, ?_, ?_⟩
      · have := congrArg (List.take i) g2
        rw [List.take_take, Nat.min_eq_left (by omega), List.take_left' (by simp; omega)] at this
        exact this
      · simpa [List.append_assoc] using g3
    cases hb : bit (s : Int) (S - (r + 1))
    · rw [walkF_not _ _ _ _ hb, bestF_succ, ← hI]
      have hno : ∀ k, bestTo S B G s r taken k = (-1 :: (bestF S B G s r taken).1, (bestF S B G s r taken).2) := by
        intro k
        induction k with
        | zero => rfl
        | succ k ih => rw [bestTo_succ, if_neg (by simp [freeJ, hb]), ih]
      rw [hno]
      exact h0
    · rw [walkF_to _ _ _ _ hb, bestF_succ]
      have hall : ∀ k, k ≤ B → Found S i st.now sum st (bestTo S B G s r taken k) (walkTo S B G s r left sum st k) := by
        intro k
        induction k with
        | zero => intro _; rw [walkTo_zero, bestTo_zero, ← hI]; exact h0
        | succ k ihk =>
          intro hk
          have ihk := ihk (by omega)
          rw [walkTo_succ, bestTo_succ]
          have hf : freeJ S s taken (S - (r + 1)) k = bit (left : Int) (S + k) := by unfold freeJ; rw [hb, hbit k (by omega)]; simp
          rw [hf]
          by_cases hk2 : bit (left : Int) (S + k) = true
          · rw [if_pos hk2, if_pos hk2, ← hI]
            generalize hst : walkTo S B G s r left sum st k = w1 at ihk ⊢
            generalize hbt : bestTo S B G s r taken k = b1 at ihk ⊢
            obtain ⟨l1, l2, l3⟩ := ihk
            have ih := walkF_best hS r (left - 2 ^ (S + k)) (taken ++ [(k : Int)]) (sum + gain G i k) ⟨w1.now.set i (k : Int), w1.best, w1.most⟩ (by omega) (by simpa using l1) (Nat.lt_of_le_of_lt (Nat.sub_le _ _) hlt) (by
              intro j hj
              rw [tcut_bit hlt (by omega) (by omega) hk2, hbit j hj]
              unfold hasI
              rw [List.contains_append]
              by_cases hjk : j = k
              · subst hjk; simp
              · have h1 : decide (S + j = S + k) = false := by simp; omega
                have h2 : [(k : Int)].contains (j : Int) = false := by simp; omega
                rw [h1, h2]; simp)
            generalize bestF S B G s r (taken ++ [(k : Int)]) = b2 at ih ⊢
            generalize walkF S B G s r (left - 2 ^ (S + k)) (sum + gain G i k) ⟨w1.now.set i (k : Int), w1.best, w1.most⟩ = w2 at ih ⊢
            unfold Found at ih
            rw [hiS'] at ih
            simp only [take_set_self _ (show i < w1.now.length by omega), l2] at ih
            obtain ⟨g1, g2, g3⟩ := ih
            have gt : w2.now.take i = st.now.take i := by
              have := congrArg (List.take i) g2
              rw [List.take_take, Nat.min_eq_left (by omega), List.take_left' (by simp; omega)] at this
              exact this
            unfold Found
            refine ⟨g1, gt, ?_⟩
            by_cases hgt : b2.2 + gain G i k > b1.2
            · rw [if_pos hgt]
              rcases g3 with ⟨p1, p2, p3⟩ | ⟨p1, p2, p3⟩
              · refine .inl ⟨?_, by rw [p2]; simp, by simp only; omega⟩
                try simp only
                rcases l3 with ⟨q1, q2, q3⟩ | ⟨q1, q2, q3⟩ <;> omega
              · try simp only at p1 p2 p3 ⊢
                rcases l3 with ⟨q1, q2, q3⟩ | ⟨q1, q2, q3⟩
                · omega
                · exact .inr ⟨by omega, by rw [p2, q2], by omega⟩
            · rw [if_neg hgt]
              rcases g3 with ⟨p1, p2, p3⟩ | ⟨p1, p2, p3⟩
              · try simp only at p1 p2 p3
                rcases l3 with ⟨q1, q2, q3⟩ | ⟨q1, q2, q3⟩ <;> omega
              · try simp only at p1 p2 p3
                rcases l3 with ⟨q1, q2, q3⟩ | ⟨q1, q2, q3⟩
                · exact .inl ⟨q1, by rw [p2, q2], by omega⟩
                · exact .inr ⟨q1, by rw [p2, q2], by omega⟩
          · rw [if_neg hk2, if_neg hk2]
            exact ihk
      have := hall B (Nat.le_refl _)
      rwa [← hI]
end
end Go.Proofs.Ytokpmflhgehicaa
