/- Equal awards: plain words, no program in sight. The row that is filled at last does not hang on what it held first. -/
import Derived.Test.YtokpmflhgehicaaSort2
import Derived.Test.YtokpmflhgehicaaFits
namespace Go.Proofs.Ytokpmflhgehicaa
set_option linter.unusedVariables false

section
variable (C : List Int) (n : Nat)
def ordA (k : Nat) : Nat := ((srt C n)[k]?.getD 0).toNat
/-- What claimant i gets when this is left among m. -/
def shareA (left : Int × Int) (m i : Nat) : Int × Int := if cmpR (C[i]?.getD 0, 1) (divR left ((m : Int), 1)).1 < 0 then (C[i]?.getD 0, 1) else (divR left ((m : Int), 1)).1
def stepA (st : (Int × Int) × List (Int × Int)) (k : Nat) : Option ((Int × Int) × List (Int × Int)) :=
  if (divR st.1 (((n - k : Nat) : Int), 1)).2 = true ∧ (subR st.1 (shareA C st.1 (n - k) (ordA C n k))).2 = true then
    some ((subR st.1 (shareA C st.1 (n - k) (ordA C n k))).1, st.2.set (ordA C n k) (shareA C st.1 (n - k) (ordA C n k)))
  else none
/-- After the first k of the order: what is left, and the row; none if a fraction grew too great. -/
def runA (am : Int × Int) (z : List (Int × Int)) : Nat → Option ((Int × Int) × List (Int × Int))
  | 0 => some (am, z)
  | k + 1 => (runA am z k).bind fun st => stepA C n st k
theorem runA_succ {am : Int × Int} {z : List (Int × Int)} {k : Nat} {st : (Int × Int) × List (Int × Int)} (h : runA C n am z k = some st) : runA C n am z (k + 1) = stepA C n st k := by simp [runA, h]
theorem runA_none {am : Int × Int} {z : List (Int × Int)} {k : Nat} (h : runA C n am z k = none) : ∀ d, runA C n am z (k + d) = none
  | 0 => h
  | d + 1 => by show (runA C n am z (k + d)).bind _ = none; rw [runA_none h d]; rfl
theorem stepA_len {st st' : (Int × Int) × List (Int × Int)} {k : Nat} (h : stepA C n st k = some st') : st'.2.length = st.2.length := by
  unfold stepA at h
  split at h
  · simp only [Option.some.injEq] at h; rw [← h]; simp
  · simp at h
theorem runA_len {am : Int × Int} {z : List (Int × Int)} : ∀ (k : Nat) {st : (Int × Int) × List (Int × Int)}, runA C n am z k = some st → st.2.length = z.length
  | 0, st, h => by simp only [runA, Option.some.injEq] at h; rw [← h]
  | k + 1, st, h => by
    cases hk : runA C n am z k with
    | none => simp [runA, hk] at h
    | some s0 =>
      rw [runA_succ C n hk] at h
      rw [stepA_len C n h, runA_len k hk]
theorem ordA_lt {k : Nat} (h : k < n) : ordA C n k < n ∧ (srt C n)[k]?.getD 0 = (ordA C n k : Int) := by
  obtain ⟨m, h1, h2⟩ := srt_at C h
  unfold ordA
  rw [h1]
  simp [h2]
theorem mem_srt : ∀ (n i : Nat), i < n → (i : Int) ∈ srt C n
  | 0, i, h => absurd h (by omega)
  | n + 1, i, h => by
    simp only [srt, insR, List.mem_append, List.mem_cons]
    by_cases hi : i = n
    · subst hi; exact .inr (.inl rfl)
    · have := mem_srt n i (by omega)
      rw [← List.take_append_drop (posR C (n : Int) (srt C n) (srt C n).length) (srt C n), List.mem_append] at this
      rcases this with h | h
      · exact .inl h
      · exact .inr (.inr h)
theorem ordA_all {i : Nat} (h : i < n) : ∃ k, k < n ∧ ordA C n k = i := by
  obtain ⟨k, hk, he⟩ := List.getElem_of_mem (mem_srt C n i h)
  refine ⟨k, by rw [srt_len] at hk; exact hk, ?_⟩
  unfold ordA
  simp [hk, he]
/-- Two runs from different rows: the same is left, and the places that the order has named hold the same. -/
theorem runA_two {am : Int × Int} {z z' : List (Int × Int)} (hz : z.length = z'.length) : ∀ k, (runA C n am z k = none ∧ runA C n am z' k = none) ∨
    ∃ l r r', runA C n am z k = some (l, r) ∧ runA C n am z' k = some (l, r') ∧ r.length = r'.length ∧ ∀ j, j < k → r[ordA C n j]? = r'[ordA C n j]?
  | 0 => .inr ⟨am, z, z', rfl, rfl, hz, fun j hj => absurd hj (by omega)⟩
  | k + 1 => by
    rcases runA_two hz k with ⟨h1, h2⟩ | ⟨l, r, r', h1, h2, h3, h4⟩
    · exact .inl ⟨runA_none C n h1 1, runA_none C n h2 1⟩
    · rw [runA_succ C n h1, runA_succ C n h2]
      unfold stepA
      simp only
      split
      · refine .inr ⟨_, _, _, rfl, rfl, by simpa using h3, fun j hj => ?_⟩
        by_cases he : ordA C n j = ordA C n k
        · rw [he]; simp [List.getElem?_set, h3]
        · rw [List.getElem?_set_ne (Ne.symm he), List.getElem?_set_ne (Ne.symm he)]
          by_cases hjk : j = k
          · subst hjk; exact absurd rfl he
          · exact h4 j (by omega)
      · exact .inl ⟨rfl, rfl⟩
theorem runA_eq {am : Int × Int} {z z' : List (Int × Int)} (hz : z.length = n) (hz' : z'.length = n) : runA C n am z n = runA C n am z' n := by
  rcases runA_two C n (am := am) (show z.length = z'.length by omega) n with ⟨h1, h2⟩ | ⟨l, r, r', h1, h2, h3, h4⟩
  · rw [h1, h2]
  · rw [h1, h2]
    have hl := runA_len C n n h1
    simp only at hl
    congr 2
    apply List.ext_getElem?
    intro i
    by_cases hi : i < n
    · obtain ⟨k, hk, he⟩ := ordA_all C n hi
      rw [← he]; exact h4 k hk
    · rw [List.getElem?_eq_none (by omega), List.getElem?_eq_none (by omega)]
end
/-- What EqualAwards answers: the row and whether there is one. -/
def awardOk (C : List Int) (x y : Int) : Bool := fitsR C x y && (runA C C.length (x, y) (List.replicate C.length (0, 0)) C.length).isSome
def awardL (C : List Int) (x y : Int) : List (Int × Int) := if fitsR C x y = true then ((runA C C.length (x, y) (List.replicate C.length (0, 0)) C.length).map (·.2)).getD [] else []
theorem awardL_len (C : List Int) (x y : Int) : (awardL C x y).length ≤ C.length := by
  unfold awardL
  split
  · cases h : runA C C.length (x, y) (List.replicate C.length (0, 0)) C.length with
    | none => simp
    | some st => have := runA_len C C.length _ h; simp at this ⊢; omega
  · simp

end Go.Proofs.Ytokpmflhgehicaa
