/- Ranks: plain words, no program in sight. The program's rows are the reference's rows times numbers other than 0. -/
import Derived.Test.YtgohdmnbnhehnaaRatM
import Derived.Test.YtgohdmnbnhehnaaBits
namespace Go.Proofs.Ytgohdmnbnhehnaa
set_option linter.unusedVariables false

/-- The place of the first row from d on that holds a number other than 0 in column c; the number of rows if there is none. -/
def pivM (M : List (List Int)) (c d : Nat) : Nat := match (M.drop d).findIdx? (fun r => r[c]?.getD 0 != 0) with | some k => d + k | none => M.length
def swp {α : Type} [Inhabited α] (l : List α) (a b : Nat) : List α := (l.set a (l[b]?.getD default)).set b (l[a]?.getD default)
theorem swp_len {α : Type} [Inhabited α] (l : List α) (a b : Nat) : (swp l a b).length = l.length := by simp [swp]
theorem swp_at {α : Type} [Inhabited α] {l : List α} {a b : Nat} (ha : a < l.length) (hb : b < l.length) (i : Nat) : (swp l a b)[i]?.getD default = if i = b then l[a]?.getD default else if i = a then l[b]?.getD default else l[i]?.getD default := by
  unfold swp
  by_cases h1 : i = b
  · subst h1; rw [if_pos rfl]; simp [hb]
  · rw [if_neg h1, List.getElem?_set_ne (Ne.symm h1)]
    by_cases h2 : i = a
    · subst h2; rw [if_pos rfl]; simp [ha]
    · rw [if_neg h2, List.getElem?_set_ne (Ne.symm h2)]
theorem swp_comm {α : Type} [Inhabited α] (l : List α) {a b : Nat} (ha : a < l.length) (hb : b < l.length) : swp l a b = swp l b a := by
  apply List.ext_getElem?
  intro i
  by_cases hi : i < l.length
  · have h1 := swp_at ha hb i
    have h2 := swp_at hb ha i
    have e : (if i = b then l[a]?.getD default else if i = a then l[b]?.getD default else l[i]?.getD default) = (if i = a then l[b]?.getD default else if i = b then l[a]?.getD default else l[i]?.getD default) := by
      by_cases h3 : i = b
      · subst h3; by_cases h4 : i = a
        · subst h4; simp
        · simp [h4]
      · simp [h3]
    rw [e, ← h2] at h1
    have l1 : i < (swp l a b).length := by rw [swp_len]; exact hi
    have l2 : i < (swp l b a).length := by rw [swp_len]; exact hi
    rw [List.getElem?_eq_getElem l1, List.getElem?_eq_getElem l2] at h1 ⊢
    simpa using h1
  · rw [List.getElem?_eq_none (by rw [swp_len]; omega), List.getElem?_eq_none (by rw [swp_len]; omega)]

/-- The row r with the row p taken off so that column c gets 0. -/
def mixR (c : Nat) (p r : List Int) : List Int := (List.range r.length).map fun j => r[j]?.getD 0 * p[c]?.getD 0 - r[c]?.getD 0 * p[j]?.getD 0
def gcdL (l : List Int) : Int := l.foldl gI 0
def elimI (c : Nat) (p r : List Int) : List Int := if r[c]?.getD 0 = 0 then r else (mixR c p r).map fun x => x.tdiv (max (gcdL (mixR c p r)) 1)
theorem mixR_len (c : Nat) (p r : List Int) : (mixR c p r).length = r.length := by simp [mixR]
theorem elimI_len (c : Nat) (p r : List Int) : (elimI c p r).length = r.length := by unfold elimI; split <;> simp [mixR_len]
theorem mixR_at {c : Nat} {p r : List Int} {j : Nat} (h : j < r.length) : (mixR c p r)[j]?.getD 0 = r[j]?.getD 0 * p[c]?.getD 0 - r[c]?.getD 0 * p[j]?.getD 0 := by simp [mixR, h]

/-- The rows behind d, up to t, are done with. -/
def redM (e : Nat → List Int → List Int → List Int) (c : Nat) (M : List (List Int)) (d t : Nat) : List (List Int) := (List.range M.length).map fun i => if d < i ∧ i < t then e c (M[d]?.getD []) (M[i]?.getD []) else M[i]?.getD []
theorem redM_len (e : Nat → List Int → List Int → List Int) (c : Nat) (M : List (List Int)) (d t : Nat) : (redM e c M d t).length = M.length := by simp [redM]
theorem redM_at (e : Nat → List Int → List Int → List Int) (c : Nat) (M : List (List Int)) (d t : Nat) {i : Nat} (h : i < M.length) : (redM e c M d t)[i]?.getD [] = if d < i ∧ i < t then e c (M[d]?.getD []) (M[i]?.getD []) else M[i]?.getD [] := by simp [redM, h]
theorem list_ext {l l' : List (List Int)} (hl : l.length = l'.length) (h : ∀ i, i < l.length → l[i]?.getD [] = l'[i]?.getD []) : l = l' := by
  apply List.ext_getElem hl
  intro i h1 h2
  have := h i h1
  rw [List.getElem?_eq_getElem h1, List.getElem?_eq_getElem h2] at this
  simpa using this
theorem redM_start (e : Nat → List Int → List Int → List Int) (c : Nat) (M : List (List Int)) (d : Nat) : redM e c M d (d + 1) = M := by
  refine list_ext (redM_len _ _ _ _ _) fun i hi => ?_
  rw [redM_len] at hi
  rw [redM_at _ _ _ _ _ hi, if_neg (by omega)]
theorem redM_step (e : Nat → List Int → List Int → List Int) (c : Nat) (M : List (List Int)) (d t : Nat) (h : d < t) (ht : t < M.length) : (redM e c M d t).set t (e c (M[d]?.getD []) (M[t]?.getD [])) = redM e c M d (t + 1) := by
  refine list_ext (by simp [redM_len]) fun i hi => ?_
  rw [List.length_set, redM_len] at hi
  rw [redM_at _ _ _ _ _ hi]
  by_cases hit : i = t
  · subst hit
    rw [if_pos ⟨h, by omega⟩, List.getElem?_set_self (by rw [redM_len]; exact ht)]; rfl
  · rw [List.getElem?_set_ne (Ne.symm hit), redM_at _ _ _ _ _ hi]
    by_cases h2 : d < i ∧ i < t
    · rw [if_pos h2, if_pos ⟨h2.1, by omega⟩]
    · rw [if_neg h2, if_neg (by omega)]
theorem redM_lo (e : Nat → List Int → List Int → List Int) (c : Nat) (M : List (List Int)) (d t i : Nat) (h : i < M.length) (hi : t ≤ i ∨ i ≤ d) : (redM e c M d t)[i]?.getD [] = M[i]?.getD [] := by
  rw [redM_at _ _ _ _ _ h, if_neg (by omega)]

theorem redM_skip {e : Nat → List Int → List Int → List Int} {c : Nat} {M : List (List Int)} {d t : Nat} (h : d < t) (ht : t < M.length) (he : e c (M[d]?.getD []) (M[t]?.getD []) = M[t]?.getD []) : redM e c M d t = redM e c M d (t + 1) := by
  rw [← redM_step e c M d t h ht, he]
  refine list_ext (by simp) fun i hi => ?_
  rw [redM_len] at hi
  by_cases hit : i = t
  · subst hit
    rw [List.getElem?_set_self (by rw [redM_len]; exact hi), redM_lo _ _ _ _ _ _ hi (by omega)]; rfl
  · rw [List.getElem?_set_ne (Ne.symm hit)]
/-- The first j of m, then what r holds. -/
def midL (m r : List Int) (j : Nat) : List Int := m.take j ++ r.drop j
theorem midL_zero (m r : List Int) : midL m r 0 = r := by simp [midL]
theorem midL_all {m r : List Int} (h : m.length = r.length) : midL m r m.length = m := by unfold midL; rw [List.take_length, h, List.drop_length, List.append_nil]
theorem midL_len {m r : List Int} (h : m.length = r.length) (j : Nat) : (midL m r j).length = r.length := by simp [midL]; omega
theorem midL_at {m r : List Int} (h : m.length = r.length) {j : Nat} (hj : j < r.length) : (midL m r j)[j]?.getD 0 = r[j]?.getD 0 := by
  unfold midL
  have hl : (m.take j).length = j := by simp; omega
  rw [List.getElem?_append_right (by omega), hl, List.getElem?_drop]
  simp
theorem midL_set {m r : List Int} (h : m.length = r.length) {j : Nat} (hj : j < r.length) : (midL m r j).set j (m[j]?.getD 0) = midL m r (j + 1) := by
  unfold midL
  have hl : (m.take j).length = j := by simp; omega
  rw [List.set_append_right _ _ (by omega), hl, Nat.sub_self, List.drop_eq_getElem_cons hj, List.set_cons_zero, take_snoc (by omega), List.append_assoc]
  rfl

theorem set_same {M : List (List Int)} {i : Nat} {r : List Int} (hi : i < M.length) (h : M[i]?.getD [] = r) : M.set i r = M := by
  refine list_ext (by simp) fun k hk => ?_
  rw [List.length_set] at hk
  by_cases e : k = i
  · subst e; rw [List.getElem?_set_self hi, h]; rfl
  · rw [List.getElem?_set_ne (Ne.symm e)]
theorem set_again {M : List (List Int)} {i j : Nat} {m r : List Int} (hi : i < M.length) (hl : m.length = r.length) (hj : j < r.length) : (M.set i (midL m r j)).set i (((M.set i (midL m r j))[i]?.getD []).set j (m[j]?.getD 0)) = M.set i (midL m r (j + 1)) := by
  rw [List.getElem?_set_self hi, Option.getD_some, List.set_set, midL_set hl hj]
def colM (e : Nat → List Int → List Int → List Int) (c : Nat) (s : List (List Int) × Nat) : List (List Int) × Nat :=
  if pivM s.1 c s.2 < s.1.length then (redM e c (swp s.1 s.2 (pivM s.1 c s.2)) s.2 s.1.length, s.2 + 1) else s
def runM (e : Nat → List Int → List Int → List Int) (M : List (List Int)) : Nat → List (List Int) × Nat
  | 0 => (M, 0)
  | c + 1 => colM e c (runM e M c)

theorem pivM_some {M : List (List Int)} {c d : Nat} (h : pivM M c d < M.length) : d ≤ pivM M c d ∧ (M[pivM M c d]?.getD [])[c]?.getD 0 ≠ 0 ∧ ∀ i, d ≤ i → i < pivM M c d → (M[i]?.getD [])[c]?.getD 0 = 0 := by
  unfold pivM at h ⊢
  cases hf : (M.drop d).findIdx? (fun r => r[c]?.getD 0 != 0) with
  | none => rw [hf] at h; simp at h
  | some k =>
    simp only
    rw [List.findIdx?_eq_some_iff_getElem] at hf
    obtain ⟨h1, h2, h3⟩ := hf
    rw [List.length_drop] at h1
    refine ⟨by omega, ?_, fun i hi hi2 => ?_⟩
    · rw [List.getElem_drop] at h2
      have : d + k < M.length := by omega
      rw [List.getElem?_eq_getElem this]; simpa using h2
    · have h4 := h3 (i - d) (by omega)
      rw [List.getElem_drop] at h4
      have : i < M.length := by omega
      rw [List.getElem?_eq_getElem this]
      have e : d + (i - d) = i := by omega
      simp only [e] at h4
      simpa using h4
theorem pivM_none {M : List (List Int)} {c d : Nat} (h : ¬ pivM M c d < M.length) (hd : d ≤ M.length) : pivM M c d = M.length ∧ ∀ i, d ≤ i → i < M.length → (M[i]?.getD [])[c]?.getD 0 = 0 := by
  unfold pivM at h ⊢
  cases hf : (M.drop d).findIdx? (fun r => r[c]?.getD 0 != 0) with
  | none =>
    refine ⟨rfl, fun i hi hi2 => ?_⟩
    rw [List.findIdx?_eq_none_iff] at hf
    have := hf (M[i]) (List.mem_drop_iff_getElem.2 ⟨i - d, by omega, by congr 1; omega⟩)
    rw [List.getElem?_eq_getElem hi2]
    simpa using this
  | some k =>
    rw [hf] at h
    simp only at h
    rw [List.findIdx?_eq_some_iff_getElem] at hf
    obtain ⟨h1, _⟩ := hf
    rw [List.length_drop] at h1
    omega
theorem pivM_is {M : List (List Int)} {c d k : Nat} (hk : d ≤ k) (hkl : k < M.length) (h : (M[k]?.getD [])[c]?.getD 0 ≠ 0) (hz : ∀ i, d ≤ i → i < k → (M[i]?.getD [])[c]?.getD 0 = 0) : pivM M c d = k := by
  by_cases hp : pivM M c d < M.length
  · obtain ⟨h1, h2, h3⟩ := pivM_some hp
    rcases Nat.lt_trichotomy (pivM M c d) k with h4 | h4 | h4
    · exact absurd (hz _ h1 h4) h2
    · exact h4
    · exact absurd (h3 k hk h4) h
  · exact absurd ((pivM_none hp (by omega)).2 k hk hkl) h
theorem pivM_end {M : List (List Int)} {c d : Nat} (hd : d ≤ M.length) (hz : ∀ i, d ≤ i → i < M.length → (M[i]?.getD [])[c]?.getD 0 = 0) : pivM M c d = M.length := by
  by_cases hp : pivM M c d < M.length
  · obtain ⟨h1, h2, h3⟩ := pivM_some hp
    exact absurd (hz _ h1 hp) h2
  · exact (pivM_none hp hd).1

theorem pivM_bd (M : List (List Int)) (c : Nat) {d : Nat} (hd : d ≤ M.length) : d ≤ pivM M c d ∧ pivM M c d ≤ M.length := by
  by_cases hp : pivM M c d < M.length
  · exact ⟨(pivM_some hp).1, Nat.le_of_lt hp⟩
  · rw [(pivM_none hp hd).1]; exact ⟨hd, Nat.le_refl _⟩
theorem pivM_zero {M : List (List Int)} {c d k : Nat} (hd : d ≤ M.length) (h1 : d ≤ k) (h2 : k < pivM M c d) : (M[k]?.getD [])[c]?.getD 0 = 0 := by
  by_cases hp : pivM M c d < M.length
  · exact (pivM_some hp).2.2 k h1 h2
  · have := pivM_none hp hd
    exact this.2 k h1 (by omega)
/-- Rows of n numbers of size at most B. -/
def Good (n : Nat) (B : Int) (M : List (List Int)) : Prop := ∀ i, i < M.length → (M[i]?.getD []).length = n ∧ ∀ j : Nat, -B ≤ (M[i]?.getD [])[j]?.getD 0 ∧ (M[i]?.getD [])[j]?.getD 0 ≤ B
def bdM : Nat → Int
  | 0 => 1
  | d + 1 => 2 * (bdM d * bdM d)
theorem bdM_le : ∀ d, d ≤ 4 → 1 ≤ bdM d ∧ bdM d ≤ 32768 ∧ bdM d ≤ bdM (d + 1) := by
  have : ∀ d : Fin 5, 1 ≤ bdM d.val ∧ bdM d.val ≤ 32768 ∧ bdM d.val ≤ bdM (d.val + 1) := by decide +kernel
  exact fun d hd => this ⟨d, by omega⟩
theorem prod_bd {x y B : Int} (h1 : -B ≤ x) (h2 : x ≤ B) (h3 : -B ≤ y) (h4 : y ≤ B) : -(B * B) ≤ x * y ∧ x * y ≤ B * B := by
  have hx : x.natAbs ≤ B.natAbs := by omega
  have hy : y.natAbs ≤ B.natAbs := by omega
  have h : (x * y).natAbs ≤ B.natAbs * B.natAbs := by rw [Int.natAbs_mul]; exact Nat.mul_le_mul hx hy
  have e : ((B.natAbs * B.natAbs : Nat) : Int) = B * B := by rw [Int.natCast_mul]; have : (B.natAbs : Int) = B := by omega
                                                             rw [this]
  omega
theorem mix_bd {c : Nat} {p r : List Int} {B : Int} (hp : ∀ j : Nat, -B ≤ p[j]?.getD 0 ∧ p[j]?.getD 0 ≤ B) (hr : ∀ j : Nat, -B ≤ r[j]?.getD 0 ∧ r[j]?.getD 0 ≤ B) (j : Nat) :
    -(2 * (B * B)) ≤ (mixR c p r)[j]?.getD 0 ∧ (mixR c p r)[j]?.getD 0 ≤ 2 * (B * B) := by
  by_cases h : j < r.length
  · rw [mixR_at h]
    have h1 := prod_bd (hr j).1 (hr j).2 (hp c).1 (hp c).2
    have h2 := prod_bd (hr c).1 (hr c).2 (hp j).1 (hp j).2
    omega
  · rw [List.getElem?_eq_none (by rw [mixR_len]; omega)]
    simp only [Option.getD_none]
    have := prod_bd (hr 0).1 (hr 0).2 (hr 0).1 (hr 0).2
    have h0 : 0 ≤ B * B := by have h1 := hr 0; have : 0 ≤ B := by omega
                              exact Int.mul_nonneg this this
    omega
theorem elim_bd {c : Nat} {p r : List Int} {B : Int} (hB : 1 ≤ B) (hp : ∀ j : Nat, -B ≤ p[j]?.getD 0 ∧ p[j]?.getD 0 ≤ B) (hr : ∀ j : Nat, -B ≤ r[j]?.getD 0 ∧ r[j]?.getD 0 ≤ B) (j : Nat) :
    -(2 * (B * B)) ≤ (elimI c p r)[j]?.getD 0 ∧ (elimI c p r)[j]?.getD 0 ≤ 2 * (B * B) := by
  have hBB : B ≤ B * B := by have := Int.mul_le_mul_of_nonneg_left hB (show 0 ≤ B by omega); omega
  unfold elimI
  split
  · have := hr j; omega
  · have h1 := mix_bd (c := c) hp hr j
    by_cases h : j < r.length
    · have e : ((mixR c p r).map fun x => x.tdiv (max (gcdL (mixR c p r)) 1))[j]?.getD 0 = ((mixR c p r)[j]?.getD 0).tdiv (max (gcdL (mixR c p r)) 1) := by
        simp [mixR_len, h]
      rw [e]
      generalize (mixR c p r)[j]?.getD 0 = x at *
      have h2 : (x.tdiv (max (gcdL (mixR c p r)) 1)).natAbs ≤ x.natAbs := by rw [Int.natAbs_tdiv]; exact Nat.div_le_self _ _
      omega
    · rw [List.getElem?_eq_none (by simp [mixR_len]; omega)]
      simp only [Option.getD_none]
      omega
theorem good_swp {n : Nat} {B : Int} {M : List (List Int)} (h : Good n B M) {a b : Nat} (ha : a < M.length) (hb : b < M.length) : Good n B (swp M a b) := by
  intro i hi
  rw [swp_len] at hi
  have := swp_at ha hb i
  change (swp M a b)[i]?.getD [] = _ at this
  rw [this]
  split
  · exact h a ha
  · split
    · exact h b hb
    · exact h i hi
theorem good_red {n : Nat} {B B' : Int} {M : List (List Int)} (h : Good n B M) (hBB : B ≤ B') {e : Nat → List Int → List Int → List Int} {c d t : Nat} (hd : d < M.length)
    (he : ∀ p r : List Int, p.length = n → r.length = n → (∀ j : Nat, -B ≤ p[j]?.getD 0 ∧ p[j]?.getD 0 ≤ B) → (∀ j : Nat, -B ≤ r[j]?.getD 0 ∧ r[j]?.getD 0 ≤ B) → (e c p r).length = n ∧ ∀ j : Nat, -B' ≤ (e c p r)[j]?.getD 0 ∧ (e c p r)[j]?.getD 0 ≤ B') : Good n B' (redM e c M d t) := by
  intro i hi
  rw [redM_len] at hi
  rw [redM_at _ _ _ _ _ hi]
  split
  · exact he _ _ (h d hd).1 (h i hi).1 (h d hd).2 (h i hi).2
  · have := h i hi
    exact ⟨this.1, fun j => by have := this.2 j; omega⟩
/-- A way to take rows off that does not make the numbers too great. -/
def Tame (e : Nat → List Int → List Int → List Int) : Prop := ∀ (B : Int) (n c : Nat) (p r : List Int), 1 ≤ B → p.length = n → r.length = n → (∀ j : Nat, -B ≤ p[j]?.getD 0 ∧ p[j]?.getD 0 ≤ B) → (∀ j : Nat, -B ≤ r[j]?.getD 0 ∧ r[j]?.getD 0 ≤ B) → (e c p r).length = n ∧ ∀ j : Nat, -(2 * (B * B)) ≤ (e c p r)[j]?.getD 0 ∧ (e c p r)[j]?.getD 0 ≤ 2 * (B * B)
theorem tame_I : Tame elimI := fun B n c p r hB hp hr h1 h2 => ⟨by rw [elimI_len, hr], fun j => elim_bd hB h1 h2 j⟩
theorem tame_S : Tame mixR := fun B n c p r hB hp hr h1 h2 => ⟨by rw [mixR_len, hr], fun j => mix_bd h1 h2 j⟩
theorem runM_ok {e : Nat → List Int → List Int → List Int} (he : Tame e) {n : Nat} {M : List (List Int)} (h : Good n 1 M) : ∀ c, c ≤ 5 → (runM e M c).2 ≤ c ∧ (runM e M c).1.length = M.length ∧ (runM e M c).2 ≤ M.length ∧ Good n (bdM (runM e M c).2) (runM e M c).1
  | 0, _ => ⟨Nat.le_refl _, rfl, Nat.zero_le _, h⟩
  | c + 1, hc => by
    obtain ⟨h1, h2, h3, h4⟩ := runM_ok he h c (by omega)
    show (colM e c (runM e M c)).2 ≤ c + 1 ∧ (colM e c (runM e M c)).1.length = M.length ∧ (colM e c (runM e M c)).2 ≤ M.length ∧ Good n (bdM (colM e c (runM e M c)).2) (colM e c (runM e M c)).1
    unfold colM
    generalize runM e M c = s at *
    split
    · next hp =>
      have hb := bdM_le s.2 (by omega)
      have hps := (pivM_some hp).1
      refine ⟨by simp only; omega, by simp only [redM_len, swp_len]; exact h2, by simp only; omega, ?_⟩
      refine good_red (good_swp h4 (by omega) hp) hb.2.2 (by rw [swp_len]; omega) fun p r hpl hrl h5 h6 => he _ n c p r hb.1 hpl hrl h5 h6
    · exact ⟨by omega, h2, h3, h4⟩

/-- Rows that differ by factors other than 0. -/
def SimR (n : Nat) (a b : List Int) : Prop := ∃ u v : Int, u ≠ 0 ∧ v ≠ 0 ∧ ∀ j, j < n → u * a[j]?.getD 0 = v * b[j]?.getD 0
theorem SimR.refl (n : Nat) (a : List Int) : SimR n a a := ⟨1, 1, by omega, by omega, fun _ _ => rfl⟩
theorem SimR.zero {n : Nat} {a b : List Int} (h : SimR n a b) {j : Nat} (hj : j < n) : a[j]?.getD 0 = 0 ↔ b[j]?.getD 0 = 0 := by
  obtain ⟨u, v, hu, hv, h⟩ := h
  have := h j hj
  constructor
  · intro e; rw [e, Int.mul_zero] at this
    rcases Int.mul_eq_zero.1 this.symm with h | h
    · exact absurd h hv
    · exact h
  · intro e; rw [e, Int.mul_zero] at this
    rcases Int.mul_eq_zero.1 this with h | h
    · exact absurd h hu
    · exact h
theorem gcdL_dvd (l : List Int) : ∀ (g : Int), (l.foldl gI g) ∣ g ∧ ∀ x ∈ l, (l.foldl gI g) ∣ x := by
  induction l with
  | nil => intro g; exact ⟨Int.dvd_refl _, fun x hx => absurd hx (by simp)⟩
  | cons a l ih =>
    intro g
    obtain ⟨h1, h2⟩ := ih (gI g a)
    refine ⟨Int.dvd_trans h1 (gI_dvdl g a), fun x hx => ?_⟩
    rcases List.mem_cons.1 hx with rfl | hx
    · exact Int.dvd_trans h1 (gI_dvdr g x)
    · exact h2 x hx
theorem gcdL_nonneg (l : List Int) : ∀ g : Int, 0 ≤ g → 0 ≤ l.foldl gI g := by
  induction l with
  | nil => exact fun g h => h
  | cons a l ih => exact fun g h => ih _ (gI_nonneg g a)
theorem tdiv_back {l : List Int} {x : Int} (hx : x ∈ l) : x.tdiv (max (gcdL l) 1) * max (gcdL l) 1 = x := by
  have h1 := (gcdL_dvd l 0).2 x hx
  have h0 := gcdL_nonneg l 0 (Int.le_refl _)
  change gcdL l ∣ x at h1
  change 0 ≤ gcdL l at h0
  by_cases hg : gcdL l = 0
  · rw [hg] at h1 ⊢
    have : x = 0 := Int.zero_dvd.1 h1
    subst this
    simp
  · rw [show max (gcdL l) 1 = gcdL l by omega]
    exact Int.tdiv_mul_cancel h1
theorem sim_elim {n c : Nat} {p q r s : List Int} (hc : c < n) (hr : r.length = n) (hs : s.length = n) (h : SimR n p q) (k : SimR n r s) (hp : p[c]?.getD 0 ≠ 0) : SimR n (elimI c p r) (mixR c q s) := by
  have hq : q[c]?.getD 0 ≠ 0 := fun e => hp ((h.zero hc).2 e)
  have hz := k.zero hc
  obtain ⟨u', v', hu', hv', h⟩ := h
  obtain ⟨u, v, hu, hv, k⟩ := k
  unfold elimI
  split
  · next h0 =>
    have s0 := hz.1 h0
    refine ⟨u * q[c]?.getD 0, v, Int.mul_ne_zero hu hq, hv, fun j hj => ?_⟩
    rw [mixR_at (by omega), s0]
    have := k j hj
    grind
  · refine ⟨u * u' * max (gcdL (mixR c p r)) 1, v * v', Int.mul_ne_zero (Int.mul_ne_zero hu hu') (by omega), Int.mul_ne_zero hv hv', fun j hj => ?_⟩
    have hj' : j < (mixR c p r).length := by rw [mixR_len]; omega
    have e1 : ((mixR c p r).map fun x => x.tdiv (max (gcdL (mixR c p r)) 1))[j]?.getD 0 = ((mixR c p r)[j]?.getD 0).tdiv (max (gcdL (mixR c p r)) 1) := by simp [hj']
    have e2 := tdiv_back (l := mixR c p r) (x := (mixR c p r)[j]?.getD 0) (by rw [List.getElem?_eq_getElem hj']; simp)
    rw [e1, mixR_at (show j < s.length by omega)]
    have e3 := mixR_at (c := c) (p := p) (r := r) (j := j) (by omega)
    generalize ((mixR c p r)[j]?.getD 0).tdiv (max (gcdL (mixR c p r)) 1) = z at *
    generalize max (gcdL (mixR c p r)) 1 = G at *
    have k1 := k j hj
    have k2 := k c hc
    have h1 := h j hj
    have h2 := h c hc
    rw [e3] at e2
    generalize r[j]?.getD 0 = rj at *
    generalize r[c]?.getD 0 = rc at *
    generalize s[j]?.getD 0 = sj at *
    generalize s[c]?.getD 0 = sc at *
    generalize p[j]?.getD 0 = pj at *
    generalize p[c]?.getD 0 = pc at *
    generalize q[j]?.getD 0 = qj at *
    generalize q[c]?.getD 0 = qc at *
    have a1 : u * u' * G * z = u * u' * (rj * pc - rc * pj) := by rw [← e2]; grind
    rw [a1]
    have a2 : u * u' * (rj * pc - rc * pj) = (u * rj) * (u' * pc) - (u * rc) * (u' * pj) := by grind
    rw [a2, k1, k2, h1, h2]
    grind
structure SimM (n : Nat) (M K : List (List Int)) : Prop where
  len : M.length = K.length
  row : ∀ i, i < M.length → SimR n (M[i]?.getD []) (K[i]?.getD [])
theorem sim_piv {n c d : Nat} {M K : List (List Int)} (hc : c < n) (hd : d ≤ M.length) (h : SimM n M K) : pivM M c d = pivM K c d := by
  by_cases hp : pivM M c d < M.length
  · obtain ⟨h1, h2, h3⟩ := pivM_some hp
    refine (pivM_is h1 (by rw [← h.len]; exact hp) (fun e => h2 (((h.row _ hp).zero hc).2 e)) fun i hi hi2 => ((h.row i (by omega)).zero hc).1 (h3 i hi hi2)).symm
  · obtain ⟨h1, h2⟩ := pivM_none hp hd
    rw [h1, h.len]
    exact (pivM_end (by rw [← h.len]; exact hd) fun i hi hi2 => ((h.row i (by rw [h.len]; exact hi2)).zero hc).1 (h2 i hi (by rw [h.len]; exact hi2))).symm
theorem sim_run {n : Nat} {M : List (List Int)} (h : Good n 1 M) (hn : n ≤ 5) : ∀ c, c ≤ n → SimM n (runM elimI M c).1 (runM mixR M c).1 ∧ (runM elimI M c).2 = (runM mixR M c).2
  | 0, _ => ⟨⟨rfl, fun i _ => SimR.refl _ _⟩, rfl⟩
  | c + 1, hc => by
    obtain ⟨h1, h2⟩ := sim_run h hn c (by omega)
    obtain ⟨a1, a2, a3, a4⟩ := runM_ok tame_I h c (by omega)
    obtain ⟨b1, b2, b3, b4⟩ := runM_ok tame_S h c (by omega)
    show SimM n (colM elimI c (runM elimI M c)).1 (colM mixR c (runM mixR M c)).1 ∧ (colM elimI c (runM elimI M c)).2 = (colM mixR c (runM mixR M c)).2
    generalize runM elimI M c = s at *
    generalize runM mixR M c = t at *
    obtain ⟨S, d⟩ := s
    obtain ⟨T, d'⟩ := t
    simp only at *
    subst h2
    have hpv := sim_piv (show c < n by omega) (show d ≤ S.length by omega) h1
    unfold colM
    simp only
    rw [← hpv]
    by_cases hp : pivM S c d < S.length
    · rw [if_pos hp, if_pos (by rw [← h1.len]; exact hp)]
      obtain ⟨p1, p2, p3⟩ := pivM_some hp
      have hlen := h1.len
      have hdS : d < S.length := by omega
      refine ⟨⟨by simp [redM_len, swp_len, hlen], fun i hi => ?_⟩, rfl⟩
      rw [redM_len, swp_len] at hi
      have sw : ∀ i, i < S.length → SimR n ((swp S d (pivM S c d))[i]?.getD []) ((swp T d (pivM S c d))[i]?.getD []) := by
        intro i hi
        have e1 := swp_at hdS hp i
        have e2 := swp_at (l := T) (show d < T.length by omega) (show pivM S c d < T.length by omega) i
        change (swp S d (pivM S c d))[i]?.getD [] = _ at e1
        change (swp T d (pivM S c d))[i]?.getD [] = _ at e2
        rw [e1, e2]
        split
        · exact h1.row d hdS
        · split
          · exact h1.row _ hp
          · exact h1.row i hi
      rw [redM_at _ _ _ _ _ (by rw [swp_len]; exact hi), redM_at _ _ _ _ _ (by rw [swp_len]; omega), ← hlen]
      split
      · next hdi =>
        have g1 := good_swp a4 hdS hp
        have g2 := good_swp b4 (show d < T.length by omega) (show pivM S c d < T.length by omega)
        refine sim_elim (by omega) (g1 i (by rw [swp_len]; exact hi)).1 (g2 i (by rw [swp_len]; omega)).1 (sw d hdS) (sw i hi) ?_
        have e1 := swp_at hdS hp d
        change (swp S d (pivM S c d))[d]?.getD [] = _ at e1
        rw [e1]
        by_cases hdp : d = pivM S c d
        · rw [if_pos hdp]; rw [← hdp] at p2; exact p2
        · rw [if_neg hdp, if_pos rfl]; exact p2
      · exact sw i hi
    · rw [if_neg hp, if_neg (by rw [← h1.len]; exact hp)]
      exact ⟨h1, rfl⟩

/-- The rows of digits. -/
def digR (n : Nat) (s : Int) : List Int := (List.range n).map fun (k : Nat) => bitI (hasP s (k : Int))
theorem digR_len (n : Nat) (s : Int) : (digR n s).length = n := by simp [digR]
theorem digR_snoc (n : Nat) (s : Int) : digR n s ++ [bitI (hasP s (n : Int))] = digR (n + 1) s := by simp [digR, List.range_succ]
theorem good_dig (n : Nat) (l : List Int) : Good n 1 (l.map (digR n)) := by
  intro i hi
  have hi' : i < l.length := by simpa using hi
  have e : (l.map (digR n))[i]?.getD [] = digR n (l[i]) := by simp [hi']
  rw [e]
  refine ⟨digR_len _ _, fun j => ?_⟩
  by_cases hj : j < n
  · simp only [digR, List.getElem?_map, List.getElem?_range hj, Option.map_some, Option.getD_some]
    unfold bitI; split <;> omega
  · rw [List.getElem?_eq_none (by rw [digR_len]; omega)]; simp
/-- What RankOf answers. -/
def rankI (n : Int) (l : List Int) : Int := if inB n 1 5 = true then ((runM elimI (l.map (digR n.toNat)) n.toNat).2 : Int) else 0
def rankS (n : Int) (l : List Int) : Int := if inB n 1 5 = true then ((runM mixR (l.map (digR n.toNat)) n.toNat).2 : Int) else 0
theorem rank_same (n : Int) (l : List Int) : rankI n l = rankS n l := by
  unfold rankI rankS
  split
  · next h =>
    simp only [inB, Bool.and_eq_true, decide_eq_true_eq] at h
    rw [(sim_run (good_dig n.toNat l) (by omega) n.toNat (Nat.le_refl _)).2]
  · rfl

end Go.Proofs.Ytgohdmnbnhehnaa
