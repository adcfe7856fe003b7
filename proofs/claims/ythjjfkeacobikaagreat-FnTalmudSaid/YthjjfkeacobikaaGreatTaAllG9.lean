import Derived.Test.YthjjfkeacobikaaGreatTaAllG3
import Derived.Test.YthjjfkeacobikaaGreatTaAllG8
import Derived.Test.YthjjfkeacobikaaGreatTaAllG5
import Derived.Test.YthjjfkeacobikaaGreatTaAllG2
set_option linter.unusedVariables false
set_option linter.unusedSimpArgs false
namespace Go.Proofs.YthjjfkeacobikaaGreat
section
variable (C : List Int) (n : Nat)
def ordA (k : Nat) : Nat := ((srt C n)[k]?.getD 0).toNat
def shareA (left : Int × Int) (m i : Nat) : Int × Int := if cmpR (C[i]?.getD 0, 1) (divR left ((m : Int), 1)).1 < 0 then (C[i]?.getD 0, 1) else (divR left ((m : Int), 1)).1
def stepA (st : (Int × Int) × List (Int × Int)) (k : Nat) : Option ((Int × Int) × List (Int × Int)) :=
 if (divR st.1 (((n - k : Nat) : Int), 1)).2 = true ∧ (subR st.1 (shareA C st.1 (n - k) (ordA C n k))).2 = true then
  some ((subR st.1 (shareA C st.1 (n - k) (ordA C n k))).1, st.2.set (ordA C n k) (shareA C st.1 (n - k) (ordA C n k)))
 else none
def runA (am : Int × Int) (z : List (Int × Int)) : Nat → Option ((Int × Int) × List (Int × Int))
 | 0 => some (am, z)
 | k + 1 => (runA am z k).bind fun st => stepA C n st k
theorem runA_succ {am : Int × Int} {z : List (Int × Int)} {k : Nat} {st : (Int × Int) × List (Int × Int)} (h : runA C n am z k = some st) : runA C n am z (k + 1) = stepA C n st k := by simp [runA, h]
theorem runA_none {am : Int × Int} {z : List (Int × Int)} {k : Nat} (h : runA C n am z k = none) : ∀ d, runA C n am z (k + d) = none
 | 0 => h
 | d + 1 => by show (runA C n am z (k + d)).bind _ = none; rw [runA_none h d]; rfl
theorem stepA_len {st st' : (Int × Int) × List (Int × Int)} {k : Nat} (h : stepA C n st k = some st') : st'.2.length = st.2.length := by
 unfold stepA at h
 split at h
 ·simp only [Option.some.injEq] at h; rw [← h]; simp
 ·simp at h
theorem runA_len {am : Int × Int} {z : List (Int × Int)} : ∀ (k : Nat) {st : (Int × Int) × List (Int × Int)}, runA C n am z k = some st → st.2.length = z.length
 | 0, st, h => by simp only [runA, Option.some.injEq] at h; rw [← h]
 | k + 1, st, h => by
   cases hk : runA C n am z k with
   | none => simp [runA, hk] at h
   | some s0 =>
     rw [runA_succ C n hk] at h
     rw [stepA_len C n h, runA_len k hk]
theorem ordA_lt {k : Nat} (h : k < n) : ordA C n k < n ∧ (srt C n)[k]?.getD 0 = (ordA C n k : Int) := by
 obtain ⟨m, h1, h2⟩ := srt_at C h
 unfold ordA
 rw [h1]
 simp [h2]
theorem mem_srt : ∀ (n i : Nat), i < n → (i : Int) ∈ srt C n
 | 0, i, h => absurd h (by omega)
 | n + 1, i, h => by
   simp only [srt, insR, List.mem_append, List.mem_cons]
   by_cases hi : i = n
   ·subst hi; exact .inr (.inl rfl)
   ·have := mem_srt n i (by omega)
    rw [← List.take_append_drop (posR C (n : Int) (srt C n) (srt C n).length) (srt C n), List.mem_append] at this
    rcases this with h | h
    ·exact .inl h
    ·exact .inr (.inr h)
theorem ordA_all {i : Nat} (h : i < n) : ∃ k, k < n ∧ ordA C n k = i := by
 obtain ⟨k, hk, he⟩ := List.getElem_of_mem (mem_srt C n i h)
 refine ⟨k, by rw [srt_len] at hk; exact hk, ?_⟩
 unfold ordA
 simp [hk, he]
theorem runA_two {am : Int × Int} {z z' : List (Int × Int)} (hz : z.length = z'.length) : ∀ k, (runA C n am z k = none ∧ runA C n am z' k = none) ∨
 ∃ l r r', runA C n am z k = some (l, r) ∧ runA C n am z' k = some (l, r') ∧ r.length = r'.length ∧ ∀ j, j < k → r[ordA C n j]? = r'[ordA C n j]?
 | 0 => .inr ⟨am, z, z', rfl, rfl, hz, fun j hj => absurd hj (by omega)⟩
 | k + 1 => by
   rcases runA_two hz k with ⟨h1, h2⟩ | ⟨l, r, r', h1, h2, h3, h4⟩
   ·exact .inl ⟨runA_none C n h1 1, runA_none C n h2 1⟩
   ·rw [runA_succ C n h1, runA_succ C n h2]
    unfold stepA
    simp only
    split
    ·refine .inr ⟨_, _, _, rfl, rfl, by simpa using h3, fun j hj => ?_⟩
     by_cases he : ordA C n j = ordA C n k
     ·rw [he]; simp [List.getElem?_set, h3]
     ·rw [List.getElem?_set_ne (Ne.symm he), List.getElem?_set_ne (Ne.symm he)]
      by_cases hjk : j = k
      ·subst hjk; exact absurd rfl he
      ·exact h4 j (by omega)
    ·exact .inl ⟨rfl, rfl⟩
theorem runA_eq {am : Int × Int} {z z' : List (Int × Int)} (hz : z.length = n) (hz' : z'.length = n) : runA C n am z n = runA C n am z' n := by
 rcases runA_two C n (am := am) (show z.length = z'.length by omega) n with ⟨h1, h2⟩ | ⟨l, r, r', h1, h2, h3, h4⟩
 ·rw [h1, h2]
 ·rw [h1, h2]
  have hl := runA_len C n n h1
  simp only at hl
  congr 2
  apply List.ext_getElem?
  intro i
  by_cases hi : i < n
  ·obtain ⟨k, hk, he⟩ := ordA_all C n hi
   rw [← he]; exact h4 k hk
  ·rw [List.getElem?_eq_none (by omega), List.getElem?_eq_none (by omega)]
end
def awardOk (C : List Int) (x y : Int) : Bool := fitsR C x y && (runA C C.length (x, y) (List.replicate C.length (0, 0)) C.length).isSome
def awardL (C : List Int) (x y : Int) : List (Int × Int) := if fitsR C x y = true then ((runA C C.length (x, y) (List.replicate C.length (0, 0)) C.length).map (·.2)).getD [] else []
end Go.Proofs.YthjjfkeacobikaaGreat
namespace Go.Proofs.YthjjfkeacobikaaGreat
def Fr (p : Int × Int) (x D : Int) : Prop := valR p = true ∧ 0 < D ∧ p.1 * D = x * p.2
theorem valR_gcd {p : Int × Int} (h : valR p = true) : gI p.1 p.2 = 1 := by
 simp only [valR, Bool.and_eq_true, decide_eq_true_eq] at h; exact h.2.2
theorem valR_mk {p : Int × Int} (h1 : 1 ≤ p.2) (h2 : p.2 ≤ 1000000000) (h3 : -1000000000 ≤ p.1) (h4 : p.1 ≤ 1000000000) (h5 : gI p.1 p.2 = 1) : valR p = true := by
 simp only [valR, inB, Bool.and_eq_true, decide_eq_true_eq]; omega
theorem gI_nat (a b : Int) : gI a b = 1 ↔ Nat.Coprime a.natAbs b.natAbs := by unfold gI Int.gcd Nat.Coprime; omega
theorem low_eq {a b c d : Int} (hb : 0 < b) (hd : 0 < d) (h1 : gI a b = 1) (h2 : gI c d = 1) (h : a * d = c * b) : a = c ∧ b = d := by
 rw [gI_nat] at h1 h2
 have hn : a.natAbs * d.natAbs = c.natAbs * b.natAbs := by rw [← Int.natAbs_mul, ← Int.natAbs_mul, h]
 have e1 : b.natAbs ∣ d.natAbs := Nat.Coprime.dvd_of_dvd_mul_left h1.symm ⟨c.natAbs, by rw [hn, Nat.mul_comm]⟩
 have e2 : d.natAbs ∣ b.natAbs := Nat.Coprime.dvd_of_dvd_mul_left h2.symm ⟨a.natAbs, by rw [← hn, Nat.mul_comm]⟩
 have e3 : b = d := by have := Nat.dvd_antisymm e1 e2; omega
 subst e3
 exact ⟨Int.eq_of_mul_eq_mul_right (by omega) h, rfl⟩
theorem Fr.eq {p q : Int × Int} {x D y E : Int} (h : Fr p x D) (k : Fr q y E) (e : x * E = y * D) : p = q := by
 obtain ⟨h1, h2, h3⟩ := h
 obtain ⟨k1, k2, k3⟩ := k
 have hb := (valR_bd h1).1
 have kb := (valR_bd k1).1
 have key : (p.1 * q.2) * (D * E) = (q.1 * p.2) * (D * E) := by grind
 have hDE : D * E ≠ 0 := Int.mul_ne_zero (by omega) (by omega)
 have := low_eq (by omega) (by omega) (valR_gcd h1) (valR_gcd k1) (Int.eq_of_mul_eq_mul_right hDE key)
 exact Prod.ext this.1 this.2
theorem Fr.scale {p : Int × Int} {x D : Int} (h : Fr p x D) {k : Int} (hk : 0 < k) : Fr p (x * k) (D * k) :=
 ⟨h.1, Int.mul_pos h.2.1 hk, by have := h.2.2; grind⟩
theorem Fr.move {p : Int × Int} {x D y E : Int} (h : Fr p x D) (hE : 0 < E) (e : x * E = y * D) : Fr p y E := by
 refine ⟨h.1, hE, ?_⟩
 have h3 := h.2.2
 have : (p.1 * E) * D = (y * p.2) * D := by grind
 exact Int.eq_of_mul_eq_mul_right (by have := h.2.1; omega) this
theorem Fr.int (c : Int) (h : -1000000000 ≤ c) (h' : c ≤ 1000000000) : Fr (c, 1) c 1 :=
 ⟨valR_mk (by simp) (by simp) h h' (by rw [gI_nat]; simp), by omega, rfl⟩
theorem Fr.self {p : Int × Int} (h : valR p = true) : Fr p p.1 p.2 := ⟨h, by have := (valR_bd h).1; omega, rfl⟩
theorem gI_split (n d : Int) (hd : 0 < d) : 1 ≤ gI n d ∧ n = gI n d * n.tdiv (gI n d) ∧ d = gI n d * d.tdiv (gI n d) ∧ 0 < d.tdiv (gI n d) := by
 have hg := gI_pos n (show d ≠ 0 by omega)
 obtain ⟨k, hk⟩ := gI_dvdl n d
 obtain ⟨m, hm⟩ := gI_dvdr n d
 have h1 : n.tdiv (gI n d) = k := by conv => lhs; arg 1; rw [hk]
                                     exact Int.mul_tdiv_cancel_left _ (by omega)
 have h2 : d.tdiv (gI n d) = m := by conv => lhs; arg 1; rw [hm]
                                     exact Int.mul_tdiv_cancel_left _ (by omega)
 rw [h1, h2]
 refine ⟨hg, hk, hm, ?_⟩
 rcases Int.lt_or_le 0 m with h | h
 ·exact h
 ·have : gI n d * m ≤ 0 := Int.mul_nonpos_of_nonneg_of_nonpos (by omega) h
  omega
theorem ratOf_cut {n d : Int} (hd : 0 < d) (hn : -1000000000000000000 ≤ n ∧ n ≤ 1000000000000000000) (hd' : d ≤ 1000000000000000000) : ratOf n d = cutR (n.tdiv (gI n d), d.tdiv (gI n d)) := by
 unfold ratOf
 rw [if_neg (by simp [inB]; omega), if_neg (by omega)]
theorem ratOf_same {n d x D : Int} (hd : 0 < d) (hD : 0 < D) (hn : -1000000000000000000 ≤ n ∧ n ≤ 1000000000000000000) (hd' : d ≤ 1000000000000000000) (hx : -1000000000000000000 ≤ x ∧ x ≤ 1000000000000000000) (hD' : D ≤ 1000000000000000000) (e : n * D = x * d) : ratOf n d = ratOf x D := by
 rw [ratOf_cut hd hn hd', ratOf_cut hD hx hD']
 obtain ⟨g1, g2, g3, g4⟩ := gI_split n d hd
 obtain ⟨k1, k2, k3, k4⟩ := gI_split x D hD
 have key : (n.tdiv (gI n d) * D.tdiv (gI x D)) * (gI n d * gI x D) = (x.tdiv (gI x D) * d.tdiv (gI n d)) * (gI n d * gI x D) := by
  have a1 : (n.tdiv (gI n d) * D.tdiv (gI x D)) * (gI n d * gI x D) = (gI n d * n.tdiv (gI n d)) * (gI x D * D.tdiv (gI x D)) := by grind
  have a2 : (x.tdiv (gI x D) * d.tdiv (gI n d)) * (gI n d * gI x D) = (gI x D * x.tdiv (gI x D)) * (gI n d * d.tdiv (gI n d)) := by grind
  rw [a1, a2, ← g2, ← g3, ← k2, ← k3, e]
 have hne : gI n d * gI x D ≠ 0 := Int.mul_ne_zero (by omega) (by omega)
 have := low_eq g4 k4 (gI_cancel n d hd) (gI_cancel x D hD) (Int.eq_of_mul_eq_mul_right hne key)
 rw [this.1, this.2]
theorem ratOf_fr {n d : Int} (hd : 0 < d) (h : (ratOf n d).2 = true) : Fr (ratOf n d).1 n d := by
 refine ⟨ratOf_val h, hd, ?_⟩
 unfold ratOf at h ⊢
 split at h
 ·simp at h
 ·next h0 =>
  rw [if_neg h0]
  split at h
  ·omega
  ·next h1 =>
   rw [if_neg h1]
   unfold cutR at h ⊢
   split at h
   ·next h2 =>
    rw [if_pos h2]
    obtain ⟨g1, g2, g3, g4⟩ := gI_split n d hd
    simp only
    generalize n.tdiv (gI n d) = k at *
    generalize d.tdiv (gI n d) = m at *
    generalize gI n d = g at *
    subst g2; grind
   ·simp at h
theorem ratOf_is {n d x D : Int} (hd : 0 < d) (hn : -1000000000000000000 ≤ n ∧ n ≤ 1000000000000000000) (hd' : d ≤ 1000000000000000000) (hD : 0 < D) (hD' : D ≤ 1000000000) (hx : -1000000000 ≤ x ∧ x ≤ 1000000000) (e : n * D = x * d) :
 ∃ r, ratOf n d = (r, true) ∧ Fr r x D := by
 have h1 := ratOf_same hd hD hn hd' (by omega) (by omega) e
 have h2 := ratOf_ok (n := x) (d := D) (by omega) hD' hx.1 hx.2
 exact ⟨(ratOf x D).1, by rw [h1, ← h2], ratOf_fr hD h2⟩
theorem bd18 {p q : Int} (h : -1000000000 ≤ p ∧ p ≤ 1000000000) (k : -1000000000 ≤ q ∧ q ≤ 1000000000) : -1000000000000000000 ≤ p * q ∧ p * q ≤ 1000000000000000000 := mul_bd h.1 h.2 k.1 k.2
theorem Fr.mul {p q : Int × Int} {x D y E z F : Int} (h : Fr p x D) (k : Fr q y E) (hF : 0 < F) (hF' : F ≤ 1000000000) (hz : -1000000000 ≤ z ∧ z ≤ 1000000000) (e : x * y * F = z * (D * E)) : ∃ r, mulR p q = (r, true) ∧ Fr r z F := by
 obtain ⟨h1, h2, h3⟩ := h
 obtain ⟨k1, k2, k3⟩ := k
 have hb := valR_bd h1
 have kb := valR_bd k1
 have hp : 0 < p.2 * q.2 := Int.mul_pos (by omega) (by omega)
 have hDE : D * E ≠ 0 := Int.mul_ne_zero (by omega) (by omega)
 unfold mulR
 rw [if_pos (by rw [h1, k1]; rfl)]
 refine ratOf_is hp (bd18 ⟨hb.2.2.1, hb.2.2.2⟩ ⟨kb.2.2.1, kb.2.2.2⟩) (bd18 ⟨by omega, hb.2.1⟩ ⟨by omega, kb.2.1⟩).2 hF hF' hz ?_
 refine Int.eq_of_mul_eq_mul_right hDE ?_
 have : p.1 * q.1 * F * (D * E) = (p.1 * D) * (q.1 * E) * F := by grind
 rw [this, h3, k3]
 have : x * p.2 * (y * q.2) * F = (x * y * F) * (p.2 * q.2) := by grind
 rw [this, e]; grind
theorem Fr.div {p q : Int × Int} {x D y E z F : Int} (h : Fr p x D) (k : Fr q y E) (hy : 0 < y) (hF : 0 < F) (hF' : F ≤ 1000000000) (hz : -1000000000 ≤ z ∧ z ≤ 1000000000) (e : x * E * F = z * (D * y)) : ∃ r, divR p q = (r, true) ∧ Fr r z F := by
 obtain ⟨h1, h2, h3⟩ := h
 obtain ⟨k1, k2, k3⟩ := k
 have hb := valR_bd h1
 have kb := valR_bd k1
 have hq : 0 < q.1 := by
  rcases Int.lt_or_le 0 q.1 with h | h
  ·exact h
  ·have : q.1 * E ≤ 0 := Int.mul_nonpos_of_nonpos_of_nonneg h (by omega)
   have : 0 < y * q.2 := Int.mul_pos hy (by omega)
   omega
 have hp : 0 < p.2 * q.1 := Int.mul_pos (by omega) hq
 have hDE : D * E * y ≠ 0 := Int.mul_ne_zero (Int.mul_ne_zero (by omega) (by omega)) (by omega)
 unfold divR
 rw [if_pos (by rw [h1, k1]; rfl)]
 refine ratOf_is hp (bd18 ⟨hb.2.2.1, hb.2.2.2⟩ ⟨by omega, kb.2.1⟩) (bd18 ⟨by omega, hb.2.1⟩ ⟨by omega, kb.2.2.2⟩).2 hF hF' hz ?_
 refine Int.eq_of_mul_eq_mul_right hDE ?_
 have : p.1 * q.2 * F * (D * E * y) = (p.1 * D) * (y * q.2) * E * F := by grind
 rw [this, h3, ← k3]
 have : x * p.2 * (q.1 * E) * E * F = (x * E * F) * (p.2 * q.1 * E) := by grind
 rw [this, e]; grind
theorem Fr.add {p q : Int × Int} {x D y E z F : Int} (h : Fr p x D) (k : Fr q y E) (hF : 0 < F) (hF' : F ≤ 1000000000) (hz : -1000000000 ≤ z ∧ z ≤ 1000000000) (hs : -1000000000000000000 ≤ p.1 * q.2 + q.1 * p.2 ∧ p.1 * q.2 + q.1 * p.2 ≤ 1000000000000000000) (e : (x * E + y * D) * F = z * (D * E)) : ∃ r, addR p q = (r, true) ∧ Fr r z F := by
 obtain ⟨h1, h2, h3⟩ := h
 obtain ⟨k1, k2, k3⟩ := k
 have hb := valR_bd h1
 have kb := valR_bd k1
 have hp : 0 < p.2 * q.2 := Int.mul_pos (by omega) (by omega)
 have hDE : D * E ≠ 0 := Int.mul_ne_zero (by omega) (by omega)
 unfold addR
 rw [if_pos (by rw [h1, k1]; rfl)]
 refine ratOf_is hp hs (bd18 ⟨by omega, hb.2.1⟩ ⟨by omega, kb.2.1⟩).2 hF hF' hz ?_
 refine Int.eq_of_mul_eq_mul_right hDE ?_
 have : (p.1 * q.2 + q.1 * p.2) * F * (D * E) = ((p.1 * D) * (q.2 * E) + (q.1 * E) * (p.2 * D)) * F := by grind
 rw [this, h3, k3]
 have : (x * p.2 * (q.2 * E) + y * q.2 * (p.2 * D)) * F = ((x * E + y * D) * F) * (p.2 * q.2) := by grind
 rw [this, e]; grind
theorem Fr.neg {p : Int × Int} {x D : Int} (h : Fr p x D) : Fr (-p.1, p.2) (-x) D :=
 ⟨by rw [valR_neg]; exact h.1, h.2.1, by have := h.2.2; simp only; grind⟩
theorem Fr.sub {p q : Int × Int} {x D y E z F : Int} (h : Fr p x D) (k : Fr q y E) (hF : 0 < F) (hF' : F ≤ 1000000000) (hz : -1000000000 ≤ z ∧ z ≤ 1000000000) (hs : -1000000000000000000 ≤ p.1 * q.2 - q.1 * p.2 ∧ p.1 * q.2 - q.1 * p.2 ≤ 1000000000000000000) (e : (x * E - y * D) * F = z * (D * E)) : ∃ r, subR p q = (r, true) ∧ Fr r z F := by
 rw [← subR_add]
 exact h.add k.neg hF hF' hz (by simp only; rw [Int.neg_mul]; omega) (by grind)
theorem Fr.cmp {p q : Int × Int} {x D y E : Int} (h : Fr p x D) (k : Fr q y E) : cmpR p q = if x * E < y * D then -1 else if y * D < x * E then 1 else 0 := by
 obtain ⟨h1, h2, h3⟩ := h
 obtain ⟨k1, k2, k3⟩ := k
 have hb := valR_bd h1
 have kb := valR_bd k1
 have hp : 0 < p.2 * q.2 := Int.mul_pos (by omega) (by omega)
 have hDE : 0 < D * E := Int.mul_pos h2 k2
 have key : (p.1 * q.2 - q.1 * p.2) * (D * E) = (x * E - y * D) * (p.2 * q.2) := by
  have : (p.1 * q.2 - q.1 * p.2) * (D * E) = (p.1 * D) * (q.2 * E) - (q.1 * E) * (p.2 * D) := by grind
  rw [this, h3, k3]; grind
 unfold cmpR
 rw [if_pos (by rw [h1, k1]; rfl)]
 have s1 : p.1 * q.2 < q.1 * p.2 ↔ x * E < y * D := by
  constructor
  ·intro h
   have : (p.1 * q.2 - q.1 * p.2) * (D * E) < 0 := Int.mul_neg_of_neg_of_pos (by omega) hDE
   rw [key] at this
   rcases Int.lt_or_le (x * E) (y * D) with h | h
   ·exact h
   ·have : 0 ≤ (x * E - y * D) * (p.2 * q.2) := Int.mul_nonneg (by omega) (by omega)
    omega
  ·intro h
   have : (x * E - y * D) * (p.2 * q.2) < 0 := Int.mul_neg_of_neg_of_pos (by omega) hp
   rw [← key] at this
   rcases Int.lt_or_le (p.1 * q.2) (q.1 * p.2) with h | h
   ·exact h
   ·have : 0 ≤ (p.1 * q.2 - q.1 * p.2) * (D * E) := Int.mul_nonneg (by omega) (by omega)
    omega
 have s2 : q.1 * p.2 < p.1 * q.2 ↔ y * D < x * E := by
  constructor
  ·intro h
   have : 0 < (p.1 * q.2 - q.1 * p.2) * (D * E) := Int.mul_pos (by omega) hDE
   rw [key] at this
   rcases Int.lt_or_le (y * D) (x * E) with h | h
   ·exact h
   ·have : (x * E - y * D) * (p.2 * q.2) ≤ 0 := Int.mul_nonpos_of_nonpos_of_nonneg (by omega) (by omega)
    omega
  ·intro h
   have : 0 < (x * E - y * D) * (p.2 * q.2) := Int.mul_pos (by omega) hp
   rw [← key] at this
   rcases Int.lt_or_le (q.1 * p.2) (p.1 * q.2) with h | h
   ·exact h
   ·have : (p.1 * q.2 - q.1 * p.2) * (D * E) ≤ 0 := Int.mul_nonpos_of_nonpos_of_nonneg (by omega) (by omega)
    omega
 simp only [s1, s2]
theorem Fr.size {p : Int × Int} {x D : Int} (h : Fr p x D) : p.2 ≤ D ∧ p.1.natAbs ≤ x.natAbs := by
 obtain ⟨h1, h2, h3⟩ := h
 have hb := valR_bd h1
 have hc := valR_gcd h1
 rw [gI_nat] at hc
 have hn : p.1.natAbs * D.natAbs = x.natAbs * p.2.natAbs := by rw [← Int.natAbs_mul, ← Int.natAbs_mul, h3]
 have e1 : p.2.natAbs ∣ D.natAbs := Nat.Coprime.dvd_of_dvd_mul_left hc.symm ⟨x.natAbs, by rw [hn, Nat.mul_comm]⟩
 have e2 := Nat.le_of_dvd (by omega) e1
 refine ⟨by omega, ?_⟩
 have e3 : p.1.natAbs * p.2.natAbs ≤ x.natAbs * p.2.natAbs := by rw [← hn]; exact Nat.mul_le_mul_left _ e2
 exact Nat.le_of_mul_le_mul_right e3 (by omega)
open Go.RowKit
section
variable (C : List Int)
theorem posR_hi (x : Int) (l : List Int) : ∀ m, ∀ i, posR C x l m ≤ i → i < m → keyC C x < keyC C (l[i]?.getD 0)
 | 0, i, _, h => absurd h (by omega)
 | m + 1, i, h0, h => by
   unfold posR at h0
   split at h0
   ·next hc =>
    by_cases e : i = m
    ·rw [e]; exact hc
    ·exact posR_hi x l m i h0 (by omega)
   ·omega
theorem posR_lo (x : Int) (l : List Int) : ∀ m, 0 < posR C x l m → keyC C (l[posR C x l m - 1]?.getD 0) ≤ keyC C x
 | 0, h => absurd h (by simp [posR])
 | m + 1, h => by
   unfold posR at h ⊢
   split
   ·next hc => rw [if_pos hc] at h; exact posR_lo x l m h
   ·next hc => simp only [Nat.add_sub_cancel]; omega
def Srt (l : List Int) : Prop := ∀ i j, i ≤ j → j < l.length → keyC C (l[i]?.getD 0) ≤ keyC C (l[j]?.getD 0)
theorem insR_at (x : Int) (l : List Int) (i : Nat) : (insR C x l)[i]?.getD 0 = if i < posR C x l l.length then l[i]?.getD 0 else if i = posR C x l l.length then x else l[i - 1]?.getD 0 := by
 have hp := posR_le C x l l.length
 unfold insR
 by_cases h1 : i < posR C x l l.length
 ·rw [if_pos h1, List.getElem?_append_left (by simp; omega), List.getElem?_take, if_pos h1]
 ·rw [if_neg h1, List.getElem?_append_right (by simp; omega)]
  simp only [List.length_take, Nat.min_eq_left hp]
  by_cases h2 : i = posR C x l l.length
  ·rw [if_pos h2, h2]; simp
  ·rw [if_neg h2]
   obtain ⟨d, hd⟩ : ∃ d, i - posR C x l l.length = d + 1 := ⟨i - posR C x l l.length - 1, by omega⟩
   rw [hd, List.getElem?_cons_succ, List.getElem?_drop]
   congr 2
   omega
theorem insR_len (x : Int) (l : List Int) : (insR C x l).length = l.length + 1 := by
 have hp := posR_le C x l l.length
 simp only [insR, List.length_append, List.length_take, List.length_cons, List.length_drop]; omega
theorem insR_srt (x : Int) (l : List Int) (h : Srt C l) : Srt C (insR C x l) := by
 intro i j hij hj
 rw [insR_len] at hj
 have hp := posR_le C x l l.length
 have hhi := posR_hi C x l l.length
 have hlo := posR_lo C x l l.length
 rw [insR_at, insR_at]
 generalize posR C x l l.length = p at *
 by_cases hi : i < p
 ·rw [if_pos hi]
  have k1 : 0 < p → keyC C (l[i]?.getD 0) ≤ keyC C x := fun hp0 => Int.le_trans (h i (p - 1) (by omega) (by omega)) (hlo hp0)
  by_cases hj1 : j < p
  ·rw [if_pos hj1]; exact h i j hij (by omega)
  ·rw [if_neg hj1]
   by_cases hj2 : j = p
   ·rw [if_pos hj2]; exact k1 (by omega)
   ·rw [if_neg hj2]; exact Int.le_trans (k1 (by omega)) (Int.le_of_lt (hhi (j - 1) (by omega) (by omega)))
 ·rw [if_neg hi, if_neg (show ¬ j < p by omega)]
  by_cases hi2 : i = p
  ·rw [if_pos hi2]
   by_cases hj2 : j = p
   ·rw [if_pos hj2]; exact Int.le_refl _
   ·rw [if_neg hj2]; exact Int.le_of_lt (hhi (j - 1) (by omega) (by omega))
  ·rw [if_neg hi2, if_neg (show ¬ j = p by omega)]
   exact h (i - 1) (j - 1) (by omega) (by omega)
theorem srt_srt : ∀ n, Srt C (srt C n)
 | 0 => fun i j _ hj => absurd hj (by simp [srt])
 | n + 1 => insR_srt C n _ (srt_srt n)
theorem srt_perm : ∀ n, (srt C n).Perm ((List.range n).map fun (k : Nat) => (k : Int))
 | 0 => by simp [srt]
 | n + 1 => by
   unfold srt insR
   rw [List.range_succ, List.map_append, List.map_singleton]
   have h1 := srt_perm n
   have h2 : ((srt C n).take (posR C n (srt C n) (srt C n).length) ++ (n : Int) :: (srt C n).drop (posR C n (srt C n) (srt C n).length)).Perm ((n : Int) :: srt C n) := by
    have := @List.perm_middle _ (n : Int) ((srt C n).take (posR C n (srt C n) (srt C n).length)) ((srt C n).drop (posR C n (srt C n) (srt C n).length))
    rwa [List.take_append_drop] at this
   exact h2.trans ((List.Perm.cons _ h1).trans (List.perm_append_singleton _ _).symm)
theorem srt_nodup (n : Nat) : (srt C n).Nodup := by
 rw [(srt_perm C n).nodup_iff]
 have : (List.range n).Nodup := List.nodup_range
 rw [List.Nodup, List.pairwise_map]
 exact this.imp fun {a b} h e => h (by omega)
theorem ordA_inj {n i j : Nat} (hi : i < n) (hj : j < n) (h : ordA C n i = ordA C n j) : i = j := by
 have h1 := (ordA_lt C n hi).2
 have h2 := (ordA_lt C n hj).2
 rw [← h] at h2
 have hl := srt_len C n
 rw [List.getElem?_eq_getElem (by omega), Option.getD_some] at h1 h2
 rcases Nat.lt_trichotomy i j with hlt | he | hlt
 ·exact absurd (h1.trans h2.symm) (List.pairwise_iff_getElem.1 (srt_nodup C n) i j (by omega) (by omega) hlt)
 ·exact he
 ·exact absurd (h2.trans h1.symm) (List.pairwise_iff_getElem.1 (srt_nodup C n) j i (by omega) (by omega) hlt)
def clm (n k : Nat) : Int := C[ordA C n k]?.getD 0
theorem clm_mono {n i j : Nat} (hij : i ≤ j) (hj : j < n) : clm C n i ≤ clm C n j := by
 have := srt_srt C n i j hij (by rw [srt_len]; exact hj)
 exact this
end
def facI : Nat → Int
 | 0 => 1
 | m + 1 => ((m + 1 : Nat) : Int) * facI m
theorem facI_succ (m : Nat) : facI (m + 1) = ((m + 1 : Nat) : Int) * facI m := rfl
theorem facI_dvd (n : Nat) : ∀ d, d ≤ n → facI (n - d) ∣ facI n
 | 0, _ => by simp
 | d + 1, h => by
   have ih := facI_dvd n d (by omega)
   obtain ⟨m, hm⟩ : ∃ m, n - d = m + 1 := ⟨n - d - 1, by omega⟩
   rw [show n - (d + 1) = m by omega]
   rw [hm] at ih
   exact Int.dvd_trans ⟨_, by rw [facI_succ]; rw [Int.mul_comm]⟩ ih
def cutA (c E x m : Int) : Int := if c * E * m < x then c * E else x / m
section
variable (c : Nat → Int) (E X0 : Int) (n : Nat)
def xsA : Nat → Int
 | 0 => X0
 | k + 1 => xsA k - cutA (c k) E (xsA k) ((n - k : Nat) : Int)
def ssA (k : Nat) : Int := cutA (c k) E (xsA c E X0 n k) ((n - k : Nat) : Int)
theorem xsA_succ (k : Nat) : xsA c E X0 n (k + 1) = xsA c E X0 n k - ssA c E X0 n k := rfl
variable (hE : facI n ∣ E) (hX : facI n ∣ X0)
include hE hX
theorem xsA_dvd : ∀ k, k ≤ n → facI (n - k) ∣ xsA c E X0 n k
 | 0, _ => hX
 | k + 1, hk => by
   have ih := xsA_dvd k (by omega)
   obtain ⟨m, hm⟩ : ∃ m, n - k = m + 1 := ⟨n - k - 1, by omega⟩
   have hE' : facI m ∣ E := Int.dvd_trans (by have := facI_dvd n (k + 1) hk; rwa [show n - (k + 1) = m by omega] at this) hE
   rw [show n - (k + 1) = m by omega]
   rw [hm] at ih
   unfold xsA cutA
   rw [hm]
   obtain ⟨z, hz⟩ := ih
   have hz' : xsA c E X0 n k = ((m + 1 : Nat) : Int) * (facI m * z) := by rw [hz]; rw [facI_succ]; rw [Int.mul_assoc]
   split
   ·exact Int.dvd_sub ⟨((m + 1 : Nat) : Int) * z, by rw [hz']; grind⟩ (Int.dvd_trans hE' ⟨c k, by rw [Int.mul_comm]⟩)
   ·rw [hz', Int.mul_ediv_cancel_left _ (by omega)]
    exact Int.dvd_sub ⟨((m + 1 : Nat) : Int) * z, by grind⟩ ⟨z, rfl⟩
theorem xsA_div {k : Nat} (hk : k < n) : ∃ q, xsA c E X0 n k = ((n - k : Nat) : Int) * q := by
 obtain ⟨z, hz⟩ := xsA_dvd c E X0 n hE hX k (by omega)
 obtain ⟨m, hm⟩ : ∃ m, n - k = m + 1 := ⟨n - k - 1, by omega⟩
 rw [hm] at hz ⊢
 exact ⟨facI m * z, by rw [hz]; rw [facI_succ]; rw [Int.mul_assoc]⟩
theorem ssA_or {k : Nat} (hk : k < n) : ∃ q, xsA c E X0 n k = ((n - k : Nat) : Int) * q ∧ ((c k * E < q ∧ ssA c E X0 n k = c k * E) ∨ (q ≤ c k * E ∧ ssA c E X0 n k = q)) := by
 obtain ⟨q, hq⟩ := xsA_div c E X0 n hE hX hk
 have hm : 1 ≤ ((n - k : Nat) : Int) := by omega
 refine ⟨q, hq, ?_⟩
 unfold ssA cutA
 rw [hq]
 generalize ((n - k : Nat) : Int) = m at *
 by_cases h : c k * E < q
 ·have : c k * E * m < m * q := by rw [Int.mul_comm m q]; exact Int.mul_lt_mul_of_pos_right h (by omega)
  exact .inl ⟨h, by rw [if_pos this]⟩
 ·have h' : q ≤ c k * E := by omega
  have : ¬ c k * E * m < m * q := by
   have := Int.mul_le_mul_of_nonneg_right h' (show 0 ≤ m by omega)
   rw [Int.mul_comm m q]; omega
  exact .inr ⟨h', by rw [if_neg this, Int.mul_ediv_cancel_left _ (by omega)]⟩
theorem ssA_next {k : Nat} (hk : k + 1 < n) (he : c k = c (k + 1)) : ssA c E X0 n k = ssA c E X0 n (k + 1) := by
 obtain ⟨q, h1, h2⟩ := ssA_or c E X0 n hE hX (show k < n by omega)
 obtain ⟨q', h3, h4⟩ := ssA_or c E X0 n hE hX hk
 rw [xsA_succ] at h3
 rw [← he] at h4
 have hm : ((n - k : Nat) : Int) = ((n - (k + 1) : Nat) : Int) + 1 := by omega
 have hm1 : 1 ≤ ((n - (k + 1) : Nat) : Int) := by omega
 rw [hm] at h1
 generalize ((n - (k + 1) : Nat) : Int) = m at *
 rcases h2 with ⟨a1, a2⟩ | ⟨a1, a2⟩
 ·rw [a2] at h3 ⊢
  rcases h4 with ⟨b1, b2⟩ | ⟨b1, b2⟩
  ·rw [b2]
  ·exfalso
   have h5 : m * q' = (m + 1) * q - c k * E := by rw [← h3, h1]
   have h6 : m * q' ≤ m * (c k * E) := Int.mul_le_mul_of_nonneg_left b1 (by omega)
   have h7 : (m + 1) * (c k * E) < (m + 1) * q := Int.mul_lt_mul_of_pos_left a1 (by omega)
   grind
 ·rw [a2] at h3 ⊢
  have h5 : m * q' = m * q := by rw [← h3, h1]; grind
  have h6 : q' = q := Int.eq_of_mul_eq_mul_left (by omega) h5
  subst h6
  rcases h4 with ⟨b1, b2⟩ | ⟨b1, b2⟩
  ·omega
  ·rw [b2]
theorem ssA_same (hmono : ∀ i j, i ≤ j → j < n → c i ≤ c j) {i : Nat} : ∀ d, i + d < n → c i = c (i + d) → ssA c E X0 n i = ssA c E X0 n (i + d)
 | 0, _, _ => rfl
 | d + 1, hd, he => by
   have h1 := hmono i (i + d) (by omega) (by omega)
   have h2 := hmono (i + d) (i + (d + 1)) (by omega) hd
   rw [ssA_same hmono d (by omega) (by omega)]
   exact ssA_next c E X0 n hE hX (by omega) (by rw [show i + d + 1 = i + (d + 1) by omega]; omega)
def claimed (c : Nat → Int) (n : Nat) : Nat → Int
 | 0 => 0
 | m + 1 => c (n - (m + 1)) + claimed c n m
omit hE hX in
theorem claimed_ge (hmono : ∀ i j, i ≤ j → j < n → c i ≤ c j) {k : Nat} : ∀ m, k + m < n → c k * (m : Int) ≤ claimed c n m
 | 0, _ => by simp [claimed]
 | m + 1, h => by
   have ih := claimed_ge hmono (k := k) m (by omega)
   have := hmono k (n - (m + 1)) (by omega) (by omega)
   unfold claimed
   rw [Int.natCast_add, Int.natCast_one, Int.mul_add, Int.mul_one]
   omega
theorem xsA_bd (hE0 : 0 < E) (hc : ∀ k, 0 ≤ c k) (hmono : ∀ i j, i ≤ j → j < n → c i ≤ c j) (h0 : 0 ≤ X0) (h1 : X0 ≤ claimed c n n * E) : ∀ k, k ≤ n → 0 ≤ xsA c E X0 n k ∧ xsA c E X0 n k ≤ claimed c n (n - k) * E ∧ xsA c E X0 n k ≤ X0
 | 0, _ => ⟨h0, h1, Int.le_refl _⟩
 | k + 1, hk => by
   obtain ⟨i1, i2, i3⟩ := xsA_bd hE0 hc hmono h0 h1 k (by omega)
   obtain ⟨q, h2, h3⟩ := ssA_or c E X0 n hE hX (show k < n by omega)
   obtain ⟨m, hm⟩ : ∃ m, n - k = m + 1 := ⟨n - k - 1, by omega⟩
   have hm' : n - (k + 1) = m := by omega
   have hcl : claimed c n (m + 1) = c k + claimed c n m := by show c (n - (m + 1)) + claimed c n m = _; rw [show n - (m + 1) = k by omega]
   rw [hm, hcl] at i2
   rw [hm] at h2
   have hcE := Int.mul_nonneg (hc k) (show 0 ≤ E by omega)
   have hq0 : 0 ≤ q := by
    rcases Int.lt_or_le q 0 with h | h
    ·have : ((m + 1 : Nat) : Int) * q < 0 := Int.mul_neg_of_pos_of_neg (by omega) h
     omega
    ·exact h
   have hmq : 0 ≤ (m : Int) * q := Int.mul_nonneg (by omega) hq0
   rw [Int.natCast_add, Int.natCast_one, Int.add_mul, Int.one_mul] at h2
   rw [xsA_succ, hm']
   rw [Int.add_mul] at i2
   rcases h3 with ⟨a1, a2⟩ | ⟨a1, a2⟩
   ·rw [a2]
    exact ⟨by omega, by omega, by omega⟩
   ·rw [a2]
    have hge := claimed_ge c n hmono (k := k) m (by omega)
    have h5 : (m : Int) * q ≤ (m : Int) * (c k * E) := Int.mul_le_mul_of_nonneg_left a1 (by omega)
    have h6 : c k * (m : Int) * E ≤ claimed c n m * E := Int.mul_le_mul_of_nonneg_right hge (by omega)
    have h7 : (m : Int) * (c k * E) = c k * (m : Int) * E := by grind
    exact ⟨by omega, by omega, by omega⟩
theorem ssA_bd (hE0 : 0 < E) (hc : ∀ k, 0 ≤ c k) (hmono : ∀ i j, i ≤ j → j < n → c i ≤ c j) (h0 : 0 ≤ X0) (h1 : X0 ≤ claimed c n n * E) {k : Nat} (hk : k < n) : 0 ≤ ssA c E X0 n k ∧ ssA c E X0 n k ≤ c k * E ∧ ssA c E X0 n k ≤ X0 := by
 obtain ⟨i1, i2, i3⟩ := xsA_bd c E X0 n hE hX hE0 hc hmono h0 h1 k (by omega)
 obtain ⟨j1, _, _⟩ := xsA_bd c E X0 n hE hX hE0 hc hmono h0 h1 (k + 1) hk
 obtain ⟨q, h2, h3⟩ := ssA_or c E X0 n hE hX hk
 rw [xsA_succ] at j1
 have hcE := Int.mul_nonneg (hc k) (show 0 ≤ E by omega)
 rcases h3 with ⟨a1, a2⟩ | ⟨a1, a2⟩
 ·exact ⟨by omega, by omega, by omega⟩
 ·have hq0 : 0 ≤ q := by
   rcases Int.lt_or_le q 0 with h | h
   ·have : ((n - k : Nat) : Int) * q < 0 := Int.mul_neg_of_pos_of_neg (by omega) h
    omega
   ·exact h
  exact ⟨by omega, by omega, by omega⟩
omit hE hX in
theorem ssA_sum : ∀ k, ((List.range k).map (ssA c E X0 n)).sum = X0 - xsA c E X0 n k
 | 0 => by simp [xsA]
 | k + 1 => by rw [List.range_succ, List.map_append, List.sum_append, ssA_sum k, xsA_succ]; simp; omega
end
structure RunN (C : List Int) (n : Nat) (E X0 : Int) (k : Nat) (st : (Int × Int) × List (Int × Int)) : Prop where
 left : Fr st.1 (xsA (clm C n) E X0 n k) E
 row : ∀ j, j < k → Fr (st.2[ordA C n j]?.getD (0, 0)) (ssA (clm C n) E X0 n j) E
 len : st.2.length = n
theorem prod_bdS {a b : Int} (h1 : 0 ≤ a ∧ a ≤ 1000000) (h2 : 0 ≤ b ∧ b ≤ 1000000) : 0 ≤ a * b ∧ a * b ≤ 1000000000000 :=
 ⟨Int.mul_nonneg h1.1 h2.1, by have : a * b ≤ 1000000 * 1000000 := Int.mul_le_mul h1.2 h2.2 h2.1 (by omega); omega⟩
theorem runN_step {C : List Int} {n : Nat} {E X0 : Int} (hE : facI n ∣ E) (hX : facI n ∣ X0) (hE0 : 1 ≤ E ∧ E ≤ 1000) (hC : ∀ j : Nat, 0 ≤ C[j]?.getD 0 ∧ C[j]?.getD 0 ≤ 1000) (h0 : 0 ≤ X0 ∧ X0 ≤ 1000000) (h1 : X0 ≤ claimed (clm C n) n n * E) (hn : n ≤ 5)
 {k : Nat} (hk : k < n) {st : (Int × Int) × List (Int × Int)} (h : RunN C n E X0 k st) : ∃ st', stepA C n st k = some st' ∧ RunN C n E X0 (k + 1) st' := by
 have hcl : ∀ j, 0 ≤ clm C n j := fun j => (hC _).1
 have hmono : ∀ i j, i ≤ j → j < n → clm C n i ≤ clm C n j := fun i j => clm_mono C
 have hb := xsA_bd (clm C n) E X0 n hE hX (by omega) hcl hmono h0.1 h1 k (by omega)
 have hb' := xsA_bd (clm C n) E X0 n hE hX (by omega) hcl hmono h0.1 h1 (k + 1) hk
 have hs := ssA_bd (clm C n) E X0 n hE hX (by omega) hcl hmono h0.1 h1 hk
 obtain ⟨q, hq, hor⟩ := ssA_or (clm C n) E X0 n hE hX hk
 have hm1 : 1 ≤ ((n - k : Nat) : Int) := by omega
 have hf := h.left
 have hc := hC (ordA C n k)
 have hce : C[ordA C n k]?.getD 0 = clm C n k := rfl
 rw [hce] at hc
 rw [xsA_succ] at hb'
 have hxs := xsA_succ (clm C n) E X0 n k
 obtain ⟨m, hm⟩ : ∃ m : Int, ((n - k : Nat) : Int) = m := ⟨_, rfl⟩
 rw [hm] at hq hm1
 obtain ⟨x, hxx⟩ : ∃ x, x = xsA (clm C n) E X0 n k := ⟨_, rfl⟩
 obtain ⟨s, hss⟩ : ∃ s, s = ssA (clm C n) E X0 n k := ⟨_, rfl⟩
 rw [← hxx] at hb hb' hq hf hxs
 rw [← hss] at hb' hs hor hxs
 have hq0 : 0 ≤ q := by
  rcases Int.lt_or_le q 0 with h | h
  ·have : m * q < 0 := Int.mul_neg_of_pos_of_neg (by omega) h
   omega
  ·exact h
 have hqx : q ≤ x := by
  have : 1 * q ≤ m * q := Int.mul_le_mul_of_nonneg_right hm1 hq0
  omega
 obtain ⟨r, hdiv, hr⟩ := hf.div (Fr.int m (by omega) (by omega)) (by omega) (z := q) (F := E) (by omega) (by omega) (by omega) (by rw [hq]; grind)
 have hcf := Fr.int (clm C n k) (by omega) (by omega)
 obtain ⟨sh, hsh, hsf⟩ : ∃ sh, shareA C st.1 (n - k) (ordA C n k) = sh ∧ Fr sh s E := by
  unfold shareA
  rw [hm, hdiv, hce]
  rw [hcf.cmp hr]
  rcases hor with ⟨a1, a2⟩ | ⟨a1, a2⟩
  ·rw [if_pos (by rw [if_pos (by omega)]; omega)]
   refine ⟨_, rfl, ?_⟩
   have := hcf.scale (k := E) (by omega)
   rw [Int.one_mul] at this
   rw [a2]; exact this
  ·rw [if_neg (by rw [if_neg (by omega)]; split <;> omega)]
   exact ⟨_, rfl, by rw [a2]; exact hr⟩
 have p1 := hf.size
 have p2 := hsf.size
 have v1 := valR_bd hf.1
 have v2 := valR_bd hsf.1
 have g1 : 0 ≤ st.1.1 := by
  rcases Int.lt_or_le st.1.1 0 with h | h
  ·have : st.1.1 * E < 0 := Int.mul_neg_of_neg_of_pos h (by omega)
   have e := hf.2.2
   have : 0 ≤ x * st.1.2 := Int.mul_nonneg hb.1 (by omega)
   omega
  ·exact h
 have g2 : 0 ≤ sh.1 := by
  rcases Int.lt_or_le sh.1 0 with h | h
  ·have : sh.1 * E < 0 := Int.mul_neg_of_neg_of_pos h (by omega)
   have e := hsf.2.2
   have : 0 ≤ s * sh.2 := Int.mul_nonneg hs.1 (by omega)
   omega
  ·exact h
 have b1 := prod_bdS (a := st.1.1) (b := sh.2) (by omega) (by omega)
 have b2 := prod_bdS (a := sh.1) (b := st.1.2) (by omega) (by omega)
 obtain ⟨l, hsub, hl⟩ := hf.sub hsf (z := x - s) (F := E) (by omega) (by omega) (by omega) (by omega) (by grind)
 refine ⟨(l, st.2.set (ordA C n k) sh), ?_, ⟨by rw [hxs]; exact hl, fun j hj => ?_, by simp [h.len]⟩⟩
 ·unfold stepA
  rw [hm, hdiv, hsh, hsub, if_pos ⟨rfl, rfl⟩]
 ·by_cases he : j = k
  ·subst he
   have := (ordA_lt C n hk).1
   simp only [List.getElem?_set, h.len, this, if_true, Option.getD_some]
   rw [← hss]; exact hsf
  ·simp only
   rw [List.getElem?_set_ne (fun e => he (ordA_inj C hk (by omega) e).symm)]
   exact h.row j (by omega)
theorem runN_all {C : List Int} {n : Nat} {x y E X0 : Int} (hE : facI n ∣ E) (hX : facI n ∣ X0) (hE0 : 1 ≤ E ∧ E ≤ 1000) (hC : ∀ j : Nat, 0 ≤ C[j]?.getD 0 ∧ C[j]?.getD 0 ≤ 1000) (h0 : 0 ≤ X0 ∧ X0 ≤ 1000000) (h1 : X0 ≤ claimed (clm C n) n n * E) (hn : n ≤ 5) (hf : Fr (x, y) X0 E) :
 ∀ k, k ≤ n → ∃ st, runA C n (x, y) (List.replicate n (0, 0)) k = some st ∧ RunN C n E X0 k st
 | 0, _ => ⟨_, rfl, ⟨hf, fun j hj => absurd hj (by omega), by simp⟩⟩
 | k + 1, hk => by
   obtain ⟨st, h2, h3⟩ := runN_all hE hX hE0 hC h0 h1 hn hf k (by omega)
   obtain ⟨st', h4, h5⟩ := runN_step hE hX hE0 hC h0 h1 hn (by omega) h3
   exact ⟨st', by rw [runA_succ C n h2, h4], h5⟩
theorem perm_sumI {l l' : List Int} (h : l.Perm l') : l.sum = l'.sum := by
 induction h with
 | nil => rfl
 | cons x _ ih => simp [ih]
 | swap x y l => simp only [List.sum_cons]; omega
 | trans _ _ a b => exact a.trans b
theorem ord_sumI (C : List Int) (n : Nat) (F : Nat → Int) : ((List.range n).map fun k => F (ordA C n k)).sum = ((List.range n).map F).sum := by
 have h1 : (srt C n).map (fun z => F z.toNat) = (List.range n).map fun k => F (ordA C n k) := by
  apply List.ext_getElem
  ·simp [srt_len]
  ·intro i h1 h2
   simp only [List.getElem_map, List.getElem_range, ordA]
   rw [List.getElem?_eq_getElem (by simpa using h1)]; rfl
 rw [← h1]
 have := perm_sumI ((srt_perm C n).map fun z => F z.toNat)
 rw [this, List.map_map]
 congr 1
theorem claimed_sum (c : Nat → Int) (n : Nat) : ∀ m, m ≤ n → claimed c n m + ((List.range (n - m)).map c).sum = ((List.range n).map c).sum
 | 0, _ => by simp [claimed]
 | m + 1, h => by
   have ih := claimed_sum c n m (by omega)
   obtain ⟨d, hd⟩ : ∃ d, n - m = d + 1 := ⟨n - m - 1, by omega⟩
   rw [hd, List.range_succ, List.map_append, List.sum_append] at ih
   unfold claimed
   rw [show n - (m + 1) = d by omega]
   simp only [List.map_cons, List.map_nil, List.sum_cons, List.sum_nil] at ih
   omega
theorem sum_at : ∀ C : List Int, ((List.range C.length).map fun i => C[i]?.getD 0).sum = C.sum
 | [] => rfl
 | x :: C => by
   rw [List.length_cons, List.range_succ_eq_map, List.map_cons, List.sum_cons, List.map_map, List.sum_cons, ← sum_at C]
   rfl
theorem sumW_small : ∀ (C : List Int) (acc : Int), (∀ x ∈ C, 0 ≤ x ∧ x ≤ 100000) → 0 ≤ acc → acc + 100000 * C.length ≤ 1000000000 → C.foldl (fun a x => wrap64 (a + x)) acc = acc + C.sum ∧ acc + C.sum ≤ acc + 100000 * C.length ∧ acc ≤ acc + C.sum
 | [], acc, _, h0, h1 => by simp
 | x :: C, acc, h, h0, h1 => by
   have hx := h x List.mem_cons_self
   simp only [List.length_cons, Int.natCast_add, Int.natCast_one] at h1
   have ih := sumW_small C (acc + x) (fun y hy => h y (List.mem_cons_of_mem _ hy)) (by omega) (by omega)
   simp only [List.foldl_cons, List.sum_cons, List.length_cons, Int.natCast_add, Int.natCast_one]
   rw [show wrap64 (acc + x) = acc + x by unfold wrap64; omega]
   omega
def plcA (C : List Int) (n i : Nat) : Nat := (srt C n).findIdx fun z => z == (i : Int)
theorem plcA_ord {C : List Int} {n k : Nat} (hk : k < n) : plcA C n (ordA C n k) = k := by
 unfold plcA
 have hl := srt_len C n
 have h1 := (ordA_lt C n hk).2
 rw [List.getElem?_eq_getElem (by omega), Option.getD_some] at h1
 rw [List.findIdx_eq (by omega)]
 refine ⟨by simp [h1], fun j hj => ?_⟩
 have := List.pairwise_iff_getElem.1 (srt_nodup C n) j k (by omega) (by omega) hj
 rw [h1] at this
 simpa using this
theorem fits_sum {C : List Int} {x y : Int} (h : fitsR C x y = true) : sumW C = C.sum ∧ 0 ≤ C.sum ∧ C.sum ≤ 500000 ∧ valR (x, y) = true ∧ 0 ≤ x ∧ x ≤ C.sum * y ∧ 1 ≤ C.length ∧ C.length ≤ 5 := by
 unfold fitsR at h
 simp only [Bool.and_eq_true, decide_eq_true_eq, small, List.all_eq_true, inB] at h
 obtain ⟨⟨ha, hl⟩, hv, h0, hc⟩ := h
 have hs := sumW_small C 0 (fun z hz => by have := ha z hz; omega) (by omega) (by omega)
 have e : sumW C = C.sum := by unfold sumW; rw [hs.1]; omega
 have hv2 := valR_bd hv
 refine ⟨e, by omega, by omega, hv, h0, ?_, by omega, by omega⟩
 rw [e, (Fr.self hv).cmp (Fr.int C.sum (by omega) (by omega))] at hc
 simp only [Int.mul_one] at hc
 split at hc
 ·omega
 ·split at hc
  ·omega
  ·omega
end Go.Proofs.YthjjfkeacobikaaGreat
namespace Go.Proofs.YthjjfkeacobikaaGreat
open Go.RowKit
theorem s_l2B (k : Nat) (h : k ≤ 5) (w : World) : Calls Tryz.prog 78 #[.int .i64 (k : Int)] w fun e w' => e = .returned (.int .i64 (2 ^ k)) ∧ w = w' := by
 have := s_l2Bit k w
 rwa [cntC_nat k h, cN_pow] at this
end Go.Proofs.YthjjfkeacobikaaGreat
