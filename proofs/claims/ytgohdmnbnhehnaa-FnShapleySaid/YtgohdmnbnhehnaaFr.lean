/- A fraction that stands for x/D: sums, differences, products, quotients and comparisons by what they stand for. Plain words, no program in sight. -/
import Derived.Test.YtgohdmnbnhehnaaRatM
namespace Go.Proofs.Ytgohdmnbnhehnaa
set_option linter.unusedVariables false

/-- p is a fraction that the program allows, and stands for x/D. -/
def Fr (p : Int × Int) (x D : Int) : Prop := valR p = true ∧ 0 < D ∧ p.1 * D = x * p.2
theorem valR_gcd {p : Int × Int} (h : valR p = true) : gI p.1 p.2 = 1 := by
  simp only [valR, Bool.and_eq_true, decide_eq_true_eq] at h; exact h.2.2
theorem valR_mk {p : Int × Int} (h1 : 1 ≤ p.2) (h2 : p.2 ≤ 1000000000) (h3 : -1000000000 ≤ p.1) (h4 : p.1 ≤ 1000000000) (h5 : gI p.1 p.2 = 1) : valR p = true := by
  simp only [valR, inB, Bool.and_eq_true, decide_eq_true_eq]; omega
theorem gI_nat (a b : Int) : gI a b = 1 ↔ Nat.Coprime a.natAbs b.natAbs := by unfold gI Int.gcd Nat.Coprime; omega
/-- Two fractions in lowest terms that stand for the same are the same. -/
theorem low_eq {a b c d : Int} (hb : 0 < b) (hd : 0 < d) (h1 : gI a b = 1) (h2 : gI c d = 1) (h : a * d = c * b) : a = c ∧ b = d := by
  rw [gI_nat] at h1 h2
  have hn : a.natAbs * d.natAbs = c.natAbs * b.natAbs := by rw [← Int.natAbs_mul, ← Int.natAbs_mul, h]
  have e1 : b.natAbs ∣ d.natAbs := Nat.Coprime.dvd_of_dvd_mul_left h1.symm ⟨c.natAbs, by rw [hn, Nat.mul_comm]⟩
  have e2 : d.natAbs ∣ b.natAbs := Nat.Coprime.dvd_of_dvd_mul_left h2.symm ⟨a.natAbs, by rw [← hn, Nat.mul_comm]⟩
  have e3 : b = d := by have := Nat.dvd_antisymm e1 e2; omega
  subst e3
  exact ⟨Int.eq_of_mul_eq_mul_right (by omega) h, rfl⟩
theorem Fr.eq {p q : Int × Int} {x D y E : Int} (h : Fr p x D) (k : Fr q y E) (e : x * E = y * D) : p = q := by
  obtain ⟨h1, h2, h3⟩ := h
  obtain ⟨k1, k2, k3⟩ := k
  have hb := (valR_bd h1).1
  have kb := (valR_bd k1).1
  have key : (p.1 * q.2) * (D * E) = (q.1 * p.2) * (D * E) := by grind
  have hDE : D * E ≠ 0 := Int.mul_ne_zero (by omega) (by omega)
  have := low_eq (by omega) (by omega) (valR_gcd h1) (valR_gcd k1) (Int.eq_of_mul_eq_mul_right hDE key)
  exact Prod.ext this.1 this.2
theorem Fr.scale {p : Int × Int} {x D : Int} (h : Fr p x D) {k : Int} (hk : 0 < k) : Fr p (x * k) (D * k) :=
  ⟨h.1, Int.mul_pos h.2.1 hk, by have := h.2.2; grind⟩
theorem Fr.move {p : Int × Int} {x D y E : Int} (h : Fr p x D) (hE : 0 < E) (e : x * E = y * D) : Fr p y E := by
  refine ⟨h.1, hE, ?_⟩
  have h3 := h.2.2
  have : (p.1 * E) * D = (y * p.2) * D := by grind
  exact Int.eq_of_mul_eq_mul_right (by have := h.2.1; omega) this
theorem Fr.int (c : Int) (h : -1000000000 ≤ c) (h' : c ≤ 1000000000) : Fr (c, 1) c 1 :=
  ⟨valR_mk (by simp) (by simp) h h' (by rw [gI_nat]; simp), by omega, rfl⟩
theorem Fr.self {p : Int × Int} (h : valR p = true) : Fr p p.1 p.2 := ⟨h, by have := (valR_bd h).1; omega, rfl⟩

theorem gI_split (n d : Int) (hd : 0 < d) : 1 ≤ gI n d ∧ n = gI n d * n.tdiv (gI n d) ∧ d = gI n d * d.tdiv (gI n d) ∧ 0 < d.tdiv (gI n d) := by
  have hg := gI_pos n (show d ≠ 0 by omega)
  obtain ⟨k, hk⟩ := gI_dvdl n d
  obtain ⟨m, hm⟩ := gI_dvdr n d
  have h1 : n.tdiv (gI n d) = k := by conv => lhs; arg 1; rw [hk]
                                      exact Int.mul_tdiv_cancel_left _ (by omega)
  have h2 : d.tdiv (gI n d) = m := by conv => lhs; arg 1; rw [hm]
                                      exact Int.mul_tdiv_cancel_left _ (by omega)
  rw [h1, h2]
  refine ⟨hg, hk, hm, ?_⟩
  rcases Int.lt_or_le 0 m with h | h
  · exact h
  · have : gI n d * m ≤ 0 := Int.mul_nonpos_of_nonneg_of_nonpos (by omega) h
    omega
theorem ratOf_cut {n d : Int} (hd : 0 < d) (hn : -1000000000000000000 ≤ n ∧ n ≤ 1000000000000000000) (hd' : d ≤ 1000000000000000000) : ratOf n d = cutR (n.tdiv (gI n d), d.tdiv (gI n d)) := by
  unfold ratOf
  rw [if_neg (by simp [inB]; omega), if_neg (by omega)]
/-- The same value, the same fraction. -/
theorem ratOf_same {n d x D : Int} (hd : 0 < d) (hD : 0 < D) (hn : -1000000000000000000 ≤ n ∧ n ≤ 1000000000000000000) (hd' : d ≤ 1000000000000000000) (hx : -1000000000000000000 ≤ x ∧ x ≤ 1000000000000000000) (hD' : D ≤ 1000000000000000000) (e : n * D = x * d) : ratOf n d = ratOf x D := by
  rw [ratOf_cut hd hn hd', ratOf_cut hD hx hD']
  obtain ⟨g1, g2, g3, g4⟩ := gI_split n d hd
  obtain ⟨k1, k2, k3, k4⟩ := gI_split x D hD
  have key : (n.tdiv (gI n d) * D.tdiv (gI x D)) * (gI n d * gI x D) = (x.tdiv (gI x D) * d.tdiv (gI n d)) * (gI n d * gI x D) := by
    have a1 : (n.tdiv (gI n d) * D.tdiv (gI x D)) * (gI n d * gI x D) = (gI n d * n.tdiv (gI n d)) * (gI x D * D.tdiv (gI x D)) := by grind
    have a2 : (x.tdiv (gI x D) * d.tdiv (gI n d)) * (gI n d * gI x D) = (gI x D * x.tdiv (gI x D)) * (gI n d * d.tdiv (gI n d)) := by grind
    rw [a1, a2, ← g2, ← g3, ← k2, ← k3, e]
  have hne : gI n d * gI x D ≠ 0 := Int.mul_ne_zero (by omega) (by omega)
  have := low_eq g4 k4 (gI_cancel n d hd) (gI_cancel x D hD) (Int.eq_of_mul_eq_mul_right hne key)
  rw [this.1, this.2]
/-- What ratOf gives stands for n/d. -/
theorem ratOf_fr {n d : Int} (hd : 0 < d) (h : (ratOf n d).2 = true) : Fr (ratOf n d).1 n d := by
  refine ⟨ratOf_val h, hd, ?_⟩
  unfold ratOf at h ⊢
  split at h
  · simp at h
  · next h0 =>
    rw [if_neg h0]
    split at h
    · omega
    · next h1 =>
      rw [if_neg h1]
      unfold cutR at h ⊢
      split at h
      · next h2 =>
        rw [if_pos h2]
        obtain ⟨g1, g2, g3, g4⟩ := gI_split n d hd
        simp only
        generalize n.tdiv (gI n d) = k at *
        generalize d.tdiv (gI n d) = m at *
        generalize gI n d = g at *
        subst g2; grind
      · simp at h
theorem ratOf_is {n d x D : Int} (hd : 0 < d) (hn : -1000000000000000000 ≤ n ∧ n ≤ 1000000000000000000) (hd' : d ≤ 1000000000000000000) (hD : 0 < D) (hD' : D ≤ 1000000000) (hx : -1000000000 ≤ x ∧ x ≤ 1000000000) (e : n * D = x * d) :
    ∃ r, ratOf n d = (r, true) ∧ Fr r x D := by
  have h1 := ratOf_same hd hD hn hd' (by omega) (by omega) e
  have h2 := ratOf_ok (n := x) (d := D) (by omega) hD' hx.1 hx.2
  exact ⟨(ratOf x D).1, by rw [h1, ← h2], ratOf_fr hD h2⟩
theorem bd18 {p q : Int} (h : -1000000000 ≤ p ∧ p ≤ 1000000000) (k : -1000000000 ≤ q ∧ q ≤ 1000000000) : -1000000000000000000 ≤ p * q ∧ p * q ≤ 1000000000000000000 := mul_bd h.1 h.2 k.1 k.2
theorem Fr.mul {p q : Int × Int} {x D y E z F : Int} (h : Fr p x D) (k : Fr q y E) (hF : 0 < F) (hF' : F ≤ 1000000000) (hz : -1000000000 ≤ z ∧ z ≤ 1000000000) (e : x * y * F = z * (D * E)) : ∃ r, mulR p q = (r, true) ∧ Fr r z F := by
  obtain ⟨h1, h2, h3⟩ := h
  obtain ⟨k1, k2, k3⟩ := k
  have hb := valR_bd h1
  have kb := valR_bd k1
  have hp : 0 < p.2 * q.2 := Int.mul_pos (by omega) (by omega)
  have hDE : D * E ≠ 0 := Int.mul_ne_zero (by omega) (by omega)
  unfold mulR
  rw [if_pos (by rw [h1, k1]; rfl)]
  refine ratOf_is hp (bd18 ⟨hb.2.2.1, hb.2.2.2⟩ ⟨kb.2.2.1, kb.2.2.2⟩) (bd18 ⟨by omega, hb.2.1⟩ ⟨by omega, kb.2.1⟩).2 hF hF' hz ?_
  refine Int.eq_of_mul_eq_mul_right hDE ?_
  have : p.1 * q.1 * F * (D * E) = (p.1 * D) * (q.1 * E) * F := by grind
  rw [this, h3, k3]
  have : x * p.2 * (y * q.2) * F = (x * y * F) * (p.2 * q.2) := by grind
  rw [this, e]; grind
theorem Fr.div {p q : Int × Int} {x D y E z F : Int} (h : Fr p x D) (k : Fr q y E) (hy : 0 < y) (hF : 0 < F) (hF' : F ≤ 1000000000) (hz : -1000000000 ≤ z ∧ z ≤ 1000000000) (e : x * E * F = z * (D * y)) : ∃ r, divR p q = (r, true) ∧ Fr r z F := by
  obtain ⟨h1, h2, h3⟩ := h
  obtain ⟨k1, k2, k3⟩ := k
  have hb := valR_bd h1
  have kb := valR_bd k1
  have hq : 0 < q.1 := by
    rcases Int.lt_or_le 0 q.1 with h | h
    · exact h
    · have : q.1 * E ≤ 0 := Int.mul_nonpos_of_nonpos_of_nonneg h (by omega)
      have : 0 < y * q.2 := Int.mul_pos hy (by omega)
      omega
  have hp : 0 < p.2 * q.1 := Int.mul_pos (by omega) hq
  have hDE : D * E * y ≠ 0 := Int.mul_ne_zero (Int.mul_ne_zero (by omega) (by omega)) (by omega)
  unfold divR
  rw [if_pos (by rw [h1, k1]; rfl)]
  refine ratOf_is hp (bd18 ⟨hb.2.2.1, hb.2.2.2⟩ ⟨by omega, kb.2.1⟩) (bd18 ⟨by omega, hb.2.1⟩ ⟨by omega, kb.2.2.2⟩).2 hF hF' hz ?_
  refine Int.eq_of_mul_eq_mul_right hDE ?_
  have : p.1 * q.2 * F * (D * E * y) = (p.1 * D) * (y * q.2) * E * F := by grind
  rw [this, h3, ← k3]
  have : x * p.2 * (q.1 * E) * E * F = (x * E * F) * (p.2 * q.1 * E) := by grind
  rw [this, e]; grind
theorem Fr.add {p q : Int × Int} {x D y E z F : Int} (h : Fr p x D) (k : Fr q y E) (hF : 0 < F) (hF' : F ≤ 1000000000) (hz : -1000000000 ≤ z ∧ z ≤ 1000000000) (hs : -1000000000000000000 ≤ p.1 * q.2 + q.1 * p.2 ∧ p.1 * q.2 + q.1 * p.2 ≤ 1000000000000000000) (e : (x * E + y * D) * F = z * (D * E)) : ∃ r, addR p q = (r, true) ∧ Fr r z F := by
  obtain ⟨h1, h2, h3⟩ := h
  obtain ⟨k1, k2, k3⟩ := k
  have hb := valR_bd h1
  have kb := valR_bd k1
  have hp : 0 < p.2 * q.2 := Int.mul_pos (by omega) (by omega)
  have hDE : D * E ≠ 0 := Int.mul_ne_zero (by omega) (by omega)
  unfold addR
  rw [if_pos (by rw [h1, k1]; rfl)]
  refine ratOf_is hp hs (bd18 ⟨by omega, hb.2.1⟩ ⟨by omega, kb.2.1⟩).2 hF hF' hz ?_
  refine Int.eq_of_mul_eq_mul_right hDE ?_
  have : (p.1 * q.2 + q.1 * p.2) * F * (D * E) = ((p.1 * D) * (q.2 * E) + (q.1 * E) * (p.2 * D)) * F := by grind
  rw [this, h3, k3]
  have : (x * p.2 * (q.2 * E) + y * q.2 * (p.2 * D)) * F = ((x * E + y * D) * F) * (p.2 * q.2) := by grind
  rw [this, e]; grind
theorem Fr.neg {p : Int × Int} {x D : Int} (h : Fr p x D) : Fr (-p.1, p.2) (-x) D :=
  ⟨by rw [valR_neg]; exact h.1, h.2.1, by have := h.2.2; simp only; grind⟩
theorem Fr.sub {p q : Int × Int} {x D y E z F : Int} (h : Fr p x D) (k : Fr q y E) (hF : 0 < F) (hF' : F ≤ 1000000000) (hz : -1000000000 ≤ z ∧ z ≤ 1000000000) (hs : -1000000000000000000 ≤ p.1 * q.2 - q.1 * p.2 ∧ p.1 * q.2 - q.1 * p.2 ≤ 1000000000000000000) (e : (x * E - y * D) * F = z * (D * E)) : ∃ r, subR p q = (r, true) ∧ Fr r z F := by
  rw [← subR_add]
  exact h.add k.neg hF hF' hz (by simp only; rw [Int.neg_mul]; omega) (by grind)
/-- What is compared. -/
theorem Fr.cmp {p q : Int × Int} {x D y E : Int} (h : Fr p x D) (k : Fr q y E) : cmpR p q = if x * E < y * D then -1 else if y * D < x * E then 1 else 0 := by
  obtain ⟨h1, h2, h3⟩ := h
  obtain ⟨k1, k2, k3⟩ := k
  have hb := valR_bd h1
  have kb := valR_bd k1
  have hp : 0 < p.2 * q.2 := Int.mul_pos (by omega) (by omega)
  have hDE : 0 < D * E := Int.mul_pos h2 k2
  have key : (p.1 * q.2 - q.1 * p.2) * (D * E) = (x * E - y * D) * (p.2 * q.2) := by
    have : (p.1 * q.2 - q.1 * p.2) * (D * E) = (p.1 * D) * (q.2 * E) - (q.1 * E) * (p.2 * D) := by grind
    rw [this, h3, k3]; grind
  unfold cmpR
  rw [if_pos (by rw [h1, k1]; rfl)]
  have s1 : p.1 * q.2 < q.1 * p.2 ↔ x * E < y * D := by
    constructor
    · intro h
      have : (p.1 * q.2 - q.1 * p.2) * (D * E) < 0 := Int.mul_neg_of_neg_of_pos (by omega) hDE
      rw [key] at this
      rcases Int.lt_or_le (x * E) (y * D) with h | h
      · exact h
      · have : 0 ≤ (x * E - y * D) * (p.2 * q.2) := Int.mul_nonneg (by omega) (by omega)
        omega
    · intro h
      have : (x * E - y * D) * (p.2 * q.2) < 0 := Int.mul_neg_of_neg_of_pos (by omega) hp
      rw [← key] at this
      rcases Int.lt_or_le (p.1 * q.2) (q.1 * p.2) with h | h
      · exact h
      · have : 0 ≤ (p.1 * q.2 - q.1 * p.2) * (D * E) := Int.mul_nonneg (by omega) (by omega)
        omega
  have s2 : q.1 * p.2 < p.1 * q.2 ↔ y * D < x * E := by
    constructor
    · intro h
      have : 0 < (p.1 * q.2 - q.1 * p.2) * (D * E) := Int.mul_pos (by omega) hDE
      rw [key] at this
      rcases Int.lt_or_le (y * D) (x * E) with h | h
      · exact h
      · have : (x * E - y * D) * (p.2 * q.2) ≤ 0 := Int.mul_nonpos_of_nonpos_of_nonneg (by omega) (by omega)
        omega
    · intro h
      have : 0 < (x * E - y * D) * (p.2 * q.2) := Int.mul_pos (by omega) hp
      rw [← key] at this
      rcases Int.lt_or_le (q.1 * p.2) (p.1 * q.2) with h | h
      · exact h
      · have : (p.1 * q.2 - q.1 * p.2) * (D * E) ≤ 0 := Int.mul_nonpos_of_nonpos_of_nonneg (by omega) (by omega)
        omega
  simp only [s1, s2]
/-- The size of a fraction's parts, out of what it stands for. -/
theorem Fr.size {p : Int × Int} {x D : Int} (h : Fr p x D) : p.2 ≤ D ∧ p.1.natAbs ≤ x.natAbs := by
  obtain ⟨h1, h2, h3⟩ := h
  have hb := valR_bd h1
  have hc := valR_gcd h1
  rw [gI_nat] at hc
  have hn : p.1.natAbs * D.natAbs = x.natAbs * p.2.natAbs := by rw [← Int.natAbs_mul, ← Int.natAbs_mul, h3]
  have e1 : p.2.natAbs ∣ D.natAbs := Nat.Coprime.dvd_of_dvd_mul_left hc.symm ⟨x.natAbs, by rw [hn, Nat.mul_comm]⟩
  have e2 := Nat.le_of_dvd (by omega) e1
  refine ⟨by omega, ?_⟩
  have e3 : p.1.natAbs * p.2.natAbs ≤ x.natAbs * p.2.natAbs := by rw [← hn]; exact Nat.mul_le_mul_left _ e2
  exact Nat.le_of_mul_le_mul_right e3 (by omega)

end Go.Proofs.Ytgohdmnbnhehnaa
