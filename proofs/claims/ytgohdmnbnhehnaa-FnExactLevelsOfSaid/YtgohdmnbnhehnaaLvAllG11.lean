import Derived.Test.YtgohdmnbnhehnaaLvAllG5
import Derived.Test.YtgohdmnbnhehnaaLvAllG10
import Derived.Test.YtgohdmnbnhehnaaLvAllG9
import Derived.Test.YtgohdmnbnhehnaaLvAllG0
import Derived.StillTail
import Derived.Deep.RegionHeld3
namespace Go.Proofs.Ytgohdmnbnhehnaa
set_option linter.unusedVariables false
def Fr (p : Int × Int) (x D : Int) : Prop := valR p = true ∧ 0 < D ∧ p.1 * D = x * p.2
theorem valR_gcd {p : Int × Int} (h : valR p = true) : gI p.1 p.2 = 1 := by
 simp only [valR, Bool.and_eq_true, decide_eq_true_eq] at h; exact h.2.2
theorem valR_mk {p : Int × Int} (h1 : 1 ≤ p.2) (h2 : p.2 ≤ 1000000000) (h3 : -1000000000 ≤ p.1) (h4 : p.1 ≤ 1000000000) (h5 : gI p.1 p.2 = 1) : valR p = true := by
 simp only [valR, inB, Bool.and_eq_true, decide_eq_true_eq]; omega
theorem gI_nat (a b : Int) : gI a b = 1 ↔ Nat.Coprime a.natAbs b.natAbs := by unfold gI Int.gcd Nat.Coprime; omega
theorem low_eq {a b c d : Int} (hb : 0 < b) (hd : 0 < d) (h1 : gI a b = 1) (h2 : gI c d = 1) (h : a * d = c * b) : a = c ∧ b = d := by
 rw [gI_nat] at h1 h2
 have hn : a.natAbs * d.natAbs = c.natAbs * b.natAbs := by rw [← Int.natAbs_mul, ← Int.natAbs_mul, h]
 have e1 : b.natAbs ∣ d.natAbs := Nat.Coprime.dvd_of_dvd_mul_left h1.symm ⟨c.natAbs, by rw [hn, Nat.mul_comm]⟩
 have e2 : d.natAbs ∣ b.natAbs := Nat.Coprime.dvd_of_dvd_mul_left h2.symm ⟨a.natAbs, by rw [← hn, Nat.mul_comm]⟩
 have e3 : b = d := by have := Nat.dvd_antisymm e1 e2; omega
 subst e3
 exact ⟨Int.eq_of_mul_eq_mul_right (by omega) h, rfl⟩
theorem Fr.int (c : Int) (h : -1000000000 ≤ c) (h' : c ≤ 1000000000) : Fr (c, 1) c 1 :=
 ⟨valR_mk (by simp) (by simp) h h' (by rw [gI_nat]; simp), by omega, rfl⟩
theorem gI_split (n d : Int) (hd : 0 < d) : 1 ≤ gI n d ∧ n = gI n d * n.tdiv (gI n d) ∧ d = gI n d * d.tdiv (gI n d) ∧ 0 < d.tdiv (gI n d) := by
 have hg := gI_pos n (show d ≠ 0 by omega)
 obtain ⟨k, hk⟩ := gI_dvdl n d
 obtain ⟨m, hm⟩ := gI_dvdr n d
 have h1 : n.tdiv (gI n d) = k := by conv => lhs; arg 1; rw [hk]
                                     exact Int.mul_tdiv_cancel_left _ (by omega)
 have h2 : d.tdiv (gI n d) = m := by conv => lhs; arg 1; rw [hm]
                                     exact Int.mul_tdiv_cancel_left _ (by omega)
 rw [h1, h2]
 refine ⟨hg, hk, hm, ?_⟩
 rcases Int.lt_or_le 0 m with h | h
 ·exact h
 ·have : gI n d * m ≤ 0 := Int.mul_nonpos_of_nonneg_of_nonpos (by omega) h
  omega
theorem ratOf_cut {n d : Int} (hd : 0 < d) (hn : -1000000000000000000 ≤ n ∧ n ≤ 1000000000000000000) (hd' : d ≤ 1000000000000000000) : ratOf n d = cutR (n.tdiv (gI n d), d.tdiv (gI n d)) := by
 unfold ratOf
 rw [if_neg (by simp [inB]; omega), if_neg (by omega)]
theorem ratOf_same {n d x D : Int} (hd : 0 < d) (hD : 0 < D) (hn : -1000000000000000000 ≤ n ∧ n ≤ 1000000000000000000) (hd' : d ≤ 1000000000000000000) (hx : -1000000000000000000 ≤ x ∧ x ≤ 1000000000000000000) (hD' : D ≤ 1000000000000000000) (e : n * D = x * d) : ratOf n d = ratOf x D := by
 rw [ratOf_cut hd hn hd', ratOf_cut hD hx hD']
 obtain ⟨g1, g2, g3, g4⟩ := gI_split n d hd
 obtain ⟨k1, k2, k3, k4⟩ := gI_split x D hD
 have key : (n.tdiv (gI n d) * D.tdiv (gI x D)) * (gI n d * gI x D) = (x.tdiv (gI x D) * d.tdiv (gI n d)) * (gI n d * gI x D) := by
  have a1 : (n.tdiv (gI n d) * D.tdiv (gI x D)) * (gI n d * gI x D) = (gI n d * n.tdiv (gI n d)) * (gI x D * D.tdiv (gI x D)) := by grind
  have a2 : (x.tdiv (gI x D) * d.tdiv (gI n d)) * (gI n d * gI x D) = (gI x D * x.tdiv (gI x D)) * (gI n d * d.tdiv (gI n d)) := by grind
  rw [a1, a2, ← g2, ← g3, ← k2, ← k3, e]
 have hne : gI n d * gI x D ≠ 0 := Int.mul_ne_zero (by omega) (by omega)
 have := low_eq g4 k4 (gI_cancel n d hd) (gI_cancel x D hD) (Int.eq_of_mul_eq_mul_right hne key)
 rw [this.1, this.2]
theorem ratOf_fr {n d : Int} (hd : 0 < d) (h : (ratOf n d).2 = true) : Fr (ratOf n d).1 n d := by
 refine ⟨ratOf_val h, hd, ?_⟩
 unfold ratOf at h ⊢
 split at h
 ·simp at h
 ·next h0 =>
  rw [if_neg h0]
  split at h
  ·omega
  ·next h1 =>
   rw [if_neg h1]
   unfold cutR at h ⊢
   split at h
   ·next h2 =>
    rw [if_pos h2]
    obtain ⟨g1, g2, g3, g4⟩ := gI_split n d hd
    simp only
    generalize n.tdiv (gI n d) = k at *
    generalize d.tdiv (gI n d) = m at *
    generalize gI n d = g at *
    subst g2; grind
   ·simp at h
theorem ratOf_is {n d x D : Int} (hd : 0 < d) (hn : -1000000000000000000 ≤ n ∧ n ≤ 1000000000000000000) (hd' : d ≤ 1000000000000000000) (hD : 0 < D) (hD' : D ≤ 1000000000) (hx : -1000000000 ≤ x ∧ x ≤ 1000000000) (e : n * D = x * d) :
 ∃ r, ratOf n d = (r, true) ∧ Fr r x D := by
 have h1 := ratOf_same hd hD hn hd' (by omega) (by omega) e
 have h2 := ratOf_ok (n := x) (d := D) (by omega) hD' hx.1 hx.2
 exact ⟨(ratOf x D).1, by rw [h1, ← h2], ratOf_fr hD h2⟩
theorem bd18 {p q : Int} (h : -1000000000 ≤ p ∧ p ≤ 1000000000) (k : -1000000000 ≤ q ∧ q ≤ 1000000000) : -1000000000000000000 ≤ p * q ∧ p * q ≤ 1000000000000000000 := mul_bd h.1 h.2 k.1 k.2
theorem Fr.add {p q : Int × Int} {x D y E z F : Int} (h : Fr p x D) (k : Fr q y E) (hF : 0 < F) (hF' : F ≤ 1000000000) (hz : -1000000000 ≤ z ∧ z ≤ 1000000000) (hs : -1000000000000000000 ≤ p.1 * q.2 + q.1 * p.2 ∧ p.1 * q.2 + q.1 * p.2 ≤ 1000000000000000000) (e : (x * E + y * D) * F = z * (D * E)) : ∃ r, addR p q = (r, true) ∧ Fr r z F := by
 obtain ⟨h1, h2, h3⟩ := h
 obtain ⟨k1, k2, k3⟩ := k
 have hb := valR_bd h1
 have kb := valR_bd k1
 have hp : 0 < p.2 * q.2 := Int.mul_pos (by omega) (by omega)
 have hDE : D * E ≠ 0 := Int.mul_ne_zero (by omega) (by omega)
 unfold addR
 rw [if_pos (by rw [h1, k1]; rfl)]
 refine ratOf_is hp hs (bd18 ⟨by omega, hb.2.1⟩ ⟨by omega, kb.2.1⟩).2 hF hF' hz ?_
 refine Int.eq_of_mul_eq_mul_right hDE ?_
 have : (p.1 * q.2 + q.1 * p.2) * F * (D * E) = ((p.1 * D) * (q.2 * E) + (q.1 * E) * (p.2 * D)) * F := by grind
 rw [this, h3, k3]
 have : (x * p.2 * (q.2 * E) + y * q.2 * (p.2 * D)) * F = ((x * E + y * D) * F) * (p.2 * q.2) := by grind
 rw [this, e]; grind
theorem Fr.size {p : Int × Int} {x D : Int} (h : Fr p x D) : p.2 ≤ D ∧ p.1.natAbs ≤ x.natAbs := by
 obtain ⟨h1, h2, h3⟩ := h
 have hb := valR_bd h1
 have hc := valR_gcd h1
 rw [gI_nat] at hc
 have hn : p.1.natAbs * D.natAbs = x.natAbs * p.2.natAbs := by rw [← Int.natAbs_mul, ← Int.natAbs_mul, h3]
 have e1 : p.2.natAbs ∣ D.natAbs := Nat.Coprime.dvd_of_dvd_mul_left hc.symm ⟨x.natAbs, by rw [hn, Nat.mul_comm]⟩
 have e2 := Nat.le_of_dvd (by omega) e1
 refine ⟨by omega, ?_⟩
 have e3 : p.1.natAbs * p.2.natAbs ≤ x.natAbs * p.2.natAbs := by rw [← hn]; exact Nat.mul_le_mul_left _ e2
 exact Nat.le_of_mul_le_mul_right e3 (by omega)
def val (r : Int × Int) : Rat := (r.1 : Rat) / (r.2 : Rat)
theorem ratne {d : Int} (h : d ≠ 0) : (d : Rat) ≠ 0 := by exact_mod_cast h
theorem val_inj {p q : Int × Int} (hp : valR p = true) (hq : valR q = true) (h : val p = val q) : p = q := by
 have hb := (valR_bd hp).1
 have kb := (valR_bd hq).1
 have a := ratne (show p.2 ≠ 0 by omega)
 have b := ratne (show q.2 ≠ 0 by omega)
 have e : (p.1 : Rat) * (q.2 : Rat) = (q.1 : Rat) * (p.2 : Rat) := by unfold val at h; grind
 have e' : p.1 * q.2 = q.1 * p.2 := by exact_mod_cast e
 have := low_eq (by omega) (by omega) (valR_gcd hp) (valR_gcd hq) e'
 exact Prod.ext this.1 this.2
theorem val_le {p q : Int × Int} (hp : valR p = true) (hq : valR q = true) : 0 ≤ cmpR p q ↔ val q ≤ val p := by
 have hb := (valR_bd hp).1
 have kb := (valR_bd hq).1
 have a : (0 : Rat) < (p.2 : Rat) := by exact_mod_cast (show 0 < p.2 by omega)
 have b : (0 : Rat) < (q.2 : Rat) := by exact_mod_cast (show 0 < q.2 by omega)
 have e : 0 ≤ cmpR p q ↔ q.1 * p.2 ≤ p.1 * q.2 := by
  unfold cmpR
  rw [if_pos (by rw [hp, hq]; rfl)]
  split
  ·omega
  ·split <;> omega
 rw [e]
 have e2 : q.1 * p.2 ≤ p.1 * q.2 ↔ (q.1 : Rat) * p.2 ≤ (p.1 : Rat) * q.2 := by
  constructor
  ·intro h; exact_mod_cast h
  ·intro h; exact_mod_cast h
 rw [e2]
 have x1 : (p.1 : Rat) = val p * p.2 := by unfold val; grind
 have x2 : (q.1 : Rat) = val q * q.2 := by unfold val; grind
 have hab : (0 : Rat) < (p.2 : Rat) * q.2 := Rat.mul_pos a b
 have x3 : (q.1 : Rat) * p.2 = val q * ((p.2 : Rat) * q.2) := by rw [x2]; grind
 have x4 : (p.1 : Rat) * q.2 = val p * ((p.2 : Rat) * q.2) := by rw [x1]; grind
 rw [x3, x4]
 exact ⟨fun h => Rat.le_of_mul_le_mul_right h hab, fun h => Rat.mul_le_mul_of_nonneg_right h (by grind)⟩
def sumN (f : Nat → Rat) : Nat → Rat
 | 0 => 0
 | k + 1 => sumN f k + f k
theorem sumN_lin (f g : Nat → Rat) (c : Rat) : ∀ m, sumN (fun k => f k + c * g k) m = sumN f m + c * sumN g m
 | 0 => by simp [sumN]; grind
 | m + 1 => by simp only [sumN, sumN_lin f g c m]; grind
theorem sumN_congr {f g : Nat → Rat} : ∀ {m}, (∀ k, k < m → f k = g k) → sumN f m = sumN g m
 | 0, _ => rfl
 | m + 1, h => by simp only [sumN, sumN_congr (m := m) (fun k hk => h k (by omega)), h m (by omega)]
def Rel (n m : Nat) (T0 : Nat → Nat → Rat) (c f : Nat → Rat) : Prop := ∀ j, j < n + m + 1 → f j - c j = sumN (fun k => (f (n + k) - c (n + k)) * T0 k j) m
theorem Rel.add {n m : Nat} {T0 : Nat → Nat → Rat} {c f g h : Nat → Rat} {k : Rat} (hf : Rel n m T0 c f) (hg : Rel n m T0 (fun _ => 0) g) (hh : ∀ j, j < n + m + 1 → h j = f j + k * g j) : Rel n m T0 c h := by
 intro j hj
 have h1 := hf j hj
 have h2 := hg j hj
 rw [hh j hj]
 have e : sumN (fun i => (h (n + i) - c (n + i)) * T0 i j) m = sumN (fun i => (f (n + i) - c (n + i)) * T0 i j + k * ((g (n + i) - 0) * T0 i j)) m :=
  sumN_congr fun i hi => by rw [hh (n + i) (by omega)]; grind
 rw [e, sumN_lin, ← h1, ← h2]; grind
def vrow (r : List (Int × Int)) (j : Nat) : Rat := val (r[j]?.getD (0, 0))
def okRow (N : Nat) (r : List (Int × Int)) : Prop := r.length = N ∧ ∀ j, j < N → valR (r[j]?.getD (0, 0)) = true
structure TInv (n m : Nat) (T0 : Nat → Nat → Rat) (t : Tb) : Prop where
 cols : t.cols = n
 len : t.rows.length = m
 blen : t.basis.length = m
 bas : ∀ b ∈ t.basis, 0 ≤ b ∧ b < n + m
 row : ∀ i, i < m → okRow (n + m + 1) (t.row i)
 rel : ∀ i, i < m → Rel n m T0 (fun _ => 0) (vrow (t.row i))
theorem TInv.ok {n m : Nat} {T0 : Nat → Nat → Rat} {t : Tb} (h : TInv n m T0 t) (hn : n ≤ 1000) : tbOk t = true := by
 unfold tbOk
 have hc := h.cols
 have hl := h.len
 simp only [Bool.and_eq_true, inB, decide_eq_true_eq, List.all_eq_true]
 refine ⟨by omega, by rw [h.blen, hl], fun b hb => ?_, fun r hr => ?_⟩
 ·have := h.bas b hb; omega
 ·obtain ⟨i, hi, rfl⟩ := List.mem_iff_getElem.1 hr
  have := (h.row i (by omega)).1
  unfold Tb.row at this
  rw [List.getElem?_eq_getElem hi, Option.getD_some] at this
  omega
open Go.RowKit
abbrev RR : Type := Int × Int
def geR (x y : RR) : Bool := !decide (cmpR x y < 0)
theorem geR_val {x y : RR} (hx : valR x = true) (hy : valR y = true) : geR x y = true ↔ val y ≤ val x := by
 rw [← val_le hx hy]
 unfold geR
 simp
theorem geR_total {x y : RR} (hx : valR x = true) (hy : valR y = true) : geR x y = true ∨ geR y x = true := by
 rw [geR_val hx hy, geR_val hy hx]
 rcases Rat.le_total (a := val y) (b := val x) with h | h
 ·exact .inl h
 ·exact .inr h
theorem geR_trans {x y z : RR} (hx : valR x = true) (hy : valR y = true) (hz : valR z = true) (h : geR x y = true) (k : geR y z = true) : geR x z = true := by
 rw [geR_val hx hy] at h
 rw [geR_val hy hz] at k
 rw [geR_val hx hz]
 exact Rat.le_trans k h
theorem geR_anti {x y : RR} (hx : valR x = true) (hy : valR y = true) (h : geR x y = true) (k : geR y x = true) : x = y := by
 rw [geR_val hx hy] at h
 rw [geR_val hy hx] at k
 exact val_inj hx hy (Rat.le_antisymm k h)
def posX (x : RR) (l : List RR) : Nat → Nat
 | 0 => 0
 | m + 1 => if cmpR (l[m]?.getD (0, 0)) x < 0 then posX x l m else m + 1
def insX (x : RR) (l : List RR) : List RR := l.take (posX x l l.length) ++ x :: l.drop (posX x l l.length)
def srtT (l : List RR) : Nat → List RR
 | 0 => []
 | k + 1 => insX (l[k]?.getD (0, 0)) (srtT l k)
def srtX (l : List RR) : List RR := srtT l l.length
theorem posX_le (x : RR) (l : List RR) : ∀ m, posX x l m ≤ m
 | 0 => Nat.le_refl _
 | m + 1 => by
   unfold posX
   split
   ·have := posX_le x l m; omega
   ·omega
theorem posX_stop {x : RR} {l : List RR} {m : Nat} (h : ¬ cmpR (l[m]?.getD (0, 0)) x < 0) : posX x l (m + 1) = m + 1 := by rw [posX, if_neg h]
theorem posX_go {x : RR} {l : List RR} {m : Nat} (h : cmpR (l[m]?.getD (0, 0)) x < 0) : posX x l (m + 1) = posX x l m := by rw [posX, if_pos h]
theorem posX_above {x : RR} {l : List RR} : ∀ {m i : Nat}, posX x l m ≤ i → i < m → cmpR (l[i]?.getD (0, 0)) x < 0
 | m + 1, i, h, hi => by
   by_cases hc : cmpR (l[m]?.getD (0, 0)) x < 0
   ·rw [posX_go hc] at h
    by_cases him : i = m
    ·rw [him]; exact hc
    ·exact posX_above h (by omega)
   ·rw [posX_stop hc] at h; omega
theorem posX_top {x : RR} {l : List RR} : ∀ {m : Nat}, 0 < posX x l m → ¬ cmpR (l[posX x l m - 1]?.getD (0, 0)) x < 0
 | 0, h => by simp [posX] at h
 | m + 1, h => by
   by_cases hc : cmpR (l[m]?.getD (0, 0)) x < 0
   ·rw [posX_go hc] at h ⊢; exact posX_top h
   ·rw [posX_stop hc, Nat.add_sub_cancel]; exact hc
theorem insX_len (x : RR) (l : List RR) : (insX x l).length = l.length + 1 := by
 have := posX_le x l l.length
 unfold insX
 simp only [List.length_append, List.length_cons, List.length_take, List.length_drop]
 omega
theorem srtT_len (l : List RR) : ∀ k, (srtT l k).length = k
 | 0 => rfl
 | k + 1 => by rw [srtT, insX_len, srtT_len l k]
theorem insX_perm (x : RR) (l : List RR) : (insX x l).Perm (l ++ [x]) := by
 unfold insX
 refine List.perm_middle.trans ?_
 rw [List.take_append_drop]
 exact (List.perm_append_singleton x l).symm
theorem take_snocY {l : List RR} {k : Nat} (h : k < l.length) : l.take (k + 1) = l.take k ++ [l[k]?.getD (0, 0)] := by
 rw [List.take_succ_eq_append_getElem h]; simp [h]
theorem srtT_perm (l : List RR) : ∀ k, k ≤ l.length → (srtT l k).Perm (l.take k)
 | 0, _ => by simp [srtT]
 | k + 1, h => by
   rw [srtT, take_snocY (by omega)]
   exact (insX_perm _ _).trans ((srtT_perm l k (by omega)).append_right _)
theorem srtX_perm (l : List RR) : (srtX l).Perm l := by
 have := srtT_perm l l.length (Nat.le_refl _)
 rwa [List.take_length] at this
theorem insX_sorted {x : RR} {l : List RR} (hx : valR x = true) (hl : ∀ y ∈ l, valR y = true) (h : l.Pairwise fun a b => geR a b = true) : (insX x l).Pairwise fun a b => geR a b = true := by
 obtain ⟨p, hp⟩ : ∃ p, p = posX x l l.length := ⟨_, rfl⟩
 have hle := posX_le x l l.length
 have hsp : l = l.take p ++ l.drop p := (List.take_append_drop p l).symm
 have h2 := h
 rw [hsp, List.pairwise_append] at h2
 obtain ⟨ht, hd, htd⟩ := h2
 have hxd : ∀ b ∈ l.drop p, geR x b = true := by
  intro b hb
  obtain ⟨i, hi, rfl⟩ := List.mem_drop_iff_getElem.1 hb
  have hc := posX_above (x := x) (l := l) (m := l.length) (i := p + i) (by omega) (by omega)
  rw [List.getElem?_eq_getElem (by omega), Option.getD_some] at hc
  have hv := hl _ (List.getElem_mem (show p + i < l.length by omega))
  rcases geR_total hx hv with h1 | h1
  ·exact h1
  ·unfold geR at h1
   rw [decide_eq_true hc] at h1
   cases h1
 have htx : ∀ a ∈ l.take p, geR a x = true := by
  intro a ha
  obtain ⟨i, hi, rfl⟩ := List.mem_take_iff_getElem.1 ha
  have hip : i < p := by omega
  have hpl : p - 1 < l.length := by omega
  have hc := posX_top (x := x) (l := l) (m := l.length) (by omega)
  rw [← hp, List.getElem?_eq_getElem hpl, Option.getD_some] at hc
  have htop : geR l[p - 1] x = true := by unfold geR; rw [decide_eq_false hc]; rfl
  by_cases hil : i = p - 1
  ·subst hil; exact htop
  ·have := List.pairwise_iff_getElem.1 h i (p - 1) (by omega) hpl (by omega)
   exact geR_trans (hl _ (List.getElem_mem _)) (hl _ (List.getElem_mem _)) hx this htop
 unfold insX
 rw [← hp, List.pairwise_append]
 refine ⟨ht, List.pairwise_cons.2 ⟨hxd, hd⟩, fun a ha b hb => ?_⟩
 rcases List.mem_cons.1 hb with rfl | hb
 ·exact htx a ha
 ·exact htd a ha b hb
theorem srtT_val {l : List RR} (hl : ∀ y ∈ l, valR y = true) {k : Nat} (hk : k ≤ l.length) : ∀ y ∈ srtT l k, valR y = true := fun y hy =>
 hl y (List.mem_of_mem_take ((srtT_perm l k hk).mem_iff.1 hy))
theorem srtT_sorted {l : List RR} (hl : ∀ y ∈ l, valR y = true) : ∀ k, k ≤ l.length → (srtT l k).Pairwise fun a b => geR a b = true
 | 0, _ => List.Pairwise.nil
 | k + 1, h => by
   rw [srtT]
   refine insX_sorted ?_ (srtT_val hl (by omega)) (srtT_sorted hl k (by omega))
   rw [List.getElem?_eq_getElem (by omega), Option.getD_some]
   exact hl _ (List.getElem_mem _)
theorem srtX_only {l m : List RR} (hl : ∀ y ∈ l, valR y = true) (hp : m.Perm l) (hs : m.Pairwise fun a b => geR a b = true) : m = srtX l := by
 refine List.Perm.eq_of_pairwise (le := fun a b => geR a b = true) (fun a b ha hb h1 h2 => geR_anti (hl a (hp.mem_iff.1 ha)) (hl b ((srtX_perm l).mem_iff.1 hb)) h1 h2) hs (srtT_sorted hl l.length (Nat.le_refl _)) (hp.trans (srtX_perm l).symm)
def cmpT (l : List RR) : Nat → List RR
 | 0 => []
 | k + 1 => if 0 < k ∧ l[k]?.getD (0, 0) = l[k - 1]?.getD (0, 0) then cmpT l k else cmpT l k ++ [l[k]?.getD (0, 0)]
theorem cmpT_skip {l : List RR} {k : Nat} (h : 0 < k) (e : l[k]?.getD (0, 0) = l[k - 1]?.getD (0, 0)) : cmpT l (k + 1) = cmpT l k := by rw [cmpT, if_pos ⟨h, e⟩]
theorem cmpT_take {l : List RR} {k : Nat} (h : ¬ (0 < k ∧ l[k]?.getD (0, 0) = l[k - 1]?.getD (0, 0))) : cmpT l (k + 1) = cmpT l k ++ [l[k]?.getD (0, 0)] := by rw [cmpT, if_neg h]
theorem cmpT_len (l : List RR) : ∀ k, (cmpT l k).length ≤ k
 | 0 => Nat.le_refl _
 | k + 1 => by
   have := cmpT_len l k
   rw [cmpT]
   split
   ·omega
   ·simp; omega
structure Cmpd (l M : List RR) (i j : Nat) : Prop where
 len : M.length = l.length
 lt : i < j
 pos : 0 < i
 jl : j ≤ l.length
 lo : M.take i = cmpT l j
 hi : ∀ k, i ≤ k → M[k]?.getD (0, 0) = l[k]?.getD (0, 0)
theorem Cmpd.start {l : List RR} {k : Nat} (hk : 0 < k) (hl : k < l.length) (ht : cmpT l k = l.take k) (he : l[k]?.getD (0, 0) = l[k - 1]?.getD (0, 0)) : Cmpd l l k (k + 1) :=
 ⟨rfl, by omega, hk, by omega, by rw [cmpT_skip hk he, ht], fun _ _ => rfl⟩
theorem Cmpd.drop {l M : List RR} {i j : Nat} (h : Cmpd l M i j) (hj : j < l.length) (he : l[j]?.getD (0, 0) = l[j - 1]?.getD (0, 0)) : Cmpd l M i (j + 1) :=
 ⟨h.len, by have := h.lt; omega, h.pos, by omega, by rw [cmpT_skip (by have := h.lt; have := h.pos; omega) he, h.lo], h.hi⟩
theorem Cmpd.keep {l M : List RR} {i j : Nat} (h : Cmpd l M i j) (hj : j < l.length) (he : ¬ l[j]?.getD (0, 0) = l[j - 1]?.getD (0, 0)) : Cmpd l (M.set i (l[j]?.getD (0, 0))) (i + 1) (j + 1) := by
 have hi : i < M.length := by have := h.lt; have := h.len; omega
 refine ⟨by rw [List.length_set]; exact h.len, by have := h.lt; omega, by omega, by omega, ?_, fun k hk => ?_⟩
 ·rw [cmpT_take (fun h' => he h'.2), ← h.lo, List.take_succ_eq_append_getElem (by rw [List.length_set]; exact hi), List.take_set_of_le (Nat.le_refl _), List.getElem_set_self]
 ·rw [List.getElem?_set_ne (by omega)]
  exact h.hi k (by omega)
theorem cmpT_step {l : List RR} {k : Nat} (hl : k < l.length) (ht : cmpT l k = l.take k) (he : k = 0 ∨ ¬ l[k]?.getD (0, 0) = l[k - 1]?.getD (0, 0)) : cmpT l (k + 1) = l.take (k + 1) := by
 rw [cmpT_take (fun h' => by rcases he with h0 | h0; · omega
                             ·exact h0 h'.2), ht, take_snocY hl]
def levP (l : List RR) (e : RR) : Nat → List Int
 | 0 => []
 | k + 1 => if cmpR (l[k]?.getD (0, 0)) e < 0 then levP l e k else levP l e k ++ [((k + 1 : Nat) : Int)]
theorem levP_skip {l : List RR} {e : RR} {k : Nat} (h : cmpR (l[k]?.getD (0, 0)) e < 0) : levP l e (k + 1) = levP l e k := by rw [levP, if_pos h]
theorem levP_take {l : List RR} {e : RR} {k : Nat} (h : ¬ cmpR (l[k]?.getD (0, 0)) e < 0) : levP l e (k + 1) = levP l e k ++ [((k + 1 : Nat) : Int)] := by rw [levP, if_neg h]
theorem levP_len (l : List RR) (e : RR) : ∀ k, (levP l e k).length ≤ k
 | 0 => Nat.le_refl _
 | k + 1 => by
   have := levP_len l e k
   rw [levP]
   split
   ·omega
   ·simp; omega
def levT (l : List RR) (k : Nat) : List (List Int) := (cmpT (srtX l) k).map fun e => levP l e l.length
def levL (l : List RR) : List (List Int) := levT l l.length
theorem levT_skip {l : List RR} {k : Nat} (h : 0 < k) (e : (srtX l)[k]?.getD (0, 0) = (srtX l)[k - 1]?.getD (0, 0)) : levT l (k + 1) = levT l k := by unfold levT; rw [cmpT_skip h e]
theorem levT_take {l : List RR} {k : Nat} (h : ¬ (0 < k ∧ (srtX l)[k]?.getD (0, 0) = (srtX l)[k - 1]?.getD (0, 0))) : levT l (k + 1) = levT l k ++ [levP l ((srtX l)[k]?.getD (0, 0)) l.length] := by unfold levT; rw [cmpT_take h, List.map_append]; rfl
theorem levT_len (l : List RR) (k : Nat) : (levT l k).length ≤ k := by unfold levT; rw [List.length_map]; exact cmpT_len _ _
theorem srtX_len (l : List RR) : (srtX l).length = l.length := srtT_len l _
def levS (p : Int) (V : List Int) (X : List RR) : List (List Int) := levL ((allX p V X).getD [])
theorem levS_none {p : Int} {V : List Int} {X : List RR} (h : allX p V X = none) : levS p V X = [] := by unfold levS; rw [h]; rfl
theorem levS_some {p : Int} {V : List Int} {X : List RR} {l : List RR} (h : allX p V X = some l) : levS p V X = levL l := by unfold levS; rw [h]; rfl
theorem excS_val {V : List Int} {X : List RR} {s : Nat} {x : RR} (h : excS V X s = some x) : valR x = true := by
 unfold excS at h
 cases hs : shareP X s with
 | none => rw [hs] at h; cases h
 | some r =>
   rw [hs] at h
   change excR _ r = some x at h
   unfold excR at h
   split at h
   ·next h1 =>
    simp only [Option.some.injEq] at h
    rw [← h]
    unfold subR at h1 ⊢
    split
    ·next h2 => rw [if_pos h2] at h1; exact ratOf_val h1
    ·next h2 => rw [if_neg h2] at h1; cases h1
   ·cases h
theorem runT_mem {f : Nat → Option RR} {m : Nat} {r : List RR} (h : runT f m = some r) {P : RR → Prop} (hf : ∀ i x, f i = some x → P x) : ∀ x ∈ r, P x := by
 intro x hx
 obtain ⟨i, hi, rfl⟩ := List.mem_iff_getElem.1 hx
 have hl := runT_len h
 have := runT_at h i (by omega)
 rw [List.getElem?_eq_getElem hi, Option.getD_some] at this
 exact hf i _ this
theorem allX_val {p : Int} {V : List Int} {X : List RR} {l : List RR} (h : allX p V X = some l) : ∀ y ∈ l, valR y = true := by
 have hp := (allX_len h).1
 rw [allX_ok hp] at h
 exact runT_mem h fun i x hx => excS_val hx
section
variable {P : Program} {ops : Array Oper} {Q : Exit → Act → World → Prop} {md : Region.Mode} {S : World → Prop} {M : List Nat}
def Fresh (M : List Nat) (listed : Array Bool) : Prop := ∀ j ∈ M, listed.getD j true = false
theorem Fresh.set {M : List Nat} {listed : Array Bool} {i : Nat} (h : Fresh M listed) (hi : i ∉ M) : Fresh M (listed.setIfInBounds i true) := fun j hj => by
 rw [getD_set_ne true (show i ≠ j from fun e => hi (by rw [e]; exact hj))]; exact h j hj
theorem Fresh.unset {M : List Nat} {listed : Array Bool} {i : Nat} (h : Fresh M (listed.setIfInBounds i true)) (hi : i ∉ M) : Fresh M listed := fun j hj => by
 have := h j hj
 rwa [getD_set_ne true (show i ≠ j from fun e => hi (by rw [e]; exact hj))] at this
def lateAny (P : Program) (md : Region.Mode) (ops : Array Oper) (Q : Exit → Act → World → Prop) (M : List Nat) (S : World → Prop) : Nat → Array Bool → Act → World → Prop
 | 0, listed, a, w => Region.ready md ops listed = [] ∧ Q .normal a w
 | f + 1, listed, a, w => (Region.ready md ops listed = [] → Q .normal a w) ∧
   ∀ i ∈ Region.ready md ops listed, wpOp P ops Q i (fun a' w' => (Fresh M (listed.setIfInBounds i true) → S w') ∧ lateAny P md ops Q M S f (listed.setIfInBounds i true) a' w') a w
theorem lateAny.any : ∀ {f : Nat} {listed : Array Bool} {a : Act} {w : World}, lateAny P md ops Q M S f listed a w → wpAny P md ops Q f listed a w
 | 0, _, _, _, h => h
 | f + 1, _, _, _, h => ⟨h.1, fun i hi => wpOp_mono (fun a' w' h' => lateAny.any h'.2) (h.2 i hi)⟩
theorem late_first {i : Nat} {oi : Oper} {v : Value} {T : World → Prop} (hi : ops[i]? = some oi) (hsel : ∀ (j : Nat) (o : Oper) cs b, ops[j]? = some o → o.op ≠ .select cs b)
 (hQ : ∀ c a w, Q (.panic c) (a.put oi.dst v) w → Q (.panic c) a w) (hiM : i ∉ M)
 (hT : (∀ w, T w) ∨ ((∀ w, S w → T w) ∧ ∀ j ∈ M, ∀ oj, ops[j]? = some oj → ∃ e ∈ oj.after, Region.binds md e = true ∧ e.on = i)) :
 ∀ (f : Nat) (listed : Array Bool) (a : Act) (w : World),
   (∀ j oj, ops[j]? = some oj → j ≠ i → listed.getD j true = false → (∀ e ∈ oj.after, Region.binds md e = true → e.on ≠ i) → oi.apart ops oj = true) →
   i ∈ Region.ready md ops listed → YieldsIf P ops T oi v a → (Fresh M listed → S w) → ((∀ w, T w) ∨ Fresh M listed) →
   lateAny P md ops Q M S f (listed.setIfInBounds i true) (a.put oi.dst v) w → lateAny P md ops Q M S (f + 1) listed a w := by
 have now : ∀ {listed : Array Bool} {w : World}, (Fresh M listed → S w) → ((∀ w, T w) ∨ Fresh M listed) → T w := fun {listed w} h1 h2 => by
  rcases h2 with h2 | h2
  ·exact h2 w
  ·rcases hT with h3 | h3
   ·exact h3 w
   ·exact h3.1 w (h1 h2)
 intro f
 induction f with
 | zero =>
   intro listed a w _ hr hy hS hF H
   refine ⟨fun h => absurd hr (by rw [h]; exact List.not_mem_nil), fun j hj => ?_⟩
   by_cases hji : j = i
   ·subst hji; exact hy.wpOp hi (now hS hF) ⟨fun h => hS (h.unset hiM), H⟩
   ·exact absurd (ready_mono hj hji) (by rw [H.1]; exact List.not_mem_nil)
 | succ f ih =>
   intro listed a w hfree hr hy hS hF H
   refine ⟨fun h => absurd hr (by rw [h]; exact List.not_mem_nil), fun j hj => ?_⟩
   by_cases hji : j = i
   ·subst hji; exact hy.wpOp hi (now hS hF) ⟨fun h => hS (h.unset hiM), H⟩
   ·obtain ⟨hjun, oj, hoj, hall⟩ := mem_ready.1 hj
    have hnot : ∀ e ∈ oj.after, Region.binds md e = true → e.on ≠ i := fun e he hb heq => by
     have h1 := hall e he hb
     have h0 := (mem_ready.1 hr).1
     rw [heq] at h1
     rcases Nat.lt_or_ge i listed.size with h' | h'
     ·simp [h'] at h0 h1; rw [h0] at h1; cases h1
     ·simp [Array.getElem?_eq_none h'] at h1
    have step := wpOp_putIf hoj (hfree j oj hoj hji hjun hnot) (fun cs b => hsel i oi cs b hi) (fun cs b => hsel j oj cs b hoj) hQ hy (H.2 j (ready_mono hj hji))
    have hfree' : ∀ k ok, ops[k]? = some ok → k ≠ i → (listed.setIfInBounds j true).getD k true = false →
     (∀ e ∈ ok.after, Region.binds md e = true → e.on ≠ i) → oi.apart ops ok = true := fun k ok hk hki hun hno => by
     refine hfree k ok hk hki ?_ hno
     by_cases hjk : j = k
     ·rw [← hjk]; exact hjun
     ·rwa [getD_set_ne true hjk] at hun
    have hF' : (∀ w, T w) ∨ Fresh M (listed.setIfInBounds j true) := by
     rcases hF with h2 | h2
     ·exact .inl h2
     ·rcases hT with h3 | h3
      ·exact .inl h3
      ·refine .inr (h2.set fun hjM => ?_)
       obtain ⟨e, he, hb, ho⟩ := h3.2 j hjM oj hoj
       exact hnot e he hb ho
    have e1 : (listed.setIfInBounds i true).setIfInBounds j true = (listed.setIfInBounds j true).setIfInBounds i true := Array.setIfInBounds_comm _ _ (Ne.symm hji)
    rw [e1] at step
    exact wpOp_mono (fun a' w' h3 => ⟨fun hFr => h3.2.1 (hFr.set hiM), ih (listed.setIfInBounds j true) a' w' hfree' (ready_mono hr (Ne.symm hji)) h3.1 (fun hFr => h3.2.1 (hFr.set hiM)) hF' h3.2.2⟩) step
def waitsB (md : Region.Mode) (ops : Array Oper) (M : List Nat) (i : Nat) : Bool := M.all fun j => Region.waitsFor md ops j i
theorem late_load {i : Nat} {oi : Oper} {v : Value} {f : Nat} {listed : Array Bool} {a : Act} {w : World} (hi : ops[i]? = some oi)
 (hs : Region.noSelect ops = true) (hf : Region.free md ops listed i = true) (hr : (Region.ready md ops listed).contains i = true) (hM : M.contains i = false) (hw : waitsB md ops M i = true) (hfr : M.all (fun j => !listed.getD j true) = true)
 (hQ : ∀ c a w, Q (.panic c) (a.put oi.dst v) w → Q (.panic c) a w) (hy : YieldsIf P ops S oi v a) (hS : S w)
 (h : lateAny P md ops Q M S f (listed.setIfInBounds i true) (a.put oi.dst v) w) : lateAny P md ops Q M S (f + 1) listed a w := by
 refine late_first (T := S) hi (Region.noSelect_spec hs) hQ (by intro h'; rw [List.contains_eq_mem, decide_eq_false_iff_not] at hM; exact hM h') (.inr ⟨fun _ h => h, fun j hj oj hoj => ?_⟩) f listed a w (Region.free_spec hi hf) (by simpa using hr) hy (fun _ => hS) (.inr fun j hj => ?_) h
 ·have h1 := List.all_eq_true.1 hw j hj
  obtain ⟨oj', h2, e, he, hb, ho⟩ := Region.waitsFor_spec h1
  rw [hoj] at h2
  cases h2
  exact ⟨e, he, hb, ho⟩
 ·have := List.all_eq_true.1 hfr j hj
  simpa using this
theorem late_pure {i : Nat} {oi : Oper} {v : Value} {f : Nat} {listed : Array Bool} {a : Act} {w : World} (hi : ops[i]? = some oi)
 (hs : Region.noSelect ops = true) (hf : Region.free md ops listed i = true) (hr : (Region.ready md ops listed).contains i = true) (hM : M.contains i = false)
 (hQ : ∀ c a w, Q (.panic c) (a.put oi.dst v) w → Q (.panic c) a w) (hy : YieldsIf P ops (fun _ => True) oi v a) (hS : S w)
 (h : lateAny P md ops Q M S f (listed.setIfInBounds i true) (a.put oi.dst v) w) : lateAny P md ops Q M S (f + 1) listed a w :=
 late_first (T := fun _ => True) hi (Region.noSelect_spec hs) hQ (by intro h'; rw [List.contains_eq_mem, decide_eq_false_iff_not] at hM; exact hM h') (.inl fun _ => trivial) f listed a w (Region.free_spec hi hf) (by simpa using hr) hy (fun _ => hS) (.inl fun _ => trivial) h
theorem late_after {i : Nat} {oi : Oper} {v : Value} {f : Nat} {listed : Array Bool} {a : Act} {w : World} (hi : ops[i]? = some oi)
 (hs : Region.noSelect ops = true) (hf : Region.free md ops listed i = true) (hr : (Region.ready md ops listed).contains i = true) (hM : M.contains i = false)
 (hQ : ∀ c a w, Q (.panic c) (a.put oi.dst v) w → Q (.panic c) a w) (hy : YieldsIf P ops (fun _ => True) oi v a) (hfr : M.any (fun j => listed.getD j true) = true)
 (h : lateAny P md ops Q M S f (listed.setIfInBounds i true) (a.put oi.dst v) w) : lateAny P md ops Q M S (f + 1) listed a w :=
 late_first (T := fun _ => True) hi (Region.noSelect_spec hs) hQ (by intro h'; rw [List.contains_eq_mem, decide_eq_false_iff_not] at hM; exact hM h') (.inl fun _ => trivial) f listed a w (Region.free_spec hi hf) (by simpa using hr) hy (fun hF => by
  obtain ⟨j, hj, h2⟩ := List.any_eq_true.1 hfr
  rw [hF j hj] at h2
  cases h2) (.inl fun _ => trivial) h
theorem late_one {i : Nat} {oi : Oper} {f : Nat} {listed : Array Bool} {a : Act} {w w' : World} (hi : ops[i]? = some oi) (hr : Region.ready md ops listed = [i]) (hM : M.contains i = true) (hl : i < listed.size)
 (hw : Region.wanted oi (yielded ops a.tmps) = true) (hrun : (execOp a.eval oi).run P w = .ok .skip w')
 (h : lateAny P md ops Q M S f (listed.setIfInBounds i true) (a.put oi.dst undef) w') : lateAny P md ops Q M S (f + 1) listed a w := by
 refine ⟨fun h0 => absurd (hr.symm.trans h0) (by simp), fun j hj => ?_⟩
 rw [hr] at hj
 obtain rfl : j = i := by simpa using hj
 unfold wpOp
 simp only [hi, hw, if_true]
 refine .inl ?_
 unfold Oper.wp
 rw [hrun]
 refine ⟨fun hF => absurd (hF j (by simpa using hM)) ?_, h⟩
 simp [hl]
theorem late_step {i : Nat} {oi : Oper} {f : Nat} {listed : Array Bool} {a : Act} {w : World} (hi : ops[i]? = some oi) (hr : Region.ready md ops listed = [i]) (hw : Region.wanted oi (yielded ops a.tmps) = true)
 (h : ∀ K' : Act → World → Prop, Shut (∀ a w, (Fresh M (listed.setIfInBounds i true) → S w) → lateAny P md ops Q M S f (listed.setIfInBounds i true) a w → K' a w) → Oper.wp P oi a w K' Q) : lateAny P md ops Q M S (f + 1) listed a w := by
 refine ⟨fun h0 => absurd (hr.symm.trans h0) (by simp), fun j hj => ?_⟩
 rw [hr] at hj
 obtain rfl : j = i := by simpa using hj
 refine wpOp_step hi (fun K' hK => ?_)
 rw [if_pos hw]
 exact h K' (fun a w h1 h2 => hK a w ⟨h1, h2⟩)
theorem lp (i : Nat) {oi : Oper} {v : Value} {f : Nat} {listed l' : Array Bool} {a a' : Act} {w : World} (h : lateAny P md ops Q M S f l' a' w) (hi : ops[i]? = some oi := by simp only [gA, gB, gC]; rfl) (hs : Region.noSelect ops = true := by kernel_rfl)
 (hf : Region.free md ops listed i = true := by kernel_rfl) (hr : (Region.ready md ops listed).contains i = true := by kernel_rfl) (hM : M.contains i = false := by kernel_rfl) (hQ : ∀ c a w, Q (.panic c) (a.put oi.dst v) w → Q (.panic c) a w := by exact fun _ _ _ h => h)
 (hy : YieldsIf P ops (fun _ => True) oi v a := by (refine Or.inl ⟨by rfl, ?_⟩; intro w hSw; (try dsimp only at hSw); go_simp; (try with_reducible rfl))) (hS : S w := by assumption)
 (hl : listed.setIfInBounds i true = l' := by (try simp only [sA, sB, sC]); rfl) (ha : a.put oi.dst v = a' := by (try simp only [Act.put, sA, sB, sC]); rfl) : lateAny P md ops Q M S (f + 1) listed a w := by subst hl ha; exact late_pure hi hs hf hr hM hQ hy hS h
theorem ll (i : Nat) {oi : Oper} {v : Value} {f : Nat} {listed l' : Array Bool} {a a' : Act} {w : World} (h : lateAny P md ops Q M S f l' a' w) (hi : ops[i]? = some oi := by simp only [gA, gB, gC]; rfl) (hs : Region.noSelect ops = true := by kernel_rfl)
 (hf : Region.free md ops listed i = true := by kernel_rfl) (hr : (Region.ready md ops listed).contains i = true := by kernel_rfl) (hM : M.contains i = false := by kernel_rfl) (hD : waitsB md ops M i = true := by kernel_rfl) (hE : M.all (fun j => !listed.getD j true) = true := by kernel_rfl) (hQ : ∀ c a w, Q (.panic c) (a.put oi.dst v) w → Q (.panic c) a w := by exact fun _ _ _ h => h)
 (hy : YieldsIf P ops S oi v a := by (refine Or.inl ⟨by rfl, ?_⟩; intro w hSw; (try dsimp only at hSw); go_simp; (try with_reducible rfl))) (hS : S w := by assumption)
 (hl : listed.setIfInBounds i true = l' := by (try simp only [sA, sB, sC]); rfl) (ha : a.put oi.dst v = a' := by (try simp only [Act.put, sA, sB, sC]); rfl) : lateAny P md ops Q M S (f + 1) listed a w := by subst hl ha; exact late_load hi hs hf hr hM hD hE hQ hy hS h
theorem late_done {listed : Array Bool} {a : Act} {w : World} (hr : Region.ready md ops listed = []) (h : Q .normal a w) : ∀ f, lateAny P md ops Q M S f listed a w
 | 0 => ⟨hr, h⟩
 | _ + 1 => ⟨fun _ => h, fun i hi => absurd hi (by rw [hr]; exact List.not_mem_nil)⟩
theorem late_begin {id : Nat} {a : Act} {w : World} (hm : P.follows .mixedOrders = true) (h : lateAny P .any ops Q M S ops.size (Array.replicate ops.size false) a w.drew) : (Code.region id ops true).wp P Q a w :=
 wp_region_any hm h.any
end
end Go.Proofs.Ytgohdmnbnhehnaa
