import Derived.Test.YthjjfkeacobikaaGreatMkAllG0
import Derived.Test.YthjjfkeacobikaaGreatMkAllG2
import Derived.Test.YthjjfkeacobikaaGreatMkAllG1
namespace Go.Proofs.YthjjfkeacobikaaGreat
set_option linter.unusedVariables false
def gI (a b : Int) : Int := (Int.gcd a b : Int)
theorem gI_step (a b : Int) : gI b (a.tmod b) = gI a b := by
 unfold gI Int.gcd
 rw [Int.natAbs_tmod, Nat.gcd_comm b.natAbs, ← Nat.gcd_rec, Nat.gcd_comm]
theorem gI_zero (a : Int) : gI a 0 = (a.natAbs : Int) := by simp [gI]
theorem gI_negl (a b : Int) : gI (-a) b = gI a b := by simp [gI, Int.gcd]
theorem gI_negr (a b : Int) : gI a (-b) = gI a b := by simp [gI, Int.gcd]
theorem gI_pos (a : Int) {b : Int} (h : b ≠ 0) : 1 ≤ gI a b := by
 unfold gI
 have : 0 < Int.gcd a b := Int.gcd_pos_of_ne_zero_right a h
 omega
theorem gI_le (a : Int) {b : Int} (h : b ≠ 0) : gI a b ≤ b.natAbs := by
 unfold gI Int.gcd
 exact_mod_cast Nat.gcd_le_right _ (by omega)
theorem gI_dvdl (a b : Int) : gI a b ∣ a := Int.gcd_dvd_left ..
theorem gI_dvdr (a b : Int) : gI a b ∣ b := Int.gcd_dvd_right ..
def valR (p : Int × Int) : Bool := inB p.2 1 1000000000 && (inB p.1 (-1000000000) 1000000000 && decide (gI p.1 p.2 = 1))
theorem valR_bd {p : Int × Int} (h : valR p = true) : 1 ≤ p.2 ∧ p.2 ≤ 1000000000 ∧ -1000000000 ≤ p.1 ∧ p.1 ≤ 1000000000 := by
 simp only [valR, inB, Bool.and_eq_true, decide_eq_true_eq] at h
 omega
theorem valR_neg (x y : Int) : valR (-x, y) = valR (x, y) := by
 have h1 : inB (-x) (-1000000000) 1000000000 = inB x (-1000000000) 1000000000 := by
  unfold inB
  have e1 : decide (-1000000000 ≤ -x) = decide (x ≤ 1000000000) := by by_cases h : x ≤ 1000000000 <;> simp [h] <;> omega
  have e2 : decide (-x ≤ 1000000000) = decide (-1000000000 ≤ x) := by by_cases h : -1000000000 ≤ x <;> simp [h] <;> omega
  rw [e1, e2, Bool.and_comm]
 simp only [valR, gI_negl, h1]
def cutR (p : Int × Int) : (Int × Int) × Bool := if valR p = true then (p, true) else ((0, 0), false)
def ratOf (n d : Int) : (Int × Int) × Bool :=
 if d = 0 ∨ inB n (-1000000000000000000) 1000000000000000000 = false ∨ inB d (-1000000000000000000) 1000000000000000000 = false then ((0, 0), false)
 else if d < 0 then cutR (n.tdiv (-gI n d), d.tdiv (-gI n d)) else cutR (n.tdiv (gI n d), d.tdiv (gI n d))
theorem cutR_val {p : Int × Int} (h : (cutR p).2 = true) : valR (cutR p).1 = true := by
 unfold cutR at h ⊢
 split at h
 ·next h1 => rw [if_pos h1]; exact h1
 ·simp at h
theorem ratOf_val {n d : Int} (h : (ratOf n d).2 = true) : valR (ratOf n d).1 = true := by
 unfold ratOf at h ⊢
 split at h
 ·simp at h
 ·next h1 =>
  rw [if_neg h1]
  split at h
  ·next h2 => rw [if_pos h2]; exact cutR_val h
  ·next h2 => rw [if_neg h2]; exact cutR_val h
theorem ratOf_no {n d : Int} (h : (ratOf n d).2 = false) : (ratOf n d).1 = (0, 0) := by
 unfold ratOf cutR at h ⊢
 split at h
 ·next h1 => rw [if_pos h1]
 ·next h1 =>
  rw [if_neg h1]
  split at h
  ·next h2 =>
   rw [if_pos h2]
   split at h
   ·simp at h
   ·next h3 => rw [if_neg h3]
  ·next h2 =>
   rw [if_neg h2]
   split at h
   ·simp at h
   ·next h3 => rw [if_neg h3]
theorem gI_cancel (n d : Int) (hd : 0 < d) : gI (n.tdiv (gI n d)) (d.tdiv (gI n d)) = 1 := by
 have hg := gI_pos n (show d ≠ 0 by omega)
 obtain ⟨k, hk⟩ := gI_dvdl n d
 obtain ⟨m, hm⟩ := gI_dvdr n d
 have h1 : n.tdiv (gI n d) = k := by conv => lhs; arg 1; rw [hk]
                                     exact Int.mul_tdiv_cancel_left _ (by omega)
 have h2 : d.tdiv (gI n d) = m := by conv => lhs; arg 1; rw [hm]
                                     exact Int.mul_tdiv_cancel_left _ (by omega)
 rw [h1, h2]
 have h3 : gI (gI n d * k) (gI n d * m) = gI n d := by rw [← hk, ← hm]
 have h4 : gI (gI n d * k) (gI n d * m) = gI n d * gI k m := by
  show ((Int.gcd _ _ : Nat) : Int) = _
  rw [Int.gcd_mul_left]
  have : ((gI n d).natAbs : Int) = gI n d := by omega
  rw [Int.natCast_mul, this]
  rfl
 rw [h3] at h4
 have h5 : gI n d * 1 = gI n d * gI k m := by omega
 have := Int.eq_of_mul_eq_mul_left (by omega) h5
 omega
theorem tdiv_abs (n g : Int) (hg : 1 ≤ g) : (n.tdiv g).natAbs ≤ n.natAbs := by
 rw [Int.natAbs_tdiv]
 exact Nat.div_le_self _ _
theorem ratOf_ok {n d : Int} (hd : 1 ≤ d) (hd' : d ≤ 1000000000) (h : -1000000000 ≤ n) (h' : n ≤ 1000000000) : (ratOf n d).2 = true := by
 have hg := gI_pos n (show d ≠ 0 by omega)
 have hgl := gI_le n (show d ≠ 0 by omega)
 unfold ratOf
 rw [if_neg (by simp [inB]; omega), if_neg (by omega)]
 unfold cutR
 have h1 := tdiv_abs n (gI n d) hg
 have h2 := tdiv_abs d (gI n d) hg
 have h3 : 1 ≤ d.tdiv (gI n d) := by
  obtain ⟨m, hm⟩ := gI_dvdr n d
  have h2 : d.tdiv (gI n d) = m := by conv => lhs; arg 1; rw [hm]
                                      exact Int.mul_tdiv_cancel_left _ (by omega)
  rw [h2]
  rcases Int.lt_or_le 0 m with h | h
  ·omega
  ·have : gI n d * m ≤ 0 := Int.mul_nonpos_of_nonneg_of_nonpos (by omega) h
   omega
 rw [if_pos]
 simp only [valR, inB, gI_cancel n d (by omega), Bool.and_eq_true, decide_eq_true_eq, and_true]
 omega
def addR (a b : Int × Int) : (Int × Int) × Bool := if (valR a && valR b) = true then ratOf (a.1 * b.2 + b.1 * a.2) (a.2 * b.2) else ((0, 0), false)
def subR (a b : Int × Int) : (Int × Int) × Bool := if (valR a && valR b) = true then ratOf (a.1 * b.2 - b.1 * a.2) (a.2 * b.2) else ((0, 0), false)
def mulR (a b : Int × Int) : (Int × Int) × Bool := if (valR a && valR b) = true then ratOf (a.1 * b.1) (a.2 * b.2) else ((0, 0), false)
def divR (a b : Int × Int) : (Int × Int) × Bool := if (valR a && valR b) = true then ratOf (a.1 * b.2) (a.2 * b.1) else ((0, 0), false)
def cmpR (a b : Int × Int) : Int := if (valR a && valR b) = true then (if a.1 * b.2 < b.1 * a.2 then -1 else if b.1 * a.2 < a.1 * b.2 then 1 else 0) else 0
theorem subR_add (a b : Int × Int) : addR a (-b.1, b.2) = subR a b := by
 unfold addR subR
 rw [valR_neg, Int.neg_mul, ← Int.sub_eq_add_neg]
theorem mul_bd {x y : Int} (h1 : -1000000000 ≤ x) (h2 : x ≤ 1000000000) (h3 : -1000000000 ≤ y) (h4 : y ≤ 1000000000) : -1000000000000000000 ≤ x * y ∧ x * y ≤ 1000000000000000000 := by
 have hx : x.natAbs ≤ 1000000000 := by omega
 have hy : y.natAbs ≤ 1000000000 := by omega
 have h : (x * y).natAbs ≤ 1000000000 * 1000000000 := by
  rw [Int.natAbs_mul]
  exact Nat.mul_le_mul hx hy
 omega
def SimR (n : Nat) (a b : List Int) : Prop := ∃ u v : Int, u ≠ 0 ∧ v ≠ 0 ∧ ∀ j, j < n → u * a[j]?.getD 0 = v * b[j]?.getD 0
structure SimM (n : Nat) (M K : List (List Int)) : Prop where
 len : M.length = K.length
 row : ∀ i, i < M.length → SimR n (M[i]?.getD []) (K[i]?.getD [])
open Go.RowKit
structure Mat (w : World) (base : Nat) (a : Option Addr) (N cap : Nat) (vs : List Value) (M : List (List Int)) : Prop where
 own : OwnV w base (.slice a N cap) vs
 rows : RowsI w base vs M
theorem Mat.vlen {w : World} {base : Nat} {a : Option Addr} {N cap : Nat} {vs : List Value} {M : List (List Int)} (h : Mat w base a N cap vs M) : vs.length = N := h.own.len
theorem Mat.len {w : World} {base : Nat} {a : Option Addr} {N cap : Nat} {vs : List Value} {M : List (List Int)} (h : Mat w base a N cap vs M) : M.length = N := by rw [← h.rows.len]; exact h.own.len
theorem Mat.keep {w w' : World} {base : Nat} {a : Option Addr} {N cap : Nat} {vs : List Value} {M : List (List Int)} (h : Mat w base a N cap vs M) (h0 : ∀ k, (Value.slice a N cap).ownBlock = some k → w'.heap[k]? = w.heap[k]?)
 (h1 : ∀ i k, i < N → (vs[i]?.getD undef).ownBlock = some k → w'.heap[k]? = w.heap[k]?) : Mat w' base a N cap vs M :=
 ⟨h.own.keep h0, h.rows.keep fun i k hi hk => h1 i k (by rw [← h.len]; exact hi) hk⟩
theorem Mat.ext {w w' : World} {base : Nat} {a : Option Addr} {N cap : Nat} {vs : List Value} {M : List (List Int)} (h : Mat w base a N cap vs M) (hx : Ext w w') : Mat w' base a N cap vs M := ⟨h.own.ext hx, h.rows.ext hx⟩
theorem Mat.intss {w : World} {base : Nat} {a : Option Addr} {N cap : Nat} {vs : List Value} {M : List (List Int)} (h : Mat w base a N cap vs M) : IntSS w a N cap M :=
 OwnSS.intss ⟨vs, h.own, h.rows⟩
theorem Mat.outer {w : World} {base : Nat} {a : Option Addr} {N cap : Nat} {vs : List Value} {M : List (List Int)} (h : Mat w base a N cap vs M) (hN : 0 < N) : ∃ G, a = some ⟨G, 0, none⟩ ∧ base ≤ G ∧ G < w.heap.size ∧ ∀ j, w.frozen? ⟨G, j, none⟩ = false := by
 rcases h.own.2 with ⟨he, h0⟩ | ⟨g, cap', cur, he, hb, hg, _⟩
 ·simp only [Value.slice.injEq] at he
  omega
 ·simp only [Value.slice.injEq] at he
  obtain ⟨rfl, _⟩ := he
  exact ⟨g, rfl, hb, lt_of_block hg, fun j => frozen_of_row w g j cur _ hg⟩
theorem Mat.row {w : World} {base G N cap : Nat} {vs : List Value} {M : List (List Int)} (h : Mat w base (some ⟨G, 0, none⟩) N cap vs M) {i n : Nat} (hi : i < N) (hn : (M[i]?.getD []).length = n) (h1 : 1 ≤ n) :
 ∃ g c, vs[i]?.getD undef = .slice (some ⟨g, 0, none⟩) n c ∧ w.cell? ⟨G, i, none⟩ = some (.slice (some ⟨g, 0, none⟩) n c) ∧ OwnI w base (.slice (some ⟨g, 0, none⟩) n c) (M[i]?.getD []) ∧ g ≠ G ∧ base ≤ g ∧ g < w.heap.size ∧ n ≤ c ∧ c ≤ 9223372036854775807 := by
 have hr := h.rows.row i (by rw [h.len]; exact hi)
 obtain ⟨a', c, he, hc1, hc2⟩ := hr.form
 rw [he] at hr
 rw [hn] at he hr hc1
 obtain ⟨g, rfl, hb, _, hgl⟩ := hr.block (k := 0) (by omega)
 obtain ⟨G', hG, _, hc⟩ := h.own.cell hi
 simp only [Option.some.injEq, Addr.mk.injEq, and_true] at hG
 subst hG
 refine ⟨g, c, he, ?_, hr, fun e => hr.apart h.own g rfl (by subst e; rfl), hb, hgl, hc1, hc2⟩
 rw [hc i hi, ← he]
 have : i < vs.length := by rw [h.vlen]; exact hi
 simp [this]
theorem Mat.inrow {w : World} {base G N cap : Nat} {vs : List Value} {M : List (List Int)} (h : Mat w base (some ⟨G, 0, none⟩) N cap vs M) {i n g c : Nat} (hi : i < N) (hv : vs[i]?.getD undef = .slice (some ⟨g, 0, none⟩) n c) (j : Nat) (x : Int) :
 Mat (w.setCell ⟨g, j, none⟩ (.int .i64 x)) base (some ⟨G, 0, none⟩) N cap vs (M.set i ((M[i]?.getD []).set j x)) := by
 have hil : i < M.length := by rw [h.len]; exact hi
 have hr := h.rows.row i hil
 rw [hv] at hr
 have hgG : g ≠ G := fun e => hr.apart h.own g rfl (by subst e; rfl)
 refine ⟨h.own.keep fun k hk => heap_setCell_other _ _ _ _ (by simp only [Value.ownBlock, Option.some.injEq] at hk; show k ≠ g; omega), ?_⟩
 refine ⟨by rw [List.length_set]; exact h.rows.len, fun k hk => ?_, fun a b k hab hb => h.rows.apart a b k hab (by rw [List.length_set] at hb; exact hb)⟩
 rw [List.length_set] at hk
 by_cases hki : k = i
 ·subst hki
  rw [hv, List.getElem?_set_self hil]
  exact hr.set j x
 ·rw [List.getElem?_set_ne (Ne.symm hki)]
  refine (h.rows.row k hk).keep fun b hb => heap_setCell_other _ _ _ _ fun e => ?_
  subst e
  rcases Nat.lt_or_gt_of_ne hki with hlt | hlt
  ·exact h.rows.apart k i _ hlt hil hb (by rw [hv]; rfl)
  ·exact h.rows.apart i k _ hlt hk (by rw [hv]; rfl) hb
theorem RowsI.apart' {w : World} {base : Nat} {vs : List Value} {L : List (List Int)} (h : RowsI w base vs L) {i j k : Nat} (hij : i ≠ j) (hi : i < L.length) (hj : j < L.length) (hk : (vs[i]?.getD undef).ownBlock = some k) : (vs[j]?.getD undef).ownBlock ≠ some k := by
 rcases Nat.lt_or_gt_of_ne hij with h1 | h1
 ·exact h.apart i j k h1 hj hk
 ·exact fun e => h.apart j i k h1 hi e hk
theorem RowsI.grownV {w w' : World} {base base' : Nat} {v : Value} {vs : List Value} {L : List (List Int)} (h : RowsI w base vs L) {us : List Value} (hv : OwnV w base' v us) (hg : w.grownBy w' v.ownBlock) : RowsI w' base vs L :=
 h.keep fun i k hi hk => hg.block k ((h.row i hi).lt k hk).2 fun e => (h.row i hi).apart hv k hk e.symm
structure Enc (α : Type) where
 enc : α → List Value
 c : Nat
 hc : ∀ x, (enc x).length = c
 pos : 0 < c
 one : ∀ x, ∀ u ∈ enc x, u.oneCell' = true
def Enc.all {α : Type} (E : Enc α) (l : List α) : List Value := l.flatMap E.enc
structure Slc {α : Type} (E : Enc α) (w : World) (a : Option Addr) (n cap : Nat) (l : List α) : Prop where
 hlen : l.length = n
 hcap : n ≤ cap
 hmax : cap ≤ 9223372036854775807
 cell : ∀ k, k < n → ∃ b off, a = some ⟨b, off, none⟩ ∧ ∀ k x j v, l[k]? = some x → (E.enc x)[j]? = some v → w.cell? ⟨b, off + k * E.c + j, none⟩ = some v
def OwnG {α : Type} (E : Enc α) (t : TypeId) (w : World) (base : Nat) (v : Value) (l : List α) : Prop := w.ownsRow base t E.c v l.length (E.all l)
section
variable {α : Type} {E : Enc α} {t : TypeId} {w : World} {base : Nat} {l : List α}
theorem ownsRow_apart {w : World} {base base' : Nat} {e e' : TypeId} {s s' : Nat} {v v' : Value} {n n' : Nat} {xs xs' : List Value} (hne : e ≠ e') (h : w.ownsRow base e s v n xs) (h' : w.ownsRow base' e' s' v' n' xs') : ∀ k, v.ownBlock = some k → v'.ownBlock ≠ some k := by
 intro k hk hk'
 rcases h.2 with ⟨rfl, _⟩ | ⟨g, cap, cur, rfl, _, hg, _⟩
 ·simp [Value.ownBlock] at hk
 ·rcases h'.2 with ⟨rfl, _⟩ | ⟨g', cap', cur', rfl, _, hg', _⟩
  ·simp [Value.ownBlock] at hk'
  ·simp only [Value.ownBlock, Option.some.injEq] at hk hk'
   subst hk hk'
   rw [hg] at hg'
   simp only [Option.some.injEq, Obj.cells.injEq] at hg'
   exact hne hg'.2.1
theorem ownsRow_ne {w : World} {base g : Nat} {e e' : TypeId} {s : Nat} {v : Value} {n : Nat} {xs : List Value} {c : Array Value} {z : Nat × Nat} (h : w.ownsRow base e s v n xs) (hb : w.heap[g]? = some (.cells c e' z)) (hne : e ≠ e') : some g ≠ v.ownBlock := by
 intro hk
 rcases h.2 with ⟨rfl, _⟩ | ⟨g', cap, cur, rfl, _, hg, _⟩
 ·simp [Value.ownBlock] at hk
 ·simp only [Value.ownBlock, Option.some.injEq] at hk
  subst hk
  rw [hg] at hb
  simp only [Option.some.injEq, Obj.cells.injEq] at hb
  exact hne hb.2.1
end
section
variable {α : Type} {E : Enc α} {t : TypeId} {P : Program} {w : World} {ops : Array Oper} {rest : List Oper} {o : Oper} {a : Act} {Q : Exit → Act → World → Prop}
end
end Go.Proofs.YthjjfkeacobikaaGreat
