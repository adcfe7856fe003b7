import Derived.Test.YtgohdmnbnhehnaaShAllG0
import Derived.Test.YtgohdmnbnhehnaaShAllG2
import Derived.Test.YtgohdmnbnhehnaaShAllG1
namespace Go.Proofs.Ytgohdmnbnhehnaa
set_option linter.unusedVariables false
def gI (a b : Int) : Int := (Int.gcd a b : Int)
theorem gI_step (a b : Int) : gI b (a.tmod b) = gI a b := by
  unfold gI Int.gcd
  rw [Int.natAbs_tmod, Nat.gcd_comm b.natAbs, ← Nat.gcd_rec, Nat.gcd_comm]
theorem gI_zero (a : Int) : gI a 0 = (a.natAbs : Int) := by simp [gI]
theorem gI_negl (a b : Int) : gI (-a) b = gI a b := by simp [gI, Int.gcd]
theorem gI_negr (a b : Int) : gI a (-b) = gI a b := by simp [gI, Int.gcd]
theorem gI_pos (a : Int) {b : Int} (h : b ≠ 0) : 1 ≤ gI a b := by
  unfold gI
  have : 0 < Int.gcd a b := Int.gcd_pos_of_ne_zero_right a h
  omega
theorem gI_le (a : Int) {b : Int} (h : b ≠ 0) : gI a b ≤ b.natAbs := by
  unfold gI Int.gcd
  exact_mod_cast Nat.gcd_le_right _ (by omega)
theorem gI_dvdl (a b : Int) : gI a b ∣ a := Int.gcd_dvd_left ..
theorem gI_dvdr (a b : Int) : gI a b ∣ b := Int.gcd_dvd_right ..
def valR (p : Int × Int) : Bool := inB p.2 1 1000000000 && (inB p.1 (-1000000000) 1000000000 && decide (gI p.1 p.2 = 1))
theorem valR_bd {p : Int × Int} (h : valR p = true) : 1 ≤ p.2 ∧ p.2 ≤ 1000000000 ∧ -1000000000 ≤ p.1 ∧ p.1 ≤ 1000000000 := by
  simp only [valR, inB, Bool.and_eq_true, decide_eq_true_eq] at h
  omega
theorem valR_neg (x y : Int) : valR (-x, y) = valR (x, y) := by
  have h1 : inB (-x) (-1000000000) 1000000000 = inB x (-1000000000) 1000000000 := by
    unfold inB
    have e1 : decide (-1000000000 ≤ -x) = decide (x ≤ 1000000000) := by by_cases h : x ≤ 1000000000 <;> simp [h] <;> omega
    have e2 : decide (-x ≤ 1000000000) = decide (-1000000000 ≤ x) := by by_cases h : -1000000000 ≤ x <;> simp [h] <;> omega
    rw [e1, e2, Bool.and_comm]
  simp only [valR, gI_negl, h1]
def cutR (p : Int × Int) : (Int × Int) × Bool := if valR p = true then (p, true) else ((0, 0), false)
def ratOf (n d : Int) : (Int × Int) × Bool :=
  if d = 0 ∨ inB n (-1000000000000000000) 1000000000000000000 = false ∨ inB d (-1000000000000000000) 1000000000000000000 = false then ((0, 0), false)
  else if d < 0 then cutR (n.tdiv (-gI n d), d.tdiv (-gI n d)) else cutR (n.tdiv (gI n d), d.tdiv (gI n d))
theorem cutR_val {p : Int × Int} (h : (cutR p).2 = true) : valR (cutR p).1 = true := by
  unfold cutR at h ⊢
  split at h
  · next h1 => rw [if_pos h1]; exact h1
  · simp at h
theorem ratOf_val {n d : Int} (h : (ratOf n d).2 = true) : valR (ratOf n d).1 = true := by
  unfold ratOf at h ⊢
  split at h
  · simp at h
  · next h1 =>
    rw [if_neg h1]
    split at h
    · next h2 => rw [if_pos h2]; exact cutR_val h
    · next h2 => rw [if_neg h2]; exact cutR_val h
theorem gI_cancel (n d : Int) (hd : 0 < d) : gI (n.tdiv (gI n d)) (d.tdiv (gI n d)) = 1 := by
  have hg := gI_pos n (show d ≠ 0 by omega)
  obtain ⟨k, hk⟩ := gI_dvdl n d
  obtain ⟨m, hm⟩ := gI_dvdr n d
  have h1 : n.tdiv (gI n d) = k := by conv => lhs; arg 1; rw [hk]
                                      exact Int.mul_tdiv_cancel_left _ (by omega)
  have h2 : d.tdiv (gI n d) = m := by conv => lhs; arg 1; rw [hm]
                                      exact Int.mul_tdiv_cancel_left _ (by omega)
  rw [h1, h2]
  have h3 : gI (gI n d * k) (gI n d * m) = gI n d := by rw [← hk, ← hm]
  have h4 : gI (gI n d * k) (gI n d * m) = gI n d * gI k m := by
    show ((Int.gcd _ _ : Nat) : Int) = _
    rw [Int.gcd_mul_left]
    have : ((gI n d).natAbs : Int) = gI n d := by omega
    rw [Int.natCast_mul, this]
    rfl
  rw [h3] at h4
  have h5 : gI n d * 1 = gI n d * gI k m := by omega
  have := Int.eq_of_mul_eq_mul_left (by omega) h5
  omega
theorem tdiv_abs (n g : Int) (hg : 1 ≤ g) : (n.tdiv g).natAbs ≤ n.natAbs := by
  rw [Int.natAbs_tdiv]
  exact Nat.div_le_self _ _
theorem ratOf_ok {n d : Int} (hd : 1 ≤ d) (hd' : d ≤ 1000000000) (h : -1000000000 ≤ n) (h' : n ≤ 1000000000) : (ratOf n d).2 = true := by
  have hg := gI_pos n (show d ≠ 0 by omega)
  have hgl := gI_le n (show d ≠ 0 by omega)
  unfold ratOf
  rw [if_neg (by simp [inB]; omega), if_neg (by omega)]
  unfold cutR
  have h1 := tdiv_abs n (gI n d) hg
  have h2 := tdiv_abs d (gI n d) hg
  have h3 : 1 ≤ d.tdiv (gI n d) := by
    obtain ⟨m, hm⟩ := gI_dvdr n d
    have h2 : d.tdiv (gI n d) = m := by conv => lhs; arg 1; rw [hm]
                                        exact Int.mul_tdiv_cancel_left _ (by omega)
    rw [h2]
    rcases Int.lt_or_le 0 m with h | h
    · omega
    · have : gI n d * m ≤ 0 := Int.mul_nonpos_of_nonneg_of_nonpos (by omega) h
      omega
  rw [if_pos]
  simp only [valR, inB, gI_cancel n d (by omega), Bool.and_eq_true, decide_eq_true_eq, and_true]
  omega
def addR (a b : Int × Int) : (Int × Int) × Bool := if (valR a && valR b) = true then ratOf (a.1 * b.2 + b.1 * a.2) (a.2 * b.2) else ((0, 0), false)
def subR (a b : Int × Int) : (Int × Int) × Bool := if (valR a && valR b) = true then ratOf (a.1 * b.2 - b.1 * a.2) (a.2 * b.2) else ((0, 0), false)
def mulR (a b : Int × Int) : (Int × Int) × Bool := if (valR a && valR b) = true then ratOf (a.1 * b.1) (a.2 * b.2) else ((0, 0), false)
def divR (a b : Int × Int) : (Int × Int) × Bool := if (valR a && valR b) = true then ratOf (a.1 * b.2) (a.2 * b.1) else ((0, 0), false)
def cmpR (a b : Int × Int) : Int := if (valR a && valR b) = true then (if a.1 * b.2 < b.1 * a.2 then -1 else if b.1 * a.2 < a.1 * b.2 then 1 else 0) else 0
theorem subR_add (a b : Int × Int) : addR a (-b.1, b.2) = subR a b := by
  unfold addR subR
  rw [valR_neg, Int.neg_mul, ← Int.sub_eq_add_neg]
theorem mul_bd {x y : Int} (h1 : -1000000000 ≤ x) (h2 : x ≤ 1000000000) (h3 : -1000000000 ≤ y) (h4 : y ≤ 1000000000) : -1000000000000000000 ≤ x * y ∧ x * y ≤ 1000000000000000000 := by
  have hx : x.natAbs ≤ 1000000000 := by omega
  have hy : y.natAbs ≤ 1000000000 := by omega
  have h : (x * y).natAbs ≤ 1000000000 * 1000000000 := by
    rw [Int.natAbs_mul]
    exact Nat.mul_le_mul hx hy
  omega
end Go.Proofs.Ytgohdmnbnhehnaa
namespace Go.Proofs.Ytgohdmnbnhehnaa
set_option linter.unusedVariables false
def swp {α : Type} [Inhabited α] (l : List α) (a b : Nat) : List α := (l.set a (l[b]?.getD default)).set b (l[a]?.getD default)
theorem swp_len {α : Type} [Inhabited α] (l : List α) (a b : Nat) : (swp l a b).length = l.length := by simp [swp]
theorem swp_at {α : Type} [Inhabited α] {l : List α} {a b : Nat} (ha : a < l.length) (hb : b < l.length) (i : Nat) : (swp l a b)[i]?.getD default = if i = b then l[a]?.getD default else if i = a then l[b]?.getD default else l[i]?.getD default := by
  unfold swp
  by_cases h1 : i = b
  · subst h1; rw [if_pos rfl]; simp [hb]
  · rw [if_neg h1, List.getElem?_set_ne (Ne.symm h1)]
    by_cases h2 : i = a
    · subst h2; rw [if_pos rfl]; simp [ha]
    · rw [if_neg h2, List.getElem?_set_ne (Ne.symm h2)]
def SimR (n : Nat) (a b : List Int) : Prop := ∃ u v : Int, u ≠ 0 ∧ v ≠ 0 ∧ ∀ j, j < n → u * a[j]?.getD 0 = v * b[j]?.getD 0
theorem SimR.refl (n : Nat) (a : List Int) : SimR n a a := ⟨1, 1, by omega, by omega, fun _ _ => rfl⟩
theorem SimR.zero {n : Nat} {a b : List Int} (h : SimR n a b) {j : Nat} (hj : j < n) : a[j]?.getD 0 = 0 ↔ b[j]?.getD 0 = 0 := by
  obtain ⟨u, v, hu, hv, h⟩ := h
  have := h j hj
  constructor
  · intro e; rw [e, Int.mul_zero] at this
    rcases Int.mul_eq_zero.1 this.symm with h | h
    · exact absurd h hv
    · exact h
  · intro e; rw [e, Int.mul_zero] at this
    rcases Int.mul_eq_zero.1 this with h | h
    · exact absurd h hu
    · exact h
structure SimM (n : Nat) (M K : List (List Int)) : Prop where
  len : M.length = K.length
  row : ∀ i, i < M.length → SimR n (M[i]?.getD []) (K[i]?.getD [])
end Go.Proofs.Ytgohdmnbnhehnaa
namespace Go.Proofs.Ytgohdmnbnhehnaa
set_option linter.unusedVariables false
open Go.RowKit
structure Mat (w : World) (base : Nat) (a : Option Addr) (N cap : Nat) (vs : List Value) (M : List (List Int)) : Prop where
  own : OwnV w base (.slice a N cap) vs
  rows : RowsI w base vs M
theorem Mat.vlen {w : World} {base : Nat} {a : Option Addr} {N cap : Nat} {vs : List Value} {M : List (List Int)} (h : Mat w base a N cap vs M) : vs.length = N := h.own.len
theorem Mat.len {w : World} {base : Nat} {a : Option Addr} {N cap : Nat} {vs : List Value} {M : List (List Int)} (h : Mat w base a N cap vs M) : M.length = N := by rw [← h.rows.len]; exact h.own.len
theorem Mat.cap {w : World} {base : Nat} {a : Option Addr} {N cap : Nat} {vs : List Value} {M : List (List Int)} (h : Mat w base a N cap vs M) : N ≤ cap ∧ cap ≤ 9223372036854775807 := by
  obtain ⟨a', c', he, h1, h2⟩ := h.own.form
  simp only [Value.slice.injEq] at he
  obtain ⟨_, h3, rfl⟩ := he
  exact ⟨by omega, h2⟩
theorem Mat.keep {w w' : World} {base : Nat} {a : Option Addr} {N cap : Nat} {vs : List Value} {M : List (List Int)} (h : Mat w base a N cap vs M) (h0 : ∀ k, (Value.slice a N cap).ownBlock = some k → w'.heap[k]? = w.heap[k]?)
    (h1 : ∀ i k, i < N → (vs[i]?.getD undef).ownBlock = some k → w'.heap[k]? = w.heap[k]?) : Mat w' base a N cap vs M :=
  ⟨h.own.keep h0, h.rows.keep fun i k hi hk => h1 i k (by rw [← h.len]; exact hi) hk⟩
theorem Mat.ext {w w' : World} {base : Nat} {a : Option Addr} {N cap : Nat} {vs : List Value} {M : List (List Int)} (h : Mat w base a N cap vs M) (hx : Ext w w') : Mat w' base a N cap vs M := ⟨h.own.ext hx, h.rows.ext hx⟩
theorem Mat.outer {w : World} {base : Nat} {a : Option Addr} {N cap : Nat} {vs : List Value} {M : List (List Int)} (h : Mat w base a N cap vs M) (hN : 0 < N) : ∃ G, a = some ⟨G, 0, none⟩ ∧ base ≤ G ∧ G < w.heap.size ∧ ∀ j, w.frozen? ⟨G, j, none⟩ = false := by
  rcases h.own.2 with ⟨he, h0⟩ | ⟨g, cap', cur, he, hb, hg, _⟩
  · simp only [Value.slice.injEq] at he
    omega
  · simp only [Value.slice.injEq] at he
    obtain ⟨rfl, _⟩ := he
    exact ⟨g, rfl, hb, lt_of_block hg, fun j => frozen_of_row w g j cur _ hg⟩
theorem Mat.row {w : World} {base G N cap : Nat} {vs : List Value} {M : List (List Int)} (h : Mat w base (some ⟨G, 0, none⟩) N cap vs M) {i n : Nat} (hi : i < N) (hn : (M[i]?.getD []).length = n) (h1 : 1 ≤ n) :
    ∃ g c, vs[i]?.getD undef = .slice (some ⟨g, 0, none⟩) n c ∧ w.cell? ⟨G, i, none⟩ = some (.slice (some ⟨g, 0, none⟩) n c) ∧ OwnI w base (.slice (some ⟨g, 0, none⟩) n c) (M[i]?.getD []) ∧ g ≠ G ∧ base ≤ g ∧ g < w.heap.size ∧ n ≤ c ∧ c ≤ 9223372036854775807 := by
  have hr := h.rows.row i (by rw [h.len]; exact hi)
  obtain ⟨a', c, he, hc1, hc2⟩ := hr.form
  rw [he] at hr
  rw [hn] at he hr hc1
  obtain ⟨g, rfl, hb, _, hgl⟩ := hr.block (k := 0) (by omega)
  obtain ⟨G', hG, _, hc⟩ := h.own.cell hi
  simp only [Option.some.injEq, Addr.mk.injEq, and_true] at hG
  subst hG
  refine ⟨g, c, he, ?_, hr, fun e => hr.apart h.own g rfl (by subst e; rfl), hb, hgl, hc1, hc2⟩
  rw [hc i hi, ← he]
  have : i < vs.length := by rw [h.vlen]; exact hi
  simp [this]
theorem Mat.put {w0 w : World} {base G N cap : Nat} {vs : List Value} {M : List (List Int)} (h : Mat w0 base (some ⟨G, 0, none⟩) N cap vs M) (hx : Ext w0 w) (hb : base ≤ w0.heap.size) {v : Value} {l : List Int} (ho : OwnI w w0.heap.size v l) {i : Nat} (hi : i < N) :
    Mat (w.setCell ⟨G, i, none⟩ v) base (some ⟨G, 0, none⟩) N cap (vs.set i v) (M.set i l) := by
  have hil : i < M.length := by rw [h.len]; exact hi
  have hvl : i < vs.length := by rw [h.vlen]; exact hi
  have hW := h.ext hx
  obtain ⟨G', hG, hbG, hGl, _⟩ := h.outer (by omega)
  simp only [Option.some.injEq, Addr.mk.injEq, and_true] at hG
  subst hG
  have hother : ∀ k, k ≠ G → (w.setCell ⟨G, i, none⟩ v).heap[k]? = w.heap[k]? := fun k hk => heap_setCell_other _ _ _ _ hk
  refine ⟨?_, ⟨by rw [List.length_set, List.length_set]; exact h.rows.len, fun k hk => ?_, fun a b k hab hb2 hk hk2 => ?_⟩⟩
  · have ho := hW.own
    unfold OwnV at ho
    rw [hW.vlen] at ho
    have := (World.ownsRow.stored ho i v).1
    unfold OwnV
    rw [List.length_set, hW.vlen]
    exact this
  · rw [List.length_set] at hk
    by_cases hki : k = i
    · subst hki
      rw [List.getElem?_set_self hvl, List.getElem?_set_self hil]
      exact (ho.keep fun b hb' => hother b (by have := (ho.lt b hb').1; omega)).mono hb
    · rw [List.getElem?_set_ne (Ne.symm hki), List.getElem?_set_ne (Ne.symm hki)]
      refine (hW.rows.row k hk).keep fun b hb' => hother b fun e => ?_
      subst e
      exact (hW.rows.row k hk).apart hW.own _ hb' rfl
  · rw [List.length_set] at hb2
    by_cases hai : a = i
    · subst hai
      rw [List.getElem?_set_self hvl] at hk
      rw [List.getElem?_set_ne (by omega)] at hk2
      have h1 := (ho.lt k hk).1
      have h2 := ((h.rows.row b hb2).lt k hk2).2
      omega
    · rw [List.getElem?_set_ne (Ne.symm hai)] at hk
      by_cases hbi : b = i
      · subst hbi
        rw [List.getElem?_set_self hvl] at hk2
        have h1 := (ho.lt k hk2).1
        have h2 := ((h.rows.row a (by omega)).lt k hk).2
        omega
      · rw [List.getElem?_set_ne (Ne.symm hbi)] at hk2
        exact h.rows.apart a b k hab hb2 hk hk2
def swpV (l : List Value) (a b : Nat) : List Value := (l.set a (l[b]?.getD undef)).set b (l[a]?.getD undef)
theorem swpV_len (l : List Value) (a b : Nat) : (swpV l a b).length = l.length := by simp [swpV]
theorem swpV_at {l : List Value} {a b : Nat} (ha : a < l.length) (hb : b < l.length) (i : Nat) : (swpV l a b)[i]?.getD undef = if i = b then l[a]?.getD undef else if i = a then l[b]?.getD undef else l[i]?.getD undef := by
  unfold swpV
  by_cases h1 : i = b
  · subst h1; rw [if_pos rfl, List.getElem?_set_self (by simp [hb])]; rfl
  · rw [if_neg h1, List.getElem?_set_ne (Ne.symm h1)]
    by_cases h2 : i = a
    · subst h2; rw [if_pos rfl, List.getElem?_set_self ha]; rfl
    · rw [if_neg h2, List.getElem?_set_ne (Ne.symm h2)]
theorem RowsI.apart' {w : World} {base : Nat} {vs : List Value} {L : List (List Int)} (h : RowsI w base vs L) {i j k : Nat} (hij : i ≠ j) (hi : i < L.length) (hj : j < L.length) (hk : (vs[i]?.getD undef).ownBlock = some k) : (vs[j]?.getD undef).ownBlock ≠ some k := by
  rcases Nat.lt_or_gt_of_ne hij with h1 | h1
  · exact h.apart i j k h1 hj hk
  · exact fun e => h.apart j i k h1 hi e hk
theorem Mat.swap {w : World} {base G N cap : Nat} {vs : List Value} {M : List (List Int)} (h : Mat w base (some ⟨G, 0, none⟩) N cap vs M) {a b : Nat} (ha : a < N) (hb : b < N) :
    Mat ((w.setCell ⟨G, a, none⟩ (vs[b]?.getD undef)).setCell ⟨G, b, none⟩ (vs[a]?.getD undef)) base (some ⟨G, 0, none⟩) N cap (swpV vs a b) (swp M a b) := by
  have hal : a < M.length := by rw [h.len]; exact ha
  have hbl : b < M.length := by rw [h.len]; exact hb
  have hva : a < vs.length := by rw [h.vlen]; exact ha
  have hvb : b < vs.length := by rw [h.vlen]; exact hb
  have hrow : ∀ i, i < M.length → (swp M a b)[i]?.getD [] = if i = b then M[a]?.getD [] else if i = a then M[b]?.getD [] else M[i]?.getD [] := fun i _ => swp_at hal hbl i
  have hother : ∀ k, k ≠ G → ((w.setCell ⟨G, a, none⟩ (vs[b]?.getD undef)).setCell ⟨G, b, none⟩ (vs[a]?.getD undef)).heap[k]? = w.heap[k]? := fun k hk => by rw [heap_setCell_other _ _ _ _ hk, heap_setCell_other _ _ _ _ hk]
  refine ⟨?_, ⟨by rw [swpV_len, swp_len]; exact h.rows.len, fun i hi => ?_, fun i j k hij hj hk hk2 => ?_⟩⟩
  · have ho := h.own
    unfold OwnV at ho
    rw [h.vlen] at ho
    have h1 := (World.ownsRow.stored ho a (vs[b]?.getD undef)).1
    have h2 := (World.ownsRow.stored h1 b (vs[a]?.getD undef)).1
    unfold OwnV
    rw [swpV_len, h.vlen]
    exact h2
  · rw [swp_len] at hi
    have key : ∀ k, k < M.length → OwnI ((w.setCell ⟨G, a, none⟩ (vs[b]?.getD undef)).setCell ⟨G, b, none⟩ (vs[a]?.getD undef)) base (vs[k]?.getD undef) (M[k]?.getD []) := fun k hk =>
      (h.rows.row k hk).keep fun c hc => hother c fun e => by subst e; exact (h.rows.row k hk).apart h.own _ hc rfl
    rw [swpV_at hva hvb, hrow i hi]
    split
    · exact key a hal
    · split
      · exact key b hbl
      · exact key i hi
  · rw [swp_len] at hj
    rw [swpV_at hva hvb] at hk hk2
    have hi : i < M.length := by omega
    have pick : ∀ i, i < M.length → ∃ s, s < M.length ∧ (if i = b then vs[a]?.getD undef else if i = a then vs[b]?.getD undef else vs[i]?.getD undef) = vs[s]?.getD undef ∧ s = (if i = b then a else if i = a then b else i) := fun i hi => by
      split
      · exact ⟨a, hal, rfl, rfl⟩
      · split
        · exact ⟨b, hbl, rfl, rfl⟩
        · exact ⟨i, hi, rfl, rfl⟩
    obtain ⟨s, hs, e1, e1'⟩ := pick i hi
    obtain ⟨t, ht, e2, e2'⟩ := pick j hj
    rw [e1] at hk
    rw [e2] at hk2
    refine h.rows.apart' (i := s) (j := t) ?_ hs ht hk hk2
    rw [e1', e2']
    split <;> split <;> (try split) <;> (try split) <;> omega
theorem IntSS.at' {w : World} {G N cap : Nat} {L : List (List Int)} (h : IntSS w (some ⟨G, 0, none⟩) N cap L) {k : Nat} (hk : k < N) :
    ∃ a m c, w.cell? ⟨G, k, none⟩ = some (.slice a m c) ∧ Ints w a m c (L[k]?.getD []) := by
  obtain ⟨b, off, a, m, c, he, hc, hr⟩ := h.at hk
  simp only [Option.some.injEq, Addr.mk.injEq, and_true] at he
  obtain ⟨rfl, rfl⟩ := he
  rw [Nat.zero_add] at hc
  exact ⟨a, m, c, hc, hr⟩
theorem IntSS.dropIf {w : World} {G N cap : Nat} {L : List (List Int)} (h : IntSS w (some ⟨G, 0, none⟩) N cap L) {d : Nat} (hd : d ≤ N) : IntSS w (if cap = d then some ⟨G, 0, none⟩ else some ⟨G, d, none⟩) (N - d) (cap - d) (L.drop d) := by
  refine ⟨by rw [List.length_drop, h.hlen], by have := h.hcap; omega, by have := h.hmax; omega, fun k hk => ?_⟩
  have hc : ¬ cap = d := by have := h.hcap; omega
  rw [if_neg hc]
  refine ⟨G, d, rfl, fun k hk => ?_⟩
  obtain ⟨a, m, c, h1, h2⟩ := h.at' (k := d + k) (by omega)
  refine ⟨a, m, c, h1, ?_⟩
  rw [List.getElem?_drop]
  exact h2
end Go.Proofs.Ytgohdmnbnhehnaa
namespace Go.Proofs.Ytgohdmnbnhehnaa
set_option linter.unusedVariables false
open Go.RowKit
structure Enc (α : Type) where
  enc : α → List Value
  c : Nat
  hc : ∀ x, (enc x).length = c
  pos : 0 < c
  one : ∀ x, ∀ u ∈ enc x, u.oneCell' = true
def Enc.all {α : Type} (E : Enc α) (l : List α) : List Value := l.flatMap E.enc
theorem Enc.all_append {α : Type} (E : Enc α) (l l' : List α) : E.all (l ++ l') = E.all l ++ E.all l' := by simp [Enc.all]
theorem Enc.all_cons {α : Type} (E : Enc α) (x : α) (l : List α) : E.all (x :: l) = E.enc x ++ E.all l := by simp [Enc.all]
theorem Enc.all_len {α : Type} (E : Enc α) : ∀ l : List α, (E.all l).length = l.length * E.c
  | [] => by simp [Enc.all]
  | x :: l => by rw [E.all_cons, List.length_append, E.hc, E.all_len l, List.length_cons, Nat.succ_mul, Nat.add_comm]
theorem Enc.all_at {α : Type} (E : Enc α) : ∀ {l : List α} {k j : Nat} {x : α} {v : Value}, l[k]? = some x → (E.enc x)[j]? = some v → (E.all l)[k * E.c + j]? = some v
  | [], k, j, x, v, h, _ => by simp at h
  | y :: l, 0, j, x, v, h, hj => by
    simp only [List.getElem?_cons_zero, Option.some.injEq] at h
    subst h
    have hl := (List.getElem?_eq_some_iff.1 hj).1
    rw [E.all_cons, Nat.zero_mul, Nat.zero_add, List.getElem?_append_left hl, hj]
  | y :: l, k + 1, j, x, v, h, hj => by
    simp only [List.getElem?_cons_succ] at h
    rw [E.all_cons, List.getElem?_append_right (by rw [E.hc, Nat.succ_mul]; omega), E.hc]
    rw [show (k + 1) * E.c + j - E.c = k * E.c + j by rw [Nat.succ_mul]; omega]
    exact E.all_at h hj
theorem Enc.split {α : Type} (E : Enc α) {l : List α} {i : Nat} {u : Value} (h : (E.all l)[i]? = some u) : ∃ k j x, i = k * E.c + j ∧ l[k]? = some x ∧ (E.enc x)[j]? = some u := by
  have hi : i < l.length * E.c := by have := (List.getElem?_eq_some_iff.1 h).1; rwa [E.all_len] at this
  have hp := E.pos
  have hk : i / E.c < l.length := (Nat.div_lt_iff_lt_mul hp).2 hi
  have hm : i % E.c < E.c := Nat.mod_lt _ hp
  have he : i = i / E.c * E.c + i % E.c := by rw [Nat.mul_comm]; exact (Nat.div_add_mod i E.c).symm
  refine ⟨i / E.c, i % E.c, l[i / E.c], he, List.getElem?_eq_getElem hk, ?_⟩
  have hj : i % E.c < (E.enc l[i / E.c]).length := by rw [E.hc]; exact hm
  have := E.all_at (List.getElem?_eq_getElem hk) (List.getElem?_eq_getElem hj)
  rw [← he, h] at this
  rw [List.getElem?_eq_getElem hj, this]
structure Slc {α : Type} (E : Enc α) (w : World) (a : Option Addr) (n cap : Nat) (l : List α) : Prop where
  hlen : l.length = n
  hcap : n ≤ cap
  hmax : cap ≤ 9223372036854775807
  cell : ∀ k, k < n → ∃ b off, a = some ⟨b, off, none⟩ ∧ ∀ k x j v, l[k]? = some x → (E.enc x)[j]? = some v → w.cell? ⟨b, off + k * E.c + j, none⟩ = some v
theorem Slc.ext {α : Type} {E : Enc α} {w w' : World} {a : Option Addr} {n cap : Nat} {l : List α} (h : Slc E w a n cap l) (hx : Ext w w') : Slc E w' a n cap l :=
  ⟨h.hlen, h.hcap, h.hmax, fun k hk => let ⟨b, off, e, hc⟩ := h.cell k hk; ⟨b, off, e, fun k x j v h1 h2 => hx.cellSome (hc k x j v h1 h2)⟩⟩
theorem Slc.at {α : Type} {E : Enc α} {w : World} {a : Option Addr} {n cap : Nat} {l : List α} (h : Slc E w a n cap l) {k : Nat} (hk : k < n) :
    ∃ b off x, a = some ⟨b, off, none⟩ ∧ l[k]? = some x ∧ ∀ j v, (E.enc x)[j]? = some v → w.cell? ⟨b, off + k * E.c + j, none⟩ = some v :=
  let ⟨b, off, e, hc⟩ := h.cell k hk
  have hl : k < l.length := by rw [h.hlen]; exact hk
  ⟨b, off, l[k], e, List.getElem?_eq_getElem hl, fun j v hj => hc k _ j v (List.getElem?_eq_getElem hl) hj⟩
def OwnG {α : Type} (E : Enc α) (t : TypeId) (w : World) (base : Nat) (v : Value) (l : List α) : Prop := w.ownsRow base t E.c v l.length (E.all l)
section
variable {α : Type} {E : Enc α} {t : TypeId} {w : World} {base : Nat} {l : List α}
theorem OwnG.form {v : Value} (h : OwnG E t w base v l) : ∃ a cap, v = .slice a l.length cap ∧ l.length ≤ cap ∧ cap ≤ 9223372036854775807 := by
  rcases h.2 with ⟨rfl, h0⟩ | ⟨g, cap, cur, rfl, _, _, h1, h2, _⟩
  · exact ⟨none, 0, by rw [h0], by omega, by omega⟩
  · exact ⟨_, cap, rfl, h1, by simpa [maxLen] using h2⟩
theorem OwnG.var {v : Value} (h : OwnG E t w base v l) : ∃ a n cap, v = .slice a n cap ∧ Hid (l.length = n) := by
  obtain ⟨a, cap, e, _⟩ := h.form
  exact ⟨a, _, cap, e, rfl⟩
theorem OwnG.slc {a : Option Addr} {n cap : Nat} (h : OwnG E t w base (.slice a n cap) l) : Slc E w a n cap l := by
  rcases h.2 with ⟨he, h0⟩ | ⟨g, cap', cur, he, _, hg, h1, h2, hs, ht⟩
  · simp only [Value.slice.injEq] at he
    obtain ⟨rfl, rfl, rfl⟩ := he
    exact ⟨h0, Nat.le_refl _, by omega, fun k hk => absurd hk (by omega)⟩
  · simp only [Value.slice.injEq] at he
    obtain ⟨rfl, rfl, rfl⟩ := he
    refine ⟨rfl, h1, by simpa [maxLen] using h2, fun k hk => ⟨g, 0, rfl, fun k x j v hx hv => ?_⟩⟩
    rw [Nat.zero_add, cell_of_row w g _ cur _ (0, 0) hg]
    have q := E.all_at hx hv
    rw [← ht, List.getElem?_take] at q
    split at q
    · simpa using q
    · cases q
theorem OwnG.lt {v : Value} (h : OwnG E t w base v l) : ∀ k, v.ownBlock = some k → base ≤ k ∧ k < w.heap.size := World.ownsRow.lt h
theorem OwnG.keep {w' : World} {v : Value} (h : OwnG E t w base v l) (hk : ∀ k, v.ownBlock = some k → w'.heap[k]? = w.heap[k]?) : OwnG E t w' base v l := by
  refine ⟨h.1, ?_⟩
  rcases h.2 with hn | ⟨g, cap, cur, rfl, hb, hgg, rest⟩
  · exact .inl hn
  · exact .inr ⟨g, cap, cur, rfl, hb, (hk g rfl).trans hgg, rest⟩
theorem OwnG.ext {w' : World} {v : Value} (h : OwnG E t w base v l) (hx : Ext w w') : OwnG E t w' base v l := h.keep fun k hk => hx.block k (h.lt k hk).2
theorem OwnG.on {v : Value} (h : OwnG E t w base v l) : On base w (fun W => OwnG E t W base v l) := fun w2 h2 => h.keep fun k hk => h2 k (h.lt k hk).1 (h.lt k hk).2
theorem OwnG.mono {base' : Nat} {v : Value} (h : OwnG E t w base v l) (hb : base' ≤ base) : OwnG E t w base' v l := by
  refine ⟨h.1, ?_⟩
  rcases h.2 with hn | ⟨g, cap, cur, rfl, hbb, rest⟩
  · exact .inl hn
  · exact .inr ⟨g, cap, cur, rfl, by omega, rest⟩
theorem OwnG.nil (E : Enc α) (t : TypeId) (w : World) (base : Nat) : OwnG E t w base (.slice none 0 0) [] := World.ownsRow_nil w base t _
theorem OwnG.block {a : Option Addr} {n cap : Nat} (h : OwnG E t w base (.slice a n cap) l) {k : Nat} (hk : k < n) : ∃ g, a = some ⟨g, 0, none⟩ ∧ base ≤ g ∧ (∀ j, w.frozen? ⟨g, j, none⟩ = false) ∧ g < w.heap.size := by
  rcases h.2 with ⟨he, h0⟩ | ⟨g, cap', cur, he, hb, hg, _⟩
  · simp only [Value.slice.injEq] at he
    omega
  · simp only [Value.slice.injEq] at he
    obtain ⟨rfl, _⟩ := he
    exact ⟨g, rfl, hb, fun j => frozen_of_row w g j cur _ hg, lt_of_block hg⟩
theorem OwnG.madeS (E : Enc α) (t : TypeId) (W : World) (base : Nat) (n : Nat) (hn : n = W.heap.size) (hb : base ≤ W.heap.size) : OwnG E t (W.alloc (.cells #[] t)) base (.slice (some ⟨n, 0, none⟩) 0 0) [] := by
  subst hn
  exact World.ownsRow_lit W #[] 0 hb (by omega) (by simp)
theorem OwnG.lit (E : Enc α) (t : TypeId) (W : World) (base : Nat) (l : List α) (cs : Array Value) (hcs : cs = (E.all l).toArray) (n : Nat) (hn : n = W.heap.size) (hb : base ≤ W.heap.size) (hm : l.length ≤ 1099511627776) : OwnG E t (W.alloc (.cells cs t)) base (.slice (some ⟨n, 0, none⟩) l.length l.length) l := by
  subst hn hcs
  refine ⟨E.all_len l, .inr ⟨_, l.length, (E.all l).toArray, rfl, hb, heap_alloc_new W _, Nat.le_refl _, by simp [maxLen]; omega, by simp [E.all_len], ?_⟩⟩
  show List.take _ (E.all l) = _
  exact List.take_of_length_le (by rw [E.all_len]; exact Nat.le_refl _)
theorem ownsRow_ne {w : World} {base g : Nat} {e e' : TypeId} {s : Nat} {v : Value} {n : Nat} {xs : List Value} {c : Array Value} {z : Nat × Nat} (h : w.ownsRow base e s v n xs) (hb : w.heap[g]? = some (.cells c e' z)) (hne : e ≠ e') : some g ≠ v.ownBlock := by
  intro hk
  rcases h.2 with ⟨rfl, _⟩ | ⟨g', cap, cur, rfl, _, hg, _⟩
  · simp [Value.ownBlock] at hk
  · simp only [Value.ownBlock, Option.some.injEq] at hk
    subst hk
    rw [hg] at hb
    simp only [Option.some.injEq, Obj.cells.injEq] at hb
    exact hne hb.2.1
theorem Slc.lit (E : Enc α) (t : TypeId) (W : World) (l : List α) (m : Nat) (hm : l.length = m) (cs : Array Value) (hcs : cs = (E.all l).toArray) (n : Nat) (hn : n = W.heap.size) (hb : m ≤ 1099511627776) : Slc E (W.alloc (.cells cs t)) (some ⟨n, 0, none⟩) m m l := by
  subst hm
  exact (OwnG.lit E t W 0 l cs hcs n hn (Nat.zero_le _) hb).slc
end
section
variable {α : Type} {E : Enc α} {t : TypeId} {P : Program} {w : World} {ops : Array Oper} {rest : List Oper} {o : Oper} {a : Act} {Q : Exit → Act → World → Prop}
end
end Go.Proofs.Ytgohdmnbnhehnaa
