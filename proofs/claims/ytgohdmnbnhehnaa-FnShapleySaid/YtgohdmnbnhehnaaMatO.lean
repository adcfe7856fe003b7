/- Rows of a matrix that a call owns: read, stored into, exchanged, put anew. -/
import Derived.Test.YtgohdmnbnhehnaaOwn
import Derived.Test.YtgohdmnbnhehnaaRankM
namespace Go.Proofs.Ytgohdmnbnhehnaa
set_option linter.unusedVariables false
open Go.RowKit

/-- The slice reads as the rows M; vs are the rows' slices. -/
structure Mat (w : World) (base : Nat) (a : Option Addr) (N cap : Nat) (vs : List Value) (M : List (List Int)) : Prop where
  own : OwnV w base (.slice a N cap) vs
  rows : RowsI w base vs M
theorem Mat.vlen {w : World} {base : Nat} {a : Option Addr} {N cap : Nat} {vs : List Value} {M : List (List Int)} (h : Mat w base a N cap vs M) : vs.length = N := h.own.len
theorem Mat.len {w : World} {base : Nat} {a : Option Addr} {N cap : Nat} {vs : List Value} {M : List (List Int)} (h : Mat w base a N cap vs M) : M.length = N := by rw [← h.rows.len]; exact h.own.len
theorem Mat.cap {w : World} {base : Nat} {a : Option Addr} {N cap : Nat} {vs : List Value} {M : List (List Int)} (h : Mat w base a N cap vs M) : N ≤ cap ∧ cap ≤ 9223372036854775807 := by
  obtain ⟨a', c', he, h1, h2⟩ := h.own.form
  simp only [Value.slice.injEq] at he
  obtain ⟨_, h3, rfl⟩ := he
  exact ⟨by omega, h2⟩
theorem Mat.keep {w w' : World} {base : Nat} {a : Option Addr} {N cap : Nat} {vs : List Value} {M : List (List Int)} (h : Mat w base a N cap vs M) (h0 : ∀ k, (Value.slice a N cap).ownBlock = some k → w'.heap[k]? = w.heap[k]?)
    (h1 : ∀ i k, i < N → (vs[i]?.getD undef).ownBlock = some k → w'.heap[k]? = w.heap[k]?) : Mat w' base a N cap vs M :=
  ⟨h.own.keep h0, h.rows.keep fun i k hi hk => h1 i k (by rw [← h.len]; exact hi) hk⟩
theorem Mat.ext {w w' : World} {base : Nat} {a : Option Addr} {N cap : Nat} {vs : List Value} {M : List (List Int)} (h : Mat w base a N cap vs M) (hx : Ext w w') : Mat w' base a N cap vs M := ⟨h.own.ext hx, h.rows.ext hx⟩
theorem Mat.intss {w : World} {base : Nat} {a : Option Addr} {N cap : Nat} {vs : List Value} {M : List (List Int)} (h : Mat w base a N cap vs M) : IntSS w a N cap M :=
  OwnSS.intss ⟨vs, h.own, h.rows⟩
/-- Where the slice lies. -/
theorem Mat.outer {w : World} {base : Nat} {a : Option Addr} {N cap : Nat} {vs : List Value} {M : List (List Int)} (h : Mat w base a N cap vs M) (hN : 0 < N) : ∃ G, a = some ⟨G, 0, none⟩ ∧ base ≤ G ∧ G < w.heap.size ∧ ∀ j, w.frozen? ⟨G, j, none⟩ = false := by
  rcases h.own.2 with ⟨he, h0⟩ | ⟨g, cap', cur, he, hb, hg, _⟩
  · simp only [Value.slice.injEq] at he
    omega
  · simp only [Value.slice.injEq] at he
    obtain ⟨rfl, _⟩ := he
    exact ⟨g, rfl, hb, lt_of_block hg, fun j => frozen_of_row w g j cur _ hg⟩
/-- The one row. -/
theorem Mat.row {w : World} {base G N cap : Nat} {vs : List Value} {M : List (List Int)} (h : Mat w base (some ⟨G, 0, none⟩) N cap vs M) {i n : Nat} (hi : i < N) (hn : (M[i]?.getD []).length = n) (h1 : 1 ≤ n) :
    ∃ g c, vs[i]?.getD undef = .slice (some ⟨g, 0, none⟩) n c ∧ w.cell? ⟨G, i, none⟩ = some (.slice (some ⟨g, 0, none⟩) n c) ∧ OwnI w base (.slice (some ⟨g, 0, none⟩) n c) (M[i]?.getD []) ∧ g ≠ G ∧ base ≤ g ∧ g < w.heap.size ∧ n ≤ c ∧ c ≤ 9223372036854775807 := by
  have hr := h.rows.row i (by rw [h.len]; exact hi)
  obtain ⟨a', c, he, hc1, hc2⟩ := hr.form
  rw [he] at hr
  rw [hn] at he hr hc1
  obtain ⟨g, rfl, hb, _, hgl⟩ := hr.block (k := 0) (by omega)
  obtain ⟨G', hG, _, hc⟩ := h.own.cell hi
  simp only [Option.some.injEq, Addr.mk.injEq, and_true] at hG
  subst hG
  refine ⟨g, c, he, ?_, hr, fun e => hr.apart h.own g rfl (by subst e; rfl), hb, hgl, hc1, hc2⟩
  rw [hc i hi, ← he]
  have : i < vs.length := by rw [h.vlen]; exact hi
  simp [this]
theorem Mat.set_len {w : World} {base : Nat} {a : Option Addr} {N cap : Nat} {vs : List Value} {M : List (List Int)} (h : Mat w base a N cap vs M) (i : Nat) (l : List Int) : (M.set i l).length = N := by rw [List.length_set, h.len]
/-- A store into a row. -/
theorem Mat.inrow {w : World} {base G N cap : Nat} {vs : List Value} {M : List (List Int)} (h : Mat w base (some ⟨G, 0, none⟩) N cap vs M) {i n g c : Nat} (hi : i < N) (hv : vs[i]?.getD undef = .slice (some ⟨g, 0, none⟩) n c) (j : Nat) (x : Int) :
    Mat (w.setCell ⟨g, j, none⟩ (.int .i64 x)) base (some ⟨G, 0, none⟩) N cap vs (M.set i ((M[i]?.getD []).set j x)) := by
  have hil : i < M.length := by rw [h.len]; exact hi
  have hr := h.rows.row i hil
  rw [hv] at hr
  have hgG : g ≠ G := fun e => hr.apart h.own g rfl (by subst e; rfl)
  refine ⟨h.own.keep fun k hk => heap_setCell_other _ _ _ _ (by simp only [Value.ownBlock, Option.some.injEq] at hk; show k ≠ g; omega), ?_⟩
  refine ⟨by rw [List.length_set]; exact h.rows.len, fun k hk => ?_, fun a b k hab hb => h.rows.apart a b k hab (by rw [List.length_set] at hb; exact hb)⟩
  rw [List.length_set] at hk
  by_cases hki : k = i
  · subst hki
    rw [hv, List.getElem?_set_self hil]
    exact hr.set j x
  · rw [List.getElem?_set_ne (Ne.symm hki)]
    refine (h.rows.row k hk).keep fun b hb => heap_setCell_other _ _ _ _ fun e => ?_
    subst e
    rcases Nat.lt_or_gt_of_ne hki with hlt | hlt
    · exact h.rows.apart k i _ hlt hil hb (by rw [hv]; rfl)
    · exact h.rows.apart i k _ hlt hk (by rw [hv]; rfl) hb
/-- A new row in a row's place. -/
theorem Mat.put {w0 w : World} {base G N cap : Nat} {vs : List Value} {M : List (List Int)} (h : Mat w0 base (some ⟨G, 0, none⟩) N cap vs M) (hx : Ext w0 w) (hb : base ≤ w0.heap.size) {v : Value} {l : List Int} (ho : OwnI w w0.heap.size v l) {i : Nat} (hi : i < N) :
    Mat (w.setCell ⟨G, i, none⟩ v) base (some ⟨G, 0, none⟩) N cap (vs.set i v) (M.set i l) := by
  have hil : i < M.length := by rw [h.len]; exact hi
  have hvl : i < vs.length := by rw [h.vlen]; exact hi
  have hW := h.ext hx
  obtain ⟨G', hG, hbG, hGl, _⟩ := h.outer (by omega)
  simp only [Option.some.injEq, Addr.mk.injEq, and_true] at hG
  subst hG
  have hother : ∀ k, k ≠ G → (w.setCell ⟨G, i, none⟩ v).heap[k]? = w.heap[k]? := fun k hk => heap_setCell_other _ _ _ _ hk
  refine ⟨?_, ⟨by rw [List.length_set, List.length_set]; exact h.rows.len, fun k hk => ?_, fun a b k hab hb2 hk hk2 => ?_⟩⟩
  · have ho := hW.own
    unfold OwnV at ho
    rw [hW.vlen] at ho
    have := (World.ownsRow.stored ho i v).1
    unfold OwnV
    rw [List.length_set, hW.vlen]
    exact this
  · rw [List.length_set] at hk
    by_cases hki : k = i
    · subst hki
      rw [List.getElem?_set_self hvl, List.getElem?_set_self hil]
      exact (ho.keep fun b hb' => hother b (by have := (ho.lt b hb').1; omega)).mono hb
    · rw [List.getElem?_set_ne (Ne.symm hki), List.getElem?_set_ne (Ne.symm hki)]
      refine (hW.rows.row k hk).keep fun b hb' => hother b fun e => ?_
      subst e
      exact (hW.rows.row k hk).apart hW.own _ hb' rfl
  · rw [List.length_set] at hb2
    by_cases hai : a = i
    · subst hai
      rw [List.getElem?_set_self hvl] at hk
      rw [List.getElem?_set_ne (by omega)] at hk2
      have h1 := (ho.lt k hk).1
      have h2 := ((h.rows.row b hb2).lt k hk2).2
      omega
    · rw [List.getElem?_set_ne (Ne.symm hai)] at hk
      by_cases hbi : b = i
      · subst hbi
        rw [List.getElem?_set_self hvl] at hk2
        have h1 := (ho.lt k hk2).1
        have h2 := ((h.rows.row a (by omega)).lt k hk).2
        omega
      · rw [List.getElem?_set_ne (Ne.symm hbi)] at hk2
        exact h.rows.apart a b k hab hb2 hk hk2
def swpV (l : List Value) (a b : Nat) : List Value := (l.set a (l[b]?.getD undef)).set b (l[a]?.getD undef)
theorem swpV_len (l : List Value) (a b : Nat) : (swpV l a b).length = l.length := by simp [swpV]
theorem swpV_at {l : List Value} {a b : Nat} (ha : a < l.length) (hb : b < l.length) (i : Nat) : (swpV l a b)[i]?.getD undef = if i = b then l[a]?.getD undef else if i = a then l[b]?.getD undef else l[i]?.getD undef := by
  unfold swpV
  by_cases h1 : i = b
  · subst h1; rw [if_pos rfl, List.getElem?_set_self (by simp [hb])]; rfl
  · rw [if_neg h1, List.getElem?_set_ne (Ne.symm h1)]
    by_cases h2 : i = a
    · subst h2; rw [if_pos rfl, List.getElem?_set_self ha]; rfl
    · rw [if_neg h2, List.getElem?_set_ne (Ne.symm h2)]
theorem RowsI.apart' {w : World} {base : Nat} {vs : List Value} {L : List (List Int)} (h : RowsI w base vs L) {i j k : Nat} (hij : i ≠ j) (hi : i < L.length) (hj : j < L.length) (hk : (vs[i]?.getD undef).ownBlock = some k) : (vs[j]?.getD undef).ownBlock ≠ some k := by
  rcases Nat.lt_or_gt_of_ne hij with h1 | h1
  · exact h.apart i j k h1 hj hk
  · exact fun e => h.apart j i k h1 hi e hk
/-- Two rows change places. -/
theorem Mat.swap {w : World} {base G N cap : Nat} {vs : List Value} {M : List (List Int)} (h : Mat w base (some ⟨G, 0, none⟩) N cap vs M) {a b : Nat} (ha : a < N) (hb : b < N) :
    Mat ((w.setCell ⟨G, a, none⟩ (vs[b]?.getD undef)).setCell ⟨G, b, none⟩ (vs[a]?.getD undef)) base (some ⟨G, 0, none⟩) N cap (swpV vs a b) (swp M a b) := by
  have hal : a < M.length := by rw [h.len]; exact ha
  have hbl : b < M.length := by rw [h.len]; exact hb
  have hva : a < vs.length := by rw [h.vlen]; exact ha
  have hvb : b < vs.length := by rw [h.vlen]; exact hb
  have hrow : ∀ i, i < M.length → (swp M a b)[i]?.getD [] = if i = b then M[a]?.getD [] else if i = a then M[b]?.getD [] else M[i]?.getD [] := fun i _ => swp_at hal hbl i
  have hother : ∀ k, k ≠ G → ((w.setCell ⟨G, a, none⟩ (vs[b]?.getD undef)).setCell ⟨G, b, none⟩ (vs[a]?.getD undef)).heap[k]? = w.heap[k]? := fun k hk => by rw [heap_setCell_other _ _ _ _ hk, heap_setCell_other _ _ _ _ hk]
  refine ⟨?_, ⟨by rw [swpV_len, swp_len]; exact h.rows.len, fun i hi => ?_, fun i j k hij hj hk hk2 => ?_⟩⟩
  · have ho := h.own
    unfold OwnV at ho
    rw [h.vlen] at ho
    have h1 := (World.ownsRow.stored ho a (vs[b]?.getD undef)).1
    have h2 := (World.ownsRow.stored h1 b (vs[a]?.getD undef)).1
    unfold OwnV
    rw [swpV_len, h.vlen]
    exact h2
  · rw [swp_len] at hi
    have key : ∀ k, k < M.length → OwnI ((w.setCell ⟨G, a, none⟩ (vs[b]?.getD undef)).setCell ⟨G, b, none⟩ (vs[a]?.getD undef)) base (vs[k]?.getD undef) (M[k]?.getD []) := fun k hk =>
      (h.rows.row k hk).keep fun c hc => hother c fun e => by subst e; exact (h.rows.row k hk).apart h.own _ hc rfl
    rw [swpV_at hva hvb, hrow i hi]
    split
    · exact key a hal
    · split
      · exact key b hbl
      · exact key i hi
  · rw [swp_len] at hj
    rw [swpV_at hva hvb] at hk hk2
    have hi : i < M.length := by omega
    have pick : ∀ i, i < M.length → ∃ s, s < M.length ∧ (if i = b then vs[a]?.getD undef else if i = a then vs[b]?.getD undef else vs[i]?.getD undef) = vs[s]?.getD undef ∧ s = (if i = b then a else if i = a then b else i) := fun i hi => by
      split
      · exact ⟨a, hal, rfl, rfl⟩
      · split
        · exact ⟨b, hbl, rfl, rfl⟩
        · exact ⟨i, hi, rfl, rfl⟩
    obtain ⟨s, hs, e1, e1'⟩ := pick i hi
    obtain ⟨t, ht, e2, e2'⟩ := pick j hj
    rw [e1] at hk
    rw [e2] at hk2
    refine h.rows.apart' (i := s) (j := t) ?_ hs ht hk hk2
    rw [e1', e2']
    split <;> split <;> (try split) <;> (try split) <;> omega
theorem RowsI.grownV {w w' : World} {base base' : Nat} {v : Value} {vs : List Value} {L : List (List Int)} (h : RowsI w base vs L) {us : List Value} (hv : OwnV w base' v us) (hg : w.grownBy w' v.ownBlock) : RowsI w' base vs L :=
  h.keep fun i k hi hk => hg.block k ((h.row i hi).lt k hk).2 fun e => (h.row i hi).apart hv k hk e.symm
theorem IntSS.at' {w : World} {G N cap : Nat} {L : List (List Int)} (h : IntSS w (some ⟨G, 0, none⟩) N cap L) {k : Nat} (hk : k < N) :
    ∃ a m c, w.cell? ⟨G, k, none⟩ = some (.slice a m c) ∧ Ints w a m c (L[k]?.getD []) := by
  obtain ⟨b, off, a, m, c, he, hc, hr⟩ := h.at hk
  simp only [Option.some.injEq, Addr.mk.injEq, and_true] at he
  obtain ⟨rfl, rfl⟩ := he
  rw [Nat.zero_add] at hc
  exact ⟨a, m, c, hc, hr⟩
/-- What is left behind the first d. -/
theorem IntSS.dropIf {w : World} {G N cap : Nat} {L : List (List Int)} (h : IntSS w (some ⟨G, 0, none⟩) N cap L) {d : Nat} (hd : d ≤ N) : IntSS w (if cap = d then some ⟨G, 0, none⟩ else some ⟨G, d, none⟩) (N - d) (cap - d) (L.drop d) := by
  refine ⟨by rw [List.length_drop, h.hlen], by have := h.hcap; omega, by have := h.hmax; omega, fun k hk => ?_⟩
  have hc : ¬ cap = d := by have := h.hcap; omega
  rw [if_neg hc]
  refine ⟨G, d, rfl, fun k hk => ?_⟩
  obtain ⟨a, m, c, h1, h2⟩ := h.at' (k := d + k) (by omega)
  refine ⟨a, m, c, h1, ?_⟩
  rw [List.getElem?_drop]
  exact h2

end Go.Proofs.Ytgohdmnbnhehnaa
