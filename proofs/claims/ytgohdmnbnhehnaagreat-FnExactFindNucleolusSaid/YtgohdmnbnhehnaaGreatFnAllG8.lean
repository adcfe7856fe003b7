import Derived.Test.YtgohdmnbnhehnaaGreatFnAllG2
import Derived.Test.YtgohdmnbnhehnaaGreatFnAllG7
import Derived.Test.YtgohdmnbnhehnaaGreatFnAllG1
namespace Go.Proofs.YtgohdmnbnhehnaaGreat
set_option linter.unusedVariables false
open Go.RowKit
structure Mat (w : World) (base : Nat) (a : Option Addr) (N cap : Nat) (vs : List Value) (M : List (List Int)) : Prop where
 own : OwnV w base (.slice a N cap) vs
 rows : RowsI w base vs M
theorem Mat.vlen {w : World} {base : Nat} {a : Option Addr} {N cap : Nat} {vs : List Value} {M : List (List Int)} (h : Mat w base a N cap vs M) : vs.length = N := h.own.len
theorem Mat.len {w : World} {base : Nat} {a : Option Addr} {N cap : Nat} {vs : List Value} {M : List (List Int)} (h : Mat w base a N cap vs M) : M.length = N := by rw [← h.rows.len]; exact h.own.len
theorem Mat.cap {w : World} {base : Nat} {a : Option Addr} {N cap : Nat} {vs : List Value} {M : List (List Int)} (h : Mat w base a N cap vs M) : N ≤ cap ∧ cap ≤ 9223372036854775807 := by
 obtain ⟨a', c', he, h1, h2⟩ := h.own.form
 simp only [Value.slice.injEq] at he
 obtain ⟨_, h3, rfl⟩ := he
 exact ⟨by omega, h2⟩
theorem Mat.keep {w w' : World} {base : Nat} {a : Option Addr} {N cap : Nat} {vs : List Value} {M : List (List Int)} (h : Mat w base a N cap vs M) (h0 : ∀ k, (Value.slice a N cap).ownBlock = some k → w'.heap[k]? = w.heap[k]?)
 (h1 : ∀ i k, i < N → (vs[i]?.getD undef).ownBlock = some k → w'.heap[k]? = w.heap[k]?) : Mat w' base a N cap vs M :=
 ⟨h.own.keep h0, h.rows.keep fun i k hi hk => h1 i k (by rw [← h.len]; exact hi) hk⟩
theorem Mat.ext {w w' : World} {base : Nat} {a : Option Addr} {N cap : Nat} {vs : List Value} {M : List (List Int)} (h : Mat w base a N cap vs M) (hx : Ext w w') : Mat w' base a N cap vs M := ⟨h.own.ext hx, h.rows.ext hx⟩
theorem Mat.intss {w : World} {base : Nat} {a : Option Addr} {N cap : Nat} {vs : List Value} {M : List (List Int)} (h : Mat w base a N cap vs M) : IntSS w a N cap M :=
 OwnSS.intss ⟨vs, h.own, h.rows⟩
theorem Mat.outer {w : World} {base : Nat} {a : Option Addr} {N cap : Nat} {vs : List Value} {M : List (List Int)} (h : Mat w base a N cap vs M) (hN : 0 < N) : ∃ G, a = some ⟨G, 0, none⟩ ∧ base ≤ G ∧ G < w.heap.size ∧ ∀ j, w.frozen? ⟨G, j, none⟩ = false := by
 rcases h.own.2 with ⟨he, h0⟩ | ⟨g, cap', cur, he, hb, hg, _⟩
 ·simp only [Value.slice.injEq] at he
  omega
 ·simp only [Value.slice.injEq] at he
  obtain ⟨rfl, _⟩ := he
  exact ⟨g, rfl, hb, lt_of_block hg, fun j => frozen_of_row w g j cur _ hg⟩
theorem Mat.row {w : World} {base G N cap : Nat} {vs : List Value} {M : List (List Int)} (h : Mat w base (some ⟨G, 0, none⟩) N cap vs M) {i n : Nat} (hi : i < N) (hn : (M[i]?.getD []).length = n) (h1 : 1 ≤ n) :
 ∃ g c, vs[i]?.getD undef = .slice (some ⟨g, 0, none⟩) n c ∧ w.cell? ⟨G, i, none⟩ = some (.slice (some ⟨g, 0, none⟩) n c) ∧ OwnI w base (.slice (some ⟨g, 0, none⟩) n c) (M[i]?.getD []) ∧ g ≠ G ∧ base ≤ g ∧ g < w.heap.size ∧ n ≤ c ∧ c ≤ 9223372036854775807 := by
 have hr := h.rows.row i (by rw [h.len]; exact hi)
 obtain ⟨a', c, he, hc1, hc2⟩ := hr.form
 rw [he] at hr
 rw [hn] at he hr hc1
 obtain ⟨g, rfl, hb, _, hgl⟩ := hr.block (k := 0) (by omega)
 obtain ⟨G', hG, _, hc⟩ := h.own.cell hi
 simp only [Option.some.injEq, Addr.mk.injEq, and_true] at hG
 subst hG
 refine ⟨g, c, he, ?_, hr, fun e => hr.apart h.own g rfl (by subst e; rfl), hb, hgl, hc1, hc2⟩
 rw [hc i hi, ← he]
 have : i < vs.length := by rw [h.vlen]; exact hi
 simp [this]
theorem Mat.inrow {w : World} {base G N cap : Nat} {vs : List Value} {M : List (List Int)} (h : Mat w base (some ⟨G, 0, none⟩) N cap vs M) {i n g c : Nat} (hi : i < N) (hv : vs[i]?.getD undef = .slice (some ⟨g, 0, none⟩) n c) (j : Nat) (x : Int) :
 Mat (w.setCell ⟨g, j, none⟩ (.int .i64 x)) base (some ⟨G, 0, none⟩) N cap vs (M.set i ((M[i]?.getD []).set j x)) := by
 have hil : i < M.length := by rw [h.len]; exact hi
 have hr := h.rows.row i hil
 rw [hv] at hr
 have hgG : g ≠ G := fun e => hr.apart h.own g rfl (by subst e; rfl)
 refine ⟨h.own.keep fun k hk => heap_setCell_other _ _ _ _ (by simp only [Value.ownBlock, Option.some.injEq] at hk; show k ≠ g; omega), ?_⟩
 refine ⟨by rw [List.length_set]; exact h.rows.len, fun k hk => ?_, fun a b k hab hb => h.rows.apart a b k hab (by rw [List.length_set] at hb; exact hb)⟩
 rw [List.length_set] at hk
 by_cases hki : k = i
 ·subst hki
  rw [hv, List.getElem?_set_self hil]
  exact hr.set j x
 ·rw [List.getElem?_set_ne (Ne.symm hki)]
  refine (h.rows.row k hk).keep fun b hb => heap_setCell_other _ _ _ _ fun e => ?_
  subst e
  rcases Nat.lt_or_gt_of_ne hki with hlt | hlt
  ·exact h.rows.apart k i _ hlt hil hb (by rw [hv]; rfl)
  ·exact h.rows.apart i k _ hlt hk (by rw [hv]; rfl) hb
theorem Mat.put {w0 w : World} {base G N cap : Nat} {vs : List Value} {M : List (List Int)} (h : Mat w0 base (some ⟨G, 0, none⟩) N cap vs M) (hx : Ext w0 w) (hb : base ≤ w0.heap.size) {v : Value} {l : List Int} (ho : OwnI w w0.heap.size v l) {i : Nat} (hi : i < N) :
 Mat (w.setCell ⟨G, i, none⟩ v) base (some ⟨G, 0, none⟩) N cap (vs.set i v) (M.set i l) := by
 have hil : i < M.length := by rw [h.len]; exact hi
 have hvl : i < vs.length := by rw [h.vlen]; exact hi
 have hW := h.ext hx
 obtain ⟨G', hG, hbG, hGl, _⟩ := h.outer (by omega)
 simp only [Option.some.injEq, Addr.mk.injEq, and_true] at hG
 subst hG
 have hother : ∀ k, k ≠ G → (w.setCell ⟨G, i, none⟩ v).heap[k]? = w.heap[k]? := fun k hk => heap_setCell_other _ _ _ _ hk
 refine ⟨?_, ⟨by rw [List.length_set, List.length_set]; exact h.rows.len, fun k hk => ?_, fun a b k hab hb2 hk hk2 => ?_⟩⟩
 ·have ho := hW.own
  unfold OwnV at ho
  rw [hW.vlen] at ho
  have := (World.ownsRow.stored ho i v).1
  unfold OwnV
  rw [List.length_set, hW.vlen]
  exact this
 ·rw [List.length_set] at hk
  by_cases hki : k = i
  ·subst hki
   rw [List.getElem?_set_self hvl, List.getElem?_set_self hil]
   exact (ho.keep fun b hb' => hother b (by have := (ho.lt b hb').1; omega)).mono hb
  ·rw [List.getElem?_set_ne (Ne.symm hki), List.getElem?_set_ne (Ne.symm hki)]
   refine (hW.rows.row k hk).keep fun b hb' => hother b fun e => ?_
   subst e
   exact (hW.rows.row k hk).apart hW.own _ hb' rfl
 ·rw [List.length_set] at hb2
  by_cases hai : a = i
  ·subst hai
   rw [List.getElem?_set_self hvl] at hk
   rw [List.getElem?_set_ne (by omega)] at hk2
   have h1 := (ho.lt k hk).1
   have h2 := ((h.rows.row b hb2).lt k hk2).2
   omega
  ·rw [List.getElem?_set_ne (Ne.symm hai)] at hk
   by_cases hbi : b = i
   ·subst hbi
    rw [List.getElem?_set_self hvl] at hk2
    have h1 := (ho.lt k hk2).1
    have h2 := ((h.rows.row a (by omega)).lt k hk).2
    omega
   ·rw [List.getElem?_set_ne (Ne.symm hbi)] at hk2
    exact h.rows.apart a b k hab hb2 hk hk2
def swpV (l : List Value) (a b : Nat) : List Value := (l.set a (l[b]?.getD undef)).set b (l[a]?.getD undef)
theorem swpV_len (l : List Value) (a b : Nat) : (swpV l a b).length = l.length := by simp [swpV]
theorem swpV_at {l : List Value} {a b : Nat} (ha : a < l.length) (hb : b < l.length) (i : Nat) : (swpV l a b)[i]?.getD undef = if i = b then l[a]?.getD undef else if i = a then l[b]?.getD undef else l[i]?.getD undef := by
 unfold swpV
 by_cases h1 : i = b
 ·subst h1; rw [if_pos rfl, List.getElem?_set_self (by simp [hb])]; rfl
 ·rw [if_neg h1, List.getElem?_set_ne (Ne.symm h1)]
  by_cases h2 : i = a
  ·subst h2; rw [if_pos rfl, List.getElem?_set_self ha]; rfl
  ·rw [if_neg h2, List.getElem?_set_ne (Ne.symm h2)]
theorem RowsI.apart' {w : World} {base : Nat} {vs : List Value} {L : List (List Int)} (h : RowsI w base vs L) {i j k : Nat} (hij : i ≠ j) (hi : i < L.length) (hj : j < L.length) (hk : (vs[i]?.getD undef).ownBlock = some k) : (vs[j]?.getD undef).ownBlock ≠ some k := by
 rcases Nat.lt_or_gt_of_ne hij with h1 | h1
 ·exact h.apart i j k h1 hj hk
 ·exact fun e => h.apart j i k h1 hi e hk
theorem Mat.swap {w : World} {base G N cap : Nat} {vs : List Value} {M : List (List Int)} (h : Mat w base (some ⟨G, 0, none⟩) N cap vs M) {a b : Nat} (ha : a < N) (hb : b < N) :
 Mat ((w.setCell ⟨G, a, none⟩ (vs[b]?.getD undef)).setCell ⟨G, b, none⟩ (vs[a]?.getD undef)) base (some ⟨G, 0, none⟩) N cap (swpV vs a b) (swp M a b) := by
 have hal : a < M.length := by rw [h.len]; exact ha
 have hbl : b < M.length := by rw [h.len]; exact hb
 have hva : a < vs.length := by rw [h.vlen]; exact ha
 have hvb : b < vs.length := by rw [h.vlen]; exact hb
 have hrow : ∀ i, i < M.length → (swp M a b)[i]?.getD [] = if i = b then M[a]?.getD [] else if i = a then M[b]?.getD [] else M[i]?.getD [] := fun i _ => swp_at hal hbl i
 have hother : ∀ k, k ≠ G → ((w.setCell ⟨G, a, none⟩ (vs[b]?.getD undef)).setCell ⟨G, b, none⟩ (vs[a]?.getD undef)).heap[k]? = w.heap[k]? := fun k hk => by rw [heap_setCell_other _ _ _ _ hk, heap_setCell_other _ _ _ _ hk]
 refine ⟨?_, ⟨by rw [swpV_len, swp_len]; exact h.rows.len, fun i hi => ?_, fun i j k hij hj hk hk2 => ?_⟩⟩
 ·have ho := h.own
  unfold OwnV at ho
  rw [h.vlen] at ho
  have h1 := (World.ownsRow.stored ho a (vs[b]?.getD undef)).1
  have h2 := (World.ownsRow.stored h1 b (vs[a]?.getD undef)).1
  unfold OwnV
  rw [swpV_len, h.vlen]
  exact h2
 ·rw [swp_len] at hi
  have key : ∀ k, k < M.length → OwnI ((w.setCell ⟨G, a, none⟩ (vs[b]?.getD undef)).setCell ⟨G, b, none⟩ (vs[a]?.getD undef)) base (vs[k]?.getD undef) (M[k]?.getD []) := fun k hk =>
   (h.rows.row k hk).keep fun c hc => hother c fun e => by subst e; exact (h.rows.row k hk).apart h.own _ hc rfl
  rw [swpV_at hva hvb, hrow i hi]
  split
  ·exact key a hal
  ·split
   ·exact key b hbl
   ·exact key i hi
 ·rw [swp_len] at hj
  rw [swpV_at hva hvb] at hk hk2
  have hi : i < M.length := by omega
  have pick : ∀ i, i < M.length → ∃ s, s < M.length ∧ (if i = b then vs[a]?.getD undef else if i = a then vs[b]?.getD undef else vs[i]?.getD undef) = vs[s]?.getD undef ∧ s = (if i = b then a else if i = a then b else i) := fun i hi => by
   split
   ·exact ⟨a, hal, rfl, rfl⟩
   ·split
    ·exact ⟨b, hbl, rfl, rfl⟩
    ·exact ⟨i, hi, rfl, rfl⟩
  obtain ⟨s, hs, e1, e1'⟩ := pick i hi
  obtain ⟨t, ht, e2, e2'⟩ := pick j hj
  rw [e1] at hk
  rw [e2] at hk2
  refine h.rows.apart' (i := s) (j := t) ?_ hs ht hk hk2
  rw [e1', e2']
  split <;> split <;> (try split) <;> (try split) <;> omega
theorem RowsI.grownV {w w' : World} {base base' : Nat} {v : Value} {vs : List Value} {L : List (List Int)} (h : RowsI w base vs L) {us : List Value} (hv : OwnV w base' v us) (hg : w.grownBy w' v.ownBlock) : RowsI w' base vs L :=
 h.keep fun i k hi hk => hg.block k ((h.row i hi).lt k hk).2 fun e => (h.row i hi).apart hv k hk e.symm
theorem IntSS.at' {w : World} {G N cap : Nat} {L : List (List Int)} (h : IntSS w (some ⟨G, 0, none⟩) N cap L) {k : Nat} (hk : k < N) :
 ∃ a m c, w.cell? ⟨G, k, none⟩ = some (.slice a m c) ∧ Ints w a m c (L[k]?.getD []) := by
 obtain ⟨b, off, a, m, c, he, hc, hr⟩ := h.at hk
 simp only [Option.some.injEq, Addr.mk.injEq, and_true] at he
 obtain ⟨rfl, rfl⟩ := he
 rw [Nat.zero_add] at hc
 exact ⟨a, m, c, hc, hr⟩
theorem IntSS.dropIf {w : World} {G N cap : Nat} {L : List (List Int)} (h : IntSS w (some ⟨G, 0, none⟩) N cap L) {d : Nat} (hd : d ≤ N) : IntSS w (if cap = d then some ⟨G, 0, none⟩ else some ⟨G, d, none⟩) (N - d) (cap - d) (L.drop d) := by
 refine ⟨by rw [List.length_drop, h.hlen], by have := h.hcap; omega, by have := h.hmax; omega, fun k hk => ?_⟩
 have hc : ¬ cap = d := by have := h.hcap; omega
 rw [if_neg hc]
 refine ⟨G, d, rfl, fun k hk => ?_⟩
 obtain ⟨a, m, c, h1, h2⟩ := h.at' (k := d + k) (by omega)
 refine ⟨a, m, c, h1, ?_⟩
 rw [List.getElem?_drop]
 exact h2
structure Enc (α : Type) where
 enc : α → List Value
 c : Nat
 hc : ∀ x, (enc x).length = c
 pos : 0 < c
 one : ∀ x, ∀ u ∈ enc x, u.oneCell' = true
def Enc.all {α : Type} (E : Enc α) (l : List α) : List Value := l.flatMap E.enc
theorem Enc.all_append {α : Type} (E : Enc α) (l l' : List α) : E.all (l ++ l') = E.all l ++ E.all l' := by simp [Enc.all]
theorem Enc.all_cons {α : Type} (E : Enc α) (x : α) (l : List α) : E.all (x :: l) = E.enc x ++ E.all l := by simp [Enc.all]
theorem Enc.all_len {α : Type} (E : Enc α) : ∀ l : List α, (E.all l).length = l.length * E.c
 | [] => by simp [Enc.all]
 | x :: l => by rw [E.all_cons, List.length_append, E.hc, E.all_len l, List.length_cons, Nat.succ_mul, Nat.add_comm]
theorem Enc.all_at {α : Type} (E : Enc α) : ∀ {l : List α} {k j : Nat} {x : α} {v : Value}, l[k]? = some x → (E.enc x)[j]? = some v → (E.all l)[k * E.c + j]? = some v
 | [], k, j, x, v, h, _ => by simp at h
 | y :: l, 0, j, x, v, h, hj => by
   simp only [List.getElem?_cons_zero, Option.some.injEq] at h
   subst h
   have hl := (List.getElem?_eq_some_iff.1 hj).1
   rw [E.all_cons, Nat.zero_mul, Nat.zero_add, List.getElem?_append_left hl, hj]
 | y :: l, k + 1, j, x, v, h, hj => by
   simp only [List.getElem?_cons_succ] at h
   rw [E.all_cons, List.getElem?_append_right (by rw [E.hc, Nat.succ_mul]; omega), E.hc]
   rw [show (k + 1) * E.c + j - E.c = k * E.c + j by rw [Nat.succ_mul]; omega]
   exact E.all_at h hj
theorem Enc.all_one {α : Type} (E : Enc α) (l : List α) : ∀ u ∈ E.all l, u.oneCell' = true := by
 intro u hu
 obtain ⟨x, _, hx⟩ := List.mem_flatMap.1 hu
 exact E.one x u hx
theorem Enc.split {α : Type} (E : Enc α) {l : List α} {i : Nat} {u : Value} (h : (E.all l)[i]? = some u) : ∃ k j x, i = k * E.c + j ∧ l[k]? = some x ∧ (E.enc x)[j]? = some u := by
 have hi : i < l.length * E.c := by have := (List.getElem?_eq_some_iff.1 h).1; rwa [E.all_len] at this
 have hp := E.pos
 have hk : i / E.c < l.length := (Nat.div_lt_iff_lt_mul hp).2 hi
 have hm : i % E.c < E.c := Nat.mod_lt _ hp
 have he : i = i / E.c * E.c + i % E.c := by rw [Nat.mul_comm]; exact (Nat.div_add_mod i E.c).symm
 refine ⟨i / E.c, i % E.c, l[i / E.c], he, List.getElem?_eq_getElem hk, ?_⟩
 have hj : i % E.c < (E.enc l[i / E.c]).length := by rw [E.hc]; exact hm
 have := E.all_at (List.getElem?_eq_getElem hk) (List.getElem?_eq_getElem hj)
 rw [← he, h] at this
 rw [List.getElem?_eq_getElem hj, this]
structure Slc {α : Type} (E : Enc α) (w : World) (a : Option Addr) (n cap : Nat) (l : List α) : Prop where
 hlen : l.length = n
 hcap : n ≤ cap
 hmax : cap ≤ 9223372036854775807
 cell : ∀ k, k < n → ∃ b off, a = some ⟨b, off, none⟩ ∧ ∀ k x j v, l[k]? = some x → (E.enc x)[j]? = some v → w.cell? ⟨b, off + k * E.c + j, none⟩ = some v
theorem Slc.ext {α : Type} {E : Enc α} {w w' : World} {a : Option Addr} {n cap : Nat} {l : List α} (h : Slc E w a n cap l) (hx : Ext w w') : Slc E w' a n cap l :=
 ⟨h.hlen, h.hcap, h.hmax, fun k hk => let ⟨b, off, e, hc⟩ := h.cell k hk; ⟨b, off, e, fun k x j v h1 h2 => hx.cellSome (hc k x j v h1 h2)⟩⟩
theorem Slc.at {α : Type} {E : Enc α} {w : World} {a : Option Addr} {n cap : Nat} {l : List α} (h : Slc E w a n cap l) {k : Nat} (hk : k < n) :
 ∃ b off x, a = some ⟨b, off, none⟩ ∧ l[k]? = some x ∧ ∀ j v, (E.enc x)[j]? = some v → w.cell? ⟨b, off + k * E.c + j, none⟩ = some v :=
 let ⟨b, off, e, hc⟩ := h.cell k hk
 have hl : k < l.length := by rw [h.hlen]; exact hk
 ⟨b, off, l[k], e, List.getElem?_eq_getElem hl, fun j v hj => hc k _ j v (List.getElem?_eq_getElem hl) hj⟩
theorem take_snocG {α : Type} {l : List α} {k : Nat} {x : α} (h : l[k]? = some x) : l.take (k + 1) = l.take k ++ [x] := by
 obtain ⟨hk, rfl⟩ := List.getElem?_eq_some_iff.1 h
 rw [List.take_succ_eq_append_getElem hk]
def OwnG {α : Type} (E : Enc α) (t : TypeId) (w : World) (base : Nat) (v : Value) (l : List α) : Prop := w.ownsRow base t E.c v l.length (E.all l)
section
variable {α : Type} {E : Enc α} {t : TypeId} {w : World} {base : Nat} {l : List α}
theorem OwnG.form {v : Value} (h : OwnG E t w base v l) : ∃ a cap, v = .slice a l.length cap ∧ l.length ≤ cap ∧ cap ≤ 9223372036854775807 := by
 rcases h.2 with ⟨rfl, h0⟩ | ⟨g, cap, cur, rfl, _, _, h1, h2, _⟩
 ·exact ⟨none, 0, by rw [h0], by omega, by omega⟩
 ·exact ⟨_, cap, rfl, h1, by simpa [maxLen] using h2⟩
theorem OwnG.var {v : Value} (h : OwnG E t w base v l) : ∃ a n cap, v = .slice a n cap ∧ Hid (l.length = n) := by
 obtain ⟨a, cap, e, _⟩ := h.form
 exact ⟨a, _, cap, e, rfl⟩
theorem OwnG.slc {a : Option Addr} {n cap : Nat} (h : OwnG E t w base (.slice a n cap) l) : Slc E w a n cap l := by
 rcases h.2 with ⟨he, h0⟩ | ⟨g, cap', cur, he, _, hg, h1, h2, hs, ht⟩
 ·simp only [Value.slice.injEq] at he
  obtain ⟨rfl, rfl, rfl⟩ := he
  exact ⟨h0, Nat.le_refl _, by omega, fun k hk => absurd hk (by omega)⟩
 ·simp only [Value.slice.injEq] at he
  obtain ⟨rfl, rfl, rfl⟩ := he
  refine ⟨rfl, h1, by simpa [maxLen] using h2, fun k hk => ⟨g, 0, rfl, fun k x j v hx hv => ?_⟩⟩
  rw [Nat.zero_add, cell_of_row w g _ cur _ (0, 0) hg]
  have q := E.all_at hx hv
  rw [← ht, List.getElem?_take] at q
  split at q
  ·simpa using q
  ·cases q
theorem OwnG.lt {v : Value} (h : OwnG E t w base v l) : ∀ k, v.ownBlock = some k → base ≤ k ∧ k < w.heap.size := World.ownsRow.lt h
theorem OwnG.keep {w' : World} {v : Value} (h : OwnG E t w base v l) (hk : ∀ k, v.ownBlock = some k → w'.heap[k]? = w.heap[k]?) : OwnG E t w' base v l := by
 refine ⟨h.1, ?_⟩
 rcases h.2 with hn | ⟨g, cap, cur, rfl, hb, hgg, rest⟩
 ·exact .inl hn
 ·exact .inr ⟨g, cap, cur, rfl, hb, (hk g rfl).trans hgg, rest⟩
theorem OwnG.ext {w' : World} {v : Value} (h : OwnG E t w base v l) (hx : Ext w w') : OwnG E t w' base v l := h.keep fun k hk => hx.block k (h.lt k hk).2
theorem OwnG.on {v : Value} (h : OwnG E t w base v l) : On base w (fun W => OwnG E t W base v l) := fun w2 h2 => h.keep fun k hk => h2 k (h.lt k hk).1 (h.lt k hk).2
theorem OwnG.mono {base' : Nat} {v : Value} (h : OwnG E t w base v l) (hb : base' ≤ base) : OwnG E t w base' v l := by
 refine ⟨h.1, ?_⟩
 rcases h.2 with hn | ⟨g, cap, cur, rfl, hbb, rest⟩
 ·exact .inl hn
 ·exact .inr ⟨g, cap, cur, rfl, by omega, rest⟩
theorem OwnG.nil (E : Enc α) (t : TypeId) (w : World) (base : Nat) : OwnG E t w base (.slice none 0 0) [] := World.ownsRow_nil w base t _
theorem OwnG.block {a : Option Addr} {n cap : Nat} (h : OwnG E t w base (.slice a n cap) l) {k : Nat} (hk : k < n) : ∃ g, a = some ⟨g, 0, none⟩ ∧ base ≤ g ∧ (∀ j, w.frozen? ⟨g, j, none⟩ = false) ∧ g < w.heap.size := by
 rcases h.2 with ⟨he, h0⟩ | ⟨g, cap', cur, he, hb, hg, _⟩
 ·simp only [Value.slice.injEq] at he
  omega
 ·simp only [Value.slice.injEq] at he
  obtain ⟨rfl, _⟩ := he
  exact ⟨g, rfl, hb, fun j => frozen_of_row w g j cur _ hg, lt_of_block hg⟩
theorem OwnG.madeS (E : Enc α) (t : TypeId) (W : World) (base : Nat) (n : Nat) (hn : n = W.heap.size) (hb : base ≤ W.heap.size) : OwnG E t (W.alloc (.cells #[] t)) base (.slice (some ⟨n, 0, none⟩) 0 0) [] := by
 subst hn
 exact World.ownsRow_lit W #[] 0 hb (by omega) (by simp)
theorem OwnG.lit (E : Enc α) (t : TypeId) (W : World) (base : Nat) (l : List α) (cs : Array Value) (hcs : cs = (E.all l).toArray) (n : Nat) (hn : n = W.heap.size) (hb : base ≤ W.heap.size) (hm : l.length ≤ 1099511627776) : OwnG E t (W.alloc (.cells cs t)) base (.slice (some ⟨n, 0, none⟩) l.length l.length) l := by
 subst hn hcs
 refine ⟨E.all_len l, .inr ⟨_, l.length, (E.all l).toArray, rfl, hb, heap_alloc_new W _, Nat.le_refl _, by simp [maxLen]; omega, by simp [E.all_len], ?_⟩⟩
 show List.take _ (E.all l) = _
 exact List.take_of_length_le (by rw [E.all_len]; exact Nat.le_refl _)
theorem ownsRow_apart {w : World} {base base' : Nat} {e e' : TypeId} {s s' : Nat} {v v' : Value} {n n' : Nat} {xs xs' : List Value} (hne : e ≠ e') (h : w.ownsRow base e s v n xs) (h' : w.ownsRow base' e' s' v' n' xs') : ∀ k, v.ownBlock = some k → v'.ownBlock ≠ some k := by
 intro k hk hk'
 rcases h.2 with ⟨rfl, _⟩ | ⟨g, cap, cur, rfl, _, hg, _⟩
 ·simp [Value.ownBlock] at hk
 ·rcases h'.2 with ⟨rfl, _⟩ | ⟨g', cap', cur', rfl, _, hg', _⟩
  ·simp [Value.ownBlock] at hk'
  ·simp only [Value.ownBlock, Option.some.injEq] at hk hk'
   subst hk hk'
   rw [hg] at hg'
   simp only [Option.some.injEq, Obj.cells.injEq] at hg'
   exact hne hg'.2.1
theorem ownsRow_ne {w : World} {base g : Nat} {e e' : TypeId} {s : Nat} {v : Value} {n : Nat} {xs : List Value} {c : Array Value} {z : Nat × Nat} (h : w.ownsRow base e s v n xs) (hb : w.heap[g]? = some (.cells c e' z)) (hne : e ≠ e') : some g ≠ v.ownBlock := by
 intro hk
 rcases h.2 with ⟨rfl, _⟩ | ⟨g', cap, cur, rfl, _, hg, _⟩
 ·simp [Value.ownBlock] at hk
 ·simp only [Value.ownBlock, Option.some.injEq] at hk
  subst hk
  rw [hg] at hb
  simp only [Option.some.injEq, Obj.cells.injEq] at hb
  exact hne hb.2.1
theorem Slc.lit (E : Enc α) (t : TypeId) (W : World) (l : List α) (m : Nat) (hm : l.length = m) (cs : Array Value) (hcs : cs = (E.all l).toArray) (n : Nat) (hn : n = W.heap.size) (hb : m ≤ 1099511627776) : Slc E (W.alloc (.cells cs t)) (some ⟨n, 0, none⟩) m m l := by
 subst hm
 exact (OwnG.lit E t W 0 l cs hcs n hn (Nat.zero_le _) hb).slc
end
section
variable {α : Type} {E : Enc α} {t : TypeId} {P : Program} {w : World} {ops : Array Oper} {rest : List Oper} {o : Oper} {a : Act} {Q : Exit → Act → World → Prop}
theorem wp_append_g {K : Act → World → Prop} {ts : TypeId} {z : Value} {bytes : Nat} (E : Enc α) (hinf : (P.info? t).map (fun i => (i.zero, i.size, i.bytes)) = some (some z, E.c, bytes)) (hz : z.cells.size = E.c) (ht : P.underlying ts = some (.slice t)) (hby : bytes ≤ 64)
 (s x : Operand) (ho : o.op = .call { callee := .builtin .append, args := #[s, x], argTypes := #[ts, ts] })
 (base : Nat) (v : Value) (l : List α) (hs : a.eval s = v) (hown : OwnG E t w base v l) (ao : Option Addr) (m c : Nat) (l' : List α) (hx : a.eval x = .slice ao m c) (hi' : Slc E w ao m c l') (hb : l.length + m ≤ 1099511627776) (hbase : base ≤ w.heap.size)
 (h : ∀ v' w', OwnG E t w' base v' (l ++ l') → w.grownBy w' v.ownBlock → Near w v v' → K (a.put o.dst v') w') : o.wp P a w K Q := by
 obtain ⟨i, hi, hz0, hz1, hz2⟩ : ∃ i, P.info? t = some i ∧ i.zero = some z ∧ i.size = E.c ∧ i.bytes = bytes := by
  cases hq : P.info? t with
  | none => rw [hq] at hinf; simp at hinf
  | some i => rw [hq] at hinf; simp at hinf; exact ⟨i, rfl, hinf.1, hinf.2.1, hinf.2.2⟩
 cases ao with
 | none =>
   have hm : m = 0 := by
    rcases Nat.eq_zero_or_pos m with h0 | h0
    ·exact h0
    ·obtain ⟨b, off, e, _⟩ := hi'.cell 0 h0; cases e
   subst hm
   have hl : l' = [] := List.eq_nil_of_length_eq_zero hi'.hlen
   subst hl
   refine wp_append_nothing w s x ts ho base t i E.c ht hi v l.length _ hs hown c hx ?_
   exact h v w (by simpa using hown) (World.grownBy.refl _ _) (Near.refl _ _)
 | some ad =>
   refine wp_append_near w s x ts ho base t i z E.c bytes ht hi hz0 hz1 hz2 hz E.pos v l.length (E.all l) hs hown ad m c (E.all l') hx (by rw [E.all_len, hi'.hlen]) ?_ (E.all_one l') (by simp [maxLen]; omega) (by have := Nat.mul_le_mul hb hby; omega) hbase ?_
   ·intro i u hu
    obtain ⟨k, j, y, he, hk, hj⟩ := E.split hu
    have hkl : k < m := by rw [← hi'.hlen]; exact (List.getElem?_eq_some_iff.1 hk).1
    obtain ⟨b, off, e, hc⟩ := hi'.cell k hkl
    simp only [Option.some.injEq] at e
    subst e
    have ha : ∀ k, (⟨b, off, none⟩ : Addr).add k = ⟨b, off + k, none⟩ := fun k => by unfold Addr.add; split <;> simp_all
    rw [ha, he, ← Nat.add_assoc]
    exact hc k y j u hk hj
   ·intro v' w' h1 h2 h3
    refine h v' w' ?_ h2 h3
    unfold OwnG
    rw [List.length_append, hi'.hlen, E.all_append]
    exact h1
theorem append_g {ts : TypeId} {z : Value} {bytes : Nat} (E : Enc α) (hinf : (P.info? t).map (fun i => (i.zero, i.size, i.bytes)) = some (some z, E.c, bytes)) (hz : z.cells.size = E.c) (ht : P.underlying ts = some (.slice t)) (hby : bytes ≤ 64) (hgd : o.guard = none)
 (s x : Operand) (ho : o.op = .call { callee := .builtin .append, args := #[s, x], argTypes := #[ts, ts] })
 (base : Nat) (v : Value) (l : List α) (hs : a.eval s = v) (hown : OwnG E t w base v l) (ao : Option Addr) (m c : Nat) (l' : List α) (hx : a.eval x = .slice ao m c) (hi' : Slc E w ao m c l') (hb : l.length + m ≤ 1099511627776) (hbase : base ≤ w.heap.size)
 (h : ∀ v' w', OwnG E t w' base v' (l ++ l') → w.grownBy w' v.ownBlock → Near w v v' → wpList P ops Q rest (a.put o.dst v') w') : wpList P ops Q (o :: rest) a w :=
 wpList_plain hgd fun _ hK => wp_append_g E hinf hz ht hby s x ho base v l hs hown ao m c l' hx hi' hb hbase fun v' w' h1 h2 h3 => hK _ _ (h v' w' h1 h2 h3)
end
end Go.Proofs.YtgohdmnbnhehnaaGreat
