import Derived.Test.YtgohdmnbnhehnaaGreatBalAllG2
import Derived.Test.YtgohdmnbnhehnaaGreatBalAllG8
import Derived.Test.YtgohdmnbnhehnaaGreatBalAllG3
namespace Go.Proofs.YtgohdmnbnhehnaaGreat
set_option linter.unusedVariables false
open Go.RowKit
structure Mat (w : World) (base : Nat) (a : Option Addr) (N cap : Nat) (vs : List Value) (M : List (List Int)) : Prop where
  own : OwnV w base (.slice a N cap) vs
  rows : RowsI w base vs M
theorem Mat.vlen {w : World} {base : Nat} {a : Option Addr} {N cap : Nat} {vs : List Value} {M : List (List Int)} (h : Mat w base a N cap vs M) : vs.length = N := h.own.len
theorem Mat.len {w : World} {base : Nat} {a : Option Addr} {N cap : Nat} {vs : List Value} {M : List (List Int)} (h : Mat w base a N cap vs M) : M.length = N := by rw [← h.rows.len]; exact h.own.len
theorem Mat.cap {w : World} {base : Nat} {a : Option Addr} {N cap : Nat} {vs : List Value} {M : List (List Int)} (h : Mat w base a N cap vs M) : N ≤ cap ∧ cap ≤ 9223372036854775807 := by
  obtain ⟨a', c', he, h1, h2⟩ := h.own.form
  simp only [Value.slice.injEq] at he
  obtain ⟨_, h3, rfl⟩ := he
  exact ⟨by omega, h2⟩
theorem Mat.keep {w w' : World} {base : Nat} {a : Option Addr} {N cap : Nat} {vs : List Value} {M : List (List Int)} (h : Mat w base a N cap vs M) (h0 : ∀ k, (Value.slice a N cap).ownBlock = some k → w'.heap[k]? = w.heap[k]?)
    (h1 : ∀ i k, i < N → (vs[i]?.getD undef).ownBlock = some k → w'.heap[k]? = w.heap[k]?) : Mat w' base a N cap vs M :=
  ⟨h.own.keep h0, h.rows.keep fun i k hi hk => h1 i k (by rw [← h.len]; exact hi) hk⟩
theorem Mat.ext {w w' : World} {base : Nat} {a : Option Addr} {N cap : Nat} {vs : List Value} {M : List (List Int)} (h : Mat w base a N cap vs M) (hx : Ext w w') : Mat w' base a N cap vs M := ⟨h.own.ext hx, h.rows.ext hx⟩
theorem Mat.intss {w : World} {base : Nat} {a : Option Addr} {N cap : Nat} {vs : List Value} {M : List (List Int)} (h : Mat w base a N cap vs M) : IntSS w a N cap M :=
  OwnSS.intss ⟨vs, h.own, h.rows⟩
theorem Mat.outer {w : World} {base : Nat} {a : Option Addr} {N cap : Nat} {vs : List Value} {M : List (List Int)} (h : Mat w base a N cap vs M) (hN : 0 < N) : ∃ G, a = some ⟨G, 0, none⟩ ∧ base ≤ G ∧ G < w.heap.size ∧ ∀ j, w.frozen? ⟨G, j, none⟩ = false := by
  rcases h.own.2 with ⟨he, h0⟩ | ⟨g, cap', cur, he, hb, hg, _⟩
  · simp only [Value.slice.injEq] at he
    omega
  · simp only [Value.slice.injEq] at he
    obtain ⟨rfl, _⟩ := he
    exact ⟨g, rfl, hb, lt_of_block hg, fun j => frozen_of_row w g j cur _ hg⟩
theorem Mat.row {w : World} {base G N cap : Nat} {vs : List Value} {M : List (List Int)} (h : Mat w base (some ⟨G, 0, none⟩) N cap vs M) {i n : Nat} (hi : i < N) (hn : (M[i]?.getD []).length = n) (h1 : 1 ≤ n) :
    ∃ g c, vs[i]?.getD undef = .slice (some ⟨g, 0, none⟩) n c ∧ w.cell? ⟨G, i, none⟩ = some (.slice (some ⟨g, 0, none⟩) n c) ∧ OwnI w base (.slice (some ⟨g, 0, none⟩) n c) (M[i]?.getD []) ∧ g ≠ G ∧ base ≤ g ∧ g < w.heap.size ∧ n ≤ c ∧ c ≤ 9223372036854775807 := by
  have hr := h.rows.row i (by rw [h.len]; exact hi)
  obtain ⟨a', c, he, hc1, hc2⟩ := hr.form
  rw [he] at hr
  rw [hn] at he hr hc1
  obtain ⟨g, rfl, hb, _, hgl⟩ := hr.block (k := 0) (by omega)
  obtain ⟨G', hG, _, hc⟩ := h.own.cell hi
  simp only [Option.some.injEq, Addr.mk.injEq, and_true] at hG
  subst hG
  refine ⟨g, c, he, ?_, hr, fun e => hr.apart h.own g rfl (by subst e; rfl), hb, hgl, hc1, hc2⟩
  rw [hc i hi, ← he]
  have : i < vs.length := by rw [h.vlen]; exact hi
  simp [this]
theorem Mat.inrow {w : World} {base G N cap : Nat} {vs : List Value} {M : List (List Int)} (h : Mat w base (some ⟨G, 0, none⟩) N cap vs M) {i n g c : Nat} (hi : i < N) (hv : vs[i]?.getD undef = .slice (some ⟨g, 0, none⟩) n c) (j : Nat) (x : Int) :
    Mat (w.setCell ⟨g, j, none⟩ (.int .i64 x)) base (some ⟨G, 0, none⟩) N cap vs (M.set i ((M[i]?.getD []).set j x)) := by
  have hil : i < M.length := by rw [h.len]; exact hi
  have hr := h.rows.row i hil
  rw [hv] at hr
  have hgG : g ≠ G := fun e => hr.apart h.own g rfl (by subst e; rfl)
  refine ⟨h.own.keep fun k hk => heap_setCell_other _ _ _ _ (by simp only [Value.ownBlock, Option.some.injEq] at hk; show k ≠ g; omega), ?_⟩
  refine ⟨by rw [List.length_set]; exact h.rows.len, fun k hk => ?_, fun a b k hab hb => h.rows.apart a b k hab (by rw [List.length_set] at hb; exact hb)⟩
  rw [List.length_set] at hk
  by_cases hki : k = i
  · subst hki
    rw [hv, List.getElem?_set_self hil]
    exact hr.set j x
  · rw [List.getElem?_set_ne (Ne.symm hki)]
    refine (h.rows.row k hk).keep fun b hb => heap_setCell_other _ _ _ _ fun e => ?_
    subst e
    rcases Nat.lt_or_gt_of_ne hki with hlt | hlt
    · exact h.rows.apart k i _ hlt hil hb (by rw [hv]; rfl)
    · exact h.rows.apart i k _ hlt hk (by rw [hv]; rfl) hb
theorem Mat.put {w0 w : World} {base G N cap : Nat} {vs : List Value} {M : List (List Int)} (h : Mat w0 base (some ⟨G, 0, none⟩) N cap vs M) (hx : Ext w0 w) (hb : base ≤ w0.heap.size) {v : Value} {l : List Int} (ho : OwnI w w0.heap.size v l) {i : Nat} (hi : i < N) :
    Mat (w.setCell ⟨G, i, none⟩ v) base (some ⟨G, 0, none⟩) N cap (vs.set i v) (M.set i l) := by
  have hil : i < M.length := by rw [h.len]; exact hi
  have hvl : i < vs.length := by rw [h.vlen]; exact hi
  have hW := h.ext hx
  obtain ⟨G', hG, hbG, hGl, _⟩ := h.outer (by omega)
  simp only [Option.some.injEq, Addr.mk.injEq, and_true] at hG
  subst hG
  have hother : ∀ k, k ≠ G → (w.setCell ⟨G, i, none⟩ v).heap[k]? = w.heap[k]? := fun k hk => heap_setCell_other _ _ _ _ hk
  refine ⟨?_, ⟨by rw [List.length_set, List.length_set]; exact h.rows.len, fun k hk => ?_, fun a b k hab hb2 hk hk2 => ?_⟩⟩
  · have ho := hW.own
    unfold OwnV at ho
    rw [hW.vlen] at ho
    have := (World.ownsRow.stored ho i v).1
    unfold OwnV
    rw [List.length_set, hW.vlen]
    exact this
  · rw [List.length_set] at hk
    by_cases hki : k = i
    · subst hki
      rw [List.getElem?_set_self hvl, List.getElem?_set_self hil]
      exact (ho.keep fun b hb' => hother b (by have := (ho.lt b hb').1; omega)).mono hb
    · rw [List.getElem?_set_ne (Ne.symm hki), List.getElem?_set_ne (Ne.symm hki)]
      refine (hW.rows.row k hk).keep fun b hb' => hother b fun e => ?_
      subst e
      exact (hW.rows.row k hk).apart hW.own _ hb' rfl
  · rw [List.length_set] at hb2
    by_cases hai : a = i
    · subst hai
      rw [List.getElem?_set_self hvl] at hk
      rw [List.getElem?_set_ne (by omega)] at hk2
      have h1 := (ho.lt k hk).1
      have h2 := ((h.rows.row b hb2).lt k hk2).2
      omega
    · rw [List.getElem?_set_ne (Ne.symm hai)] at hk
      by_cases hbi : b = i
      · subst hbi
        rw [List.getElem?_set_self hvl] at hk2
        have h1 := (ho.lt k hk2).1
        have h2 := ((h.rows.row a (by omega)).lt k hk).2
        omega
      · rw [List.getElem?_set_ne (Ne.symm hbi)] at hk2
        exact h.rows.apart a b k hab hb2 hk hk2
theorem RowsI.apart' {w : World} {base : Nat} {vs : List Value} {L : List (List Int)} (h : RowsI w base vs L) {i j k : Nat} (hij : i ≠ j) (hi : i < L.length) (hj : j < L.length) (hk : (vs[i]?.getD undef).ownBlock = some k) : (vs[j]?.getD undef).ownBlock ≠ some k := by
  rcases Nat.lt_or_gt_of_ne hij with h1 | h1
  · exact h.apart i j k h1 hj hk
  · exact fun e => h.apart j i k h1 hi e hk
theorem RowsI.grownV {w w' : World} {base base' : Nat} {v : Value} {vs : List Value} {L : List (List Int)} (h : RowsI w base vs L) {us : List Value} (hv : OwnV w base' v us) (hg : w.grownBy w' v.ownBlock) : RowsI w' base vs L :=
  h.keep fun i k hi hk => hg.block k ((h.row i hi).lt k hk).2 fun e => (h.row i hi).apart hv k hk e.symm
end Go.Proofs.YtgohdmnbnhehnaaGreat
namespace Go.Proofs.YtgohdmnbnhehnaaGreat
set_option linter.unusedVariables false
open Go.RowKit
structure Enc (α : Type) where
  enc : α → List Value
  c : Nat
  hc : ∀ x, (enc x).length = c
  pos : 0 < c
  one : ∀ x, ∀ u ∈ enc x, u.oneCell' = true
def Enc.all {α : Type} (E : Enc α) (l : List α) : List Value := l.flatMap E.enc
theorem Enc.all_append {α : Type} (E : Enc α) (l l' : List α) : E.all (l ++ l') = E.all l ++ E.all l' := by simp [Enc.all]
theorem Enc.all_cons {α : Type} (E : Enc α) (x : α) (l : List α) : E.all (x :: l) = E.enc x ++ E.all l := by simp [Enc.all]
theorem Enc.all_len {α : Type} (E : Enc α) : ∀ l : List α, (E.all l).length = l.length * E.c
  | [] => by simp [Enc.all]
  | x :: l => by rw [E.all_cons, List.length_append, E.hc, E.all_len l, List.length_cons, Nat.succ_mul, Nat.add_comm]
theorem Enc.all_at {α : Type} (E : Enc α) : ∀ {l : List α} {k j : Nat} {x : α} {v : Value}, l[k]? = some x → (E.enc x)[j]? = some v → (E.all l)[k * E.c + j]? = some v
  | [], k, j, x, v, h, _ => by simp at h
  | y :: l, 0, j, x, v, h, hj => by
    simp only [List.getElem?_cons_zero, Option.some.injEq] at h
    subst h
    have hl := (List.getElem?_eq_some_iff.1 hj).1
    rw [E.all_cons, Nat.zero_mul, Nat.zero_add, List.getElem?_append_left hl, hj]
  | y :: l, k + 1, j, x, v, h, hj => by
    simp only [List.getElem?_cons_succ] at h
    rw [E.all_cons, List.getElem?_append_right (by rw [E.hc, Nat.succ_mul]; omega), E.hc]
    rw [show (k + 1) * E.c + j - E.c = k * E.c + j by rw [Nat.succ_mul]; omega]
    exact E.all_at h hj
theorem Enc.split {α : Type} (E : Enc α) {l : List α} {i : Nat} {u : Value} (h : (E.all l)[i]? = some u) : ∃ k j x, i = k * E.c + j ∧ l[k]? = some x ∧ (E.enc x)[j]? = some u := by
  have hi : i < l.length * E.c := by have := (List.getElem?_eq_some_iff.1 h).1; rwa [E.all_len] at this
  have hp := E.pos
  have hk : i / E.c < l.length := (Nat.div_lt_iff_lt_mul hp).2 hi
  have hm : i % E.c < E.c := Nat.mod_lt _ hp
  have he : i = i / E.c * E.c + i % E.c := by rw [Nat.mul_comm]; exact (Nat.div_add_mod i E.c).symm
  refine ⟨i / E.c, i % E.c, l[i / E.c], he, List.getElem?_eq_getElem hk, ?_⟩
  have hj : i % E.c < (E.enc l[i / E.c]).length := by rw [E.hc]; exact hm
  have := E.all_at (List.getElem?_eq_getElem hk) (List.getElem?_eq_getElem hj)
  rw [← he, h] at this
  rw [List.getElem?_eq_getElem hj, this]
structure Slc {α : Type} (E : Enc α) (w : World) (a : Option Addr) (n cap : Nat) (l : List α) : Prop where
  hlen : l.length = n
  hcap : n ≤ cap
  hmax : cap ≤ 9223372036854775807
  cell : ∀ k, k < n → ∃ b off, a = some ⟨b, off, none⟩ ∧ ∀ k x j v, l[k]? = some x → (E.enc x)[j]? = some v → w.cell? ⟨b, off + k * E.c + j, none⟩ = some v
theorem Slc.ext {α : Type} {E : Enc α} {w w' : World} {a : Option Addr} {n cap : Nat} {l : List α} (h : Slc E w a n cap l) (hx : Ext w w') : Slc E w' a n cap l :=
  ⟨h.hlen, h.hcap, h.hmax, fun k hk => let ⟨b, off, e, hc⟩ := h.cell k hk; ⟨b, off, e, fun k x j v h1 h2 => hx.cellSome (hc k x j v h1 h2)⟩⟩
theorem Slc.at {α : Type} {E : Enc α} {w : World} {a : Option Addr} {n cap : Nat} {l : List α} (h : Slc E w a n cap l) {k : Nat} (hk : k < n) :
    ∃ b off x, a = some ⟨b, off, none⟩ ∧ l[k]? = some x ∧ ∀ j v, (E.enc x)[j]? = some v → w.cell? ⟨b, off + k * E.c + j, none⟩ = some v :=
  let ⟨b, off, e, hc⟩ := h.cell k hk
  have hl : k < l.length := by rw [h.hlen]; exact hk
  ⟨b, off, l[k], e, List.getElem?_eq_getElem hl, fun j v hj => hc k _ j v (List.getElem?_eq_getElem hl) hj⟩
def OwnG {α : Type} (E : Enc α) (t : TypeId) (w : World) (base : Nat) (v : Value) (l : List α) : Prop := w.ownsRow base t E.c v l.length (E.all l)
section
variable {α : Type} {E : Enc α} {t : TypeId} {w : World} {base : Nat} {l : List α}
theorem OwnG.form {v : Value} (h : OwnG E t w base v l) : ∃ a cap, v = .slice a l.length cap ∧ l.length ≤ cap ∧ cap ≤ 9223372036854775807 := by
  rcases h.2 with ⟨rfl, h0⟩ | ⟨g, cap, cur, rfl, _, _, h1, h2, _⟩
  · exact ⟨none, 0, by rw [h0], by omega, by omega⟩
  · exact ⟨_, cap, rfl, h1, by simpa [maxLen] using h2⟩
theorem OwnG.var {v : Value} (h : OwnG E t w base v l) : ∃ a n cap, v = .slice a n cap ∧ Hid (l.length = n) := by
  obtain ⟨a, cap, e, _⟩ := h.form
  exact ⟨a, _, cap, e, rfl⟩
theorem OwnG.lt {v : Value} (h : OwnG E t w base v l) : ∀ k, v.ownBlock = some k → base ≤ k ∧ k < w.heap.size := World.ownsRow.lt h
theorem OwnG.keep {w' : World} {v : Value} (h : OwnG E t w base v l) (hk : ∀ k, v.ownBlock = some k → w'.heap[k]? = w.heap[k]?) : OwnG E t w' base v l := by
  refine ⟨h.1, ?_⟩
  rcases h.2 with hn | ⟨g, cap, cur, rfl, hb, hgg, rest⟩
  · exact .inl hn
  · exact .inr ⟨g, cap, cur, rfl, hb, (hk g rfl).trans hgg, rest⟩
theorem OwnG.ext {w' : World} {v : Value} (h : OwnG E t w base v l) (hx : Ext w w') : OwnG E t w' base v l := h.keep fun k hk => hx.block k (h.lt k hk).2
theorem OwnG.on {v : Value} (h : OwnG E t w base v l) : On base w (fun W => OwnG E t W base v l) := fun w2 h2 => h.keep fun k hk => h2 k (h.lt k hk).1 (h.lt k hk).2
theorem OwnG.mono {base' : Nat} {v : Value} (h : OwnG E t w base v l) (hb : base' ≤ base) : OwnG E t w base' v l := by
  refine ⟨h.1, ?_⟩
  rcases h.2 with hn | ⟨g, cap, cur, rfl, hbb, rest⟩
  · exact .inl hn
  · exact .inr ⟨g, cap, cur, rfl, by omega, rest⟩
theorem OwnG.nil (E : Enc α) (t : TypeId) (w : World) (base : Nat) : OwnG E t w base (.slice none 0 0) [] := World.ownsRow_nil w base t _
theorem OwnG.block {a : Option Addr} {n cap : Nat} (h : OwnG E t w base (.slice a n cap) l) {k : Nat} (hk : k < n) : ∃ g, a = some ⟨g, 0, none⟩ ∧ base ≤ g ∧ (∀ j, w.frozen? ⟨g, j, none⟩ = false) ∧ g < w.heap.size := by
  rcases h.2 with ⟨he, h0⟩ | ⟨g, cap', cur, he, hb, hg, _⟩
  · simp only [Value.slice.injEq] at he
    omega
  · simp only [Value.slice.injEq] at he
    obtain ⟨rfl, _⟩ := he
    exact ⟨g, rfl, hb, fun j => frozen_of_row w g j cur _ hg, lt_of_block hg⟩
theorem OwnG.madeS (E : Enc α) (t : TypeId) (W : World) (base : Nat) (n : Nat) (hn : n = W.heap.size) (hb : base ≤ W.heap.size) : OwnG E t (W.alloc (.cells #[] t)) base (.slice (some ⟨n, 0, none⟩) 0 0) [] := by
  subst hn
  exact World.ownsRow_lit W #[] 0 hb (by omega) (by simp)
theorem ownsRow_apart {w : World} {base base' : Nat} {e e' : TypeId} {s s' : Nat} {v v' : Value} {n n' : Nat} {xs xs' : List Value} (hne : e ≠ e') (h : w.ownsRow base e s v n xs) (h' : w.ownsRow base' e' s' v' n' xs') : ∀ k, v.ownBlock = some k → v'.ownBlock ≠ some k := by
  intro k hk hk'
  rcases h.2 with ⟨rfl, _⟩ | ⟨g, cap, cur, rfl, _, hg, _⟩
  · simp [Value.ownBlock] at hk
  · rcases h'.2 with ⟨rfl, _⟩ | ⟨g', cap', cur', rfl, _, hg', _⟩
    · simp [Value.ownBlock] at hk'
    · simp only [Value.ownBlock, Option.some.injEq] at hk hk'
      subst hk hk'
      rw [hg] at hg'
      simp only [Option.some.injEq, Obj.cells.injEq] at hg'
      exact hne hg'.2.1
theorem ownsRow_ne {w : World} {base g : Nat} {e e' : TypeId} {s : Nat} {v : Value} {n : Nat} {xs : List Value} {c : Array Value} {z : Nat × Nat} (h : w.ownsRow base e s v n xs) (hb : w.heap[g]? = some (.cells c e' z)) (hne : e ≠ e') : some g ≠ v.ownBlock := by
  intro hk
  rcases h.2 with ⟨rfl, _⟩ | ⟨g', cap, cur, rfl, _, hg, _⟩
  · simp [Value.ownBlock] at hk
  · simp only [Value.ownBlock, Option.some.injEq] at hk
    subst hk
    rw [hg] at hb
    simp only [Option.some.injEq, Obj.cells.injEq] at hb
    exact hne hb.2.1
end
section
variable {α : Type} {E : Enc α} {t : TypeId} {P : Program} {w : World} {ops : Array Oper} {rest : List Oper} {o : Oper} {a : Act} {Q : Exit → Act → World → Prop}
end
end Go.Proofs.YtgohdmnbnhehnaaGreat
namespace Go.Proofs.YtgohdmnbnhehnaaGreat
set_option linter.unusedVariables false
open Go.RowKit
theorem Ext.store {w w' : World} (h : Ext w w') {b : Nat} (k : Nat) (hb : w.heap.size ≤ b) (v : Value) : Ext w (w'.setCell ⟨b, k, none⟩ v) := Below.setCell h (p := ⟨b, k, none⟩) hb v
theorem Ext.grown {w0 w w' : World} {row : Option Nat} (h : Ext w0 w) (hg : w.grownBy w' row) (hr : ∀ k, row = some k → w0.heap.size ≤ k) : Ext w0 w' := ext_grown h hg hr
def OffV (vs : List Value) (v : Value) : Prop := ∀ i k, i < vs.length → (vs[i]?.getD undef).ownBlock = some k → v.ownBlock ≠ some k
theorem OffV.nil (v : Value) : OffV [] v := fun i k h => absurd h (by simp)
theorem OffV.near {w : World} {base : Nat} {vs : List Value} {A : List (List Int)} {v v' : Value} (h : OffV vs v) (hr : RowsI w base vs A) (hn : Near w v v') : OffV vs v' := by
  intro i k hi hk hk'
  rcases hn k hk' with h1 | h1
  · exact h i k hi hk h1
  · have := ((hr.row i (by rw [← hr.len]; exact hi)).lt k hk).2
    omega
theorem OffV.snoc {w w' : World} {base : Nat} {vs : List Value} {B r : List Int} {v vr : Value} (h : OffV vs v) (hb : OwnI w base v B) (hr : OwnI w' w.heap.size vr r) : OffV (vs ++ [vr]) v := by
  intro i k hi hk hk'
  by_cases hl : i < vs.length
  · rw [List.getElem?_append_left hl] at hk; exact h i k hl hk hk'
  · have hie : i = vs.length := by simp at hi; omega
    subst hie
    rw [List.getElem?_concat_length, Option.getD_some] at hk
    have h1 := (hb.lt k hk').2
    have h2 := (hr.lt k hk).1
    omega
structure LpO (w : World) (base g : Nat) (va vb vc : Value) (vs : List Value) (A : List (List Int)) (B : List Int) (C : List (Int × Int)) : Prop where
  box : w.heap[g]? = some (.cells #[va, vb, vc] 67 (0, 0))
  hg : base ≤ g
  a : OwnV w base va vs
  rows : RowsI w base vs A
  b : OwnI w base vb B
  off : OffV vs vb
  c : OwnR w base vc C
section
variable {w : World} {base g : Nat} {va vb vc : Value} {vs : List Value} {A : List (List Int)} {B : List Int} {C : List (Int × Int)}
theorem LpO.lt (h : LpO w base g va vb vc vs A B C) : g < w.heap.size := lt_of_block h.box
theorem LpO.ext {w' : World} (h : LpO w base g va vb vc vs A B C) (hx : Ext w w') : LpO w' base g va vb vc vs A B C :=
  ⟨(hx.block _ h.lt).trans h.box, h.hg, h.a.ext hx, h.rows.ext hx, h.b.ext hx, h.off, h.c.ext hx⟩
theorem LpO.c0 (h : LpO w base g va vb vc vs A B C) : w.cell? ⟨g, 0, none⟩ = some va := by rw [cell_of_row w g 0 _ _ _ h.box]; rfl
theorem LpO.c1 (h : LpO w base g va vb vc vs A B C) : w.cell? ⟨g, 1, none⟩ = some vb := by rw [cell_of_row w g 1 _ _ _ h.box]; rfl
theorem LpO.c2 (h : LpO w base g va vb vc vs A B C) : w.cell? ⟨g, 2, none⟩ = some vc := by rw [cell_of_row w g 2 _ _ _ h.box]; rfl
theorem LpO.free (h : LpO w base g va vb vc vs A B C) (k : Nat) : w.frozen? ⟨g, k, none⟩ = false := frozen_of_row w g k _ _ h.box
theorem LpO.new {w : World} {base : Nat} (hb : base ≤ w.heap.size) : LpO (w.alloc (.cells #[.slice none 0 0, .slice none 0 0, .slice none 0 0] 67)) base w.heap.size (.slice none 0 0) (.slice none 0 0) (.slice none 0 0) [] [] [] [] :=
  ⟨heap_alloc_new _ _, hb, OwnV.nil _ _, RowsI.nil _ _, OwnI.nil _ _, OffV.nil _, OwnR.nil _ _⟩
theorem LpO.boxc0 {x y z : Value} (h : w.heap[g]? = some (.cells #[x, y, z] 67 (0, 0))) : w.cell? ⟨g, 0, none⟩ = some x := by rw [cell_of_row w g 0 _ _ _ h]; rfl
theorem LpO.boxc1 {x y z : Value} (h : w.heap[g]? = some (.cells #[x, y, z] 67 (0, 0))) : w.cell? ⟨g, 1, none⟩ = some y := by rw [cell_of_row w g 1 _ _ _ h]; rfl
theorem LpO.boxf {x y z : Value} (h : w.heap[g]? = some (.cells #[x, y, z] 67 (0, 0))) (k : Nat) : w.frozen? ⟨g, k, none⟩ = false := frozen_of_row w g k _ _ h
theorem LpO.neA (h : LpO w base g va vb vc vs A B C) : some g ≠ va.ownBlock := ownsRow_ne h.a h.box (by decide)
theorem LpO.neB (h : LpO w base g va vb vc vs A B C) : some g ≠ vb.ownBlock := ownsRow_ne h.b h.box (by decide)
theorem LpO.neR (h : LpO w base g va vb vc vs A B C) {i : Nat} (hi : i < A.length) : some g ≠ (vs[i]?.getD undef).ownBlock := ownsRow_ne (h.rows.row i hi) h.box (by decide)
theorem LpO.store {w w' : World} {k : Nat} {v : Value} (hb : w.heap[g]? = some (.cells #[va, vb, vc] 67 (0, 0))) : (w.setCell ⟨g, k, none⟩ v).heap[g]? = some (.cells (#[va, vb, vc].setIfInBounds k v) 67 (0, 0)) := heap_setCell_same w g k _ _ v hb
theorem LpO.pushA {w1 w2 : World} (h : LpO w base g va vb vc vs A B C) (hx : Ext w w1) {vr va' : Value} {r : List Int} (hr : OwnI w1 w.heap.size vr r) (hbs : base ≤ w.heap.size) (hgr : w1.grownBy w2 va.ownBlock) (ho : OwnV w2 base va' (vs ++ [vr])) (hn : Near w1 va va') :
    LpO (w2.setCell ⟨g, 0, none⟩ va') base g va' vb vc (vs ++ [vr]) (A ++ [r]) B C := by
  have h1 := h.ext hx
  have hbox : w2.heap[g]? = some (.cells #[va, vb, vc] 67 (0, 0)) := (hgr.block g h1.lt h1.neA).trans h1.box
  have hset : ∀ k, k ≠ g → (w2.setCell ⟨g, 0, none⟩ va').heap[k]? = w2.heap[k]? := fun k hk => heap_setCell_other _ _ _ _ hk
  have hB2 : OwnI w2 base vb B := h1.b.keep fun k hk => hgr.block k (h1.b.lt k hk).2 fun e => h1.b.apart h1.a k hk e.symm
  have hC2 : OwnR w2 base vc C := h1.c.keep fun k hk => hgr.block k (h1.c.lt k hk).2 fun e => ownsRow_apart (by decide) h1.c h1.a k hk e.symm
  have hR1 : RowsI w1 base (vs ++ [vr]) (A ++ [r]) := h.rows.snoc hx hr hbs
  have hR2 : RowsI w2 base (vs ++ [vr]) (A ++ [r]) := hR1.keep fun i k hi hk => hgr.block k ((hR1.row i hi).lt k hk).2 fun e => (hR1.row i hi).apart h1.a k hk e.symm
  refine ⟨?_, h.hg, ?_, ?_, ?_, h.off.snoc h.b hr, ?_⟩
  · have := LpO.store (w := w2) (w' := w2) (k := 0) (v := va') hbox
    exact this
  · exact ho.keep fun k hk => hset k fun e => (ownsRow_ne ho hbox (by decide)) (by rw [hk, e])
  · exact hR2.keep fun i k hi hk => hset k fun e => (ownsRow_ne (hR2.row i hi) hbox (by decide)) (by rw [hk, e])
  · exact hB2.keep fun k hk => hset k fun e => (ownsRow_ne hB2 hbox (by decide)) (by rw [hk, e])
  · exact hC2.keep fun k hk => hset k fun e => (ownsRow_ne hC2 hbox (by decide)) (by rw [hk, e])
theorem LpO.pushB {w1 w2 : World} (h : LpO w base g va vb vc vs A B C) (hx : Ext w w1) {vb' : Value} {B' : List Int} (hgr : w1.grownBy w2 vb.ownBlock) (ho : OwnI w2 base vb' B') (hn : Near w1 vb vb') :
    LpO (w2.setCell ⟨g, 1, none⟩ vb') base g va vb' vc vs A B' C := by
  have h1 := h.ext hx
  have hbox : w2.heap[g]? = some (.cells #[va, vb, vc] 67 (0, 0)) := (hgr.block g h1.lt h1.neB).trans h1.box
  have hset : ∀ k, k ≠ g → (w2.setCell ⟨g, 1, none⟩ vb').heap[k]? = w2.heap[k]? := fun k hk => heap_setCell_other _ _ _ _ hk
  have hA2 : OwnV w2 base va vs := h1.a.keep fun k hk => hgr.block k (h1.a.lt k hk).2 fun e => h1.b.apart h1.a k e.symm hk
  have hC2 : OwnR w2 base vc C := h1.c.keep fun k hk => hgr.block k (h1.c.lt k hk).2 fun e => ownsRow_apart (by decide) h1.c h1.b k hk e.symm
  have hR2 : RowsI w2 base vs A := h1.rows.keep fun i k hi hk => hgr.block k ((h1.rows.row i hi).lt k hk).2 fun e => h1.off i k (by rw [h1.rows.len]; exact hi) hk e.symm
  refine ⟨?_, h.hg, ?_, ?_, ?_, h1.off.near h1.rows hn, ?_⟩
  · have := LpO.store (w := w2) (w' := w2) (k := 1) (v := vb') hbox
    exact this
  · exact hA2.keep fun k hk => hset k fun e => (ownsRow_ne hA2 hbox (by decide)) (by rw [hk, e])
  · exact hR2.keep fun i k hi hk => hset k fun e => (ownsRow_ne (hR2.row i hi) hbox (by decide)) (by rw [hk, e])
  · exact ho.keep fun k hk => hset k fun e => (ownsRow_ne ho hbox (by decide)) (by rw [hk, e])
  · exact hC2.keep fun k hk => hset k fun e => (ownsRow_ne hC2 hbox (by decide)) (by rw [hk, e])
theorem ownsRow_grown {w w2 : World} {b1 b2 : Nat} {e e' : TypeId} {s s' n n' : Nat} {v v' : Value} {xs xs' : List Value} (h : w.ownsRow b1 e s v n xs) (h' : w.ownsRow b2 e' s' v' n' xs') (hne : e ≠ e') (hgr : w.grownBy w2 v'.ownBlock) : w2.ownsRow b1 e s v n xs :=
  h.kept hgr (by
    cases hv : v.ownBlock with
    | none => exact .inl rfl
    | some k => exact .inr fun e2 => ownsRow_apart hne h h' k hv e2.symm)
theorem ownsRow_set {w : World} {b1 g k : Nat} {e e' : TypeId} {s n : Nat} {v u : Value} {xs : List Value} {c : Array Value} {z : Nat × Nat} (h : w.ownsRow b1 e s v n xs) (hb : w.heap[g]? = some (.cells c e' z)) (hne : e ≠ e') : (w.setCell ⟨g, k, none⟩ u).ownsRow b1 e s v n xs := by
  refine ⟨h.1, ?_⟩
  rcases h.2 with hn | ⟨g', cap, cur, rfl, hbb, hgg, rest⟩
  · exact .inl hn
  · refine .inr ⟨g', cap, cur, rfl, hbb, ?_, rest⟩
    rw [heap_setCell_other _ _ _ _ fun e2 => by subst e2; exact ownsRow_ne h hb hne rfl]
    exact hgg
theorem LpO.boxA {w1 w2 : World} (h : LpO w base g va vb vc vs A B C) (hx : Ext w w1) (hg : w1.grownBy w2 va.ownBlock) : w2.heap[g]? = some (.cells #[va, vb, vc] 67 (0, 0)) := (hg.block g (h.ext hx).lt (h.ext hx).neA).trans (h.ext hx).box
theorem LpO.boxB {w1 w2 : World} (h : LpO w base g va vb vc vs A B C) (hx : Ext w w1) (hg : w1.grownBy w2 vb.ownBlock) : w2.heap[g]? = some (.cells #[va, vb, vc] 67 (0, 0)) := (hg.block g (h.ext hx).lt (h.ext hx).neB).trans (h.ext hx).box
theorem OwnG.grownV {α : Type} {E : Enc α} {t : TypeId} {w w1 w2 : World} {b1 b2 : Nat} {v v' : Value} {l : List α} {us : List Value} (h : OwnG E t w b1 v l) (hx : Ext w w1) (h' : OwnV w b2 v' us) (hne : t ≠ 22) (hgr : w1.grownBy w2 v'.ownBlock) : OwnG E t w2 b1 v l :=
  ownsRow_grown (h.ext hx) (h'.ext hx) hne hgr
end
theorem OwnV.mono' {w : World} {base base' : Nat} {v : Value} {vs : List Value} (h : OwnV w base v vs) (hb : base' ≤ base) : OwnV w base' v vs := by
  refine ⟨h.1, ?_⟩
  rcases h.2 with hn | ⟨g, cap, cur, rfl, hbb, rest⟩
  · exact .inl hn
  · exact .inr ⟨g, cap, cur, rfl, by omega, rest⟩
theorem OwnSS.mono' {w : World} {base base' : Nat} {v : Value} {L : List (List Int)} (h : OwnSS w base v L) (hb : base' ≤ base) : OwnSS w base' v L :=
  let ⟨vs, h1, h2⟩ := h; ⟨vs, h1.mono' hb, ⟨h2.len, fun i hi => (h2.row i hi).mono hb, h2.apart⟩⟩
theorem Ints.litM {W : World} (l : List Int) (t : TypeId) {m : Nat} (hm : l.length = m) {cs : Array Value} (hcs : cs = intCells l) {n : Nat} (hn : n = W.heap.size) (hb : m ≤ 1099511627776) : Ints (W.alloc (.cells cs t)) (some ⟨n, 0, none⟩) m m l := by
  subst hn hcs
  exact (show Row (W.alloc (.cells (intCells l) t)) W.heap.size t l from heap_alloc_new W _).ints hm (Nat.le_refl _) (by omega)
theorem Rats.two (W : World) (x y x' y' : Int) (t : TypeId) {n : Nat} (hn : n = W.heap.size) : Rats (W.alloc (.cells #[.int .i64 x, .int .i64 y, .int .i64 x', .int .i64 y'] t)) (some ⟨n, 0, none⟩) 2 2 [(x, y), (x', y')] := by
  subst hn
  exact ⟨rfl, Nat.le_refl _, by omega, fun k hk => ⟨_, 0, rfl, fun k hk => by
    have : k = 0 ∨ k = 1 := by omega
    rcases this with rfl | rfl <;> simp⟩⟩
theorem RowsI.mono' {w : World} {base base' : Nat} {vs : List Value} {L : List (List Int)} (h : RowsI w base vs L) (hb : base' ≤ base) : RowsI w base' vs L := ⟨h.len, fun i hi => (h.row i hi).mono hb, h.apart⟩
theorem Ext.blk {w w' : World} (hx : Ext w w') {b : Nat} {o : Obj} (h : w.heap[b]? = some o) : w'.heap[b]? = some o := (hx.block b (lt_of_block h)).trans h
theorem blk_ne {w : World} {b b' : Nat} {c c' : Array Value} {t t' : TypeId} {z z' : Nat × Nat} (h : w.heap[b]? = some (.cells c t z)) (h' : w.heap[b']? = some (.cells c' t' z')) (hne : t ≠ t') : b ≠ b' := by
  intro e
  subst e
  rw [h] at h'
  simp only [Option.some.injEq, Obj.cells.injEq] at h'
  exact hne h'.2.1
end Go.Proofs.YtgohdmnbnhehnaaGreat
