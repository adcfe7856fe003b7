import Derived.Test.YtgohdmnbnhehnaaGreatBalAllG3
import Derived.Test.YtgohdmnbnhehnaaGreatBalAllG1
namespace Go.Proofs.YtgohdmnbnhehnaaGreat
set_option linter.unusedVariables false
open Go.RowKit
structure RatSS (w : World) (a : Option Addr) (n cap : Nat) (L : List (List (Int × Int))) : Prop where
  hlen : L.length = n
  hcap : n ≤ cap
  hmax : cap ≤ 9223372036854775807
  cell : ∀ k, k < n → ∃ b off, a = some ⟨b, off, none⟩ ∧ ∀ k, k < n → ∃ a' n' c', w.cell? ⟨b, off + k, none⟩ = some (.slice a' n' c') ∧ Rats w a' n' c' (L[k]?.getD [])
theorem RatSS.ext {w w' : World} {a : Option Addr} {n cap : Nat} {L : List (List (Int × Int))} (h : RatSS w a n cap L) (hx : Ext w w') : RatSS w' a n cap L :=
  ⟨h.hlen, h.hcap, h.hmax, fun k hk => let ⟨b, off, e, hc⟩ := h.cell k hk; ⟨b, off, e, fun k hk => let ⟨a', n', c', h1, h2⟩ := hc k hk; ⟨a', n', c', hx.cellSome h1, h2.ext hx⟩⟩⟩
theorem RatSS.at {w : World} {a : Option Addr} {n cap : Nat} {L : List (List (Int × Int))} (h : RatSS w a n cap L) {k : Nat} (hk : k < n) :
    ∃ b off a' n' c', a = some ⟨b, off, none⟩ ∧ w.cell? ⟨b, off + k, none⟩ = some (.slice a' n' c') ∧ Rats w a' n' c' (L[k]?.getD []) :=
  let ⟨b, off, e, hc⟩ := h.cell k hk; let ⟨a', n', c', h1, h2⟩ := hc k hk; ⟨b, off, a', n', c', e, h1, h2⟩
theorem RatSS.alloc {w : World} {a : Option Addr} {n cap : Nat} {L : List (List (Int × Int))} (h : RatSS w a n cap L) (o : Obj) : RatSS (w.alloc o) a n cap L := h.ext (Ext.alloc w o)
def OwnW (w : World) (base : Nat) (v : Value) (vs : List Value) : Prop := w.ownsRow base 30 1 v vs.length vs
theorem OwnW.form {w : World} {base : Nat} {v : Value} {vs : List Value} (h : OwnW w base v vs) : ∃ a cap, v = .slice a vs.length cap ∧ vs.length ≤ cap ∧ cap ≤ 9223372036854775807 := by
  rcases h.2 with ⟨rfl, h0⟩ | ⟨g, cap, cur, rfl, _, _, h1, h2, _⟩
  · exact ⟨none, 0, by rw [h0], by omega, by omega⟩
  · exact ⟨_, cap, rfl, h1, by simpa [maxLen] using h2⟩
theorem OwnW.var {w : World} {base : Nat} {v : Value} {vs : List Value} (h : OwnW w base v vs) : ∃ a n cap, v = .slice a n cap ∧ Hid (vs.length = n) := by
  obtain ⟨a, cap, e, _⟩ := h.form
  exact ⟨a, _, cap, e, rfl⟩
theorem OwnW.cell {w : World} {base : Nat} {a : Option Addr} {n cap : Nat} {vs : List Value} (h : OwnW w base (.slice a n cap) vs) {k : Nat} (hk : k < n) : ∃ g, a = some ⟨g, 0, none⟩ ∧ base ≤ g ∧ ∀ k, k < n → w.cell? ⟨g, k, none⟩ = vs[k]? := by
  rcases h.2 with ⟨he, h0⟩ | ⟨g, cap', cur, he, hb, hg, h1, h2, hs, ht⟩
  · simp only [Value.slice.injEq] at he
    omega
  · simp only [Value.slice.injEq] at he
    obtain ⟨rfl, rfl, rfl⟩ := he
    refine ⟨g, rfl, hb, fun k hk => ?_⟩
    rw [cell_of_row w g k cur _ (0, 0) hg]
    have : (cur.toList.take (vs.length * 1))[k]? = vs[k]? := by rw [ht]
    rw [List.getElem?_take, if_pos (by omega)] at this
    simpa using this
theorem OwnW.len {w : World} {base : Nat} {a : Option Addr} {n cap : Nat} {vs : List Value} (h : OwnW w base (.slice a n cap) vs) : vs.length = n := by
  obtain ⟨a', cap', he, _⟩ := h.form
  simp only [Value.slice.injEq] at he
  exact he.2.1.symm
theorem OwnW.lt {w : World} {base : Nat} {v : Value} {vs : List Value} (h : OwnW w base v vs) : ∀ k, v.ownBlock = some k → base ≤ k ∧ k < w.heap.size := World.ownsRow.lt h
theorem OwnW.keep {w w' : World} {base : Nat} {v : Value} {vs : List Value} (h : OwnW w base v vs) (hk : ∀ k, v.ownBlock = some k → w'.heap[k]? = w.heap[k]?) : OwnW w' base v vs := by
  refine ⟨h.1, ?_⟩
  rcases h.2 with hn | ⟨g, cap, cur, rfl, hb, hgg, rest⟩
  · exact .inl hn
  · exact .inr ⟨g, cap, cur, rfl, hb, (hk g rfl).trans hgg, rest⟩
theorem OwnW.ext {w w' : World} {base : Nat} {v : Value} {vs : List Value} (h : OwnW w base v vs) (hx : Ext w w') : OwnW w' base v vs := h.keep fun k hk => hx.block k (h.lt k hk).2
theorem OwnW.on {w : World} {base : Nat} {v : Value} {vs : List Value} (h : OwnW w base v vs) : On base w (fun W => OwnW W base v vs) := fun w2 h2 => h.keep fun k hk => h2 k (h.lt k hk).1 (h.lt k hk).2
theorem OwnW.nil (w : World) (base : Nat) : OwnW w base (.slice none 0 0) [] := World.ownsRow_nil w base _ 1
theorem OwnR.apart {w : World} {base base' : Nat} {v v' : Value} {l : List (Int × Int)} {vs : List Value} (h : OwnR w base v l) (h' : OwnW w base' v' vs) : ∀ k, v.ownBlock = some k → v'.ownBlock ≠ some k := by
  intro k hk hk'
  rcases h.2 with ⟨rfl, _⟩ | ⟨g, cap, cur, rfl, _, hg, _⟩
  · simp [Value.ownBlock] at hk
  · rcases h'.2 with ⟨rfl, _⟩ | ⟨g', cap', cur', rfl, _, hg', _⟩
    · simp [Value.ownBlock] at hk'
    · simp only [Value.ownBlock, Option.some.injEq] at hk hk'
      subst hk hk'
      rw [hg] at hg'
      simp at hg'
theorem Tryz.infoRats : (Tryz.prog.info? 30).map (fun i => (i.zero, i.size, i.bytes)) = some (some (.slice none 0 0), 1, 24) := by kernel_rfl
section
variable {P : Program} {w : World} {ops : Array Oper} {rest : List Oper} {o : Oper} {a : Act} {Q : Exit → Act → World → Prop}
theorem wp_append_ratrow {K : Act → World → Prop} (s x : Operand) (ho : o.op = .call { callee := .builtin .append, args := #[s, x], argTypes := #[140, 140] })
    (base : Nat) (v : Value) (vs : List Value) (hs : a.eval s = v) (hown : OwnW w base v vs) (ad : Addr) (u : Value) (c : Nat) (hx : a.eval x = .slice (some ad) 1 c)
    (hcell : w.cell? ad = some u) (h1c : u.oneCell' = true) (hb : vs.length ≤ 1099511627775) (hbase : base ≤ w.heap.size)
    (h : ∀ v' w', OwnW w' base v' (vs ++ [u]) → w.grownBy w' v.ownBlock → Near w v v' → K (a.put o.dst v') w') : o.wp Tryz.prog a w K Q := by
  obtain ⟨i, hi, hz0, hz1, hz2⟩ := info_parts Tryz.infoRats
  refine wp_append_near w s x 140 ho base 30 i (.slice none 0 0) 1 24 Tryz.underlying140 hi hz0 hz1 hz2 rfl (by decide) v vs.length vs hs hown ad 1 c [u] hx rfl ?_ ?_ (by simp [maxLen]; omega) (by omega) hbase ?_
  · intro j u' hu
    match j with
    | 0 => simpa [Addr.add] using hu ▸ hcell
    | j + 1 => simp at hu
  · intro u' hu
    simp only [List.mem_singleton] at hu
    rw [hu]
    exact h1c
  · intro v' w' h1 h2 h3
    refine h v' w' ?_ h2 h3
    unfold OwnW
    rw [List.length_append]
    exact h1
end
structure RowsR (w : World) (base : Nat) (vs : List Value) (L : List (List (Int × Int))) : Prop where
  len : vs.length = L.length
  row : ∀ i, i < L.length → OwnR w base (vs[i]?.getD undef) (L[i]?.getD [])
  apart : ∀ i j k, i < j → j < L.length → (vs[i]?.getD undef).ownBlock = some k → (vs[j]?.getD undef).ownBlock ≠ some k
theorem RowsR.keep {w w' : World} {base : Nat} {vs : List Value} {L : List (List (Int × Int))} (h : RowsR w base vs L) (hk : ∀ i k, i < L.length → (vs[i]?.getD undef).ownBlock = some k → w'.heap[k]? = w.heap[k]?) : RowsR w' base vs L :=
  ⟨h.len, fun i hi => (h.row i hi).keep fun k hk' => hk i k hi hk', h.apart⟩
theorem RowsR.ext {w w' : World} {base : Nat} {vs : List Value} {L : List (List (Int × Int))} (h : RowsR w base vs L) (hx : Ext w w') : RowsR w' base vs L :=
  h.keep fun i k hi hk => hx.block k ((h.row i hi).lt k hk).2
theorem RowsR.nil (w : World) (base : Nat) : RowsR w base [] [] := ⟨rfl, fun i hi => absurd hi (by simp), fun i j k _ hj => absurd hj (by simp)⟩
theorem RowsR.on {w : World} {base : Nat} {vs : List Value} {L : List (List (Int × Int))} (h : RowsR w base vs L) : On base w (fun W => RowsR W base vs L) :=
  fun w2 h2 => h.keep fun i k hi hk => h2 k ((h.row i hi).lt k hk).1 ((h.row i hi).lt k hk).2
theorem RowsR.snoc {w w' : World} {base : Nat} {vs : List Value} {L : List (List (Int × Int))} (h : RowsR w base vs L) (hx : Ext w w') {v : Value} {l : List (Int × Int)} (ho : OwnR w' w.heap.size v l) (hb : base ≤ w.heap.size) : RowsR w' base (vs ++ [v]) (L ++ [l]) := by
  have h' := h.ext hx
  refine ⟨by simp [h.len], fun i hi => ?_, fun i j k hij hj hk => ?_⟩
  · by_cases hl : i < L.length
    · rw [List.getElem?_append_left (by rw [h.len]; exact hl), List.getElem?_append_left hl]; exact h'.row i hl
    · have : i = L.length := by simp at hi; omega
      subst this
      rw [← h.len]
      simp only [List.getElem?_concat_length, Option.getD_some]
      rw [h.len]
      simp only [List.getElem?_concat_length, Option.getD_some]
      exact ho.mono hb
  · by_cases hl : j < L.length
    · rw [List.getElem?_append_left (by rw [h.len]; omega)] at hk
      rw [List.getElem?_append_left (by rw [h.len]; exact hl)]
      exact h.apart i j k hij hl hk
    · have : j = L.length := by simp at hj; omega
      subst this
      rw [List.getElem?_append_left (by rw [h.len]; omega)] at hk
      rw [← h.len]
      simp only [List.getElem?_concat_length, Option.getD_some]
      intro hk'
      have h1 := ((h.row i (by omega)).lt k hk).2
      have h2 := (ho.lt k hk').1
      omega
def OwnRR (w : World) (base : Nat) (v : Value) (L : List (List (Int × Int))) : Prop := ∃ vs, OwnW w base v vs ∧ RowsR w base vs L
theorem OwnRR.form {w : World} {base : Nat} {v : Value} {L : List (List (Int × Int))} (h : OwnRR w base v L) : ∃ a cap, v = .slice a L.length cap ∧ L.length ≤ cap ∧ cap ≤ 9223372036854775807 := by
  obtain ⟨vs, h1, h2⟩ := h
  have := h1.form
  rwa [h2.len] at this
theorem OwnRR.var {w : World} {base : Nat} {v : Value} {L : List (List (Int × Int))} (h : OwnRR w base v L) : ∃ a n cap, v = .slice a n cap ∧ Hid (L.length = n) := by
  obtain ⟨a, cap, e, _⟩ := h.form
  exact ⟨a, _, cap, e, rfl⟩
theorem OwnRR.ext {w w' : World} {base : Nat} {v : Value} {L : List (List (Int × Int))} (h : OwnRR w base v L) (hx : Ext w w') : OwnRR w' base v L :=
  let ⟨vs, h1, h2⟩ := h; ⟨vs, h1.ext hx, h2.ext hx⟩
theorem OwnRR.on {w : World} {base : Nat} {v : Value} {L : List (List (Int × Int))} (h : OwnRR w base v L) : On base w (fun W => OwnRR W base v L) :=
  let ⟨vs, h1, h2⟩ := h; fun w2 hw => ⟨vs, h1.on w2 hw, h2.on w2 hw⟩
theorem OwnRR.nil (w : World) (base : Nat) : OwnRR w base (.slice none 0 0) [] := ⟨[], OwnW.nil w base, RowsR.nil w base⟩
theorem OwnRR.ratss {w : World} {base : Nat} {a : Option Addr} {n cap : Nat} {L : List (List (Int × Int))} (h : OwnRR w base (.slice a n cap) L) : RatSS w a n cap L := by
  obtain ⟨a', cap', he, h1, h2⟩ := h.form
  simp only [Value.slice.injEq] at he
  obtain ⟨rfl, rfl, rfl⟩ := he
  obtain ⟨vs, h3, h4⟩ := h
  refine ⟨rfl, h1, h2, fun k hk => ?_⟩
  obtain ⟨g, rfl, _, hc⟩ := h3.cell hk
  refine ⟨g, 0, rfl, fun k hk => ?_⟩
  have hv : k < vs.length := by rw [h4.len]; exact hk
  obtain ⟨a', cap', hf, _⟩ := (h4.row k hk).form
  have ho := h4.row k hk
  rw [hf] at ho
  refine ⟨a', _, cap', ?_, ho.rats⟩
  rw [Nat.zero_add, hc k hk, ← hf]
  simp [hv]
structure RMat (w : World) (base : Nat) (a : Option Addr) (N cap : Nat) (vs : List Value) (M : List (List (Int × Int))) : Prop where
  own : OwnW w base (.slice a N cap) vs
  rows : RowsR w base vs M
theorem RMat.vlen {w : World} {base : Nat} {a : Option Addr} {N cap : Nat} {vs : List Value} {M : List (List (Int × Int))} (h : RMat w base a N cap vs M) : vs.length = N := h.own.len
theorem RMat.len {w : World} {base : Nat} {a : Option Addr} {N cap : Nat} {vs : List Value} {M : List (List (Int × Int))} (h : RMat w base a N cap vs M) : M.length = N := by rw [← h.rows.len]; exact h.own.len
theorem RMat.cap {w : World} {base : Nat} {a : Option Addr} {N cap : Nat} {vs : List Value} {M : List (List (Int × Int))} (h : RMat w base a N cap vs M) : N ≤ cap ∧ cap ≤ 9223372036854775807 := by
  obtain ⟨a', c', he, h1, h2⟩ := h.own.form
  simp only [Value.slice.injEq] at he
  obtain ⟨_, h3, rfl⟩ := he
  exact ⟨by omega, h2⟩
theorem RMat.keep {w w' : World} {base : Nat} {a : Option Addr} {N cap : Nat} {vs : List Value} {M : List (List (Int × Int))} (h : RMat w base a N cap vs M) (h0 : ∀ k, (Value.slice a N cap).ownBlock = some k → w'.heap[k]? = w.heap[k]?)
    (h1 : ∀ i k, i < N → (vs[i]?.getD undef).ownBlock = some k → w'.heap[k]? = w.heap[k]?) : RMat w' base a N cap vs M :=
  ⟨h.own.keep h0, h.rows.keep fun i k hi hk => h1 i k (by rw [← h.len]; exact hi) hk⟩
theorem RMat.ext {w w' : World} {base : Nat} {a : Option Addr} {N cap : Nat} {vs : List Value} {M : List (List (Int × Int))} (h : RMat w base a N cap vs M) (hx : Ext w w') : RMat w' base a N cap vs M := ⟨h.own.ext hx, h.rows.ext hx⟩
theorem RMat.ratss {w : World} {base : Nat} {a : Option Addr} {N cap : Nat} {vs : List Value} {M : List (List (Int × Int))} (h : RMat w base a N cap vs M) : RatSS w a N cap M :=
  OwnRR.ratss ⟨vs, h.own, h.rows⟩
theorem RMat.outer {w : World} {base : Nat} {a : Option Addr} {N cap : Nat} {vs : List Value} {M : List (List (Int × Int))} (h : RMat w base a N cap vs M) (hN : 0 < N) : ∃ G, a = some ⟨G, 0, none⟩ ∧ base ≤ G ∧ G < w.heap.size ∧ ∀ j, w.frozen? ⟨G, j, none⟩ = false := by
  rcases h.own.2 with ⟨he, h0⟩ | ⟨g, cap', cur, he, hb, hg, _⟩
  · simp only [Value.slice.injEq] at he
    omega
  · simp only [Value.slice.injEq] at he
    obtain ⟨rfl, _⟩ := he
    exact ⟨g, rfl, hb, lt_of_block hg, fun j => frozen_of_row w g j cur _ hg⟩
theorem RMat.row {w : World} {base G N cap : Nat} {vs : List Value} {M : List (List (Int × Int))} (h : RMat w base (some ⟨G, 0, none⟩) N cap vs M) {i n : Nat} (hi : i < N) (hn : (M[i]?.getD []).length = n) (h1 : 1 ≤ n) :
    ∃ g c, vs[i]?.getD undef = .slice (some ⟨g, 0, none⟩) n c ∧ w.cell? ⟨G, i, none⟩ = some (.slice (some ⟨g, 0, none⟩) n c) ∧ OwnR w base (.slice (some ⟨g, 0, none⟩) n c) (M[i]?.getD []) ∧ g ≠ G ∧ base ≤ g ∧ g < w.heap.size ∧ n ≤ c ∧ c ≤ 9223372036854775807 := by
  have hr := h.rows.row i (by rw [h.len]; exact hi)
  obtain ⟨a', c, he, hc1, hc2⟩ := hr.form
  rw [he] at hr
  rw [hn] at he hr hc1
  obtain ⟨g, rfl, hb, _, hgl⟩ := hr.block (k := 0) (by omega)
  obtain ⟨G', hG, _, hc⟩ := h.own.cell hi
  simp only [Option.some.injEq, Addr.mk.injEq, and_true] at hG
  subst hG
  refine ⟨g, c, he, ?_, hr, fun e => hr.apart h.own g rfl (by subst e; rfl), hb, hgl, hc1, hc2⟩
  rw [hc i hi, ← he]
  have : i < vs.length := by rw [h.vlen]; exact hi
  simp [this]
theorem RMat.put {w0 w : World} {base G N cap : Nat} {vs : List Value} {M : List (List (Int × Int))} (h : RMat w0 base (some ⟨G, 0, none⟩) N cap vs M) (hx : Ext w0 w) (hb : base ≤ w0.heap.size) {v : Value} {l : List (Int × Int)} (ho : OwnR w w0.heap.size v l) {i : Nat} (hi : i < N) :
    RMat (w.setCell ⟨G, i, none⟩ v) base (some ⟨G, 0, none⟩) N cap (vs.set i v) (M.set i l) := by
  have hil : i < M.length := by rw [h.len]; exact hi
  have hvl : i < vs.length := by rw [h.vlen]; exact hi
  have hW := h.ext hx
  obtain ⟨G', hG, hbG, hGl, _⟩ := h.outer (by omega)
  simp only [Option.some.injEq, Addr.mk.injEq, and_true] at hG
  subst hG
  have hother : ∀ k, k ≠ G → (w.setCell ⟨G, i, none⟩ v).heap[k]? = w.heap[k]? := fun k hk => heap_setCell_other _ _ _ _ hk
  refine ⟨?_, ⟨by rw [List.length_set, List.length_set]; exact h.rows.len, fun k hk => ?_, fun a b k hab hb2 hk hk2 => ?_⟩⟩
  · have ho := hW.own
    unfold OwnW at ho
    rw [hW.vlen] at ho
    have := (World.ownsRow.stored ho i v).1
    unfold OwnW
    rw [List.length_set, hW.vlen]
    exact this
  · rw [List.length_set] at hk
    by_cases hki : k = i
    · subst hki
      rw [List.getElem?_set_self hvl, List.getElem?_set_self hil]
      exact (ho.keep fun b hb' => hother b (by have := (ho.lt b hb').1; omega)).mono hb
    · rw [List.getElem?_set_ne (Ne.symm hki), List.getElem?_set_ne (Ne.symm hki)]
      refine (hW.rows.row k hk).keep fun b hb' => hother b fun e => ?_
      subst e
      exact (hW.rows.row k hk).apart hW.own _ hb' rfl
  · rw [List.length_set] at hb2
    by_cases hai : a = i
    · subst hai
      rw [List.getElem?_set_self hvl] at hk
      rw [List.getElem?_set_ne (by omega)] at hk2
      have h1 := (ho.lt k hk).1
      have h2 := ((h.rows.row b hb2).lt k hk2).2
      omega
    · rw [List.getElem?_set_ne (Ne.symm hai)] at hk
      by_cases hbi : b = i
      · subst hbi
        rw [List.getElem?_set_self hvl] at hk2
        have h1 := (ho.lt k hk2).1
        have h2 := ((h.rows.row a (by omega)).lt k hk).2
        omega
      · rw [List.getElem?_set_ne (Ne.symm hbi)] at hk2
        exact h.rows.apart a b k hab hb2 hk hk2
theorem RowsR.apart' {w : World} {base : Nat} {vs : List Value} {L : List (List (Int × Int))} (h : RowsR w base vs L) {i j k : Nat} (hij : i ≠ j) (hi : i < L.length) (hj : j < L.length) (hk : (vs[i]?.getD undef).ownBlock = some k) : (vs[j]?.getD undef).ownBlock ≠ some k := by
  rcases Nat.lt_or_gt_of_ne hij with h1 | h1
  · exact h.apart i j k h1 hj hk
  · exact fun e => h.apart j i k h1 hi e hk
theorem RowsR.grownV {w w' : World} {base base' : Nat} {v : Value} {vs : List Value} {L : List (List (Int × Int))} (h : RowsR w base vs L) {us : List Value} (hv : OwnW w base' v us) (hg : w.grownBy w' v.ownBlock) : RowsR w' base vs L :=
  h.keep fun i k hi hk => hg.block k ((h.row i hi).lt k hk).2 fun e => (h.row i hi).apart hv k hk e.symm
end Go.Proofs.YtgohdmnbnhehnaaGreat
namespace Go.Proofs.YtgohdmnbnhehnaaGreat
set_option linter.unusedVariables false
open Go.RowKit
def bit (s : Int) (k : Nat) : Bool := decide (s / 2 ^ k % 2 = 1)
def hasP (s k : Int) : Bool := decide (0 ≤ s) && (inB k 0 4 && bit s k.toNat)
def cntC (n : Int) : Int := if inB n 0 5 then 2 ^ n.toNat else 0
theorem and_i64 (a b : Nat) (ha : a < 9223372036854775808) (hb : b < 9223372036854775808) : bits .and .i64 (a : Int) (b : Int) = ((a &&& b : Nat) : Int) := by
  have hx : a &&& b < 2 ^ 63 := Nat.and_lt_two_pow _ (by omega)
  have h1 : (BitVec.ofInt 64 (a : Int)).toNat = a := by rw [BitVec.ofInt_natCast, BitVec.toNat_ofNat]; exact Nat.mod_eq_of_lt (by omega)
  have h2 : (BitVec.ofInt 64 (b : Int)).toNat = b := by rw [BitVec.ofInt_natCast, BitVec.toNat_ofNat]; exact Nat.mod_eq_of_lt (by omega)
  show IntKind.i64.wrap ((BitVec.ofInt 64 (a : Int) &&& BitVec.ofInt 64 (b : Int)).toNat : Int) = _
  rw [BitVec.toNat_and, h1, h2, IntKind.wrap_i64]
  omega
theorem and_one (x : Int) (h : 0 ≤ x) (h' : x ≤ 9223372036854775807) : bits BinOp.and IntKind.i64 x 1 = x % 2 := by
  obtain ⟨n, rfl⟩ : ∃ n : Nat, x = n := ⟨x.toNat, by omega⟩
  have := and_i64 n 1 (by omega) (by omega)
  rw [Nat.and_one_is_mod] at this
  have h2 : ((n % 2 : Nat) : Int) = (n : Int) % 2 := by omega
  exact this.trans h2
theorem pow_pos (k : Nat) : (1 : Int) ≤ 2 ^ k := by
  have : (0 : Int) < 2 ^ k := Int.pow_pos (by decide)
  omega
theorem pow_le5 (k : Nat) (h : k ≤ 5) : (2 : Int) ^ k ≤ 32 := by
  have : k = 0 ∨ k = 1 ∨ k = 2 ∨ k = 3 ∨ k = 4 ∨ k = 5 := by omega
  rcases this with rfl | rfl | rfl | rfl | rfl | rfl <;> decide
theorem div_pow (s : Int) (k : Nat) (h : 0 ≤ s) : 0 ≤ s / 2 ^ k ∧ s / 2 ^ k ≤ s := by
  have := pow_pos k
  exact ⟨Int.ediv_nonneg h (by omega), Int.ediv_le_self _ h⟩
theorem bit_test (s : Int) (k : Nat) (h : 0 ≤ s) (h' : s ≤ 9223372036854775807) : (bits BinOp.and IntKind.i64 (s / 2 ^ k) 1 == 1) = bit s k := by
  have := div_pow s k h
  rw [and_one _ this.1 (by omega)]
  unfold bit
  rw [Bool.eq_iff_iff]; simp
theorem wrap_pow (k : Nat) (h : k ≤ 5) : wrap64 ((2 : Int) ^ k) = 2 ^ k := by
  have := pow_pos k
  have := pow_le5 k h
  unfold wrap64; omega
set_option maxHeartbeats 400000 in
theorem i_HasPlayer (s k : Int) (w : World) (h' : s ≤ 9223372036854775807) :
    Calls Tryz.prog 113 #[.int .i64 s, .int .i64 k] w fun e w' => e = .returned (.bool (hasP s k)) ∧ w = w' := by
  by_cases hs : 0 ≤ s
  · cases hk : inB k 0 4
    · go_enter Tryz.func113, Tryz.ntmps113
      go_wp2_with (first | (go_at_call 62; refine (i_within _ _ _ _).mono ?_; rintro e w' ⟨rfl, rfl⟩))
      go_ret
      exact ⟨ret_bool (by unfold hasP; rw [hk]; simp), rfl⟩
    · obtain ⟨n, rfl⟩ : ∃ n : Nat, k = n := ⟨k.toNat, by unfold inB at hk; simp at hk; omega⟩
      have hn : n ≤ 4 := by unfold inB at hk; simp at hk; omega
      have hb := bit_test s n hs h'
      go_enter Tryz.func113, Tryz.ntmps113
      go_wp2_with (first | (go_at_call 62; refine (i_within _ _ _ _).mono ?_; rintro e w' ⟨rfl, rfl⟩))
      go_ret
      exact ⟨ret_bool (by unfold hasP; rw [hk]; simp [hs]), rfl⟩
  · go_enter Tryz.func113, Tryz.ntmps113
    go_wp2_with fail
    go_ret
    exact ⟨ret_bool (by unfold hasP; rw [decide_eq_false (by omega)]; rfl), rfl⟩
set_option maxHeartbeats 400000 in
theorem i_CountCoalitions (n : Int) (w : World) : Calls Tryz.prog 65 #[.int .i64 n] w fun e w' => e = .returned (.int .i64 (cntC n)) ∧ w = w' := by
  cases hk : inB n 0 5
  · go_enter Tryz.func65, Tryz.ntmps65
    go_wp2_with (first | (go_at_call 62; refine (i_within _ _ _ _).mono ?_; rintro e w' ⟨rfl, rfl⟩))
    go_ret
    exact ⟨ret_int (by unfold cntC; rw [hk]; rfl), rfl⟩
  · obtain ⟨k, rfl⟩ : ∃ k : Nat, n = k := ⟨n.toNat, by unfold inB at hk; simp at hk; omega⟩
    have hn : k ≤ 5 := by unfold inB at hk; simp at hk; omega
    have hw := wrap_pow k hn
    go_enter Tryz.func65, Tryz.ntmps65
    go_wp2_with (first | (go_at_call 62; refine (i_within _ _ _ _).mono ?_; rintro e w' ⟨rfl, rfl⟩))
    go_ret
    exact ⟨ret_int (by unfold cntC; rw [hk]; simpa using wrap_pow k hn), rfl⟩
set_option maxHeartbeats 400000 in
theorem s_CountCoalitions (n : Int) (w : World) : Calls Tryz.prog 58 #[.int .i64 n] w fun e w' => e = .returned (.int .i64 (cntC n)) ∧ w = w' := by
  cases hk : inB n 0 5
  · go_enter Tryz.func58, Tryz.ntmps58
    go_wp2_with (first | (go_at_call 56; refine (s_l1In _ _ _ _).mono ?_; rintro e w' ⟨rfl, rfl⟩))
    go_ret
    exact ⟨ret_int (by unfold cntC; rw [hk]; rfl), rfl⟩
  · obtain ⟨m, rfl⟩ : ∃ k : Nat, n = k := ⟨n.toNat, by unfold inB at hk; simp at hk; omega⟩
    have hn : m ≤ 5 := by unfold inB at hk; simp at hk; omega
    go_enter Tryz.func58, Tryz.ntmps58
    go_wp2_with (first | (go_at_call 56; refine (s_l1In _ _ _ _).mono ?_; rintro e w' ⟨rfl, rfl⟩))
    go_loop [3, 4] (fun s i => ∃ (k : Nat) (z : Int), k ≤ m ∧ i = .int .i64 k ∧ s = .int .i64 z ∧ 0 ≤ z ∧ z ≤ 32 ∧ Hid (z = 2 ^ k)) (fun _ i => m - (intOf i).toNat)
    case atStart => exact ⟨0, 1, Nat.zero_le _, rfl, rfl, by omega, by omega, Lib.hid (by simp)⟩
    case round =>
      obtain ⟨k, z, hkm, rfl, rfl, hz0, hz1, HZ⟩ := hrel
      by_cases hlt : k < m
      · go_wp2
        go_round
        case rel =>
          refine ⟨k + 1, z * 2, by omega, by go_num, rfl, by omega, ?_, Lib.hid (by rw [HZ.out, Int.pow_succ])⟩
          have := pow_le5 (k + 1) (by omega)
          rw [Int.pow_succ, ← HZ.out] at this
          exact this
        case measure => simp [intOf]; omega
      · go_wp2
        go_ret
        have hkm' : k = m := by omega
        subst hkm'
        exact ⟨ret_int (by unfold cntC; rw [hk]; simpa using HZ.out), rfl⟩
theorem cntC_bit (k : Int) (h : inB k 0 4 = true) : cntC k = 2 ^ k.toNat := by
  unfold cntC
  rw [if_pos]
  unfold inB at *
  simp at *; omega
set_option maxHeartbeats 400000 in
theorem s_l2Bit (n : Int) (w : World) : Calls Tryz.prog 127 #[.int .i64 n] w fun e w' => e = .returned (.int .i64 (cntC n)) ∧ w = w' := by
  go_enter Tryz.func127, Tryz.ntmps127
  go_wp2_with (first | (go_at_call 58; refine (s_CountCoalitions _ _).mono ?_; rintro e w' ⟨rfl, rfl⟩))
  go_ret
  exact ⟨rfl, rfl⟩
set_option maxHeartbeats 400000 in
theorem s_HasPlayer (s k : Int) (w : World) (h' : s ≤ 9223372036854775807) :
    Calls Tryz.prog 60 #[.int .i64 s, .int .i64 k] w fun e w' => e = .returned (.bool (hasP s k)) ∧ w = w' := by
  cases hk : inB k 0 4
  · go_enter Tryz.func60, Tryz.ntmps60
    go_wp2_with (first | (go_at_call 56; refine (s_l1In _ _ _ _).mono ?_; rintro e w' ⟨rfl, rfl⟩))
    go_ret
    exact ⟨ret_bool (by unfold hasP; rw [hk]; simp), rfl⟩
  · by_cases hs : 0 ≤ s
    · obtain ⟨n, rfl⟩ : ∃ n : Nat, k = n := ⟨k.toNat, by unfold inB at hk; simp at hk; omega⟩
      have hn : n ≤ 4 := by unfold inB at hk; simp at hk; omega
      have hc : cntC (n : Int) = 2 ^ n := by rw [cntC_bit _ hk]; simp
      have hp := pow_pos n
      have hd := div_pow s n hs
      have hd1 := hd.1
      have hne : ((2 : Int) ^ n == 0) = false := by simp; omega
      have HB := Lib.hid (show (s / 2 ^ n % 2 == 1) = bit s n by unfold bit; rw [Bool.eq_iff_iff]; simp)
      have HD := Lib.hid hd
      clear hd
      go_enter Tryz.func60, Tryz.ntmps60
      go_wp2_with (first | (go_at_call 56; refine (s_l1In _ _ _ _).mono ?_; rintro e w' ⟨rfl, rfl⟩) | (go_at_call 127; refine (s_l2Bit _ _).mono ?_; rintro e w' ⟨rfl, rfl⟩))
      go_ret
      exact ⟨ret_bool (by rw [HB.out]; unfold hasP; rw [hk]; simp [hs]), rfl⟩
    · go_enter Tryz.func60, Tryz.ntmps60
      go_wp2_with (first | (go_at_call 56; refine (s_l1In _ _ _ _).mono ?_; rintro e w' ⟨rfl, rfl⟩))
      go_ret
      exact ⟨ret_bool (by unfold hasP; rw [decide_eq_false (by omega)]; rfl), rfl⟩
def bitI (b : Bool) : Int := if b then 1 else 0
set_option maxHeartbeats 400000 in
theorem s_l1Bit (b : Bool) (w : World) : Calls Tryz.prog 59 #[.bool b] w fun e w' => e = .returned (.int .i64 (bitI b)) ∧ w = w' := by
  cases b
  all_goals
    go_enter Tryz.func59, Tryz.ntmps59
    go_wp2
    go_ret
    exact ⟨rfl, rfl⟩
def cN (n : Nat) : Nat := 2 ^ n
theorem cN_pow (n : Nat) : (cN n : Int) = 2 ^ n := by unfold cN; simp
theorem cN_le (n : Nat) (h : n ≤ 5) : 1 ≤ cN n ∧ cN n ≤ 32 := by
  have h1 := pow_pos n
  have h2 := pow_le5 n h
  rw [← cN_pow] at h1 h2
  omega
theorem cntC_nat (n : Nat) (h : n ≤ 5) : cntC (n : Int) = (cN n : Int) := by
  unfold cntC
  rw [if_pos (by unfold inB; simp; omega), cN_pow]; simp
end Go.Proofs.YtgohdmnbnhehnaaGreat
namespace Go.Proofs.YtgohdmnbnhehnaaGreat
set_option linter.unusedVariables false
def SimR (n : Nat) (a b : List Int) : Prop := ∃ u v : Int, u ≠ 0 ∧ v ≠ 0 ∧ ∀ j, j < n → u * a[j]?.getD 0 = v * b[j]?.getD 0
theorem SimR.refl (n : Nat) (a : List Int) : SimR n a a := ⟨1, 1, by omega, by omega, fun _ _ => rfl⟩
theorem SimR.zero {n : Nat} {a b : List Int} (h : SimR n a b) {j : Nat} (hj : j < n) : a[j]?.getD 0 = 0 ↔ b[j]?.getD 0 = 0 := by
  obtain ⟨u, v, hu, hv, h⟩ := h
  have := h j hj
  constructor
  · intro e; rw [e, Int.mul_zero] at this
    rcases Int.mul_eq_zero.1 this.symm with h | h
    · exact absurd h hv
    · exact h
  · intro e; rw [e, Int.mul_zero] at this
    rcases Int.mul_eq_zero.1 this with h | h
    · exact absurd h hu
    · exact h
structure SimM (n : Nat) (M K : List (List Int)) : Prop where
  len : M.length = K.length
  row : ∀ i, i < M.length → SimR n (M[i]?.getD []) (K[i]?.getD [])
end Go.Proofs.YtgohdmnbnhehnaaGreat
