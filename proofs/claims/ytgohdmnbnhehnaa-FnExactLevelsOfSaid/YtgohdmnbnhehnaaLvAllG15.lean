import Derived.Test.YtgohdmnbnhehnaaLvAllG6
import Derived.Test.YtgohdmnbnhehnaaLvAllG12
import Derived.Test.YtgohdmnbnhehnaaLvAllG3
namespace Go.Proofs.Ytgohdmnbnhehnaa
set_option linter.unusedVariables false
open Go.RowKit
structure RatSS (w : World) (a : Option Addr) (n cap : Nat) (L : List (List (Int × Int))) : Prop where
 hlen : L.length = n
 hcap : n ≤ cap
 hmax : cap ≤ 9223372036854775807
 cell : ∀ k, k < n → ∃ b off, a = some ⟨b, off, none⟩ ∧ ∀ k, k < n → ∃ a' n' c', w.cell? ⟨b, off + k, none⟩ = some (.slice a' n' c') ∧ Rats w a' n' c' (L[k]?.getD [])
theorem RatSS.ext {w w' : World} {a : Option Addr} {n cap : Nat} {L : List (List (Int × Int))} (h : RatSS w a n cap L) (hx : Ext w w') : RatSS w' a n cap L :=
 ⟨h.hlen, h.hcap, h.hmax, fun k hk => let ⟨b, off, e, hc⟩ := h.cell k hk; ⟨b, off, e, fun k hk => let ⟨a', n', c', h1, h2⟩ := hc k hk; ⟨a', n', c', hx.cellSome h1, h2.ext hx⟩⟩⟩
theorem RatSS.at {w : World} {a : Option Addr} {n cap : Nat} {L : List (List (Int × Int))} (h : RatSS w a n cap L) {k : Nat} (hk : k < n) :
 ∃ b off a' n' c', a = some ⟨b, off, none⟩ ∧ w.cell? ⟨b, off + k, none⟩ = some (.slice a' n' c') ∧ Rats w a' n' c' (L[k]?.getD []) :=
 let ⟨b, off, e, hc⟩ := h.cell k hk; let ⟨a', n', c', h1, h2⟩ := hc k hk; ⟨b, off, a', n', c', e, h1, h2⟩
theorem RatSS.alloc {w : World} {a : Option Addr} {n cap : Nat} {L : List (List (Int × Int))} (h : RatSS w a n cap L) (o : Obj) : RatSS (w.alloc o) a n cap L := h.ext (Ext.alloc w o)
def OwnW (w : World) (base : Nat) (v : Value) (vs : List Value) : Prop := w.ownsRow base 29 1 v vs.length vs
theorem OwnW.form {w : World} {base : Nat} {v : Value} {vs : List Value} (h : OwnW w base v vs) : ∃ a cap, v = .slice a vs.length cap ∧ vs.length ≤ cap ∧ cap ≤ 9223372036854775807 := by
 rcases h.2 with ⟨rfl, h0⟩ | ⟨g, cap, cur, rfl, _, _, h1, h2, _⟩
 ·exact ⟨none, 0, by rw [h0], by omega, by omega⟩
 ·exact ⟨_, cap, rfl, h1, by simpa [maxLen] using h2⟩
theorem OwnW.var {w : World} {base : Nat} {v : Value} {vs : List Value} (h : OwnW w base v vs) : ∃ a n cap, v = .slice a n cap ∧ Hid (vs.length = n) := by
 obtain ⟨a, cap, e, _⟩ := h.form
 exact ⟨a, _, cap, e, rfl⟩
theorem OwnW.cell {w : World} {base : Nat} {a : Option Addr} {n cap : Nat} {vs : List Value} (h : OwnW w base (.slice a n cap) vs) {k : Nat} (hk : k < n) : ∃ g, a = some ⟨g, 0, none⟩ ∧ base ≤ g ∧ ∀ k, k < n → w.cell? ⟨g, k, none⟩ = vs[k]? := by
 rcases h.2 with ⟨he, h0⟩ | ⟨g, cap', cur, he, hb, hg, h1, h2, hs, ht⟩
 ·simp only [Value.slice.injEq] at he
  omega
 ·simp only [Value.slice.injEq] at he
  obtain ⟨rfl, rfl, rfl⟩ := he
  refine ⟨g, rfl, hb, fun k hk => ?_⟩
  rw [cell_of_row w g k cur _ (0, 0) hg]
  have : (cur.toList.take (vs.length * 1))[k]? = vs[k]? := by rw [ht]
  rw [List.getElem?_take, if_pos (by omega)] at this
  simpa using this
theorem OwnW.len {w : World} {base : Nat} {a : Option Addr} {n cap : Nat} {vs : List Value} (h : OwnW w base (.slice a n cap) vs) : vs.length = n := by
 obtain ⟨a', cap', he, _⟩ := h.form
 simp only [Value.slice.injEq] at he
 exact he.2.1.symm
theorem OwnW.lt {w : World} {base : Nat} {v : Value} {vs : List Value} (h : OwnW w base v vs) : ∀ k, v.ownBlock = some k → base ≤ k ∧ k < w.heap.size := World.ownsRow.lt h
theorem OwnW.keep {w w' : World} {base : Nat} {v : Value} {vs : List Value} (h : OwnW w base v vs) (hk : ∀ k, v.ownBlock = some k → w'.heap[k]? = w.heap[k]?) : OwnW w' base v vs := by
 refine ⟨h.1, ?_⟩
 rcases h.2 with hn | ⟨g, cap, cur, rfl, hb, hgg, rest⟩
 ·exact .inl hn
 ·exact .inr ⟨g, cap, cur, rfl, hb, (hk g rfl).trans hgg, rest⟩
theorem OwnW.ext {w w' : World} {base : Nat} {v : Value} {vs : List Value} (h : OwnW w base v vs) (hx : Ext w w') : OwnW w' base v vs := h.keep fun k hk => hx.block k (h.lt k hk).2
theorem OwnW.on {w : World} {base : Nat} {v : Value} {vs : List Value} (h : OwnW w base v vs) : On base w (fun W => OwnW W base v vs) := fun w2 h2 => h.keep fun k hk => h2 k (h.lt k hk).1 (h.lt k hk).2
theorem OwnW.nil (w : World) (base : Nat) : OwnW w base (.slice none 0 0) [] := World.ownsRow_nil w base _ 1
theorem OwnR.apart {w : World} {base base' : Nat} {v v' : Value} {l : List (Int × Int)} {vs : List Value} (h : OwnR w base v l) (h' : OwnW w base' v' vs) : ∀ k, v.ownBlock = some k → v'.ownBlock ≠ some k := by
 intro k hk hk'
 rcases h.2 with ⟨rfl, _⟩ | ⟨g, cap, cur, rfl, _, hg, _⟩
 ·simp [Value.ownBlock] at hk
 ·rcases h'.2 with ⟨rfl, _⟩ | ⟨g', cap', cur', rfl, _, hg', _⟩
  ·simp [Value.ownBlock] at hk'
  ·simp only [Value.ownBlock, Option.some.injEq] at hk hk'
   subst hk hk'
   rw [hg] at hg'
   simp at hg'
section
variable {P : Program} {w : World} {ops : Array Oper} {rest : List Oper} {o : Oper} {a : Act} {Q : Exit → Act → World → Prop}
end
structure RowsR (w : World) (base : Nat) (vs : List Value) (L : List (List (Int × Int))) : Prop where
 len : vs.length = L.length
 row : ∀ i, i < L.length → OwnR w base (vs[i]?.getD undef) (L[i]?.getD [])
 apart : ∀ i j k, i < j → j < L.length → (vs[i]?.getD undef).ownBlock = some k → (vs[j]?.getD undef).ownBlock ≠ some k
theorem RowsR.keep {w w' : World} {base : Nat} {vs : List Value} {L : List (List (Int × Int))} (h : RowsR w base vs L) (hk : ∀ i k, i < L.length → (vs[i]?.getD undef).ownBlock = some k → w'.heap[k]? = w.heap[k]?) : RowsR w' base vs L :=
 ⟨h.len, fun i hi => (h.row i hi).keep fun k hk' => hk i k hi hk', h.apart⟩
theorem RowsR.ext {w w' : World} {base : Nat} {vs : List Value} {L : List (List (Int × Int))} (h : RowsR w base vs L) (hx : Ext w w') : RowsR w' base vs L :=
 h.keep fun i k hi hk => hx.block k ((h.row i hi).lt k hk).2
theorem RowsR.nil (w : World) (base : Nat) : RowsR w base [] [] := ⟨rfl, fun i hi => absurd hi (by simp), fun i j k _ hj => absurd hj (by simp)⟩
theorem RowsR.on {w : World} {base : Nat} {vs : List Value} {L : List (List (Int × Int))} (h : RowsR w base vs L) : On base w (fun W => RowsR W base vs L) :=
 fun w2 h2 => h.keep fun i k hi hk => h2 k ((h.row i hi).lt k hk).1 ((h.row i hi).lt k hk).2
theorem RowsR.snoc {w w' : World} {base : Nat} {vs : List Value} {L : List (List (Int × Int))} (h : RowsR w base vs L) (hx : Ext w w') {v : Value} {l : List (Int × Int)} (ho : OwnR w' w.heap.size v l) (hb : base ≤ w.heap.size) : RowsR w' base (vs ++ [v]) (L ++ [l]) := by
 have h' := h.ext hx
 refine ⟨by simp [h.len], fun i hi => ?_, fun i j k hij hj hk => ?_⟩
 ·by_cases hl : i < L.length
  ·rw [List.getElem?_append_left (by rw [h.len]; exact hl), List.getElem?_append_left hl]; exact h'.row i hl
  ·have : i = L.length := by simp at hi; omega
   subst this
   rw [← h.len]
   simp only [List.getElem?_concat_length, Option.getD_some]
   rw [h.len]
   simp only [List.getElem?_concat_length, Option.getD_some]
   exact ho.mono hb
 ·by_cases hl : j < L.length
  ·rw [List.getElem?_append_left (by rw [h.len]; omega)] at hk
   rw [List.getElem?_append_left (by rw [h.len]; exact hl)]
   exact h.apart i j k hij hl hk
  ·have : j = L.length := by simp at hj; omega
   subst this
   rw [List.getElem?_append_left (by rw [h.len]; omega)] at hk
   rw [← h.len]
   simp only [List.getElem?_concat_length, Option.getD_some]
   intro hk'
   have h1 := ((h.row i (by omega)).lt k hk).2
   have h2 := (ho.lt k hk').1
   omega
def OwnRR (w : World) (base : Nat) (v : Value) (L : List (List (Int × Int))) : Prop := ∃ vs, OwnW w base v vs ∧ RowsR w base vs L
theorem OwnRR.form {w : World} {base : Nat} {v : Value} {L : List (List (Int × Int))} (h : OwnRR w base v L) : ∃ a cap, v = .slice a L.length cap ∧ L.length ≤ cap ∧ cap ≤ 9223372036854775807 := by
 obtain ⟨vs, h1, h2⟩ := h
 have := h1.form
 rwa [h2.len] at this
theorem OwnRR.var {w : World} {base : Nat} {v : Value} {L : List (List (Int × Int))} (h : OwnRR w base v L) : ∃ a n cap, v = .slice a n cap ∧ Hid (L.length = n) := by
 obtain ⟨a, cap, e, _⟩ := h.form
 exact ⟨a, _, cap, e, rfl⟩
theorem OwnRR.ext {w w' : World} {base : Nat} {v : Value} {L : List (List (Int × Int))} (h : OwnRR w base v L) (hx : Ext w w') : OwnRR w' base v L :=
 let ⟨vs, h1, h2⟩ := h; ⟨vs, h1.ext hx, h2.ext hx⟩
theorem OwnRR.on {w : World} {base : Nat} {v : Value} {L : List (List (Int × Int))} (h : OwnRR w base v L) : On base w (fun W => OwnRR W base v L) :=
 let ⟨vs, h1, h2⟩ := h; fun w2 hw => ⟨vs, h1.on w2 hw, h2.on w2 hw⟩
theorem OwnRR.nil (w : World) (base : Nat) : OwnRR w base (.slice none 0 0) [] := ⟨[], OwnW.nil w base, RowsR.nil w base⟩
structure RMat (w : World) (base : Nat) (a : Option Addr) (N cap : Nat) (vs : List Value) (M : List (List (Int × Int))) : Prop where
 own : OwnW w base (.slice a N cap) vs
 rows : RowsR w base vs M
theorem RMat.vlen {w : World} {base : Nat} {a : Option Addr} {N cap : Nat} {vs : List Value} {M : List (List (Int × Int))} (h : RMat w base a N cap vs M) : vs.length = N := h.own.len
theorem RMat.len {w : World} {base : Nat} {a : Option Addr} {N cap : Nat} {vs : List Value} {M : List (List (Int × Int))} (h : RMat w base a N cap vs M) : M.length = N := by rw [← h.rows.len]; exact h.own.len
theorem RMat.cap {w : World} {base : Nat} {a : Option Addr} {N cap : Nat} {vs : List Value} {M : List (List (Int × Int))} (h : RMat w base a N cap vs M) : N ≤ cap ∧ cap ≤ 9223372036854775807 := by
 obtain ⟨a', c', he, h1, h2⟩ := h.own.form
 simp only [Value.slice.injEq] at he
 obtain ⟨_, h3, rfl⟩ := he
 exact ⟨by omega, h2⟩
theorem RMat.keep {w w' : World} {base : Nat} {a : Option Addr} {N cap : Nat} {vs : List Value} {M : List (List (Int × Int))} (h : RMat w base a N cap vs M) (h0 : ∀ k, (Value.slice a N cap).ownBlock = some k → w'.heap[k]? = w.heap[k]?)
 (h1 : ∀ i k, i < N → (vs[i]?.getD undef).ownBlock = some k → w'.heap[k]? = w.heap[k]?) : RMat w' base a N cap vs M :=
 ⟨h.own.keep h0, h.rows.keep fun i k hi hk => h1 i k (by rw [← h.len]; exact hi) hk⟩
theorem RMat.ext {w w' : World} {base : Nat} {a : Option Addr} {N cap : Nat} {vs : List Value} {M : List (List (Int × Int))} (h : RMat w base a N cap vs M) (hx : Ext w w') : RMat w' base a N cap vs M := ⟨h.own.ext hx, h.rows.ext hx⟩
theorem RMat.outer {w : World} {base : Nat} {a : Option Addr} {N cap : Nat} {vs : List Value} {M : List (List (Int × Int))} (h : RMat w base a N cap vs M) (hN : 0 < N) : ∃ G, a = some ⟨G, 0, none⟩ ∧ base ≤ G ∧ G < w.heap.size ∧ ∀ j, w.frozen? ⟨G, j, none⟩ = false := by
 rcases h.own.2 with ⟨he, h0⟩ | ⟨g, cap', cur, he, hb, hg, _⟩
 ·simp only [Value.slice.injEq] at he
  omega
 ·simp only [Value.slice.injEq] at he
  obtain ⟨rfl, _⟩ := he
  exact ⟨g, rfl, hb, lt_of_block hg, fun j => frozen_of_row w g j cur _ hg⟩
theorem RMat.row {w : World} {base G N cap : Nat} {vs : List Value} {M : List (List (Int × Int))} (h : RMat w base (some ⟨G, 0, none⟩) N cap vs M) {i n : Nat} (hi : i < N) (hn : (M[i]?.getD []).length = n) (h1 : 1 ≤ n) :
 ∃ g c, vs[i]?.getD undef = .slice (some ⟨g, 0, none⟩) n c ∧ w.cell? ⟨G, i, none⟩ = some (.slice (some ⟨g, 0, none⟩) n c) ∧ OwnR w base (.slice (some ⟨g, 0, none⟩) n c) (M[i]?.getD []) ∧ g ≠ G ∧ base ≤ g ∧ g < w.heap.size ∧ n ≤ c ∧ c ≤ 9223372036854775807 := by
 have hr := h.rows.row i (by rw [h.len]; exact hi)
 obtain ⟨a', c, he, hc1, hc2⟩ := hr.form
 rw [he] at hr
 rw [hn] at he hr hc1
 obtain ⟨g, rfl, hb, _, hgl⟩ := hr.block (k := 0) (by omega)
 obtain ⟨G', hG, _, hc⟩ := h.own.cell hi
 simp only [Option.some.injEq, Addr.mk.injEq, and_true] at hG
 subst hG
 refine ⟨g, c, he, ?_, hr, fun e => hr.apart h.own g rfl (by subst e; rfl), hb, hgl, hc1, hc2⟩
 rw [hc i hi, ← he]
 have : i < vs.length := by rw [h.vlen]; exact hi
 simp [this]
theorem RMat.put {w0 w : World} {base G N cap : Nat} {vs : List Value} {M : List (List (Int × Int))} (h : RMat w0 base (some ⟨G, 0, none⟩) N cap vs M) (hx : Ext w0 w) (hb : base ≤ w0.heap.size) {v : Value} {l : List (Int × Int)} (ho : OwnR w w0.heap.size v l) {i : Nat} (hi : i < N) :
 RMat (w.setCell ⟨G, i, none⟩ v) base (some ⟨G, 0, none⟩) N cap (vs.set i v) (M.set i l) := by
 have hil : i < M.length := by rw [h.len]; exact hi
 have hvl : i < vs.length := by rw [h.vlen]; exact hi
 have hW := h.ext hx
 obtain ⟨G', hG, hbG, hGl, _⟩ := h.outer (by omega)
 simp only [Option.some.injEq, Addr.mk.injEq, and_true] at hG
 subst hG
 have hother : ∀ k, k ≠ G → (w.setCell ⟨G, i, none⟩ v).heap[k]? = w.heap[k]? := fun k hk => heap_setCell_other _ _ _ _ hk
 refine ⟨?_, ⟨by rw [List.length_set, List.length_set]; exact h.rows.len, fun k hk => ?_, fun a b k hab hb2 hk hk2 => ?_⟩⟩
 ·have ho := hW.own
  unfold OwnW at ho
  rw [hW.vlen] at ho
  have := (World.ownsRow.stored ho i v).1
  unfold OwnW
  rw [List.length_set, hW.vlen]
  exact this
 ·rw [List.length_set] at hk
  by_cases hki : k = i
  ·subst hki
   rw [List.getElem?_set_self hvl, List.getElem?_set_self hil]
   exact (ho.keep fun b hb' => hother b (by have := (ho.lt b hb').1; omega)).mono hb
  ·rw [List.getElem?_set_ne (Ne.symm hki), List.getElem?_set_ne (Ne.symm hki)]
   refine (hW.rows.row k hk).keep fun b hb' => hother b fun e => ?_
   subst e
   exact (hW.rows.row k hk).apart hW.own _ hb' rfl
 ·rw [List.length_set] at hb2
  by_cases hai : a = i
  ·subst hai
   rw [List.getElem?_set_self hvl] at hk
   rw [List.getElem?_set_ne (by omega)] at hk2
   have h1 := (ho.lt k hk).1
   have h2 := ((h.rows.row b hb2).lt k hk2).2
   omega
  ·rw [List.getElem?_set_ne (Ne.symm hai)] at hk
   by_cases hbi : b = i
   ·subst hbi
    rw [List.getElem?_set_self hvl] at hk2
    have h1 := (ho.lt k hk2).1
    have h2 := ((h.rows.row a (by omega)).lt k hk).2
    omega
   ·rw [List.getElem?_set_ne (Ne.symm hbi)] at hk2
    exact h.rows.apart a b k hab hb2 hk hk2
theorem RowsR.grownV {w w' : World} {base base' : Nat} {v : Value} {vs : List Value} {L : List (List (Int × Int))} (h : RowsR w base vs L) {us : List Value} (hv : OwnW w base' v us) (hg : w.grownBy w' v.ownBlock) : RowsR w' base vs L :=
 h.keep fun i k hi hk => hg.block k ((h.row i hi).lt k hk).2 fun e => (h.row i hi).apart hv k hk e.symm
theorem RatSS.at' {w : World} {G N cap : Nat} {L : List (List (Int × Int))} (h : RatSS w (some ⟨G, 0, none⟩) N cap L) {k : Nat} (hk : k < N) :
 ∃ a m c, w.cell? ⟨G, k, none⟩ = some (.slice a m c) ∧ Rats w a m c (L[k]?.getD []) := by
 obtain ⟨b, off, a, m, c, he, hc, hr⟩ := h.at hk
 simp only [Option.some.injEq, Addr.mk.injEq, and_true] at he
 obtain ⟨rfl, rfl⟩ := he
 rw [Nat.zero_add] at hc
 exact ⟨a, m, c, hc, hr⟩
end Go.Proofs.Ytgohdmnbnhehnaa
namespace Go.Proofs.Ytgohdmnbnhehnaa
set_option linter.unusedVariables false
set_option linter.unusedSimpArgs false
set_option maxRecDepth 100000
open Go.RowKit
structure LpC (w : World) (a : Option Addr) (na ca : Nat) (b : Option Addr) (nb cb : Nat) (c : Option Addr) (nc cc : Nat) (A : List (List Int)) (B : List Int) (C : List (Int × Int)) : Prop where
 a : IntSS w a na ca A
 b : Ints w b nb cb B
 c : Rats w c nc cc C
theorem LpC.ext {w w' : World} {a : Option Addr} {na ca : Nat} {b : Option Addr} {nb cb : Nat} {c : Option Addr} {nc cc : Nat} {A : List (List Int)} {B : List Int} {C : List (Int × Int)} (h : LpC w a na ca b nb cb c nc cc A B C) (hx : Ext w w') : LpC w' a na ca b nb cb c nc cc A B C :=
 ⟨h.a.ext hx, h.b.ext hx, h.c.ext hx⟩
structure TbC (w : World) (ra : Option Addr) (rn rc : Nat) (ba : Option Addr) (bn bc : Nat) (t : Tb) : Prop where
 rows : RatSS w ra rn rc t.rows
 basis : Ints w ba bn bc t.basis
theorem TbC.ext {w w' : World} {ra : Option Addr} {rn rc : Nat} {ba : Option Addr} {bn bc : Nat} {t : Tb} (h : TbC w ra rn rc ba bn bc t) (hx : Ext w w') : TbC w' ra rn rc ba bn bc t := ⟨h.rows.ext hx, h.basis.ext hx⟩
section
variable {w : World} {base g : Nat} {va vb : Value} {x : Int} {vs : List Value} {M : List (List (Int × Int))} {l : List Int}
end
structure OwnT (w : World) (base : Nat) (va vb : Value) (vs : List Value) (t : Tb) : Prop where
 a : OwnW w base va vs
 rows : RowsR w base vs t.rows
 b : OwnI w base vb t.basis
theorem OwnT.ext {w w' : World} {base : Nat} {va vb : Value} {vs : List Value} {t : Tb} (h : OwnT w base va vb vs t) (hx : Ext w w') : OwnT w' base va vb vs t := ⟨h.a.ext hx, h.rows.ext hx, h.b.ext hx⟩
theorem OwnT.mono {w : World} {base base' : Nat} {va vb : Value} {vs : List Value} {t : Tb} (h : OwnT w base va vb vs t) (hb : base' ≤ base) : OwnT w base' va vb vs t :=
 ⟨by
  refine ⟨h.a.1, ?_⟩
  rcases h.a.2 with hn | ⟨g, cap, cur, rfl, hbb, rest⟩
  ·exact .inl hn
  ·exact .inr ⟨g, cap, cur, rfl, Nat.le_trans hb hbb, rest⟩, ⟨h.rows.len, fun i hi => (h.rows.row i hi).mono hb, h.rows.apart⟩, h.b.mono hb⟩
end Go.Proofs.Ytgohdmnbnhehnaa
