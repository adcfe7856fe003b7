import Derived.Test.YthjjfkeacobikaaGreatTaAllG17
import Derived.Test.YthjjfkeacobikaaGreatTaAllG1
import Derived.Test.YthjjfkeacobikaaGreatTaAllG6
import Derived.Test.YthjjfkeacobikaaGreatTaAllG3
set_option linter.unusedVariables false
set_option linter.unusedSimpArgs false
namespace Go.Proofs.YthjjfkeacobikaaGreat
open Go.RowKit
structure RatSS (w : World) (a : Option Addr) (n cap : Nat) (L : List (List (Int × Int))) : Prop where
 hlen : L.length = n
 hcap : n ≤ cap
 hmax : cap ≤ 9223372036854775807
 cell : ∀ k, k < n → ∃ b off, a = some ⟨b, off, none⟩ ∧ ∀ k, k < n → ∃ a' n' c', w.cell? ⟨b, off + k, none⟩ = some (.slice a' n' c') ∧ Rats w a' n' c' (L[k]?.getD [])
theorem RatSS.ext {w w' : World} {a : Option Addr} {n cap : Nat} {L : List (List (Int × Int))} (h : RatSS w a n cap L) (hx : Ext w w') : RatSS w' a n cap L :=
 ⟨h.hlen, h.hcap, h.hmax, fun k hk => let ⟨b, off, e, hc⟩ := h.cell k hk; ⟨b, off, e, fun k hk => let ⟨a', n', c', h1, h2⟩ := hc k hk; ⟨a', n', c', hx.cellSome h1, h2.ext hx⟩⟩⟩
theorem RatSS.at {w : World} {a : Option Addr} {n cap : Nat} {L : List (List (Int × Int))} (h : RatSS w a n cap L) {k : Nat} (hk : k < n) :
 ∃ b off a' n' c', a = some ⟨b, off, none⟩ ∧ w.cell? ⟨b, off + k, none⟩ = some (.slice a' n' c') ∧ Rats w a' n' c' (L[k]?.getD []) :=
 let ⟨b, off, e, hc⟩ := h.cell k hk; let ⟨a', n', c', h1, h2⟩ := hc k hk; ⟨b, off, a', n', c', e, h1, h2⟩
def OwnW (w : World) (base : Nat) (v : Value) (vs : List Value) : Prop := w.ownsRow base 36 1 v vs.length vs
theorem OwnW.form {w : World} {base : Nat} {v : Value} {vs : List Value} (h : OwnW w base v vs) : ∃ a cap, v = .slice a vs.length cap ∧ vs.length ≤ cap ∧ cap ≤ 9223372036854775807 := by
 rcases h.2 with ⟨rfl, h0⟩ | ⟨g, cap, cur, rfl, _, _, h1, h2, _⟩
 ·exact ⟨none, 0, by rw [h0], by omega, by omega⟩
 ·exact ⟨_, cap, rfl, h1, by simpa [maxLen] using h2⟩
theorem OwnW.var {w : World} {base : Nat} {v : Value} {vs : List Value} (h : OwnW w base v vs) : ∃ a n cap, v = .slice a n cap ∧ Hid (vs.length = n) := by
 obtain ⟨a, cap, e, _⟩ := h.form
 exact ⟨a, _, cap, e, rfl⟩
theorem OwnW.cell {w : World} {base : Nat} {a : Option Addr} {n cap : Nat} {vs : List Value} (h : OwnW w base (.slice a n cap) vs) {k : Nat} (hk : k < n) : ∃ g, a = some ⟨g, 0, none⟩ ∧ base ≤ g ∧ ∀ k, k < n → w.cell? ⟨g, k, none⟩ = vs[k]? := by
 rcases h.2 with ⟨he, h0⟩ | ⟨g, cap', cur, he, hb, hg, h1, h2, hs, ht⟩
 ·simp only [Value.slice.injEq] at he
  omega
 ·simp only [Value.slice.injEq] at he
  obtain ⟨rfl, rfl, rfl⟩ := he
  refine ⟨g, rfl, hb, fun k hk => ?_⟩
  rw [cell_of_row w g k cur _ (0, 0) hg]
  have : (cur.toList.take (vs.length * 1))[k]? = vs[k]? := by rw [ht]
  rw [List.getElem?_take, if_pos (by omega)] at this
  simpa using this
theorem OwnW.len {w : World} {base : Nat} {a : Option Addr} {n cap : Nat} {vs : List Value} (h : OwnW w base (.slice a n cap) vs) : vs.length = n := by
 obtain ⟨a', cap', he, _⟩ := h.form
 simp only [Value.slice.injEq] at he
 exact he.2.1.symm
theorem OwnW.lt {w : World} {base : Nat} {v : Value} {vs : List Value} (h : OwnW w base v vs) : ∀ k, v.ownBlock = some k → base ≤ k ∧ k < w.heap.size := World.ownsRow.lt h
theorem OwnW.keep {w w' : World} {base : Nat} {v : Value} {vs : List Value} (h : OwnW w base v vs) (hk : ∀ k, v.ownBlock = some k → w'.heap[k]? = w.heap[k]?) : OwnW w' base v vs := by
 refine ⟨h.1, ?_⟩
 rcases h.2 with hn | ⟨g, cap, cur, rfl, hb, hgg, rest⟩
 ·exact .inl hn
 ·exact .inr ⟨g, cap, cur, rfl, hb, (hk g rfl).trans hgg, rest⟩
theorem OwnW.ext {w w' : World} {base : Nat} {v : Value} {vs : List Value} (h : OwnW w base v vs) (hx : Ext w w') : OwnW w' base v vs := h.keep fun k hk => hx.block k (h.lt k hk).2
theorem OwnR.apart {w : World} {base base' : Nat} {v v' : Value} {l : List (Int × Int)} {vs : List Value} (h : OwnR w base v l) (h' : OwnW w base' v' vs) : ∀ k, v.ownBlock = some k → v'.ownBlock ≠ some k := by
 intro k hk hk'
 rcases h.2 with ⟨rfl, _⟩ | ⟨g, cap, cur, rfl, _, hg, _⟩
 ·simp [Value.ownBlock] at hk
 ·rcases h'.2 with ⟨rfl, _⟩ | ⟨g', cap', cur', rfl, _, hg', _⟩
  ·simp [Value.ownBlock] at hk'
  ·simp only [Value.ownBlock, Option.some.injEq] at hk hk'
   subst hk hk'
   rw [hg] at hg'
   simp at hg'
theorem Tryz.infoRats : (Tryz.prog.info? 36).map (fun i => (i.zero, i.size, i.bytes)) = some (some (.slice none 0 0), 1, 24) := by kernel_rfl
section
variable {P : Program} {w : World} {ops : Array Oper} {rest : List Oper} {o : Oper} {a : Act} {Q : Exit → Act → World → Prop}
theorem wp_append_ratrow {K : Act → World → Prop} (s x : Operand) (ho : o.op = .call { callee := .builtin .append, args := #[s, x], argTypes := #[81, 81] })
 (base : Nat) (v : Value) (vs : List Value) (hs : a.eval s = v) (hown : OwnW w base v vs) (ad : Addr) (u : Value) (c : Nat) (hx : a.eval x = .slice (some ad) 1 c)
 (hcell : w.cell? ad = some u) (h1c : u.oneCell' = true) (hb : vs.length ≤ 1099511627775) (hbase : base ≤ w.heap.size)
 (h : ∀ v' w', OwnW w' base v' (vs ++ [u]) → w.grownBy w' v.ownBlock → Near w v v' → K (a.put o.dst v') w') : o.wp Tryz.prog a w K Q := by
 obtain ⟨i, hi, hz0, hz1, hz2⟩ := info_parts Tryz.infoRats
 refine wp_append_near w s x 81 ho base 36 i (.slice none 0 0) 1 24 Tryz.underlying81 hi hz0 hz1 hz2 rfl (by decide) v vs.length vs hs hown ad 1 c [u] hx rfl ?_ ?_ (by simp [maxLen]; omega) (by omega) hbase ?_
 ·intro j u' hu
  match j with
  | 0 => simpa [Addr.add] using hu ▸ hcell
  | j + 1 => simp at hu
 ·intro u' hu
  simp only [List.mem_singleton] at hu
  rw [hu]
  exact h1c
 ·intro v' w' h1 h2 h3
  refine h v' w' ?_ h2 h3
  unfold OwnW
  rw [List.length_append]
  exact h1
end
structure RowsR (w : World) (base : Nat) (vs : List Value) (L : List (List (Int × Int))) : Prop where
 len : vs.length = L.length
 row : ∀ i, i < L.length → OwnR w base (vs[i]?.getD undef) (L[i]?.getD [])
 apart : ∀ i j k, i < j → j < L.length → (vs[i]?.getD undef).ownBlock = some k → (vs[j]?.getD undef).ownBlock ≠ some k
theorem RowsR.keep {w w' : World} {base : Nat} {vs : List Value} {L : List (List (Int × Int))} (h : RowsR w base vs L) (hk : ∀ i k, i < L.length → (vs[i]?.getD undef).ownBlock = some k → w'.heap[k]? = w.heap[k]?) : RowsR w' base vs L :=
 ⟨h.len, fun i hi => (h.row i hi).keep fun k hk' => hk i k hi hk', h.apart⟩
theorem RowsR.ext {w w' : World} {base : Nat} {vs : List Value} {L : List (List (Int × Int))} (h : RowsR w base vs L) (hx : Ext w w') : RowsR w' base vs L :=
 h.keep fun i k hi hk => hx.block k ((h.row i hi).lt k hk).2
theorem RowsR.nil (w : World) (base : Nat) : RowsR w base [] [] := ⟨rfl, fun i hi => absurd hi (by simp), fun i j k _ hj => absurd hj (by simp)⟩
theorem RowsR.snoc {w w' : World} {base : Nat} {vs : List Value} {L : List (List (Int × Int))} (h : RowsR w base vs L) (hx : Ext w w') {v : Value} {l : List (Int × Int)} (ho : OwnR w' w.heap.size v l) (hb : base ≤ w.heap.size) : RowsR w' base (vs ++ [v]) (L ++ [l]) := by
 have h' := h.ext hx
 refine ⟨by simp [h.len], fun i hi => ?_, fun i j k hij hj hk => ?_⟩
 ·by_cases hl : i < L.length
  ·rw [List.getElem?_append_left (by rw [h.len]; exact hl), List.getElem?_append_left hl]; exact h'.row i hl
  ·have : i = L.length := by simp at hi; omega
   subst this
   rw [← h.len]
   simp only [List.getElem?_concat_length, Option.getD_some]
   rw [h.len]
   simp only [List.getElem?_concat_length, Option.getD_some]
   exact ho.mono hb
 ·by_cases hl : j < L.length
  ·rw [List.getElem?_append_left (by rw [h.len]; omega)] at hk
   rw [List.getElem?_append_left (by rw [h.len]; exact hl)]
   exact h.apart i j k hij hl hk
  ·have : j = L.length := by simp at hj; omega
   subst this
   rw [List.getElem?_append_left (by rw [h.len]; omega)] at hk
   rw [← h.len]
   simp only [List.getElem?_concat_length, Option.getD_some]
   intro hk'
   have h1 := ((h.row i (by omega)).lt k hk).2
   have h2 := (ho.lt k hk').1
   omega
def OwnRR (w : World) (base : Nat) (v : Value) (L : List (List (Int × Int))) : Prop := ∃ vs, OwnW w base v vs ∧ RowsR w base vs L
theorem OwnRR.form {w : World} {base : Nat} {v : Value} {L : List (List (Int × Int))} (h : OwnRR w base v L) : ∃ a cap, v = .slice a L.length cap ∧ L.length ≤ cap ∧ cap ≤ 9223372036854775807 := by
 obtain ⟨vs, h1, h2⟩ := h
 have := h1.form
 rwa [h2.len] at this
theorem OwnRR.ratss {w : World} {base : Nat} {a : Option Addr} {n cap : Nat} {L : List (List (Int × Int))} (h : OwnRR w base (.slice a n cap) L) : RatSS w a n cap L := by
 obtain ⟨a', cap', he, h1, h2⟩ := h.form
 simp only [Value.slice.injEq] at he
 obtain ⟨rfl, rfl, rfl⟩ := he
 obtain ⟨vs, h3, h4⟩ := h
 refine ⟨rfl, h1, h2, fun k hk => ?_⟩
 obtain ⟨g, rfl, _, hc⟩ := h3.cell hk
 refine ⟨g, 0, rfl, fun k hk => ?_⟩
 have hv : k < vs.length := by rw [h4.len]; exact hk
 obtain ⟨a', cap', hf, _⟩ := (h4.row k hk).form
 have ho := h4.row k hk
 rw [hf] at ho
 refine ⟨a', _, cap', ?_, ho.rats⟩
 rw [Nat.zero_add, hc k hk, ← hf]
 simp [hv]
structure RMat (w : World) (base : Nat) (a : Option Addr) (N cap : Nat) (vs : List Value) (M : List (List (Int × Int))) : Prop where
 own : OwnW w base (.slice a N cap) vs
 rows : RowsR w base vs M
theorem RMat.vlen {w : World} {base : Nat} {a : Option Addr} {N cap : Nat} {vs : List Value} {M : List (List (Int × Int))} (h : RMat w base a N cap vs M) : vs.length = N := h.own.len
theorem RMat.len {w : World} {base : Nat} {a : Option Addr} {N cap : Nat} {vs : List Value} {M : List (List (Int × Int))} (h : RMat w base a N cap vs M) : M.length = N := by rw [← h.rows.len]; exact h.own.len
theorem RMat.keep {w w' : World} {base : Nat} {a : Option Addr} {N cap : Nat} {vs : List Value} {M : List (List (Int × Int))} (h : RMat w base a N cap vs M) (h0 : ∀ k, (Value.slice a N cap).ownBlock = some k → w'.heap[k]? = w.heap[k]?)
 (h1 : ∀ i k, i < N → (vs[i]?.getD undef).ownBlock = some k → w'.heap[k]? = w.heap[k]?) : RMat w' base a N cap vs M :=
 ⟨h.own.keep h0, h.rows.keep fun i k hi hk => h1 i k (by rw [← h.len]; exact hi) hk⟩
theorem RMat.ext {w w' : World} {base : Nat} {a : Option Addr} {N cap : Nat} {vs : List Value} {M : List (List (Int × Int))} (h : RMat w base a N cap vs M) (hx : Ext w w') : RMat w' base a N cap vs M := ⟨h.own.ext hx, h.rows.ext hx⟩
theorem RMat.outer {w : World} {base : Nat} {a : Option Addr} {N cap : Nat} {vs : List Value} {M : List (List (Int × Int))} (h : RMat w base a N cap vs M) (hN : 0 < N) : ∃ G, a = some ⟨G, 0, none⟩ ∧ base ≤ G ∧ G < w.heap.size ∧ ∀ j, w.frozen? ⟨G, j, none⟩ = false := by
 rcases h.own.2 with ⟨he, h0⟩ | ⟨g, cap', cur, he, hb, hg, _⟩
 ·simp only [Value.slice.injEq] at he
  omega
 ·simp only [Value.slice.injEq] at he
  obtain ⟨rfl, _⟩ := he
  exact ⟨g, rfl, hb, lt_of_block hg, fun j => frozen_of_row w g j cur _ hg⟩
theorem RMat.put {w0 w : World} {base G N cap : Nat} {vs : List Value} {M : List (List (Int × Int))} (h : RMat w0 base (some ⟨G, 0, none⟩) N cap vs M) (hx : Ext w0 w) (hb : base ≤ w0.heap.size) {v : Value} {l : List (Int × Int)} (ho : OwnR w w0.heap.size v l) {i : Nat} (hi : i < N) :
 RMat (w.setCell ⟨G, i, none⟩ v) base (some ⟨G, 0, none⟩) N cap (vs.set i v) (M.set i l) := by
 have hil : i < M.length := by rw [h.len]; exact hi
 have hvl : i < vs.length := by rw [h.vlen]; exact hi
 have hW := h.ext hx
 obtain ⟨G', hG, hbG, hGl, _⟩ := h.outer (by omega)
 simp only [Option.some.injEq, Addr.mk.injEq, and_true] at hG
 subst hG
 have hother : ∀ k, k ≠ G → (w.setCell ⟨G, i, none⟩ v).heap[k]? = w.heap[k]? := fun k hk => heap_setCell_other _ _ _ _ hk
 refine ⟨?_, ⟨by rw [List.length_set, List.length_set]; exact h.rows.len, fun k hk => ?_, fun a b k hab hb2 hk hk2 => ?_⟩⟩
 ·have ho := hW.own
  unfold OwnW at ho
  rw [hW.vlen] at ho
  have := (World.ownsRow.stored ho i v).1
  unfold OwnW
  rw [List.length_set, hW.vlen]
  exact this
 ·rw [List.length_set] at hk
  by_cases hki : k = i
  ·subst hki
   rw [List.getElem?_set_self hvl, List.getElem?_set_self hil]
   exact (ho.keep fun b hb' => hother b (by have := (ho.lt b hb').1; omega)).mono hb
  ·rw [List.getElem?_set_ne (Ne.symm hki), List.getElem?_set_ne (Ne.symm hki)]
   refine (hW.rows.row k hk).keep fun b hb' => hother b fun e => ?_
   subst e
   exact (hW.rows.row k hk).apart hW.own _ hb' rfl
 ·rw [List.length_set] at hb2
  by_cases hai : a = i
  ·subst hai
   rw [List.getElem?_set_self hvl] at hk
   rw [List.getElem?_set_ne (by omega)] at hk2
   have h1 := (ho.lt k hk).1
   have h2 := ((h.rows.row b hb2).lt k hk2).2
   omega
  ·rw [List.getElem?_set_ne (Ne.symm hai)] at hk
   by_cases hbi : b = i
   ·subst hbi
    rw [List.getElem?_set_self hvl] at hk2
    have h1 := (ho.lt k hk2).1
    have h2 := ((h.rows.row a (by omega)).lt k hk).2
    omega
   ·rw [List.getElem?_set_ne (Ne.symm hbi)] at hk2
    exact h.rows.apart a b k hab hb2 hk hk2
end Go.Proofs.YthjjfkeacobikaaGreat
namespace Go.Proofs.YthjjfkeacobikaaGreat
set_option maxRecDepth 100000
open Go.RowKit
structure LpC (w : World) (a : Option Addr) (na ca : Nat) (b : Option Addr) (nb cb : Nat) (c : Option Addr) (nc cc : Nat) (A : List (List Int)) (B : List Int) (C : List (Int × Int)) : Prop where
 a : IntSS w a na ca A
 b : Ints w b nb cb B
 c : Rats w c nc cc C
theorem LpC.ext {w w' : World} {a : Option Addr} {na ca : Nat} {b : Option Addr} {nb cb : Nat} {c : Option Addr} {nc cc : Nat} {A : List (List Int)} {B : List Int} {C : List (Int × Int)} (h : LpC w a na ca b nb cb c nc cc A B C) (hx : Ext w w') : LpC w' a na ca b nb cb c nc cc A B C :=
 ⟨h.a.ext hx, h.b.ext hx, h.c.ext hx⟩
abbrev lpW (a : Option Addr) (na ca : Nat) (b : Option Addr) (nb cb : Nat) (c : Option Addr) (nc cc : Nat) : Value := .agg #[.slice a na ca, .slice b nb cb, .slice c nc cc]
abbrev lpBox (a : Option Addr) (na ca : Nat) (b : Option Addr) (nb cb : Nat) (c : Option Addr) (nc cc : Nat) : Obj := .cells #[.slice a na ca, .slice b nb cb, .slice c nc cc] 109
theorem dotN_step {A B : List (Int × Int)} {k : Nat} {s : Int × Int} (h : dotN A B k = some s) : dotN A B (k + 1) = if (mulR (A[k]?.getD (0, 0)) (B[k]?.getD (0, 0))).2 = true ∧ (addR s (mulR (A[k]?.getD (0, 0)) (B[k]?.getD (0, 0))).1).2 = true
 then some (addR s (mulR (A[k]?.getD (0, 0)) (B[k]?.getD (0, 0))).1).1 else none := by simp only [dotN, h, Option.bind_some]
theorem dotN_none {A B : List (Int × Int)} {k : Nat} (h : dotN A B k = none) : ∀ {n : Nat}, k ≤ n → dotN A B n = none
 | n, hn => by
   obtain ⟨d, rfl⟩ : ∃ d, n = k + d := ⟨n - k, by omega⟩
   clear hn
   induction d with
   | zero => exact h
   | succ d ih => show (dotN A B (k + d)).bind _ = none; rw [ih]; rfl
def optR (o : Option (Int × Int)) : (Int × Int) × Bool := (o.getD (0, 0), o.isSome)
theorem colL_snoc {A : List (List Int)} {j k : Nat} (h : k < A.length) : colL (A.take k) j ++ [(A[k]?.getD [])[j]?.getD 0] = colL (A.take (k + 1)) j := by
 rw [takeL_snoc h]; simp [colL]
structure TbC (w : World) (ra : Option Addr) (rn rc : Nat) (ba : Option Addr) (bn bc : Nat) (t : Tb) : Prop where
 rows : RatSS w ra rn rc t.rows
 basis : Ints w ba bn bc t.basis
theorem TbC.ext {w w' : World} {ra : Option Addr} {rn rc : Nat} {ba : Option Addr} {bn bc : Nat} {t : Tb} (h : TbC w ra rn rc ba bn bc t) (hx : Ext w w') : TbC w' ra rn rc ba bn bc t := ⟨h.rows.ext hx, h.basis.ext hx⟩
abbrev tbW (ra : Option Addr) (rn rc : Nat) (ba : Option Addr) (bn bc : Nat) (x : Int) : Value := .agg #[.slice ra rn rc, .slice ba bn bc, .int .i64 x]
abbrev tbBox (ra : Option Addr) (rn rc : Nat) (ba : Option Addr) (bn bc : Nat) (x : Int) : Obj := .cells #[.slice ra rn rc, .slice ba bn bc, .int .i64 x] 83
structure TbO (w : World) (base g : Nat) (va vb : Value) (x : Int) (vs : List Value) (M : List (List (Int × Int))) (l : List Int) : Prop where
 box : w.heap[g]? = some (.cells #[va, vb, .int .i64 x] 83 (0, 0))
 hg : base ≤ g
 a : OwnW w base va vs
 rows : RowsR w base vs M
 b : OwnI w base vb l
section
variable {w : World} {base g : Nat} {va vb : Value} {x : Int} {vs : List Value} {M : List (List (Int × Int))} {l : List Int}
theorem TbO.lt (h : TbO w base g va vb x vs M l) : g < w.heap.size := lt_of_block h.box
theorem TbO.ext {w' : World} (h : TbO w base g va vb x vs M l) (hx : Ext w w') : TbO w' base g va vb x vs M l :=
 ⟨(hx.block _ h.lt).trans h.box, h.hg, h.a.ext hx, h.rows.ext hx, h.b.ext hx⟩
theorem tbox0 {x y z : Value} {t : TypeId} (h : w.heap[g]? = some (.cells #[x, y, z] t (0, 0))) : w.cell? ⟨g, 0, none⟩ = some x := by rw [cell_of_row w g 0 _ _ _ h]; rfl
theorem tbox1 {x y z : Value} {t : TypeId} (h : w.heap[g]? = some (.cells #[x, y, z] t (0, 0))) : w.cell? ⟨g, 1, none⟩ = some y := by rw [cell_of_row w g 1 _ _ _ h]; rfl
theorem tbox2 {x y z : Value} {t : TypeId} (h : w.heap[g]? = some (.cells #[x, y, z] t (0, 0))) : w.cell? ⟨g, 2, none⟩ = some z := by rw [cell_of_row w g 2 _ _ _ h]; rfl
theorem tboxf {x y z : Value} {t : TypeId} (h : w.heap[g]? = some (.cells #[x, y, z] t (0, 0))) (k : Nat) : w.frozen? ⟨g, k, none⟩ = false := frozen_of_row w g k _ _ h
theorem TbO.pushA {w1 w2 : World} (h : TbO w base g va vb x vs M l) (hx : Ext w w1) {vr va' : Value} {r : List (Int × Int)} (hr : OwnR w1 w.heap.size vr r) (hbs : base ≤ w.heap.size) (hgr : w1.grownBy w2 va.ownBlock) (ho : OwnW w2 base va' (vs ++ [vr])) :
 TbO (w2.setCell ⟨g, 0, none⟩ va') base g va' vb x (vs ++ [vr]) (M ++ [r]) l := by
 have h1 := h.ext hx
 have hbox : w2.heap[g]? = some (.cells #[va, vb, .int .i64 x] 83 (0, 0)) := (hgr.block g h1.lt (ownsRow_ne h1.a h1.box (by decide))).trans h1.box
 have hset : ∀ k, k ≠ g → (w2.setCell ⟨g, 0, none⟩ va').heap[k]? = w2.heap[k]? := fun k hk => heap_setCell_other _ _ _ _ hk
 have hB2 : OwnI w2 base vb l := h1.b.keep fun k hk => hgr.block k (h1.b.lt k hk).2 fun e => ownsRow_apart (by decide) h1.b h1.a k hk e.symm
 have hR1 : RowsR w1 base (vs ++ [vr]) (M ++ [r]) := h.rows.snoc hx hr hbs
 have hR2 : RowsR w2 base (vs ++ [vr]) (M ++ [r]) := hR1.keep fun i k hi hk => hgr.block k ((hR1.row i hi).lt k hk).2 fun e => (hR1.row i hi).apart h1.a k hk e.symm
 refine ⟨?_, h.hg, ?_, ?_, ?_⟩
 ·have := heap_setCell_same w2 g 0 _ _ va' hbox
  exact this
 ·exact ho.keep fun k hk => hset k fun e => (ownsRow_ne ho hbox (by decide)) (by rw [hk, e])
 ·exact hR2.keep fun i k hi hk => hset k fun e => (ownsRow_ne (hR2.row i hi) hbox (by decide)) (by rw [hk, e])
 ·exact hB2.keep fun k hk => hset k fun e => (ownsRow_ne hB2 hbox (by decide)) (by rw [hk, e])
theorem TbO.boxA {w1 w2 : World} (h : TbO w base g va vb x vs M l) (hx : Ext w w1) (hg : w1.grownBy w2 va.ownBlock) : w2.heap[g]? = some (.cells #[va, vb, .int .i64 x] 83 (0, 0)) :=
 (hg.block g (h.ext hx).lt (ownsRow_ne (h.ext hx).a (h.ext hx).box (by decide))).trans (h.ext hx).box
theorem TbO.boxB {w1 w2 : World} (h : TbO w base g va vb x vs M l) (hx : Ext w w1) (hg : w1.grownBy w2 vb.ownBlock) : w2.heap[g]? = some (.cells #[va, vb, .int .i64 x] 83 (0, 0)) :=
 (hg.block g (h.ext hx).lt (ownsRow_ne (h.ext hx).b (h.ext hx).box (by decide))).trans (h.ext hx).box
theorem TbO.pushB {w1 w2 : World} (h : TbO w base g va vb x vs M l) (hx : Ext w w1) {vb' : Value} {l' : List Int} (hgr : w1.grownBy w2 vb.ownBlock) (ho : OwnI w2 base vb' l') :
 TbO (w2.setCell ⟨g, 1, none⟩ vb') base g va vb' x vs M l' := by
 have h1 := h.ext hx
 have hbox := h.boxB hx hgr
 have hset : ∀ k, k ≠ g → (w2.setCell ⟨g, 1, none⟩ vb').heap[k]? = w2.heap[k]? := fun k hk => heap_setCell_other _ _ _ _ hk
 have hA2 : OwnW w2 base va vs := h1.a.keep fun k hk => hgr.block k (h1.a.lt k hk).2 fun e => ownsRow_apart (by decide) h1.a h1.b k hk e.symm
 have hR2 : RowsR w2 base vs M := h1.rows.keep fun i k hi hk => hgr.block k ((h1.rows.row i hi).lt k hk).2 fun e => ownsRow_apart (by decide) (h1.rows.row i hi) h1.b k hk e.symm
 refine ⟨?_, h.hg, ?_, ?_, ?_⟩
 ·have := heap_setCell_same w2 g 1 _ _ vb' hbox
  exact this
 ·exact hA2.keep fun k hk => hset k fun e => (ownsRow_ne hA2 hbox (by decide)) (by rw [hk, e])
 ·exact hR2.keep fun i k hi hk => hset k fun e => (ownsRow_ne (hR2.row i hi) hbox (by decide)) (by rw [hk, e])
 ·exact ho.keep fun k hk => hset k fun e => (ownsRow_ne ho hbox (by decide)) (by rw [hk, e])
theorem TbO.put3 {w3 : World} {vb v0 v1 v2 : Value} {base' : Nat} (hbox : w3.heap[g]? = some (.cells #[v0, v1, v2] 83 (0, 0))) (hb : OwnI w3 base' vb l) (hb' : base ≤ base') (hs : base ≤ g) :
 TbO (((w3.setCell ⟨g, 0, none⟩ (.slice none 0 0)).setCell ⟨g, 1, none⟩ vb).setCell ⟨g, 2, none⟩ (.int .i64 x)) base g (.slice none 0 0) vb x [] [] l := by
 have e1 := heap_setCell_same w3 g 0 _ _ (.slice none 0 0) hbox
 have e2 := heap_setCell_same _ g 1 _ _ vb e1
 have e3 := heap_setCell_same _ g 2 _ _ (.int .i64 x) e2
 refine ⟨e3, hs, World.ownsRow_nil _ base _ 1, RowsR.nil _ _, ?_⟩
 refine (hb.mono hb').keep fun k hk => ?_
 have hne : k ≠ g := fun e => (ownsRow_ne hb hbox (by decide)) (by rw [hk, e])
 rw [heap_setCell_other _ _ _ _ hne, heap_setCell_other _ _ _ _ hne, heap_setCell_other _ _ _ _ hne]
end
structure OwnT (w : World) (base : Nat) (va vb : Value) (vs : List Value) (t : Tb) : Prop where
 a : OwnW w base va vs
 rows : RowsR w base vs t.rows
 b : OwnI w base vb t.basis
theorem OwnT.ext {w w' : World} {base : Nat} {va vb : Value} {vs : List Value} {t : Tb} (h : OwnT w base va vb vs t) (hx : Ext w w') : OwnT w' base va vb vs t := ⟨h.a.ext hx, h.rows.ext hx, h.b.ext hx⟩
theorem OwnT.mono {w : World} {base base' : Nat} {va vb : Value} {vs : List Value} {t : Tb} (h : OwnT w base va vb vs t) (hb : base' ≤ base) : OwnT w base' va vb vs t :=
 ⟨by
  refine ⟨h.a.1, ?_⟩
  rcases h.a.2 with hn | ⟨g, cap, cur, rfl, hbb, rest⟩
  ·exact .inl hn
  ·exact .inr ⟨g, cap, cur, rfl, Nat.le_trans hb hbb, rest⟩, ⟨h.rows.len, fun i hi => (h.rows.row i hi).mono hb, h.rows.apart⟩, h.b.mono hb⟩
theorem OwnT.tbc {w : World} {base : Nat} {ra : Option Addr} {rn rc : Nat} {ba : Option Addr} {bn bc : Nat} {vs : List Value} {t : Tb} (h : OwnT w base (.slice ra rn rc) (.slice ba bn bc) vs t) : TbC w ra rn rc ba bn bc t :=
 ⟨OwnRR.ratss ⟨vs, h.a, h.rows⟩, h.b.ints⟩
theorem OwnT.keepAll {w w' : World} {base : Nat} {va vb : Value} {vs : List Value} {t : Tb} (h : OwnT w base va vb vs t) (hk : ∀ k, base ≤ k → w'.heap[k]? = w.heap[k]?) : OwnT w' base va vb vs t :=
 ⟨h.a.keep fun k e => hk k (h.a.lt k e).1, h.rows.keep fun i k hi e => hk k ((h.rows.row i hi).lt k e).1, h.b.keep fun k e => hk k (h.b.lt k e).1⟩
theorem set3_other (w : World) (b k : Nat) (x y z : Value) (h : k ≠ b) : (((w.setCell ⟨b, 0, none⟩ x).setCell ⟨b, 1, none⟩ y).setCell ⟨b, 2, none⟩ z).heap[k]? = w.heap[k]? := by
 rw [heap_setCell_other _ _ _ _ h, heap_setCell_other _ _ _ _ h, heap_setCell_other _ _ _ _ h]
theorem TbO.own {w : World} {base g : Nat} {va vb : Value} {x : Int} {vs : List Value} {M : List (List (Int × Int))} {l : List Int} (h : TbO w base g va vb x vs M l) : OwnT w base va vb vs ⟨M, l, x⟩ := ⟨h.a, h.rows, h.b⟩
theorem Ext.set3 {w w' : World} (h : Ext w w') {b : Nat} (hb : w.heap.size ≤ b) (x y z : Value) : Ext w (((w'.setCell ⟨b, 0, none⟩ x).setCell ⟨b, 1, none⟩ y).setCell ⟨b, 2, none⟩ z) := ((h.setCell (p := ⟨b, 0, none⟩) hb _).setCell (p := ⟨b, 1, none⟩) hb _).setCell (p := ⟨b, 2, none⟩) hb _
end Go.Proofs.YthjjfkeacobikaaGreat
