import Derived.Test.YtgohdmnbnhehnaaGreatFnAllG1
import Derived.Test.YtgohdmnbnhehnaaGreatFnAllG0
namespace Go.Proofs.YtgohdmnbnhehnaaGreat
set_option linter.unusedVariables false
open Go.RowKit
def OwnI (w : World) (base : Nat) (v : Value) (l : List Int) : Prop := w.ownsRow base 3 1 v l.length (l.map (Value.int .i64))
def OwnV (w : World) (base : Nat) (v : Value) (vs : List Value) : Prop := w.ownsRow base 22 1 v vs.length vs
theorem OwnI.form {w : World} {base : Nat} {v : Value} {l : List Int} (h : OwnI w base v l) : ∃ a cap, v = .slice a l.length cap ∧ l.length ≤ cap ∧ cap ≤ 9223372036854775807 := by
 rcases h.2 with ⟨rfl, h0⟩ | ⟨g, cap, cur, rfl, _, _, h1, h2, _⟩
 ·exact ⟨none, 0, by rw [h0], by omega, by omega⟩
 ·exact ⟨_, cap, rfl, h1, by simpa [maxLen] using h2⟩
theorem OwnI.var {w : World} {base : Nat} {v : Value} {l : List Int} (h : OwnI w base v l) : ∃ a n cap, v = .slice a n cap ∧ Hid (l.length = n) := by
 obtain ⟨a, cap, e, _⟩ := h.form
 exact ⟨a, _, cap, e, rfl⟩
theorem OwnI.ints {w : World} {base : Nat} {a : Option Addr} {n cap : Nat} {l : List Int} (h : OwnI w base (.slice a n cap) l) : Ints w a n cap l := by
 rcases h.2 with ⟨he, h0⟩ | ⟨g, cap', cur, he, _, hg, h1, h2, hs, ht⟩
 ·simp only [Value.slice.injEq] at he
  obtain ⟨rfl, rfl, rfl⟩ := he
  exact ⟨h0, Nat.le_refl _, by omega, fun k hk => absurd hk (by omega)⟩
 ·simp only [Value.slice.injEq] at he
  obtain ⟨rfl, rfl, rfl⟩ := he
  refine ⟨rfl, h1, by simpa [maxLen] using h2, fun k hk => ⟨g, 0, rfl, fun k hk => ?_⟩⟩
  rw [Nat.zero_add, cell_of_row w g k cur _ (0, 0) hg]
  have : (cur.toList.take (l.length * 1))[k]? = some (.int .i64 (l[k]?.getD 0)) := by rw [ht]; simp [hk]
  rw [List.getElem?_take, if_pos (by omega)] at this
  simpa using this
theorem OwnI.lt {w : World} {base : Nat} {v : Value} {l : List Int} (h : OwnI w base v l) : ∀ k, v.ownBlock = some k → base ≤ k ∧ k < w.heap.size := World.ownsRow.lt h
theorem OwnI.keep {w w' : World} {base : Nat} {v : Value} {l : List Int} (h : OwnI w base v l) (hk : ∀ k, v.ownBlock = some k → w'.heap[k]? = w.heap[k]?) : OwnI w' base v l := by
 refine ⟨h.1, ?_⟩
 rcases h.2 with hn | ⟨g, cap, cur, rfl, hb, hgg, rest⟩
 ·exact .inl hn
 ·exact .inr ⟨g, cap, cur, rfl, hb, (hk g rfl).trans hgg, rest⟩
theorem OwnI.ext {w w' : World} {base : Nat} {v : Value} {l : List Int} (h : OwnI w base v l) (hx : Ext w w') : OwnI w' base v l := h.keep fun k hk => hx.block k (h.lt k hk).2
theorem OwnI.on {w : World} {base : Nat} {v : Value} {l : List Int} (h : OwnI w base v l) : On base w (fun W => OwnI W base v l) := fun w2 h2 => h.keep fun k hk => h2 k (h.lt k hk).1 (h.lt k hk).2
theorem OwnI.mono {w : World} {base base' : Nat} {v : Value} {l : List Int} (h : OwnI w base v l) (hb : base' ≤ base) : OwnI w base' v l := by
 refine ⟨h.1, ?_⟩
 rcases h.2 with hn | ⟨g, cap, cur, rfl, hbb, rest⟩
 ·exact .inl hn
 ·exact .inr ⟨g, cap, cur, rfl, by omega, rest⟩
theorem OwnI.nil (w : World) (base : Nat) : OwnI w base (.slice none 0 0) [] := World.ownsRow_nil w base _ 1
theorem OwnV.form {w : World} {base : Nat} {v : Value} {vs : List Value} (h : OwnV w base v vs) : ∃ a cap, v = .slice a vs.length cap ∧ vs.length ≤ cap ∧ cap ≤ 9223372036854775807 := by
 rcases h.2 with ⟨rfl, h0⟩ | ⟨g, cap, cur, rfl, _, _, h1, h2, _⟩
 ·exact ⟨none, 0, by rw [h0], by omega, by omega⟩
 ·exact ⟨_, cap, rfl, h1, by simpa [maxLen] using h2⟩
theorem OwnV.var {w : World} {base : Nat} {v : Value} {vs : List Value} (h : OwnV w base v vs) : ∃ a n cap, v = .slice a n cap ∧ Hid (vs.length = n) := by
 obtain ⟨a, cap, e, _⟩ := h.form
 exact ⟨a, _, cap, e, rfl⟩
theorem OwnV.cell {w : World} {base : Nat} {a : Option Addr} {n cap : Nat} {vs : List Value} (h : OwnV w base (.slice a n cap) vs) {k : Nat} (hk : k < n) : ∃ g, a = some ⟨g, 0, none⟩ ∧ base ≤ g ∧ ∀ k, k < n → w.cell? ⟨g, k, none⟩ = vs[k]? := by
 rcases h.2 with ⟨he, h0⟩ | ⟨g, cap', cur, he, hb, hg, h1, h2, hs, ht⟩
 ·simp only [Value.slice.injEq] at he
  omega
 ·simp only [Value.slice.injEq] at he
  obtain ⟨rfl, rfl, rfl⟩ := he
  refine ⟨g, rfl, hb, fun k hk => ?_⟩
  rw [cell_of_row w g k cur _ (0, 0) hg]
  have : (cur.toList.take (vs.length * 1))[k]? = vs[k]? := by rw [ht]
  rw [List.getElem?_take, if_pos (by omega)] at this
  simpa using this
theorem OwnV.len {w : World} {base : Nat} {a : Option Addr} {n cap : Nat} {vs : List Value} (h : OwnV w base (.slice a n cap) vs) : vs.length = n := by
 obtain ⟨a', cap', he, _⟩ := h.form
 simp only [Value.slice.injEq] at he
 exact he.2.1.symm
theorem OwnV.lt {w : World} {base : Nat} {v : Value} {vs : List Value} (h : OwnV w base v vs) : ∀ k, v.ownBlock = some k → base ≤ k ∧ k < w.heap.size := World.ownsRow.lt h
theorem OwnV.keep {w w' : World} {base : Nat} {v : Value} {vs : List Value} (h : OwnV w base v vs) (hk : ∀ k, v.ownBlock = some k → w'.heap[k]? = w.heap[k]?) : OwnV w' base v vs := by
 refine ⟨h.1, ?_⟩
 rcases h.2 with hn | ⟨g, cap, cur, rfl, hb, hgg, rest⟩
 ·exact .inl hn
 ·exact .inr ⟨g, cap, cur, rfl, hb, (hk g rfl).trans hgg, rest⟩
theorem OwnV.ext {w w' : World} {base : Nat} {v : Value} {vs : List Value} (h : OwnV w base v vs) (hx : Ext w w') : OwnV w' base v vs := h.keep fun k hk => hx.block k (h.lt k hk).2
theorem OwnV.on {w : World} {base : Nat} {v : Value} {vs : List Value} (h : OwnV w base v vs) : On base w (fun W => OwnV W base v vs) := fun w2 h2 => h.keep fun k hk => h2 k (h.lt k hk).1 (h.lt k hk).2
theorem OwnV.nil (w : World) (base : Nat) : OwnV w base (.slice none 0 0) [] := World.ownsRow_nil w base _ 1
theorem OwnI.apart {w : World} {base base' : Nat} {v v' : Value} {l : List Int} {vs : List Value} (h : OwnI w base v l) (h' : OwnV w base' v' vs) : ∀ k, v.ownBlock = some k → v'.ownBlock ≠ some k := by
 intro k hk hk'
 rcases h.2 with ⟨rfl, _⟩ | ⟨g, cap, cur, rfl, _, hg, _⟩
 ·simp [Value.ownBlock] at hk
 ·rcases h'.2 with ⟨rfl, _⟩ | ⟨g', cap', cur', rfl, _, hg', _⟩
  ·simp [Value.ownBlock] at hk'
  ·simp only [Value.ownBlock, Option.some.injEq] at hk hk'
   subst hk hk'
   rw [hg] at hg'
   simp at hg'
section
variable {P : Program} {w : World} {ops : Array Oper} {rest : List Oper} {o : Oper} {a : Act} {Q : Exit → Act → World → Prop}
theorem wp_append_ints {K : Act → World → Prop} (s x : Operand) (ho : o.op = .call { callee := .builtin .append, args := #[s, x], argTypes := #[22, 22] })
 (base : Nat) (v : Value) (l : List Int) (hs : a.eval s = v) (hown : OwnI w base v l) (ao : Option Addr) (m c : Nat) (l' : List Int) (hx : a.eval x = .slice ao m c) (hi' : Ints w ao m c l') (hb : l.length + m ≤ 1099511627776) (hbase : base ≤ w.heap.size)
 (h : ∀ v' w', OwnI w' base v' (l ++ l') → w.grownBy w' v.ownBlock → Near w v v' → K (a.put o.dst v') w') : o.wp Tryz.prog a w K Q := by
 obtain ⟨i, hi, hz0, hz1, hz2⟩ := info_parts Tryz.infoInt
 cases ao with
 | none =>
   have hm : m = 0 := by
    rcases Nat.eq_zero_or_pos m with h0 | h0
    ·exact h0
    ·obtain ⟨b, off, e, _⟩ := hi'.cell 0 h0; cases e
   subst hm
   have hl : l' = [] := List.eq_nil_of_length_eq_zero hi'.hlen
   subst hl
   refine wp_append_nothing w s x 22 ho base 3 i 1 Tryz.underlying22 hi v l.length _ hs hown c hx ?_
   exact h v w (by simpa using hown) (World.grownBy.refl _ _) (Near.refl _ _)
 | some ad =>
   refine wp_append_near w s x 22 ho base 3 i (.int .i64 0) 1 8 Tryz.underlying22 hi hz0 hz1 hz2 rfl (by decide) v l.length (l.map (Value.int .i64)) hs hown ad m c (l'.map (Value.int .i64)) hx (by simp [hi'.hlen]) ?_ ?_ (by simp [maxLen]; omega) (by omega) hbase ?_
   ·intro j u hu
    have hj : j < m := by
     have := (List.getElem?_eq_some_iff.1 hu).1
     simpa [hi'.hlen] using this
    have hj' : j < l'.length := by have := hi'.hlen; omega
    obtain ⟨b, off, e, hc⟩ := hi'.cell j hj
    simp only [Option.some.injEq] at e
    subst e
    have ha : (⟨b, off, none⟩ : Addr).add j = ⟨b, off + j, none⟩ := by unfold Addr.add; split <;> simp_all
    rw [ha, hc j hj]
    simp only [List.getElem?_map, List.getElem?_eq_getElem hj', Option.map_some, Option.some.injEq, Option.getD_some] at hu ⊢
    exact hu
   ·intro u hu
    obtain ⟨z, _, rfl⟩ := List.mem_map.1 hu
    rfl
   ·intro v' w' h1 h2 h3
    refine h v' w' ?_ h2 h3
    unfold OwnI
    rw [List.length_append, hi'.hlen, List.map_append]
    exact h1
theorem append_ints (hgd : o.guard = none) (s x : Operand) (ho : o.op = .call { callee := .builtin .append, args := #[s, x], argTypes := #[22, 22] })
 (base : Nat) (v : Value) (l : List Int) (hs : a.eval s = v) (hown : OwnI w base v l) (ao : Option Addr) (m c : Nat) (l' : List Int) (hx : a.eval x = .slice ao m c) (hi' : Ints w ao m c l') (hb : l.length + m ≤ 1099511627776) (hbase : base ≤ w.heap.size)
 (h : ∀ v' w', OwnI w' base v' (l ++ l') → w.grownBy w' v.ownBlock → Near w v v' → wpList Tryz.prog ops Q rest (a.put o.dst v') w') : wpList Tryz.prog ops Q (o :: rest) a w :=
 wpList_plain hgd fun _ hK => wp_append_ints s x ho base v l hs hown ao m c l' hx hi' hb hbase fun v' w' h1 h2 h3 => hK _ _ (h v' w' h1 h2 h3)
theorem wp_append_slice {K : Act → World → Prop} (s x : Operand) (ho : o.op = .call { callee := .builtin .append, args := #[s, x], argTypes := #[26, 26] })
 (base : Nat) (v : Value) (vs : List Value) (hs : a.eval s = v) (hown : OwnV w base v vs) (ad : Addr) (u : Value) (c : Nat) (hx : a.eval x = .slice (some ad) 1 c)
 (hcell : w.cell? ad = some u) (h1c : u.oneCell' = true) (hb : vs.length ≤ 1099511627775) (hbase : base ≤ w.heap.size)
 (h : ∀ v' w', OwnV w' base v' (vs ++ [u]) → w.grownBy w' v.ownBlock → Near w v v' → K (a.put o.dst v') w') : o.wp Tryz.prog a w K Q := by
 obtain ⟨i, hi, hz0, hz1, hz2⟩ := info_parts Tryz.infoInts
 refine wp_append_near w s x 26 ho base 22 i (.slice none 0 0) 1 24 Tryz.underlying26 hi hz0 hz1 hz2 rfl (by decide) v vs.length vs hs hown ad 1 c [u] hx rfl ?_ ?_ (by simp [maxLen]; omega) (by omega) hbase ?_
 ·intro j u' hu
  match j with
  | 0 => simpa [Addr.add] using hu ▸ hcell
  | j + 1 => simp at hu
 ·intro u' hu
  simp only [List.mem_singleton] at hu
  rw [hu]
  exact h1c
 ·intro v' w' h1 h2 h3
  refine h v' w' ?_ h2 h3
  unfold OwnV
  rw [List.length_append]
  exact h1
theorem append_slice (hgd : o.guard = none) (s x : Operand) (ho : o.op = .call { callee := .builtin .append, args := #[s, x], argTypes := #[26, 26] })
 (base : Nat) (v : Value) (vs : List Value) (hs : a.eval s = v) (hown : OwnV w base v vs) (ad : Addr) (u : Value) (c : Nat) (hx : a.eval x = .slice (some ad) 1 c)
 (hcell : w.cell? ad = some u) (h1c : u.oneCell' = true) (hb : vs.length ≤ 1099511627775) (hbase : base ≤ w.heap.size)
 (h : ∀ v' w', OwnV w' base v' (vs ++ [u]) → w.grownBy w' v.ownBlock → Near w v v' → wpList Tryz.prog ops Q rest (a.put o.dst v') w') : wpList Tryz.prog ops Q (o :: rest) a w :=
 wpList_plain hgd fun _ hK => wp_append_slice s x ho base v vs hs hown ad u c hx hcell h1c hb hbase fun v' w' h1 h2 h3 => hK _ _ (h v' w' h1 h2 h3)
end
theorem Ints.one (w : World) (x : Int) (t : TypeId) : Ints (w.alloc (.cells #[.int .i64 x] t)) (some ⟨w.heap.size, 0, none⟩) 1 1 [x] :=
 ⟨rfl, Nat.le_refl _, by omega, fun k hk => ⟨_, 0, rfl, fun k hk => by
  obtain rfl : k = 0 := by omega
  simp⟩⟩
def seqI (k : Int) (n : Nat) : List Int := (List.range n).map fun (i : Nat) => k + (i : Int)
theorem seqI_len (k : Int) (n : Nat) : (seqI k n).length = n := by simp [seqI]
def markI (k : Int) (l : List Int) (i : Nat) : List Int := seqI k i ++ l.drop i
theorem markI_zero (k : Int) (l : List Int) : markI k l 0 = l := by simp [markI, seqI]
theorem markI_all (k : Int) (l : List Int) : markI k l l.length = seqI k l.length := by simp [markI]
theorem markI_set (k : Int) (l : List Int) (i : Nat) (h : i < l.length) : (markI k l i).set i (k + i) = markI k l (i + 1) := by
 unfold markI
 rw [List.set_append_right _ _ (by simp [seqI])]
 have : i - (seqI k i).length = 0 := by simp [seqI]
 rw [this, List.drop_eq_getElem_cons h, List.set_cons_zero]
 simp [seqI, List.range_succ]
theorem OwnI.set {w : World} {base g n cap : Nat} {l : List Int} (h : OwnI w base (.slice (some ⟨g, 0, none⟩) n cap) l) (k : Nat) (x : Int) :
 OwnI (w.setCell ⟨g, k, none⟩ (.int .i64 x)) base (.slice (some ⟨g, 0, none⟩) n cap) (l.set k x) := by
 obtain ⟨a', c', he, _⟩ := OwnI.form h
 simp only [Value.slice.injEq] at he
 obtain ⟨_, rfl, _⟩ := he
 have := (World.ownsRow.stored h k (.int .i64 x)).1
 unfold OwnI
 rw [List.length_set, List.map_set]
 exact this
theorem OwnI.block {w : World} {base : Nat} {a : Option Addr} {n cap : Nat} {l : List Int} (h : OwnI w base (.slice a n cap) l) {k : Nat} (hk : k < n) : ∃ g, a = some ⟨g, 0, none⟩ ∧ base ≤ g ∧ (∀ j, w.frozen? ⟨g, j, none⟩ = false) ∧ g < w.heap.size := by
 rcases h.2 with ⟨he, h0⟩ | ⟨g, cap', cur, he, hb, hg, _⟩
 ·simp only [Value.slice.injEq] at he
  omega
 ·simp only [Value.slice.injEq] at he
  obtain ⟨rfl, _⟩ := he
  exact ⟨g, rfl, hb, fun j => frozen_of_row w g j cur _ hg, lt_of_block hg⟩
set_option maxHeartbeats 400000 in
theorem l_markIntS {w : World} {base : Nat} {a : Option Addr} {n cap : Nat} {l : List Int} (h : OwnI w base (.slice a n cap) l) (k0 : Int) (h0 : 0 ≤ k0) (h1 : k0 + n ≤ 4611686018427387904) :
 Calls Tryz.prog 38 #[.slice a n cap, .int .i64 k0] w fun e w' => e = .returned (.int .i64 (k0 + n)) ∧ OwnI w' base (.slice a n cap) (seqI k0 n) ∧ w.grownBy w' (Value.slice a n cap).ownBlock ∧ w'.heap.size = w.heap.size := by
 have HL := Lib.hid h.ints.hlen
 go_enter Tryz.func38, Tryz.ntmps38
 go_wp2
 go_loopw [1, 5] (fun t i wr => ∃ k : Nat, k ≤ n ∧ i = .int .i64 k ∧ t = .int .i64 (k0 + k) ∧ OwnI wr base (.slice a n cap) (markI k0 l k) ∧ w.grownBy wr (Value.slice a n cap).ownBlock ∧ Hid (wr.heap.size = w.heap.size)) (fun _ i _ => n - (intOf i).toNat)
 case atStart => exact ⟨0, Nat.zero_le _, rfl, by simp, by rw [markI_zero]; exact h, World.grownBy.refl _ _, Lib.hid rfl⟩
 case round =>
  obtain ⟨k, hk, rfl, rfl, hown, hg, HS⟩ := hrel
  by_cases hlt : k < n
  ·obtain ⟨g, rfl, hb, hfz, hgl⟩ := hown.block hlt
   obtain ⟨b, off, he, hc⟩ := hown.ints.at hlt
   simp only [Option.some.injEq, Addr.mk.injEq, and_true] at he
   obtain ⟨rfl, rfl⟩ := he
   rw [Nat.zero_add] at hc
   have hfk := hfz k
   obtain ⟨v0, hc0⟩ : ∃ v0, wr.cell? ⟨g, k, none⟩ = some v0 := ⟨_, hc⟩
   clear hc hfz
   have HO := Lib.hid hown
   have HG := Lib.hid hg
   clear hown hg
   go_wp2
   go_roundw
   case rel =>
    refine ⟨k + 1, by omega, by go_num, by go_num, ?_, ?_, Lib.hid (by simp [HS.out])⟩
    ·rw [← markI_set _ _ _ (by have := HL.out; omega)]; exact HO.out.set k _
    ·have hg := HG.out
     exact ⟨hg.os, hg.tape, hg.output, by simpa using hg.size, fun j hj hne => (heap_setCell_other wr _ j _ (by intro e; exact hne (by simp [Value.ownBlock, e]))).trans (hg.block j hj hne)⟩
   case measure => simp [intOf]; omega
  ·have HO := Lib.hid hown
   have HG := Lib.hid hg
   clear hown hg
   go_wp2
   go_ret
   have hkn : k = n := by omega
   subst hkn
   have := HO.out
   have hl := HL.out
   rw [← hl, markI_all, hl] at this
   exact ⟨rfl, this, HG.out, HS.out⟩
structure RowsI (w : World) (base : Nat) (vs : List Value) (L : List (List Int)) : Prop where
 len : vs.length = L.length
 row : ∀ i, i < L.length → OwnI w base (vs[i]?.getD undef) (L[i]?.getD [])
 apart : ∀ i j k, i < j → j < L.length → (vs[i]?.getD undef).ownBlock = some k → (vs[j]?.getD undef).ownBlock ≠ some k
theorem RowsI.keep {w w' : World} {base : Nat} {vs : List Value} {L : List (List Int)} (h : RowsI w base vs L) (hk : ∀ i k, i < L.length → (vs[i]?.getD undef).ownBlock = some k → w'.heap[k]? = w.heap[k]?) : RowsI w' base vs L :=
 ⟨h.len, fun i hi => (h.row i hi).keep fun k hk' => hk i k hi hk', h.apart⟩
theorem RowsI.ext {w w' : World} {base : Nat} {vs : List Value} {L : List (List Int)} (h : RowsI w base vs L) (hx : Ext w w') : RowsI w' base vs L :=
 h.keep fun i k hi hk => hx.block k ((h.row i hi).lt k hk).2
theorem RowsI.nil (w : World) (base : Nat) : RowsI w base [] [] := ⟨rfl, fun i hi => absurd hi (by simp), fun i j k _ hj => absurd hj (by simp)⟩
theorem RowsI.on {w : World} {base : Nat} {vs : List Value} {L : List (List Int)} (h : RowsI w base vs L) : On base w (fun W => RowsI W base vs L) :=
 fun w2 h2 => h.keep fun i k hi hk => h2 k ((h.row i hi).lt k hk).1 ((h.row i hi).lt k hk).2
theorem RowsI.snoc {w w' : World} {base : Nat} {vs : List Value} {L : List (List Int)} (h : RowsI w base vs L) (hx : Ext w w') {v : Value} {l : List Int} (ho : OwnI w' w.heap.size v l) (hb : base ≤ w.heap.size) : RowsI w' base (vs ++ [v]) (L ++ [l]) := by
 have h' := h.ext hx
 refine ⟨by simp [h.len], fun i hi => ?_, fun i j k hij hj hk => ?_⟩
 ·by_cases hl : i < L.length
  ·rw [List.getElem?_append_left (by rw [h.len]; exact hl), List.getElem?_append_left hl]; exact h'.row i hl
  ·have : i = L.length := by simp at hi; omega
   subst this
   rw [← h.len]
   simp only [List.getElem?_concat_length, Option.getD_some]
   rw [h.len]
   simp only [List.getElem?_concat_length, Option.getD_some]
   exact ho.mono hb
 ·by_cases hl : j < L.length
  ·rw [List.getElem?_append_left (by rw [h.len]; omega)] at hk
   rw [List.getElem?_append_left (by rw [h.len]; exact hl)]
   exact h.apart i j k hij hl hk
  ·have : j = L.length := by simp at hj; omega
   subst this
   rw [List.getElem?_append_left (by rw [h.len]; omega)] at hk
   rw [← h.len]
   simp only [List.getElem?_concat_length, Option.getD_some]
   intro hk'
   have h1 := ((h.row i (by omega)).lt k hk).2
   have h2 := (ho.lt k hk').1
   omega
def OwnSS (w : World) (base : Nat) (v : Value) (L : List (List Int)) : Prop := ∃ vs, OwnV w base v vs ∧ RowsI w base vs L
theorem OwnSS.form {w : World} {base : Nat} {v : Value} {L : List (List Int)} (h : OwnSS w base v L) : ∃ a cap, v = .slice a L.length cap ∧ L.length ≤ cap ∧ cap ≤ 9223372036854775807 := by
 obtain ⟨vs, h1, h2⟩ := h
 have := h1.form
 rwa [h2.len] at this
theorem OwnSS.var {w : World} {base : Nat} {v : Value} {L : List (List Int)} (h : OwnSS w base v L) : ∃ a n cap, v = .slice a n cap ∧ Hid (L.length = n) := by
 obtain ⟨a, cap, e, _⟩ := h.form
 exact ⟨a, _, cap, e, rfl⟩
theorem OwnSS.ext {w w' : World} {base : Nat} {v : Value} {L : List (List Int)} (h : OwnSS w base v L) (hx : Ext w w') : OwnSS w' base v L :=
 let ⟨vs, h1, h2⟩ := h; ⟨vs, h1.ext hx, h2.ext hx⟩
theorem OwnSS.on {w : World} {base : Nat} {v : Value} {L : List (List Int)} (h : OwnSS w base v L) : On base w (fun W => OwnSS W base v L) :=
 let ⟨vs, h1, h2⟩ := h; fun w2 hw => ⟨vs, h1.on w2 hw, h2.on w2 hw⟩
theorem OwnSS.nil (w : World) (base : Nat) : OwnSS w base (.slice none 0 0) [] := ⟨[], OwnV.nil w base, RowsI.nil w base⟩
theorem OwnSS.intss {w : World} {base : Nat} {a : Option Addr} {n cap : Nat} {L : List (List Int)} (h : OwnSS w base (.slice a n cap) L) : IntSS w a n cap L := by
 obtain ⟨a', cap', he, h1, h2⟩ := h.form
 simp only [Value.slice.injEq] at he
 obtain ⟨rfl, rfl, rfl⟩ := he
 obtain ⟨vs, h3, h4⟩ := h
 refine ⟨rfl, h1, h2, fun k hk => ?_⟩
 obtain ⟨g, rfl, _, hc⟩ := h3.cell hk
 refine ⟨g, 0, rfl, fun k hk => ?_⟩
 have hv : k < vs.length := by rw [h4.len]; exact hk
 obtain ⟨a', cap', hf, _⟩ := (h4.row k hk).form
 have ho := h4.row k hk
 rw [hf] at ho
 refine ⟨a', _, cap', ?_, ho.ints⟩
 rw [Nat.zero_add, hc k hk, ← hf]
 simp [hv]
def numb : Int → List (List Int) → List (List Int)
 | _, [] => []
 | k, l :: L => seqI k l.length :: numb (k + l.length) L
def cnt (L : List (List Int)) : Int := (L.map fun l => (l.length : Int)).sum
theorem numb_len : ∀ (k : Int) (L : List (List Int)), (numb k L).length = L.length
 | _, [] => rfl
 | k, l :: L => by simp [numb, numb_len]
theorem numb_append : ∀ (k : Int) (A B : List (List Int)), numb k (A ++ B) = numb k A ++ numb (k + cnt A) B
 | k, [], B => by simp [numb, cnt]
 | k, l :: A, B => by
   simp only [List.cons_append, numb, numb_append _ A B, cnt, List.map_cons, List.sum_cons]
   congr 3
   omega
theorem numb_at (k : Int) (L : List (List Int)) (i : Nat) (h : i < L.length) : (numb k L)[i]?.getD [] = seqI (k + cnt (L.take i)) (L[i]?.getD []).length := by
 have h1 : L = L.take i ++ (L[i] :: L.drop (i + 1)) := by rw [← List.drop_eq_getElem_cons h, List.take_append_drop]
 conv => lhs; rw [h1, numb_append]
 rw [List.getElem?_append_right (by rw [numb_len]; simp; omega), numb_len]
 have : i - (List.take i L).length = 0 := by simp; omega
 rw [this]
 simp [numb, h]
def markSS (k : Int) (L : List (List Int)) (i : Nat) : List (List Int) := numb k (L.take i) ++ L.drop i
theorem markSS_len (k : Int) (L : List (List Int)) (i : Nat) (h : i ≤ L.length) : (markSS k L i).length = L.length := by simp [markSS, numb_len]; omega
theorem markSS_lo (k : Int) (L : List (List Int)) (i j : Nat) (h : i ≤ j) (hj : j < L.length) : (markSS k L i)[j]?.getD [] = L[j]?.getD [] := by
 unfold markSS
 rw [List.getElem?_append_right (by rw [numb_len]; simp; omega), numb_len]
 have : (List.take i L).length = i := by simp; omega
 rw [this, List.getElem?_drop]
 congr 2
 omega
theorem markSS_hi (k : Int) (L : List (List Int)) (i i' j : Nat) (h : j < i) (h' : j < i') (hj : j < L.length) : (markSS k L i)[j]?.getD [] = (markSS k L i')[j]?.getD [] := by
 have key : ∀ i, j < i → (markSS k L i)[j]?.getD [] = seqI (k + cnt (L.take j)) (L[j]?.getD []).length := fun i h => by
  unfold markSS
  rw [List.getElem?_append_left (by rw [numb_len]; simp; omega), numb_at _ _ _ (by simp; omega), List.take_take, Nat.min_eq_left (by omega)]
  congr 3
  rw [List.getElem?_take, if_pos h]
 rw [key i h, key i' h']
theorem RowsI.marked {w w' : World} {base : Nat} {vs : List Value} {L : List (List Int)} {k0 : Int} {i : Nat} (h : RowsI w base vs (markSS k0 L i)) (hi : i < L.length)
 (ho : OwnI w' base (vs[i]?.getD undef) (seqI (k0 + cnt (L.take i)) (L[i]?.getD []).length)) (hg : w.grownBy w' (vs[i]?.getD undef).ownBlock) : RowsI w' base vs (markSS k0 L (i + 1)) := by
 have hl := markSS_len k0 L i (by omega)
 have hl' := markSS_len k0 L (i + 1) (by omega)
 have hlen := h.len
 refine ⟨by omega, fun j hj => ?_, fun a b k hab hb => h.apart a b k hab (by omega)⟩
 by_cases hji : j = i
 ·subst hji
  have : (markSS k0 L (j + 1))[j]?.getD [] = seqI (k0 + cnt (L.take j)) (L[j]?.getD []).length := by
   unfold markSS
   rw [List.getElem?_append_left (by rw [numb_len]; simp; omega), numb_at _ _ _ (by simp; omega), List.take_take, Nat.min_eq_left (by omega)]
   congr 3
   rw [List.getElem?_take, if_pos (by omega)]
  rw [this]
  exact ho
 ·have he : (markSS k0 L (i + 1))[j]?.getD [] = (markSS k0 L i)[j]?.getD [] := by
   by_cases hlt : j < i
   ·exact markSS_hi _ _ _ _ _ (by omega) hlt (by omega)
   ·rw [markSS_lo _ _ _ _ (by omega) (by omega), markSS_lo _ _ _ _ (by omega) (by omega)]
  rw [he]
  refine (h.row j (by omega)).keep fun k hk => hg.block k ((h.row j (by omega)).lt k hk).2 fun e => ?_
  by_cases hlt : j < i
  ·exact h.apart j i k hlt (by omega) hk e.symm
  ·exact h.apart i j k (by omega) (by omega) e.symm hk
theorem Row.own {w : World} {b base : Nat} {l : List Int} {n : Nat} (h : Row w b 3 l) (hb : base ≤ b) (hn : l.length = n) (hm : n ≤ 1099511627776) : OwnI w base (.slice (some ⟨b, 0, none⟩) n n) l := by
 subst hn
 refine ⟨by simp, .inr ⟨b, l.length, intCells l, rfl, hb, h, ?_, ?_, ?_, ?_⟩⟩
 ·omega
 ·simp [maxLen]; omega
 ·simp [intCells]
 ·simp [intCells, List.take_of_length_le]
end Go.Proofs.YtgohdmnbnhehnaaGreat
namespace Go.Proofs.YtgohdmnbnhehnaaGreat
set_option linter.unusedVariables false
set_option linter.unusedSimpArgs false
open Go.RowKit
set_option maxHeartbeats 400000 in
theorem l_szGame (x : Int) (a : Option Addr) (n cap : Nat) (left : Int) (w : World) (h0 : 0 ≤ left) (h1 : left ≤ 1048576) (hm : n ≤ 9223372036854775807) :
 Calls Tryz.prog 23 #[pair x a n cap, .int .i64 left] w fun e w' => e = .returned (.int .i64 (szF left n)) ∧ Ext w w' := by
 have hb := szF_le left n h0 h1
 have HF := Lib.hid (show szF left n < 0 → szF left n = -1 by unfold szF; split <;> omega)
 go_enter Tryz.func23, Tryz.ntmps23
 go_wp2_with (first | (go_at_call 79; refine (l_szIntS _ _ _ _ _ h0 h1 hm).mono ?_; rintro e w' ⟨rfl, rfl⟩))
 all_goals go_ret; refine ⟨ret_int ?_, Ext.alloc _ _⟩
 ·exact (HF.out (by assumption)).symm
 ·rfl
set_option maxHeartbeats 400000 in
theorem l_toGame {w : World} {x : Int} {a : Option Addr} {n cap : Nat} {l : List Int} (h : Ints w a n cap l) (hb : n ≤ 1099511627776) :
 Calls Tryz.prog 25 #[pair x a n cap] w fun e w' => ∃ b, e = .returned (pair x (some ⟨b, 0, none⟩) n n) ∧ Row w' b 3 l ∧ w.heap.size ≤ b ∧ Ext w w' := by
 go_enter Tryz.func25, Tryz.ntmps25
 go_wp2_with fail
 refine (l_toIntS (h.ext ?hx1) hb).mono ?_
 case hx1 => exact (((Ext.alloc _ _).trans (Ext.alloc _ _)).trans (Ext.alloc _ _))
 rintro e w1 ⟨b, rfl, hrow, hbb, hx⟩
 have hcs := hx.cells
 have hfs := hx.frozens
 have HX := Lib.hid hx
 clear hx
 go_wp2
 have hbb' : w.heap.size + 1 + 1 + 1 ≤ b := by simpa using hbb
 refine bodyPost_ret (v := pair x (some ⟨b, 0, none⟩) n n) (by simp [results, Tryz.results25, go_sem, hcs]) rfl ⟨b, rfl, ?_, ?_, ?_⟩
 ·exact ((hrow.other (by simp; omega) _).other (by simp; omega) _).other (by simp; omega) _
 ·omega
 ·exact (((((Ext.alloc _ _).trans (Ext.alloc _ _)).trans (Ext.alloc _ _)).trans HX.out).setCell (by simp; omega) _).setCell (by simp) _ |>.setCell (by simp) _
set_option maxHeartbeats 400000 in
theorem l_eqGame {w : World} {x x' : Int} {a a' : Option Addr} {n n' cap cap' : Nat} {l l' : List Int} (h : Ints w a n cap l) (h' : Ints w a' n' cap' l') :
 Calls Tryz.prog 28 #[pair x a n cap, pair x' a' n' cap'] w fun e w' => e = .returned (.bool (decide (x = x') && decide (l = l'))) ∧ Ext w w' := by
 have hne : (x != x') = !decide (x = x') := by by_cases h : x = x' <;> simp [h]
 cases hd : decide (x = x')
 ·rw [hd] at hne
  go_enter Tryz.func28, Tryz.ntmps28
  go_wp2_with fail
  go_ret
  exact ⟨ret_bool (by simp), (Ext.alloc _ _).trans (Ext.alloc _ _)⟩
 ·rw [hd] at hne
  have hx0 : Ext w ((w.alloc (.cells #[.int .i64 x, .slice a n cap] 47)).alloc (.cells #[.int .i64 x', .slice a' n' cap'] 47)) := (Ext.alloc _ _).trans (Ext.alloc _ _)
  have HE := Lib.hid (l_eqIntS (h.ext hx0) (h'.ext hx0))
  have HX0 := Lib.hid hx0
  clear hx0
  cases hl : decide (l = l')
  all_goals
   have HL := Lib.hid hl
   rw [hl] at HE
   clear hl
   go_enter Tryz.func28, Tryz.ntmps28
   go_wp2_with fail
   refine HE.out.mono ?_
   rintro e w1 ⟨rfl, hx⟩
   go_wp2
   go_ret
   exact ⟨ret_bool (by simp), HX0.out.trans hx.ext⟩
theorem l_markGame {w : World} {x : Int} {base : Nat} {a : Option Addr} {n cap : Nat} {l : List Int} (h : OwnI w base (.slice a n cap) l) (k0 : Int) (h0 : 0 ≤ k0) (h1 : k0 + n ≤ 4611686018427387904) :
 Calls Tryz.prog 29 #[pair x a n cap, .int .i64 k0] w fun e w' => e = .returned (.int .i64 (k0 + n)) ∧ OwnI w' base (.slice a n cap) (seqI k0 n) ∧ w.grownBy w' (Value.slice a n cap).ownBlock := by
 have HO := Lib.hid (h.ext (Ext.alloc w (.cells #[.int .i64 x, .slice a n cap] 47)))
 clear h
 go_enter Tryz.func29, Tryz.ntmps29
 go_wp2_with fail
 refine (l_markIntS HO.out k0 h0 h1).mono ?_
 rintro e w1 ⟨rfl, ho, hg, hs⟩
 have HO1 := Lib.hid ho
 have HG := Lib.hid (grown_trans (grown_ext (Value.slice a n cap).ownBlock (Ext.alloc w (.cells #[.int .i64 x, .slice a n cap] 47))) hg (fun k hk => .inl hk))
 clear ho hg hs
 go_wp2
 go_ret
 exact ⟨rfl, HO1.out, HG.out⟩
def gameOk (p : Int) (l : List Int) : Bool := l.all (fun x => inB x (-500) 500) && (inB p 1 5 && (decide ((l.length : Int) = cntC p) && decide (l[0]?.getD 0 = 0)))
theorem gameOk_len {p : Int} {l : List Int} (h : gameOk p l = true) : ∃ n : Nat, p = n ∧ 1 ≤ n ∧ n ≤ 5 ∧ l.length = cN n ∧ l[0]?.getD 0 = 0 ∧ ∀ x ∈ l, -500 ≤ x ∧ x ≤ 500 := by
 unfold gameOk at h
 simp only [Bool.and_eq_true, decide_eq_true_eq] at h
 obtain ⟨ha, hp, hl, h0⟩ := h
 have hb : 1 ≤ p ∧ p ≤ 5 := by unfold inB at hp; simpa using hp
 refine ⟨p.toNat, by omega, by omega, by omega, ?_, h0, ?_⟩
 ·have : p = (p.toNat : Int) := by omega
  rw [this, cntC_nat _ (by omega)] at hl
  omega
 ·intro x hx
  have := List.all_eq_true.1 ha x hx
  unfold inB at this
  simpa using this
set_option maxHeartbeats 1000000 in
theorem s_IsValidGame {w : World} {p : Int} {a : Option Addr} {n cap : Nat} {l : List Int} (h : Ints w a n cap l) :
 Calls Tryz.prog 80 #[pair p a n cap] w fun e w' => e = .returned (.bool (gameOk p l)) ∧ Ext w w' := by
 have h1 := h.alloc (.cells #[.int .i64 p, .slice a n cap] 47)
 have hn := h.hcap
 have hm := h.hmax
 have HL := Lib.hid h.hlen
 clear h
 go_enter Tryz.func80, Tryz.ntmps80
 go_wp2
 go_loop [3] (fun i => ∃ k : Nat, k ≤ n ∧ i = .int .i64 k ∧ (l.take k).all (fun x => inB x (-500) 500) = true) (fun i => n - (intOf i).toNat)
 case atStart => exact ⟨0, Nat.zero_le _, rfl, rfl⟩
 case round =>
  obtain ⟨k, hk, rfl, hall⟩ := hrel
  have HA := Lib.hid hall
  clear hall
  by_cases hlt : k < n
  ·obtain ⟨b, off, rfl, hc⟩ := h1.at hlt
   cases hb : inB (l[k]?.getD 0) (-500) 500
   ·have HB := Lib.hid hb
    go_wp2_with (first | (go_at_call 56; refine (s_l1In _ _ _ _).mono ?_; rintro e w' ⟨rfl, rfl⟩))
    go_ret
    refine ⟨ret_bool ?_, Ext.alloc _ _⟩
    symm
    unfold gameOk
    cases hx : l.all (fun x => inB x (-500) 500)
    ·rfl
    ·have := all_get hx (k := k) (by have := HL.out; omega); rw [HB.out] at this; cases this
   ·have HB := Lib.hid hb
    go_wp2_with (first | (go_at_call 56; refine (s_l1In _ _ _ _).mono ?_; rintro e w' ⟨rfl, rfl⟩))
    go_round
    case rel => exact ⟨k + 1, by omega, by go_num, by rw [take_snoc (by have := HL.out; omega), List.all_append, HA.out]; simpa using HB.out⟩
    case measure => simp [intOf]; omega
  ·have hkn : k = l.length := by have := HL.out; omega
   have hall := HA.out
   rw [hkn, List.take_length] at hall
   have HALL := Lib.hid hall
   clear hall hkn
   cases hp : inB p 1 5
   ·have HP := Lib.hid hp
    go_wp2
    go_quiet ((first | (go_at_call 56; exact quiet_same (s_l1In _ _ _ _)) | (go_at_call 58; exact quiet_same (s_CountCoalitions _ _))))
    go_wp2
    go_ret
    exact ⟨ret_bool (by unfold gameOk; rw [HALL.out, HP.out]; rfl), below_drewN (Ext.alloc _ _) _⟩
   ·have HP := Lib.hid hp
    cases hl : ((n : Int) == cntC p)
    ·have HE := Lib.hid hl
     go_wp2
     go_quiet ((first | (go_at_call 56; exact quiet_same (s_l1In _ _ _ _)) | (go_at_call 58; exact quiet_same (s_CountCoalitions _ _))))
     go_wp2
     go_ret
     refine ⟨ret_bool ?_, below_drewN (Ext.alloc _ _) _⟩
     have : ¬ ((l.length : Int) = cntC p) := by rw [HL.out]; have := HE.out; simpa using this
     unfold gameOk; rw [decide_eq_false this]; simp
    ·have HE := Lib.hid hl
     have hpos : 0 < n := by
      have h1 : 1 ≤ p ∧ p ≤ 5 := by unfold inB at hp; simpa using hp
      have h2 : (n : Int) = cntC p := by simpa using hl
      unfold cntC at h2
      rw [if_pos (by unfold inB; simp; omega)] at h2
      have := pow_pos p.toNat
      omega
     obtain ⟨b, off, rfl, hc⟩ := h1.at hpos
     rw [Nat.add_zero] at hc
     go_wp2
     go_quiet ((first | (go_at_call 56; exact quiet_same (s_l1In _ _ _ _)) | (go_at_call 58; exact quiet_same (s_CountCoalitions _ _))))
     go_wp2
     go_ret
     refine ⟨ret_bool ?_, below_drewN (Ext.alloc _ _) _⟩
     have he : (l.length : Int) = cntC p := by rw [HL.out]; have := HE.out; simpa using this
     unfold gameOk
     rw [HALL.out, HP.out, decide_eq_true he]
     rw [Bool.eq_iff_iff]; simp
theorem i_IsValidGame1 (x : Int) (w : World) : Calls Tryz.prog 149 #[.int .i64 x] w fun e w' => e = .returned (.bool (!inB x (-500) 500)) ∧ w = w' := by
 go_enter Tryz.func149, Tryz.ntmps149
 go_wp2_with (first | (go_at_call 62; refine (i_within _ _ _ _).mono ?_; rintro e w' ⟨rfl, rfl⟩))
 go_ret
 exact ⟨rfl, rfl⟩
theorem go_IsValidGame1 : IsGo Tryz.prog 149 := isGo Tryz.func149 (by kernel_rfl) (by kernel_rfl)
theorem asks_IsValidGame1 (w : World) : Asks Tryz.prog w 149 #[] (fun x => !inB x (-500) 500) :=
 fun x w1 _ => (i_IsValidGame1 x w1).mono fun e w' ⟨he, hw⟩ => ⟨he, hw ▸ Ext.refl _⟩
theorem gameOk_any (p : Int) (l : List Int) : gameOk p l = (inB p 1 5 && (decide ((l.length : Int) = cntC p) && (decide (l[0]?.getD 0 = 0) && !l.any (fun x => !inB x (-500) 500)))) := by
 unfold gameOk
 have : (!l.any (fun x => !inB x (-500) 500)) = l.all (fun x => inB x (-500) 500) := by rw [List.not_any_eq_all_not]; simp
 rw [this]
 cases l.all (fun x => inB x (-500) 500) <;> simp
set_option maxHeartbeats 1000000 in
theorem i_IsValidGame {w : World} {p : Int} {a : Option Addr} {n cap : Nat} {l : List Int} (h : Ints w a n cap l) :
 Calls Tryz.prog 86 #[pair p a n cap] w fun e w' => e = .returned (.bool (gameOk p l)) ∧ Ext w w' := by
 have h1 := h.alloc (.cells #[.int .i64 p, .slice a n cap] 47)
 have HX := Lib.hid (Ext.alloc w (.cells #[.int .i64 p, .slice a n cap] 47))
 have hn := h.hcap
 have hm := h.hmax
 have HL := Lib.hid h.hlen
 clear h
 cases hp : inB p 1 5
 ·have HP := Lib.hid hp
  go_enter Tryz.func86, Tryz.ntmps86
  go_wp2
  go_quiet ((first | (go_at_call 62; exact quiet_same (i_within _ _ _ _))))
  go_wp2
  go_ret
  exact ⟨ret_bool (by rw [gameOk_any, HP.out]; rfl), below_drewN (Ext.alloc _ _) _⟩
 ·have HP := Lib.hid hp
  obtain ⟨m, rfl⟩ : ∃ m : Nat, p = m := ⟨p.toNat, by unfold inB at hp; simp at hp; omega⟩
  have hm1 : 1 ≤ m ∧ m ≤ 5 := by unfold inB at hp; simp at hp; omega
  obtain ⟨hm1, hm5⟩ := hm1
  have hwp : IntKind.i64.wrap ((2 : Int) ^ m) = (cN m : Int) := by
   have h1 := pow_pos m
   have h2 := pow_le5 m hm5
   rw [IntKind.wrap_i64, cN_pow]; omega
  have hwp' : wrap64 ((2 : Int) ^ m) = (cN m : Int) := (wrap_pow m hm5).trans (cN_pow m).symm
  have HC := Lib.hid (cntC_nat m hm5)
  have hN := cN_le m hm5
  cases hl : ((n : Int) != (cN m : Int))
  ·have hnm : n = cN m := Int.ofNat.inj (show (n : Int) = (cN m : Int) by simpa using hl)
   have HNM := Lib.hid hnm
   have hpos : 0 < n := by omega
   obtain ⟨b, off, rfl, hc⟩ := h1.at hpos
   rw [Nat.add_zero] at hc
   clear hnm
   cases h0 : (l[0]?.getD 0 != 0)
   ·have HZ := Lib.hid h0
    have HI := Lib.hid h1
    go_enter Tryz.func86, Tryz.ntmps86
    go_wp2
    go_quiet ((first | (go_at_call 62; exact quiet_same (i_within _ _ _ _))))
    go_wp2_with fail
    refine (containsFunc_ints (HI.out.drewN _) go_IsValidGame1 (asks_IsValidGame1 _)).mono ?_
    rintro e w1 ⟨rfl, hx⟩
    go_wp2
    go_ret
    refine ⟨ret_bool ?_, Ext.trans (below_drewN HX.out _) hx⟩
    rw [gameOk_any, HP.out, HC.out, HL.out, HNM.out, decide_eq_true rfl]
    have : l[0]?.getD 0 = 0 := by simpa using HZ.out
    rw [decide_eq_true this]
    rfl
   ·have HZ := Lib.hid h0
    go_enter Tryz.func86, Tryz.ntmps86
    go_wp2
    go_quiet ((first | (go_at_call 62; exact quiet_same (i_within _ _ _ _))))
    go_wp2
    go_ret
    refine ⟨ret_bool ?_, below_drewN HX.out _⟩
    have : ¬ (l[0]?.getD 0 = 0) := by simpa using HZ.out
    rw [gameOk_any, decide_eq_false this]
    simp
  ·have HNE := Lib.hid hl
   go_enter Tryz.func86, Tryz.ntmps86
   go_wp2
   go_quiet ((first | (go_at_call 62; exact quiet_same (i_within _ _ _ _))))
   go_wp2
   go_ret
   refine ⟨ret_bool ?_, below_drewN HX.out _⟩
   have : ¬ ((l.length : Int) = cntC (m : Int)) := by rw [HL.out, HC.out]; have := HNE.out; simpa using this
   rw [gameOk_any, decide_eq_false this]
   simp
structure Rats (w : World) (a : Option Addr) (n cap : Nat) (l : List (Int × Int)) : Prop where
 hlen : l.length = n
 hcap : n ≤ cap
 hmax : cap ≤ 9223372036854775807
 cell : ∀ k, k < n → ∃ b off, a = some ⟨b, off, none⟩ ∧ ∀ k, k < n → w.cell? ⟨b, off + k * 2, none⟩ = some (.int .i64 (l[k]?.getD (0, 0)).1) ∧ w.cell? ⟨b, off + k * 2 + 1, none⟩ = some (.int .i64 (l[k]?.getD (0, 0)).2)
theorem Rats.ext {w w' : World} {a : Option Addr} {n cap : Nat} {l : List (Int × Int)} (h : Rats w a n cap l) (hx : Ext w w') : Rats w' a n cap l :=
 ⟨h.hlen, h.hcap, h.hmax, fun k hk => let ⟨b, off, e, hc⟩ := h.cell k hk; ⟨b, off, e, fun k hk => ⟨hx.cellSome (hc k hk).1, hx.cellSome (hc k hk).2⟩⟩⟩
theorem Rats.at {w : World} {a : Option Addr} {n cap : Nat} {l : List (Int × Int)} (h : Rats w a n cap l) {k : Nat} (hk : k < n) :
 ∃ b off x y, a = some ⟨b, off, none⟩ ∧ l[k]?.getD (0, 0) = (x, y) ∧ w.cell? ⟨b, off + k * 2, none⟩ = some (.int .i64 x) ∧ w.cell? ⟨b, off + k * 2 + 1, none⟩ = some (.int .i64 y) :=
 let ⟨b, off, e, hc⟩ := h.cell k hk; ⟨b, off, _, _, e, rfl, (hc k hk).1, (hc k hk).2⟩
theorem take_snocR {l : List (Int × Int)} {k : Nat} (h : k < l.length) : l.take (k+1) = l.take k ++ [l[k]?.getD (0, 0)] := by
 rw [List.take_succ_eq_append_getElem h]; simp [h]
set_option maxHeartbeats 400000 in
theorem l_eqRat (x y x' y' : Int) (w : World) :
 Calls Tryz.prog 76 #[.agg #[.int .i64 x, .int .i64 y], .agg #[.int .i64 x', .int .i64 y']] w fun e w' => e = .returned (.bool (decide (x = x') && decide (y = y'))) ∧ Ext w w' := by
 have hne : (x != x') = !decide (x = x') := by by_cases h : x = x' <;> simp [h]
 have hne2 : (y != y') = !decide (y = y') := by by_cases h : y = y' <;> simp [h]
 cases hd : decide (x = x')
 all_goals
  rw [hd] at hne
  cases hd2 : decide (y = y')
  all_goals
   rw [hd2] at hne2
   go_enter Tryz.func76, Tryz.ntmps76
   go_wp2_with fail
   go_ret
   exact ⟨rfl, (Ext.alloc _ _).trans (Ext.alloc _ _)⟩
set_option maxHeartbeats 1000000 in
theorem l_eqRatS {w : World} {a a' : Option Addr} {n n' cap cap' : Nat} {l l' : List (Int × Int)} (h : Rats w a n cap l) (h' : Rats w a' n' cap' l') :
 Calls Tryz.prog 18 #[.slice a n cap, .slice a' n' cap'] w fun e w' => e = .returned (.bool (decide (l = l'))) ∧ Ext w w' := by
 have hn := h.hcap
 have hm := h.hmax
 have hn' := h'.hcap
 have hm' := h'.hmax
 have HL := Lib.hid h.hlen
 have HL' := Lib.hid h'.hlen
 by_cases hne : n = n'
 ·subst hne
  go_enter Tryz.func18, Tryz.ntmps18
  go_wp2
  go_loopw [5] (fun i wr => ∃ k : Nat, k ≤ n ∧ i = .int .i64 k ∧ l.take k = l'.take k ∧ Ext w wr) (fun i _ => n - (intOf i).toNat)
  case atStart => exact ⟨0, Nat.zero_le _, rfl, rfl, Ext.refl _⟩
  case round =>
   obtain ⟨k, hk, rfl, htk, hx⟩ := hrel
   have HT := Lib.hid htk
   clear htk
   by_cases hlt : k < n
   ·have h1 := h.ext hx
    have h1' := h'.ext hx
    obtain ⟨b, off, x, y, rfl, hxy, hc1, hc2⟩ := h1.at hlt
    obtain ⟨b', off', x', y', rfl, hxy', hc1', hc2'⟩ := h1'.at hlt
    have HXY := Lib.hid hxy
    have HXY' := Lib.hid hxy'
    have HX := Lib.hid hx
    have hk2 : Ext wr wr.drew := Ext.drew wr
    clear hxy hxy' hx h h' h1 h1'
    cases hq : (decide (x = x') && decide (y = y'))
    all_goals
     have HQ := Lib.hid hq
     go_wp2
     go_region_held3 (fun w' => w'.cell? ⟨b, off + k * 2, none⟩ = some (.int .i64 x) ∧ w'.cell? ⟨b, off + k * 2 + 1, none⟩ = some (.int .i64 y) ∧ w'.cell? ⟨b', off' + k * 2, none⟩ = some (.int .i64 x') ∧ w'.cell? ⟨b', off' + k * 2 + 1, none⟩ = some (.int .i64 y') ∧ Ext wr w')
      (exact ⟨hk2.cellSome hc1, hk2.cellSome hc2, hk2.cellSome hc1', hk2.cellSome hc2', hk2⟩)
      (first
        | (go_at_call 76; refine (l_eqRat _ _ _ _ _).mono ?_; rw [hq]; rintro e w3 ⟨rfl, hx3⟩; have hk2 := hk2.trans hx3))
     go_wp2
    ·go_ret
     refine ⟨ret_bool ?_, HX.out.trans hk2⟩
     symm
     rw [decide_eq_false_iff_not]
     intro e
     have := HXY.out.symm.trans ((congrArg (fun l => l[k]?.getD (0, 0)) e).trans HXY'.out)
     simp only [Prod.mk.injEq] at this
     have h2 := HQ.out
     rw [this.1, this.2] at h2
     simp at h2
    ·go_roundw
     case rel =>
      have hq2 : x = x' ∧ y = y' := by have := HQ.out; simpa using this
      obtain ⟨rfl, rfl⟩ := hq2
      exact ⟨k + 1, by omega, by go_num, by rw [take_snocR (by have := HL.out; omega), take_snocR (by have := HL'.out; omega), HT.out, HXY.out, HXY'.out], HX.out.trans hk2⟩
     case measure => simp [intOf]; omega
   ·go_wp2
    go_ret
    refine ⟨ret_bool ?_, hx⟩
    symm
    rw [decide_eq_true_eq]
    have := HT.out
    rwa [List.take_of_length_le (by have := HL.out; omega), List.take_of_length_le (by have := HL'.out; omega)] at this
 ·have hne' : ((n : Int) != (n' : Int)) = true := by simp; omega
  have HN := Lib.hid hne
  clear hne
  go_enter Tryz.func18, Tryz.ntmps18
  go_wp2
  go_ret
  refine ⟨ret_bool ?_, Ext.refl _⟩
  symm
  rw [decide_eq_false_iff_not]
  intro e
  exact HN.out (by rw [← HL.out, ← HL'.out, e])
def ratCells (l : List (Int × Int)) : Array Value := (l.flatMap fun p => [Value.int .i64 p.1, Value.int .i64 p.2]).toArray
theorem flat_at : ∀ (l : List (Int × Int)) (k : Nat), k < l.length → (l.flatMap fun p => [Value.int .i64 p.1, Value.int .i64 p.2])[k * 2]? = some (.int .i64 (l[k]?.getD (0, 0)).1) ∧ (l.flatMap fun p => [Value.int .i64 p.1, Value.int .i64 p.2])[k * 2 + 1]? = some (.int .i64 (l[k]?.getD (0, 0)).2)
 | [], k, h => absurd h (by simp)
 | p :: l, 0, _ => by simp
 | p :: l, k + 1, h => by
   have := flat_at l k (by simpa using h)
   rw [show (k + 1) * 2 = k * 2 + 1 + 1 by omega]
   simpa using this
theorem flat_set : ∀ (l : List (Int × Int)) (k : Nat) (x y : Int), k < l.length → ((l.flatMap fun p => [Value.int .i64 p.1, Value.int .i64 p.2]).set (k * 2) (.int .i64 x)).set (k * 2 + 1) (.int .i64 y) = (l.set k (x, y)).flatMap fun p => [Value.int .i64 p.1, Value.int .i64 p.2]
 | [], k, _, _, h => absurd h (by simp)
 | p :: l, 0, _, _, _ => by simp
 | p :: l, k + 1, x, y, h => by
   have := flat_set l k x y (by simpa using h)
   rw [show (k + 1) * 2 = k * 2 + 1 + 1 by omega]
   simpa using this
theorem flat_len : ∀ l : List (Int × Int), (l.flatMap fun p => [Value.int .i64 p.1, Value.int .i64 p.2]).length = l.length * 2
 | [] => rfl
 | p :: l => by have := flat_len l; simp at this ⊢; omega
def RRow (w : World) (b : Nat) (t : TypeId) (l : List (Int × Int)) : Prop := w.heap[b]? = some (.cells (ratCells l) t (0, 0))
theorem RRow.cell {w : World} {b : Nat} {t : TypeId} {l : List (Int × Int)} (h : RRow w b t l) {k : Nat} (hk : k < l.length) : w.cell? ⟨b, k * 2, none⟩ = some (.int .i64 (l[k]?.getD (0, 0)).1) ∧ w.cell? ⟨b, k * 2 + 1, none⟩ = some (.int .i64 (l[k]?.getD (0, 0)).2) := by
 rw [cell_of_row w b _ _ t _ h, cell_of_row w b _ _ t _ h]
 simpa [ratCells] using flat_at l k hk
theorem RRow.free {w : World} {b : Nat} {t : TypeId} {l : List (Int × Int)} (h : RRow w b t l) (k : Nat) : w.frozen? ⟨b, k, none⟩ = false := frozen_of_row w b k _ t h
theorem RRow.lt {w : World} {b : Nat} {t : TypeId} {l : List (Int × Int)} (h : RRow w b t l) : b < w.heap.size := lt_of_block h
theorem RRow.set {w : World} {b : Nat} {t : TypeId} {l : List (Int × Int)} (h : RRow w b t l) {k : Nat} (hk : k < l.length) (x y : Int) : RRow ((w.setCell ⟨b, k * 2, none⟩ (.int .i64 x)).setCell ⟨b, k * 2 + 1, none⟩ (.int .i64 y)) b t (l.set k (x, y)) := by
 have h1 := heap_setCell_same w b (k * 2) _ t (.int .i64 x) h
 have h2 := heap_setCell_same _ b (k * 2 + 1) _ t (.int .i64 y) h1
 unfold RRow
 rw [h2]
 have := flat_set l k x y hk
 simp only [ratCells, List.setIfInBounds_toArray, this]
theorem RRow.ext {w w' : World} {b : Nat} {t : TypeId} {l : List (Int × Int)} (h : RRow w b t l) (hx : Ext w w') : RRow w' b t l := (hx.block b h.lt).trans h
theorem RRow.rats {w : World} {b : Nat} {t : TypeId} {l : List (Int × Int)} (h : RRow w b t l) {n cap : Nat} (hn : l.length = n) (hc : n ≤ cap) (hm : cap ≤ 9223372036854775807) : Rats w (some ⟨b, 0, none⟩) n cap l :=
 ⟨hn, hc, hm, fun _ _ => ⟨b, 0, rfl, fun k hk => by rw [Nat.zero_add]; exact h.cell (by omega)⟩⟩
theorem Tryz.infoRat : (Tryz.prog.info? 85).map (fun i => (i.zero, i.size, i.bytes)) = some (some (.agg #[.int .i64 0, .int .i64 0]), 2, 16) := by kernel_rfl
def ratL (l : List (Int × Int)) : List Value := l.flatMap fun p => [Value.int .i64 p.1, Value.int .i64 p.2]
theorem ratL_append (l l' : List (Int × Int)) : ratL (l ++ l') = ratL l ++ ratL l' := by simp [ratL]
theorem ratL_one : ∀ (l : List (Int × Int)), ∀ u ∈ ratL l, u.oneCell' = true
 | [], u, h => by simp [ratL] at h
 | p :: l, u, h => by
   simp only [ratL, List.flatMap_cons, List.mem_append, List.mem_cons, List.not_mem_nil, or_false] at h
   rcases h with (rfl | rfl) | h
   ·rfl
   ·rfl
   ·exact ratL_one l u h
def OwnR (w : World) (base : Nat) (v : Value) (l : List (Int × Int)) : Prop := w.ownsRow base 85 2 v l.length (ratL l)
theorem OwnR.form {w : World} {base : Nat} {v : Value} {l : List (Int × Int)} (h : OwnR w base v l) : ∃ a cap, v = .slice a l.length cap ∧ l.length ≤ cap ∧ cap ≤ 9223372036854775807 := by
 rcases h.2 with ⟨rfl, h0⟩ | ⟨g, cap, cur, rfl, _, _, h1, h2, _⟩
 ·exact ⟨none, 0, by rw [h0], by omega, by omega⟩
 ·exact ⟨_, cap, rfl, h1, by simpa [maxLen] using h2⟩
theorem OwnR.var {w : World} {base : Nat} {v : Value} {l : List (Int × Int)} (h : OwnR w base v l) : ∃ a n cap, v = .slice a n cap ∧ Hid (l.length = n) := by
 obtain ⟨a, cap, e, _⟩ := h.form
 exact ⟨a, _, cap, e, rfl⟩
theorem OwnR.rats {w : World} {base : Nat} {a : Option Addr} {n cap : Nat} {l : List (Int × Int)} (h : OwnR w base (.slice a n cap) l) : Rats w a n cap l := by
 rcases h.2 with ⟨he, h0⟩ | ⟨g, cap', cur, he, _, hg, h1, h2, hs, ht⟩
 ·simp only [Value.slice.injEq] at he
  obtain ⟨rfl, rfl, rfl⟩ := he
  exact ⟨h0, Nat.le_refl _, by omega, fun k hk => absurd hk (by omega)⟩
 ·simp only [Value.slice.injEq] at he
  obtain ⟨rfl, rfl, rfl⟩ := he
  refine ⟨rfl, h1, by simpa [maxLen] using h2, fun k hk => ⟨g, 0, rfl, fun k hk => ?_⟩⟩
  rw [Nat.zero_add, cell_of_row w g _ cur _ (0, 0) hg, cell_of_row w g _ cur _ (0, 0) hg]
  obtain ⟨q1, q2⟩ := flat_at l k hk
  change (ratL l)[k * 2]? = _ at q1
  change (ratL l)[k * 2 + 1]? = _ at q2
  rw [← ht, List.getElem?_take, if_pos (by omega)] at q1 q2
  exact ⟨by simpa using q1, by simpa using q2⟩
theorem OwnR.lt {w : World} {base : Nat} {v : Value} {l : List (Int × Int)} (h : OwnR w base v l) : ∀ k, v.ownBlock = some k → base ≤ k ∧ k < w.heap.size := World.ownsRow.lt h
theorem OwnR.keep {w w' : World} {base : Nat} {v : Value} {l : List (Int × Int)} (h : OwnR w base v l) (hk : ∀ k, v.ownBlock = some k → w'.heap[k]? = w.heap[k]?) : OwnR w' base v l := by
 refine ⟨h.1, ?_⟩
 rcases h.2 with hn | ⟨g, cap, cur, rfl, hb, hgg, rest⟩
 ·exact .inl hn
 ·exact .inr ⟨g, cap, cur, rfl, hb, (hk g rfl).trans hgg, rest⟩
theorem OwnR.ext {w w' : World} {base : Nat} {v : Value} {l : List (Int × Int)} (h : OwnR w base v l) (hx : Ext w w') : OwnR w' base v l := h.keep fun k hk => hx.block k (h.lt k hk).2
theorem OwnR.on {w : World} {base : Nat} {v : Value} {l : List (Int × Int)} (h : OwnR w base v l) : On base w (fun W => OwnR W base v l) := fun w2 h2 => h.keep fun k hk => h2 k (h.lt k hk).1 (h.lt k hk).2
theorem OwnR.mono {w : World} {base base' : Nat} {v : Value} {l : List (Int × Int)} (h : OwnR w base v l) (hb : base' ≤ base) : OwnR w base' v l := by
 refine ⟨h.1, ?_⟩
 rcases h.2 with hn | ⟨g, cap, cur, rfl, hbb, rest⟩
 ·exact .inl hn
 ·exact .inr ⟨g, cap, cur, rfl, by omega, rest⟩
theorem OwnR.nil (w : World) (base : Nat) : OwnR w base (.slice none 0 0) [] := World.ownsRow_nil w base _ 2
theorem RRow.own {w : World} {b base : Nat} {l : List (Int × Int)} {n : Nat} (h : RRow w b 85 l) (hb : base ≤ b) (hn : l.length = n) (hm : n ≤ 1099511627776) : OwnR w base (.slice (some ⟨b, 0, none⟩) n n) l := by
 subst hn
 refine ⟨?_, .inr ⟨b, l.length, ratCells l, rfl, hb, h, Nat.le_refl _, by simp [maxLen]; omega, ?_, ?_⟩⟩
 ·exact flat_len l
 ·show (ratCells l).size = _
  unfold ratCells
  simpa using flat_len l
 ·show List.take _ (ratCells l).toList = _
  exact List.take_of_length_le (by unfold ratCells; simpa using Nat.le_of_eq (flat_len l))
section
variable {P : Program} {w : World} {ops : Array Oper} {rest : List Oper} {o : Oper} {a : Act} {Q : Exit → Act → World → Prop}
theorem wp_append_rats {K : Act → World → Prop} (s x : Operand) (ho : o.op = .call { callee := .builtin .append, args := #[s, x], argTypes := #[30, 30] })
 (base : Nat) (v : Value) (l : List (Int × Int)) (hs : a.eval s = v) (hown : OwnR w base v l) (ao : Option Addr) (m c : Nat) (l' : List (Int × Int)) (hx : a.eval x = .slice ao m c) (hi' : Rats w ao m c l') (hb : l.length + m ≤ 1099511627776) (hbase : base ≤ w.heap.size)
 (h : ∀ v' w', OwnR w' base v' (l ++ l') → w.grownBy w' v.ownBlock → Near w v v' → K (a.put o.dst v') w') : o.wp Tryz.prog a w K Q := by
 obtain ⟨i, hi, hz0, hz1, hz2⟩ := info_parts Tryz.infoRat
 cases ao with
 | none =>
   have hm : m = 0 := by
    rcases Nat.eq_zero_or_pos m with h0 | h0
    ·exact h0
    ·obtain ⟨b, off, e, _⟩ := hi'.cell 0 h0; cases e
   subst hm
   have hl : l' = [] := List.eq_nil_of_length_eq_zero hi'.hlen
   subst hl
   refine wp_append_nothing w s x 30 ho base 85 i 2 Tryz.underlying30 hi v l.length _ hs hown c hx ?_
   exact h v w (by simpa using hown) (World.grownBy.refl _ _) (Near.refl _ _)
 | some ad =>
   refine wp_append_near w s x 30 ho base 85 i (.agg #[.int .i64 0, .int .i64 0]) 2 16 Tryz.underlying30 hi hz0 hz1 hz2 rfl (by decide) v l.length (ratL l) hs hown ad m c (ratL l') hx (by have := flat_len l'; have := hi'.hlen; unfold ratL; omega) ?_ (ratL_one l') (by simp [maxLen]; omega) (by omega) hbase ?_
   ·intro j u hu
    have hjl : j < l'.length * 2 := by
     have := (List.getElem?_eq_some_iff.1 hu).1
     have h2 := flat_len l'
     unfold ratL at this
     omega
    have hml := hi'.hlen
    obtain ⟨b, off, e, hc⟩ := hi'.cell (j / 2) (by omega)
    simp only [Option.some.injEq] at e
    subst e
    obtain ⟨c1, c2⟩ := hc (j / 2) (by omega)
    obtain ⟨q1, q2⟩ := flat_at l' (j / 2) (by omega)
    change (ratL l')[j / 2 * 2]? = _ at q1
    change (ratL l')[j / 2 * 2 + 1]? = _ at q2
    have hj : j = j / 2 * 2 ∨ j = j / 2 * 2 + 1 := by omega
    have ha : ∀ k, (⟨b, off, none⟩ : Addr).add k = ⟨b, off + k, none⟩ := fun k => by unfold Addr.add; split <;> simp_all
    rw [ha]
    rcases hj with hj | hj
    ·rw [hj] at hu ⊢
     rw [q1] at hu
     rw [c1, ← hu]
    ·rw [hj] at hu ⊢
     rw [q2] at hu
     rw [← Nat.add_assoc, c2, ← hu]
   ·intro v' w' h1 h2 h3
    refine h v' w' ?_ h2 h3
    unfold OwnR
    rw [List.length_append, hi'.hlen, ratL_append]
    exact h1
theorem append_rats (hgd : o.guard = none) (s x : Operand) (ho : o.op = .call { callee := .builtin .append, args := #[s, x], argTypes := #[30, 30] })
 (base : Nat) (v : Value) (l : List (Int × Int)) (hs : a.eval s = v) (hown : OwnR w base v l) (ao : Option Addr) (m c : Nat) (l' : List (Int × Int)) (hx : a.eval x = .slice ao m c) (hi' : Rats w ao m c l') (hb : l.length + m ≤ 1099511627776) (hbase : base ≤ w.heap.size)
 (h : ∀ v' w', OwnR w' base v' (l ++ l') → w.grownBy w' v.ownBlock → Near w v v' → wpList Tryz.prog ops Q rest (a.put o.dst v') w') : wpList Tryz.prog ops Q (o :: rest) a w :=
 wpList_plain hgd fun _ hK => wp_append_rats s x ho base v l hs hown ao m c l' hx hi' hb hbase fun v' w' h1 h2 h3 => hK _ _ (h v' w' h1 h2 h3)
end
theorem OwnR.made (w : World) (base : Nat) (hb : base ≤ w.heap.size) : OwnR (w.alloc (.cells #[] 85)) base (.slice (some ⟨w.heap.size, 0, none⟩) 0 0) [] :=
 World.ownsRow_lit w #[] 0 hb (by omega) rfl
theorem Rats.one (w : World) (x y : Int) (t : TypeId) : Rats (w.alloc (.cells #[.int .i64 x, .int .i64 y] t)) (some ⟨w.heap.size, 0, none⟩) 1 1 [(x, y)] :=
 ⟨rfl, Nat.le_refl _, by omega, fun k hk => ⟨_, 0, rfl, fun k hk => by
  obtain rfl : k = 0 := by omega
  simp⟩⟩
theorem Rats.one' (w : World) (x y : Int) (t : TypeId) (n : Nat) (hn : n = w.heap.size) : Rats (w.alloc (.cells #[.int .i64 x, .int .i64 y] t)) (some ⟨n, 0, none⟩) 1 1 [(x, y)] := by
 subst hn
 exact Rats.one w x y t
def seqR (k : Int) (n : Nat) : List (Int × Int) := (List.range n).map fun (i : Nat) => (k + 2 * (i : Int), k + 2 * (i : Int) + 1)
theorem seqR_at (k : Int) (n i : Nat) (h : i < n) : (seqR k n)[i]?.getD (0, 0) = (k + 2 * i, k + 2 * i + 1) := by simp [seqR, h]
def markR (k : Int) (l : List (Int × Int)) (i : Nat) : List (Int × Int) := seqR k i ++ l.drop i
theorem markR_len (k : Int) (l : List (Int × Int)) (i : Nat) (h : i ≤ l.length) : (markR k l i).length = l.length := by simp [markR, seqR]; omega
theorem markR_zero (k : Int) (l : List (Int × Int)) : markR k l 0 = l := by simp [markR, seqR]
theorem markR_all (k : Int) (l : List (Int × Int)) : markR k l l.length = seqR k l.length := by simp [markR]
theorem markR_set (k : Int) (l : List (Int × Int)) (i : Nat) (h : i < l.length) : (markR k l i).set i (k + 2 * i, k + 2 * i + 1) = markR k l (i + 1) := by
 unfold markR
 rw [List.set_append_right _ _ (by simp [seqR])]
 have : i - (seqR k i).length = 0 := by simp [seqR]
 rw [this, List.drop_eq_getElem_cons h, List.set_cons_zero]
 simp [seqR, List.range_succ]
theorem OwnR.set {w : World} {base g n cap : Nat} {l : List (Int × Int)} (h : OwnR w base (.slice (some ⟨g, 0, none⟩) n cap) l) {k : Nat} (hk : k < l.length) (x y : Int) :
 OwnR ((w.setCell ⟨g, k * 2, none⟩ (.int .i64 x)).setCell ⟨g, k * 2 + 1, none⟩ (.int .i64 y)) base (.slice (some ⟨g, 0, none⟩) n cap) (l.set k (x, y)) := by
 obtain ⟨a', c', he, _⟩ := OwnR.form h
 simp only [Value.slice.injEq] at he
 obtain ⟨_, rfl, _⟩ := he
 have h1 := (World.ownsRow.stored h (k * 2) (.int .i64 x)).1
 have h2 := (World.ownsRow.stored h1 (k * 2 + 1) (.int .i64 y)).1
 unfold OwnR
 rw [List.length_set]
 have e := flat_set l k x y hk
 change _ = ratL (l.set k (x, y)) at e
 rw [← e]
 exact h2
theorem OwnR.block {w : World} {base : Nat} {a : Option Addr} {n cap : Nat} {l : List (Int × Int)} (h : OwnR w base (.slice a n cap) l) {k : Nat} (hk : k < n) : ∃ g, a = some ⟨g, 0, none⟩ ∧ base ≤ g ∧ (∀ j, w.frozen? ⟨g, j, none⟩ = false) ∧ g < w.heap.size := by
 rcases h.2 with ⟨he, h0⟩ | ⟨g, cap', cur, he, hb, hg, _⟩
 ·simp only [Value.slice.injEq] at he
  omega
 ·simp only [Value.slice.injEq] at he
  obtain ⟨rfl, _⟩ := he
  exact ⟨g, rfl, hb, fun j => frozen_of_row w g j cur _ hg, lt_of_block hg⟩
set_option maxHeartbeats 400000 in
theorem l_markRatS {w : World} {base : Nat} {a : Option Addr} {n cap : Nat} {l : List (Int × Int)} (h : OwnR w base (.slice a n cap) l) (k0 : Int) (h0 : 0 ≤ k0) (h1 : k0 + 2 * n ≤ 4611686018427387904) :
 Calls Tryz.prog 21 #[.slice a n cap, .int .i64 k0] w fun e w' => e = .returned (.int .i64 (k0 + 2 * n)) ∧ OwnR w' base (.slice a n cap) (seqR k0 n) ∧ w.grownBy w' (Value.slice a n cap).ownBlock ∧ w'.heap.size = w.heap.size := by
 have HL := Lib.hid h.rats.hlen
 go_enter Tryz.func21, Tryz.ntmps21
 go_wp2
 go_loopw [1, 5] (fun t i wr => ∃ k : Nat, k ≤ n ∧ i = .int .i64 k ∧ t = .int .i64 (k0 + 2 * k) ∧ OwnR wr base (.slice a n cap) (markR k0 l k) ∧ w.grownBy wr (Value.slice a n cap).ownBlock ∧ Hid (wr.heap.size = w.heap.size)) (fun _ i _ => n - (intOf i).toNat)
 case atStart => exact ⟨0, Nat.zero_le _, rfl, by simp, by rw [markR_zero]; exact h, World.grownBy.refl _ _, Lib.hid rfl⟩
 case round =>
  obtain ⟨k, hk, rfl, rfl, hown, hg, HS⟩ := hrel
  by_cases hlt : k < n
  ·obtain ⟨g, rfl, hb, hfz, hgl⟩ := hown.block hlt
   obtain ⟨b, off, x, y, he, hxy, hc, hc'⟩ := hown.rats.at hlt
   simp only [Option.some.injEq, Addr.mk.injEq, and_true] at he
   obtain ⟨rfl, rfl⟩ := he
   rw [Nat.zero_add] at hc hc'
   have hfk := hfz (k * 2)
   have hfk' := hfz (k * 2 + 1)
   clear hfz hxy
   have HO := Lib.hid hown
   have HG := Lib.hid hg
   clear hown hg
   go_wp2
   go_roundw
   case rel =>
    refine ⟨k + 1, by omega, by go_num, by go_num, ?_, ?_, Lib.hid (by simp [HS.out])⟩
    ·rw [← markR_set _ _ _ (by have := HL.out; omega)]
     have := HO.out.set (k := k) (by rw [markR_len _ _ _ (by have := HL.out; omega)]; have := HL.out; omega) (k0 + 2 * k) (k0 + 2 * k + 1)
     exact this
    ·have hg := HG.out
     refine ⟨hg.os, hg.tape, hg.output, by simpa using hg.size, fun j hj hne => ?_⟩
     have hne' : j ≠ g := by intro e; exact hne (by simp [Value.ownBlock, e])
     rw [heap_setCell_other _ _ j _ hne', heap_setCell_other _ _ j _ hne']
     exact hg.block j hj hne
   case measure => simp [intOf]; omega
  ·have HO := Lib.hid hown
   have HG := Lib.hid hg
   clear hown hg
   go_wp2
   go_ret
   have hkn : k = n := by omega
   subst hkn
   have := HO.out
   have hl := HL.out
   rw [← hl, markR_all, hl] at this
   exact ⟨rfl, this, HG.out, HS.out⟩
set_option maxHeartbeats 400000 in
theorem l_heldRatS {w : World} {a : Option Addr} {n cap : Nat} (k0 : Int) (h : Rats w a n cap (seqR k0 n)) (h0 : 0 ≤ k0) (h1 : k0 + 2 * n ≤ 4611686018427387904) :
 Calls Tryz.prog 22 #[.slice a n cap, .int .i64 k0] w fun e w' => e = .returned (.int .i64 (k0 + 2 * n)) ∧ w = w' := by
 have hcap := h.hcap
 have hmax := h.hmax
 go_enter Tryz.func22, Tryz.ntmps22
 go_wp2
 go_loop [1, 5] (fun t i => ∃ k : Nat, k ≤ n ∧ i = .int .i64 k ∧ t = .int .i64 (k0 + 2 * k)) (fun _ i => n - (intOf i).toNat)
 case atStart => exact ⟨0, Nat.zero_le _, rfl, by simp⟩
 case round =>
  obtain ⟨k, hk, rfl, rfl⟩ := hrel
  by_cases hlt : k < n
  ·obtain ⟨b, off, x, y, rfl, hxy, hc, hc'⟩ := h.at hlt
   rw [seqR_at _ _ _ hlt] at hxy
   simp only [Prod.mk.injEq] at hxy
   obtain ⟨rfl, rfl⟩ := hxy
   have hne : ((k0 + 2 * (k : Int)) != (k0 + 2 * (k : Int))) = false := by simp
   have hne' : ((k0 + 2 * (k : Int) + 1) != (k0 + 2 * (k : Int) + 1)) = false := by simp
   go_wp2
   go_round
   case rel => exact ⟨k + 1, by omega, by go_num, by go_num⟩
   case measure => simp [intOf]; omega
  ·go_wp2
   go_ret
   have hkn : k = n := by omega
   subst hkn
   exact ⟨rfl, rfl⟩
end Go.Proofs.YtgohdmnbnhehnaaGreat
