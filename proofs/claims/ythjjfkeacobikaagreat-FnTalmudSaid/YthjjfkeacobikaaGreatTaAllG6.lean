import Derived.Test.YthjjfkeacobikaaGreatTaAllG0
import Derived.Test.YthjjfkeacobikaaGreatTaAllG2
import Derived.Test.YthjjfkeacobikaaGreatTaAllG5
import Derived.Test.YthjjfkeacobikaaGreatTaAllG3
import Derived.Test.YthjjfkeacobikaaGreatTaAllG4
set_option linter.unusedVariables false
set_option linter.unusedSimpArgs false
namespace Go.Proofs.YthjjfkeacobikaaGreat
open Go.RowKit
structure Rats (w : World) (a : Option Addr) (n cap : Nat) (l : List (Int × Int)) : Prop where
 hlen : l.length = n
 hcap : n ≤ cap
 hmax : cap ≤ 9223372036854775807
 cell : ∀ k, k < n → ∃ b off, a = some ⟨b, off, none⟩ ∧ ∀ k, k < n → w.cell? ⟨b, off + k * 2, none⟩ = some (.int .i64 (l[k]?.getD (0, 0)).1) ∧ w.cell? ⟨b, off + k * 2 + 1, none⟩ = some (.int .i64 (l[k]?.getD (0, 0)).2)
theorem Rats.ext {w w' : World} {a : Option Addr} {n cap : Nat} {l : List (Int × Int)} (h : Rats w a n cap l) (hx : Ext w w') : Rats w' a n cap l :=
 ⟨h.hlen, h.hcap, h.hmax, fun k hk => let ⟨b, off, e, hc⟩ := h.cell k hk; ⟨b, off, e, fun k hk => ⟨hx.cellSome (hc k hk).1, hx.cellSome (hc k hk).2⟩⟩⟩
theorem Rats.at {w : World} {a : Option Addr} {n cap : Nat} {l : List (Int × Int)} (h : Rats w a n cap l) {k : Nat} (hk : k < n) :
 ∃ b off x y, a = some ⟨b, off, none⟩ ∧ l[k]?.getD (0, 0) = (x, y) ∧ w.cell? ⟨b, off + k * 2, none⟩ = some (.int .i64 x) ∧ w.cell? ⟨b, off + k * 2 + 1, none⟩ = some (.int .i64 y) :=
 let ⟨b, off, e, hc⟩ := h.cell k hk; ⟨b, off, _, _, e, rfl, (hc k hk).1, (hc k hk).2⟩
theorem take_snocR {l : List (Int × Int)} {k : Nat} (h : k < l.length) : l.take (k+1) = l.take k ++ [l[k]?.getD (0, 0)] := by
 rw [List.take_succ_eq_append_getElem h]; simp [h]
set_option maxHeartbeats 1000000 in
theorem s_EqualVector {w : World} {a a' : Option Addr} {n n' cap cap' : Nat} {l l' : List (Int × Int)} (h : Rats w a n cap l) (h' : Rats w a' n' cap' l') :
 Calls Tryz.prog 35 #[.slice a n cap, .slice a' n' cap'] w fun e w' => e = .returned (.bool (decide (l = l'))) ∧ Drew w w' := by
 have hn := h.hcap
 have hm := h.hmax
 have hn' := h'.hcap
 have hm' := h'.hmax
 have HL := Lib.hid h.hlen
 have HL' := Lib.hid h'.hlen
 by_cases hne : n = n'
 ·subst hne
  go_enter Tryz.func35, Tryz.ntmps35
  go_wp2
  go_loopw [5] (fun i wr => ∃ k : Nat, k ≤ n ∧ i = .int .i64 k ∧ l.take k = l'.take k ∧ Drew w wr) (fun i _ => n - (intOf i).toNat)
  case atStart => exact ⟨0, Nat.zero_le _, rfl, rfl, Drew.refl _⟩
  case round =>
   obtain ⟨k, hk, rfl, htk, hx⟩ := hrel
   have HT := Lib.hid htk
   clear htk
   by_cases hlt : k < n
   ·have h1 := h.ext hx.ext
    have h1' := h'.ext hx.ext
    obtain ⟨b, off, x, y, rfl, hxy, hc1, hc2⟩ := h1.at hlt
    obtain ⟨b', off', x', y', rfl, hxy', hc1', hc2'⟩ := h1'.at hlt
    have HXY := Lib.hid hxy
    have HXY' := Lib.hid hxy'
    clear hxy hxy'
    by_cases hq : x = x' ∧ y = y'
    ·obtain ⟨rfl, rfl⟩ := hq
     go_wp2
     go_quiet (fail)
     go_wp2
     go_roundw
     case rel => exact ⟨k + 1, by omega, by go_num, by rw [take_snocR (by have := HL.out; omega), take_snocR (by have := HL'.out; omega), HT.out, HXY.out, HXY'.out], hx.trans ⟨_, rfl⟩⟩
     case measure => simp [intOf]; omega
    ·have HQ := Lib.hid hq
     cases hx1 : (x == x')
     all_goals
      cases hy1 : (y == y')
     case neg.true.true => exact absurd ⟨by simpa using hx1, by simpa using hy1⟩ hq
     all_goals
      clear hq
      go_wp2
      go_quiet (fail)
      go_wp2
      go_ret
      refine ⟨ret_bool ?_, hx.trans ⟨_, rfl⟩⟩
      symm
      rw [decide_eq_false_iff_not]
      intro e
      have := HXY.out.symm.trans ((congrArg (fun l => l[k]?.getD (0, 0)) e).trans HXY'.out)
      simp only [Prod.mk.injEq] at this
      exact HQ.out this
   ·go_wp2
    go_ret
    refine ⟨ret_bool ?_, hx⟩
    symm
    rw [decide_eq_true_eq]
    have := HT.out
    rwa [List.take_of_length_le (by have := HL.out; omega), List.take_of_length_le (by have := HL'.out; omega)] at this
 ·have hne' : ((n : Int) != (n' : Int)) = true := by simp; omega
  have HN := Lib.hid hne
  clear hne
  go_enter Tryz.func35, Tryz.ntmps35
  go_wp2
  go_ret
  refine ⟨ret_bool ?_, Drew.refl _⟩
  symm
  rw [decide_eq_false_iff_not]
  intro e
  exact HN.out (by rw [← HL.out, ← HL'.out, e])
def ratCells (l : List (Int × Int)) : Array Value := (l.flatMap fun p => [Value.int .i64 p.1, Value.int .i64 p.2]).toArray
theorem flat_at : ∀ (l : List (Int × Int)) (k : Nat), k < l.length → (l.flatMap fun p => [Value.int .i64 p.1, Value.int .i64 p.2])[k * 2]? = some (.int .i64 (l[k]?.getD (0, 0)).1) ∧ (l.flatMap fun p => [Value.int .i64 p.1, Value.int .i64 p.2])[k * 2 + 1]? = some (.int .i64 (l[k]?.getD (0, 0)).2)
 | [], k, h => absurd h (by simp)
 | p :: l, 0, _ => by simp
 | p :: l, k + 1, h => by
   have := flat_at l k (by simpa using h)
   rw [show (k + 1) * 2 = k * 2 + 1 + 1 by omega]
   simpa using this
theorem flat_set : ∀ (l : List (Int × Int)) (k : Nat) (x y : Int), k < l.length → ((l.flatMap fun p => [Value.int .i64 p.1, Value.int .i64 p.2]).set (k * 2) (.int .i64 x)).set (k * 2 + 1) (.int .i64 y) = (l.set k (x, y)).flatMap fun p => [Value.int .i64 p.1, Value.int .i64 p.2]
 | [], k, _, _, h => absurd h (by simp)
 | p :: l, 0, _, _, _ => by simp
 | p :: l, k + 1, x, y, h => by
   have := flat_set l k x y (by simpa using h)
   rw [show (k + 1) * 2 = k * 2 + 1 + 1 by omega]
   simpa using this
theorem flat_len : ∀ l : List (Int × Int), (l.flatMap fun p => [Value.int .i64 p.1, Value.int .i64 p.2]).length = l.length * 2
 | [] => rfl
 | p :: l => by have := flat_len l; simp at this ⊢; omega
def RRow (w : World) (b : Nat) (t : TypeId) (l : List (Int × Int)) : Prop := w.heap[b]? = some (.cells (ratCells l) t (0, 0))
theorem RRow.cell {w : World} {b : Nat} {t : TypeId} {l : List (Int × Int)} (h : RRow w b t l) {k : Nat} (hk : k < l.length) : w.cell? ⟨b, k * 2, none⟩ = some (.int .i64 (l[k]?.getD (0, 0)).1) ∧ w.cell? ⟨b, k * 2 + 1, none⟩ = some (.int .i64 (l[k]?.getD (0, 0)).2) := by
 rw [cell_of_row w b _ _ t _ h, cell_of_row w b _ _ t _ h]
 simpa [ratCells] using flat_at l k hk
theorem RRow.free {w : World} {b : Nat} {t : TypeId} {l : List (Int × Int)} (h : RRow w b t l) (k : Nat) : w.frozen? ⟨b, k, none⟩ = false := frozen_of_row w b k _ t h
theorem RRow.lt {w : World} {b : Nat} {t : TypeId} {l : List (Int × Int)} (h : RRow w b t l) : b < w.heap.size := lt_of_block h
theorem RRow.set {w : World} {b : Nat} {t : TypeId} {l : List (Int × Int)} (h : RRow w b t l) {k : Nat} (hk : k < l.length) (x y : Int) : RRow ((w.setCell ⟨b, k * 2, none⟩ (.int .i64 x)).setCell ⟨b, k * 2 + 1, none⟩ (.int .i64 y)) b t (l.set k (x, y)) := by
 have h1 := heap_setCell_same w b (k * 2) _ t (.int .i64 x) h
 have h2 := heap_setCell_same _ b (k * 2 + 1) _ t (.int .i64 y) h1
 unfold RRow
 rw [h2]
 have := flat_set l k x y hk
 simp only [ratCells, List.setIfInBounds_toArray, this]
theorem RRow.ext {w w' : World} {b : Nat} {t : TypeId} {l : List (Int × Int)} (h : RRow w b t l) (hx : Ext w w') : RRow w' b t l := (hx.block b h.lt).trans h
theorem Tryz.infoRat : (Tryz.prog.info? 43).map (fun i => (i.zero, i.size, i.bytes)) = some (some (.agg #[.int .i64 0, .int .i64 0]), 2, 16) := by kernel_rfl
theorem mk_rats (n : Nat) (hn : n ≤ 1099511627776) (w : World) :
 (Instr.makeSlice 36 (.int .i64 (n : Int)) (.int .i64 (n : Int))).run Tryz.prog w = .ok (.slice (some ⟨w.heap.size, 0, none⟩) n n) (w.alloc (.cells (ratCells (List.replicate n (0, 0))) 43)) := by
 obtain ⟨i, hi, hz0, hz1, hz2⟩ := info_parts Tryz.infoRat
 have hr := run_make (P := Tryz.prog) w 36 43 i (.agg #[.int .i64 0, .int .i64 0]) Tryz.underlying36 hi hz0 .i64 .i64 n n (by omega) (Int.le_refl _) (by rw [hz2]; omega) (by omega)
 simp only [Int.toNat_natCast] at hr
 rw [hr, hz1]
 have : madeCells (Value.agg #[.int .i64 0, .int .i64 0]).cells (n * 2) = ratCells (List.replicate n (0, 0)) := by
  have h1 : (madeCells (Value.agg #[.int .i64 0, .int .i64 0]).cells (n * 2)).toList = List.replicate (n * 2) (Value.int .i64 0) := by
   refine List.eq_replicate_iff.2 ⟨by simp [size_madeCells], fun b hb => ?_⟩
   unfold madeCells at hb
   simp only [Array.toList_map, List.mem_map] at hb
   obtain ⟨i, _, rfl⟩ := hb
   show (#[Value.int .i64 0, Value.int .i64 0] : Array Value)[i % 2]! = _
   have : i % 2 = 0 ∨ i % 2 = 1 := by omega
   rcases this with h | h <;> rw [h] <;> rfl
  have h2 : (ratCells (List.replicate n (0, 0))).toList = List.replicate (n * 2) (Value.int .i64 0) := by
   unfold ratCells
   refine List.eq_replicate_iff.2 ⟨by rw [flat_len]; simp, fun b hb => ?_⟩
   simp only [List.mem_flatMap, List.mem_replicate] at hb
   obtain ⟨p, ⟨_, rfl⟩, h⟩ := hb
   simpa using h
  exact Array.toList_inj.1 (h1.trans h2.symm)
 rw [this]
def ratL (l : List (Int × Int)) : List Value := l.flatMap fun p => [Value.int .i64 p.1, Value.int .i64 p.2]
theorem ratL_append (l l' : List (Int × Int)) : ratL (l ++ l') = ratL l ++ ratL l' := by simp [ratL]
theorem ratL_one : ∀ (l : List (Int × Int)), ∀ u ∈ ratL l, u.oneCell' = true
 | [], u, h => by simp [ratL] at h
 | p :: l, u, h => by
   simp only [ratL, List.flatMap_cons, List.mem_append, List.mem_cons, List.not_mem_nil, or_false] at h
   rcases h with (rfl | rfl) | h
   ·rfl
   ·rfl
   ·exact ratL_one l u h
def OwnR (w : World) (base : Nat) (v : Value) (l : List (Int × Int)) : Prop := w.ownsRow base 43 2 v l.length (ratL l)
theorem OwnR.form {w : World} {base : Nat} {v : Value} {l : List (Int × Int)} (h : OwnR w base v l) : ∃ a cap, v = .slice a l.length cap ∧ l.length ≤ cap ∧ cap ≤ 9223372036854775807 := by
 rcases h.2 with ⟨rfl, h0⟩ | ⟨g, cap, cur, rfl, _, _, h1, h2, _⟩
 ·exact ⟨none, 0, by rw [h0], by omega, by omega⟩
 ·exact ⟨_, cap, rfl, h1, by simpa [maxLen] using h2⟩
theorem OwnR.var {w : World} {base : Nat} {v : Value} {l : List (Int × Int)} (h : OwnR w base v l) : ∃ a n cap, v = .slice a n cap ∧ Hid (l.length = n) := by
 obtain ⟨a, cap, e, _⟩ := h.form
 exact ⟨a, _, cap, e, rfl⟩
theorem OwnR.rats {w : World} {base : Nat} {a : Option Addr} {n cap : Nat} {l : List (Int × Int)} (h : OwnR w base (.slice a n cap) l) : Rats w a n cap l := by
 rcases h.2 with ⟨he, h0⟩ | ⟨g, cap', cur, he, _, hg, h1, h2, hs, ht⟩
 ·simp only [Value.slice.injEq] at he
  obtain ⟨rfl, rfl, rfl⟩ := he
  exact ⟨h0, Nat.le_refl _, by omega, fun k hk => absurd hk (by omega)⟩
 ·simp only [Value.slice.injEq] at he
  obtain ⟨rfl, rfl, rfl⟩ := he
  refine ⟨rfl, h1, by simpa [maxLen] using h2, fun k hk => ⟨g, 0, rfl, fun k hk => ?_⟩⟩
  rw [Nat.zero_add, cell_of_row w g _ cur _ (0, 0) hg, cell_of_row w g _ cur _ (0, 0) hg]
  obtain ⟨q1, q2⟩ := flat_at l k hk
  change (ratL l)[k * 2]? = _ at q1
  change (ratL l)[k * 2 + 1]? = _ at q2
  rw [← ht, List.getElem?_take, if_pos (by omega)] at q1 q2
  exact ⟨by simpa using q1, by simpa using q2⟩
theorem OwnR.lt {w : World} {base : Nat} {v : Value} {l : List (Int × Int)} (h : OwnR w base v l) : ∀ k, v.ownBlock = some k → base ≤ k ∧ k < w.heap.size := World.ownsRow.lt h
theorem OwnR.keep {w w' : World} {base : Nat} {v : Value} {l : List (Int × Int)} (h : OwnR w base v l) (hk : ∀ k, v.ownBlock = some k → w'.heap[k]? = w.heap[k]?) : OwnR w' base v l := by
 refine ⟨h.1, ?_⟩
 rcases h.2 with hn | ⟨g, cap, cur, rfl, hb, hgg, rest⟩
 ·exact .inl hn
 ·exact .inr ⟨g, cap, cur, rfl, hb, (hk g rfl).trans hgg, rest⟩
theorem OwnR.ext {w w' : World} {base : Nat} {v : Value} {l : List (Int × Int)} (h : OwnR w base v l) (hx : Ext w w') : OwnR w' base v l := h.keep fun k hk => hx.block k (h.lt k hk).2
theorem OwnR.on {w : World} {base : Nat} {v : Value} {l : List (Int × Int)} (h : OwnR w base v l) : On base w (fun W => OwnR W base v l) := fun w2 h2 => h.keep fun k hk => h2 k (h.lt k hk).1 (h.lt k hk).2
theorem OwnR.mono {w : World} {base base' : Nat} {v : Value} {l : List (Int × Int)} (h : OwnR w base v l) (hb : base' ≤ base) : OwnR w base' v l := by
 refine ⟨h.1, ?_⟩
 rcases h.2 with hn | ⟨g, cap, cur, rfl, hbb, rest⟩
 ·exact .inl hn
 ·exact .inr ⟨g, cap, cur, rfl, by omega, rest⟩
theorem OwnR.nil (w : World) (base : Nat) : OwnR w base (.slice none 0 0) [] := World.ownsRow_nil w base _ 2
theorem RRow.own {w : World} {b base : Nat} {l : List (Int × Int)} {n : Nat} (h : RRow w b 43 l) (hb : base ≤ b) (hn : l.length = n) (hm : n ≤ 1099511627776) : OwnR w base (.slice (some ⟨b, 0, none⟩) n n) l := by
 subst hn
 refine ⟨?_, .inr ⟨b, l.length, ratCells l, rfl, hb, h, Nat.le_refl _, by simp [maxLen]; omega, ?_, ?_⟩⟩
 ·exact flat_len l
 ·show (ratCells l).size = _
  unfold ratCells
  simpa using flat_len l
 ·show List.take _ (ratCells l).toList = _
  exact List.take_of_length_le (by unfold ratCells; simpa using Nat.le_of_eq (flat_len l))
section
variable {P : Program} {w : World} {ops : Array Oper} {rest : List Oper} {o : Oper} {a : Act} {Q : Exit → Act → World → Prop}
theorem wp_append_rats {K : Act → World → Prop} (s x : Operand) (ho : o.op = .call { callee := .builtin .append, args := #[s, x], argTypes := #[36, 36] })
 (base : Nat) (v : Value) (l : List (Int × Int)) (hs : a.eval s = v) (hown : OwnR w base v l) (ao : Option Addr) (m c : Nat) (l' : List (Int × Int)) (hx : a.eval x = .slice ao m c) (hi' : Rats w ao m c l') (hb : l.length + m ≤ 1099511627776) (hbase : base ≤ w.heap.size)
 (h : ∀ v' w', OwnR w' base v' (l ++ l') → w.grownBy w' v.ownBlock → Near w v v' → K (a.put o.dst v') w') : o.wp Tryz.prog a w K Q := by
 obtain ⟨i, hi, hz0, hz1, hz2⟩ := info_parts Tryz.infoRat
 cases ao with
 | none =>
   have hm : m = 0 := by
    rcases Nat.eq_zero_or_pos m with h0 | h0
    ·exact h0
    ·obtain ⟨b, off, e, _⟩ := hi'.cell 0 h0; cases e
   subst hm
   have hl : l' = [] := List.eq_nil_of_length_eq_zero hi'.hlen
   subst hl
   refine wp_append_nothing w s x 36 ho base 43 i 2 Tryz.underlying36 hi v l.length _ hs hown c hx ?_
   exact h v w (by simpa using hown) (World.grownBy.refl _ _) (Near.refl _ _)
 | some ad =>
   refine wp_append_near w s x 36 ho base 43 i (.agg #[.int .i64 0, .int .i64 0]) 2 16 Tryz.underlying36 hi hz0 hz1 hz2 rfl (by decide) v l.length (ratL l) hs hown ad m c (ratL l') hx (by have := flat_len l'; have := hi'.hlen; unfold ratL; omega) ?_ (ratL_one l') (by simp [maxLen]; omega) (by omega) hbase ?_
   ·intro j u hu
    have hjl : j < l'.length * 2 := by
     have := (List.getElem?_eq_some_iff.1 hu).1
     have h2 := flat_len l'
     unfold ratL at this
     omega
    have hml := hi'.hlen
    obtain ⟨b, off, e, hc⟩ := hi'.cell (j / 2) (by omega)
    simp only [Option.some.injEq] at e
    subst e
    obtain ⟨c1, c2⟩ := hc (j / 2) (by omega)
    obtain ⟨q1, q2⟩ := flat_at l' (j / 2) (by omega)
    change (ratL l')[j / 2 * 2]? = _ at q1
    change (ratL l')[j / 2 * 2 + 1]? = _ at q2
    have hj : j = j / 2 * 2 ∨ j = j / 2 * 2 + 1 := by omega
    have ha : ∀ k, (⟨b, off, none⟩ : Addr).add k = ⟨b, off + k, none⟩ := fun k => by unfold Addr.add; split <;> simp_all
    rw [ha]
    rcases hj with hj | hj
    ·rw [hj] at hu ⊢
     rw [q1] at hu
     rw [c1, ← hu]
    ·rw [hj] at hu ⊢
     rw [q2] at hu
     rw [← Nat.add_assoc, c2, ← hu]
   ·intro v' w' h1 h2 h3
    refine h v' w' ?_ h2 h3
    unfold OwnR
    rw [List.length_append, hi'.hlen, ratL_append]
    exact h1
theorem append_rats (hgd : o.guard = none) (s x : Operand) (ho : o.op = .call { callee := .builtin .append, args := #[s, x], argTypes := #[36, 36] })
 (base : Nat) (v : Value) (l : List (Int × Int)) (hs : a.eval s = v) (hown : OwnR w base v l) (ao : Option Addr) (m c : Nat) (l' : List (Int × Int)) (hx : a.eval x = .slice ao m c) (hi' : Rats w ao m c l') (hb : l.length + m ≤ 1099511627776) (hbase : base ≤ w.heap.size)
 (h : ∀ v' w', OwnR w' base v' (l ++ l') → w.grownBy w' v.ownBlock → Near w v v' → wpList Tryz.prog ops Q rest (a.put o.dst v') w') : wpList Tryz.prog ops Q (o :: rest) a w :=
 wpList_plain hgd fun _ hK => wp_append_rats s x ho base v l hs hown ao m c l' hx hi' hb hbase fun v' w' h1 h2 h3 => hK _ _ (h v' w' h1 h2 h3)
end
theorem OwnR.made (w : World) (base : Nat) (hb : base ≤ w.heap.size) : OwnR (w.alloc (.cells #[] 43)) base (.slice (some ⟨w.heap.size, 0, none⟩) 0 0) [] :=
 World.ownsRow_lit w #[] 0 hb (by omega) rfl
theorem Rats.one (w : World) (x y : Int) (t : TypeId) : Rats (w.alloc (.cells #[.int .i64 x, .int .i64 y] t)) (some ⟨w.heap.size, 0, none⟩) 1 1 [(x, y)] :=
 ⟨rfl, Nat.le_refl _, by omega, fun k hk => ⟨_, 0, rfl, fun k hk => by
  obtain rfl : k = 0 := by omega
  simp⟩⟩
theorem Rats.one' (w : World) (x y : Int) (t : TypeId) (n : Nat) (hn : n = w.heap.size) : Rats (w.alloc (.cells #[.int .i64 x, .int .i64 y] t)) (some ⟨n, 0, none⟩) 1 1 [(x, y)] := by
 subst hn
 exact Rats.one w x y t
theorem OwnR.set {w : World} {base g n cap : Nat} {l : List (Int × Int)} (h : OwnR w base (.slice (some ⟨g, 0, none⟩) n cap) l) {k : Nat} (hk : k < l.length) (x y : Int) :
 OwnR ((w.setCell ⟨g, k * 2, none⟩ (.int .i64 x)).setCell ⟨g, k * 2 + 1, none⟩ (.int .i64 y)) base (.slice (some ⟨g, 0, none⟩) n cap) (l.set k (x, y)) := by
 obtain ⟨a', c', he, _⟩ := OwnR.form h
 simp only [Value.slice.injEq] at he
 obtain ⟨_, rfl, _⟩ := he
 have h1 := (World.ownsRow.stored h (k * 2) (.int .i64 x)).1
 have h2 := (World.ownsRow.stored h1 (k * 2 + 1) (.int .i64 y)).1
 unfold OwnR
 rw [List.length_set]
 have e := flat_set l k x y hk
 change _ = ratL (l.set k (x, y)) at e
 rw [← e]
 exact h2
theorem OwnR.block {w : World} {base : Nat} {a : Option Addr} {n cap : Nat} {l : List (Int × Int)} (h : OwnR w base (.slice a n cap) l) {k : Nat} (hk : k < n) : ∃ g, a = some ⟨g, 0, none⟩ ∧ base ≤ g ∧ (∀ j, w.frozen? ⟨g, j, none⟩ = false) ∧ g < w.heap.size := by
 rcases h.2 with ⟨he, h0⟩ | ⟨g, cap', cur, he, hb, hg, _⟩
 ·simp only [Value.slice.injEq] at he
  omega
 ·simp only [Value.slice.injEq] at he
  obtain ⟨rfl, _⟩ := he
  exact ⟨g, rfl, hb, fun j => frozen_of_row w g j cur _ hg, lt_of_block hg⟩
end Go.Proofs.YthjjfkeacobikaaGreat
namespace Go.Proofs.YthjjfkeacobikaaGreat
open Go.RowKit
theorem Ext.store {w w' : World} (h : Ext w w') {b : Nat} (k : Nat) (hb : w.heap.size ≤ b) (v : Value) : Ext w (w'.setCell ⟨b, k, none⟩ v) := Below.setCell h (p := ⟨b, k, none⟩) hb v
theorem Ext.grown {w0 w w' : World} {row : Option Nat} (h : Ext w0 w) (hg : w.grownBy w' row) (hr : ∀ k, row = some k → w0.heap.size ≤ k) : Ext w0 w' := ext_grown h hg hr
def OffV (vs : List Value) (v : Value) : Prop := ∀ i k, i < vs.length → (vs[i]?.getD undef).ownBlock = some k → v.ownBlock ≠ some k
theorem OffV.nil (v : Value) : OffV [] v := fun i k h => absurd h (by simp)
theorem OffV.near {w : World} {base : Nat} {vs : List Value} {A : List (List Int)} {v v' : Value} (h : OffV vs v) (hr : RowsI w base vs A) (hn : Near w v v') : OffV vs v' := by
 intro i k hi hk hk'
 rcases hn k hk' with h1 | h1
 ·exact h i k hi hk h1
 ·have := ((hr.row i (by rw [← hr.len]; exact hi)).lt k hk).2
  omega
theorem OffV.snoc {w w' : World} {base : Nat} {vs : List Value} {B r : List Int} {v vr : Value} (h : OffV vs v) (hb : OwnI w base v B) (hr : OwnI w' w.heap.size vr r) : OffV (vs ++ [vr]) v := by
 intro i k hi hk hk'
 by_cases hl : i < vs.length
 ·rw [List.getElem?_append_left hl] at hk; exact h i k hl hk hk'
 ·have hie : i = vs.length := by simp at hi; omega
  subst hie
  rw [List.getElem?_concat_length, Option.getD_some] at hk
  have h1 := (hb.lt k hk').2
  have h2 := (hr.lt k hk).1
  omega
structure LpO (w : World) (base g : Nat) (va vb vc : Value) (vs : List Value) (A : List (List Int)) (B : List Int) (C : List (Int × Int)) : Prop where
 box : w.heap[g]? = some (.cells #[va, vb, vc] 109 (0, 0))
 hg : base ≤ g
 a : OwnV w base va vs
 rows : RowsI w base vs A
 b : OwnI w base vb B
 off : OffV vs vb
 c : OwnR w base vc C
section
variable {w : World} {base g : Nat} {va vb vc : Value} {vs : List Value} {A : List (List Int)} {B : List Int} {C : List (Int × Int)}
theorem LpO.lt (h : LpO w base g va vb vc vs A B C) : g < w.heap.size := lt_of_block h.box
theorem LpO.ext {w' : World} (h : LpO w base g va vb vc vs A B C) (hx : Ext w w') : LpO w' base g va vb vc vs A B C :=
 ⟨(hx.block _ h.lt).trans h.box, h.hg, h.a.ext hx, h.rows.ext hx, h.b.ext hx, h.off, h.c.ext hx⟩
theorem LpO.c0 (h : LpO w base g va vb vc vs A B C) : w.cell? ⟨g, 0, none⟩ = some va := by rw [cell_of_row w g 0 _ _ _ h.box]; rfl
theorem LpO.c1 (h : LpO w base g va vb vc vs A B C) : w.cell? ⟨g, 1, none⟩ = some vb := by rw [cell_of_row w g 1 _ _ _ h.box]; rfl
theorem LpO.c2 (h : LpO w base g va vb vc vs A B C) : w.cell? ⟨g, 2, none⟩ = some vc := by rw [cell_of_row w g 2 _ _ _ h.box]; rfl
theorem LpO.new {w : World} {base : Nat} (hb : base ≤ w.heap.size) : LpO (w.alloc (.cells #[.slice none 0 0, .slice none 0 0, .slice none 0 0] 109)) base w.heap.size (.slice none 0 0) (.slice none 0 0) (.slice none 0 0) [] [] [] [] :=
 ⟨heap_alloc_new _ _, hb, OwnV.nil _ _, RowsI.nil _ _, OwnI.nil _ _, OffV.nil _, OwnR.nil _ _⟩
theorem LpO.boxc0 {x y z : Value} (h : w.heap[g]? = some (.cells #[x, y, z] 109 (0, 0))) : w.cell? ⟨g, 0, none⟩ = some x := by rw [cell_of_row w g 0 _ _ _ h]; rfl
theorem LpO.boxc1 {x y z : Value} (h : w.heap[g]? = some (.cells #[x, y, z] 109 (0, 0))) : w.cell? ⟨g, 1, none⟩ = some y := by rw [cell_of_row w g 1 _ _ _ h]; rfl
theorem LpO.boxc2 {x y z : Value} (h : w.heap[g]? = some (.cells #[x, y, z] 109 (0, 0))) : w.cell? ⟨g, 2, none⟩ = some z := by rw [cell_of_row w g 2 _ _ _ h]; rfl
theorem LpO.boxf {x y z : Value} (h : w.heap[g]? = some (.cells #[x, y, z] 109 (0, 0))) (k : Nat) : w.frozen? ⟨g, k, none⟩ = false := frozen_of_row w g k _ _ h
theorem LpO.neA (h : LpO w base g va vb vc vs A B C) : some g ≠ va.ownBlock := ownsRow_ne h.a h.box (by decide)
theorem LpO.neB (h : LpO w base g va vb vc vs A B C) : some g ≠ vb.ownBlock := ownsRow_ne h.b h.box (by decide)
theorem LpO.neC (h : LpO w base g va vb vc vs A B C) : some g ≠ vc.ownBlock := ownsRow_ne h.c h.box (by decide)
theorem LpO.store {w w' : World} {k : Nat} {v : Value} (hb : w.heap[g]? = some (.cells #[va, vb, vc] 109 (0, 0))) : (w.setCell ⟨g, k, none⟩ v).heap[g]? = some (.cells (#[va, vb, vc].setIfInBounds k v) 109 (0, 0)) := heap_setCell_same w g k _ _ v hb
theorem LpO.pushA {w1 w2 : World} (h : LpO w base g va vb vc vs A B C) (hx : Ext w w1) {vr va' : Value} {r : List Int} (hr : OwnI w1 w.heap.size vr r) (hbs : base ≤ w.heap.size) (hgr : w1.grownBy w2 va.ownBlock) (ho : OwnV w2 base va' (vs ++ [vr])) (hn : Near w1 va va') :
 LpO (w2.setCell ⟨g, 0, none⟩ va') base g va' vb vc (vs ++ [vr]) (A ++ [r]) B C := by
 have h1 := h.ext hx
 have hbox : w2.heap[g]? = some (.cells #[va, vb, vc] 109 (0, 0)) := (hgr.block g h1.lt h1.neA).trans h1.box
 have hset : ∀ k, k ≠ g → (w2.setCell ⟨g, 0, none⟩ va').heap[k]? = w2.heap[k]? := fun k hk => heap_setCell_other _ _ _ _ hk
 have hB2 : OwnI w2 base vb B := h1.b.keep fun k hk => hgr.block k (h1.b.lt k hk).2 fun e => h1.b.apart h1.a k hk e.symm
 have hC2 : OwnR w2 base vc C := h1.c.keep fun k hk => hgr.block k (h1.c.lt k hk).2 fun e => ownsRow_apart (by decide) h1.c h1.a k hk e.symm
 have hR1 : RowsI w1 base (vs ++ [vr]) (A ++ [r]) := h.rows.snoc hx hr hbs
 have hR2 : RowsI w2 base (vs ++ [vr]) (A ++ [r]) := hR1.keep fun i k hi hk => hgr.block k ((hR1.row i hi).lt k hk).2 fun e => (hR1.row i hi).apart h1.a k hk e.symm
 refine ⟨?_, h.hg, ?_, ?_, ?_, h.off.snoc h.b hr, ?_⟩
 ·have := LpO.store (w := w2) (w' := w2) (k := 0) (v := va') hbox
  exact this
 ·exact ho.keep fun k hk => hset k fun e => (ownsRow_ne ho hbox (by decide)) (by rw [hk, e])
 ·exact hR2.keep fun i k hi hk => hset k fun e => (ownsRow_ne (hR2.row i hi) hbox (by decide)) (by rw [hk, e])
 ·exact hB2.keep fun k hk => hset k fun e => (ownsRow_ne hB2 hbox (by decide)) (by rw [hk, e])
 ·exact hC2.keep fun k hk => hset k fun e => (ownsRow_ne hC2 hbox (by decide)) (by rw [hk, e])
theorem LpO.pushB {w1 w2 : World} (h : LpO w base g va vb vc vs A B C) (hx : Ext w w1) {vb' : Value} {B' : List Int} (hgr : w1.grownBy w2 vb.ownBlock) (ho : OwnI w2 base vb' B') (hn : Near w1 vb vb') :
 LpO (w2.setCell ⟨g, 1, none⟩ vb') base g va vb' vc vs A B' C := by
 have h1 := h.ext hx
 have hbox : w2.heap[g]? = some (.cells #[va, vb, vc] 109 (0, 0)) := (hgr.block g h1.lt h1.neB).trans h1.box
 have hset : ∀ k, k ≠ g → (w2.setCell ⟨g, 1, none⟩ vb').heap[k]? = w2.heap[k]? := fun k hk => heap_setCell_other _ _ _ _ hk
 have hA2 : OwnV w2 base va vs := h1.a.keep fun k hk => hgr.block k (h1.a.lt k hk).2 fun e => h1.b.apart h1.a k e.symm hk
 have hC2 : OwnR w2 base vc C := h1.c.keep fun k hk => hgr.block k (h1.c.lt k hk).2 fun e => ownsRow_apart (by decide) h1.c h1.b k hk e.symm
 have hR2 : RowsI w2 base vs A := h1.rows.keep fun i k hi hk => hgr.block k ((h1.rows.row i hi).lt k hk).2 fun e => h1.off i k (by rw [h1.rows.len]; exact hi) hk e.symm
 refine ⟨?_, h.hg, ?_, ?_, ?_, h1.off.near h1.rows hn, ?_⟩
 ·have := LpO.store (w := w2) (w' := w2) (k := 1) (v := vb') hbox
  exact this
 ·exact hA2.keep fun k hk => hset k fun e => (ownsRow_ne hA2 hbox (by decide)) (by rw [hk, e])
 ·exact hR2.keep fun i k hi hk => hset k fun e => (ownsRow_ne (hR2.row i hi) hbox (by decide)) (by rw [hk, e])
 ·exact ho.keep fun k hk => hset k fun e => (ownsRow_ne ho hbox (by decide)) (by rw [hk, e])
 ·exact hC2.keep fun k hk => hset k fun e => (ownsRow_ne hC2 hbox (by decide)) (by rw [hk, e])
theorem LpO.pushC {w1 w2 : World} (h : LpO w base g va vb vc vs A B C) (hx : Ext w w1) {vc' : Value} {C' : List (Int × Int)} (hgr : w1.grownBy w2 vc.ownBlock) (ho : OwnR w2 base vc' C') :
 LpO (w2.setCell ⟨g, 2, none⟩ vc') base g va vb vc' vs A B C' := by
 have h1 := h.ext hx
 have hbox : w2.heap[g]? = some (.cells #[va, vb, vc] 109 (0, 0)) := (hgr.block g h1.lt h1.neC).trans h1.box
 have hset : ∀ k, k ≠ g → (w2.setCell ⟨g, 2, none⟩ vc').heap[k]? = w2.heap[k]? := fun k hk => heap_setCell_other _ _ _ _ hk
 have hA2 : OwnV w2 base va vs := h1.a.keep fun k hk => hgr.block k (h1.a.lt k hk).2 fun e => ownsRow_apart (by decide) h1.a h1.c k hk e.symm
 have hB2 : OwnI w2 base vb B := h1.b.keep fun k hk => hgr.block k (h1.b.lt k hk).2 fun e => ownsRow_apart (by decide) h1.b h1.c k hk e.symm
 have hR2 : RowsI w2 base vs A := h1.rows.keep fun i k hi hk => hgr.block k ((h1.rows.row i hi).lt k hk).2 fun e => ownsRow_apart (by decide) (h1.rows.row i hi) h1.c k hk e.symm
 refine ⟨?_, h.hg, ?_, ?_, ?_, h.off, ?_⟩
 ·have := LpO.store (w := w2) (w' := w2) (k := 2) (v := vc') hbox
  exact this
 ·exact hA2.keep fun k hk => hset k fun e => (ownsRow_ne hA2 hbox (by decide)) (by rw [hk, e])
 ·exact hR2.keep fun i k hi hk => hset k fun e => (ownsRow_ne (hR2.row i hi) hbox (by decide)) (by rw [hk, e])
 ·exact hB2.keep fun k hk => hset k fun e => (ownsRow_ne hB2 hbox (by decide)) (by rw [hk, e])
 ·exact ho.keep fun k hk => hset k fun e => (ownsRow_ne ho hbox (by decide)) (by rw [hk, e])
theorem ownsRow_grown {w w2 : World} {b1 b2 : Nat} {e e' : TypeId} {s s' n n' : Nat} {v v' : Value} {xs xs' : List Value} (h : w.ownsRow b1 e s v n xs) (h' : w.ownsRow b2 e' s' v' n' xs') (hne : e ≠ e') (hgr : w.grownBy w2 v'.ownBlock) : w2.ownsRow b1 e s v n xs :=
 h.kept hgr (by
  cases hv : v.ownBlock with
  | none => exact .inl rfl
  | some k => exact .inr fun e2 => ownsRow_apart hne h h' k hv e2.symm)
theorem ownsRow_set {w : World} {b1 g k : Nat} {e e' : TypeId} {s n : Nat} {v u : Value} {xs : List Value} {c : Array Value} {z : Nat × Nat} (h : w.ownsRow b1 e s v n xs) (hb : w.heap[g]? = some (.cells c e' z)) (hne : e ≠ e') : (w.setCell ⟨g, k, none⟩ u).ownsRow b1 e s v n xs := by
 refine ⟨h.1, ?_⟩
 rcases h.2 with hn | ⟨g', cap, cur, rfl, hbb, hgg, rest⟩
 ·exact .inl hn
 ·refine .inr ⟨g', cap, cur, rfl, hbb, ?_, rest⟩
  rw [heap_setCell_other _ _ _ _ fun e2 => by subst e2; exact ownsRow_ne h hb hne rfl]
  exact hgg
theorem LpO.boxA {w1 w2 : World} (h : LpO w base g va vb vc vs A B C) (hx : Ext w w1) (hg : w1.grownBy w2 va.ownBlock) : w2.heap[g]? = some (.cells #[va, vb, vc] 109 (0, 0)) := (hg.block g (h.ext hx).lt (h.ext hx).neA).trans (h.ext hx).box
theorem LpO.boxB {w1 w2 : World} (h : LpO w base g va vb vc vs A B C) (hx : Ext w w1) (hg : w1.grownBy w2 vb.ownBlock) : w2.heap[g]? = some (.cells #[va, vb, vc] 109 (0, 0)) := (hg.block g (h.ext hx).lt (h.ext hx).neB).trans (h.ext hx).box
theorem LpO.boxC {w1 w2 : World} (h : LpO w base g va vb vc vs A B C) (hx : Ext w w1) (hg : w1.grownBy w2 vc.ownBlock) : w2.heap[g]? = some (.cells #[va, vb, vc] 109 (0, 0)) := (hg.block g (h.ext hx).lt (h.ext hx).neC).trans (h.ext hx).box
theorem OwnG.grownV {α : Type} {E : Enc α} {t : TypeId} {w w1 w2 : World} {b1 b2 : Nat} {v v' : Value} {l : List α} {us : List Value} (h : OwnG E t w b1 v l) (hx : Ext w w1) (h' : OwnV w b2 v' us) (hne : t ≠ 24) (hgr : w1.grownBy w2 v'.ownBlock) : OwnG E t w2 b1 v l :=
 ownsRow_grown (h.ext hx) (h'.ext hx) hne hgr
theorem OwnG.grownI {α : Type} {E : Enc α} {t : TypeId} {w w1 w2 : World} {b1 b2 : Nat} {v v' : Value} {l : List α} {us : List Int} (h : OwnG E t w b1 v l) (hx : Ext w w1) (h' : OwnI w b2 v' us) (hne : t ≠ 3) (hgr : w1.grownBy w2 v'.ownBlock) : OwnG E t w2 b1 v l :=
 ownsRow_grown (h.ext hx) (h'.ext hx) hne hgr
theorem OwnG.grownR {α : Type} {E : Enc α} {t : TypeId} {w w1 w2 : World} {b1 b2 : Nat} {v v' : Value} {l : List α} {us : List (Int × Int)} (h : OwnG E t w b1 v l) (hx : Ext w w1) (h' : OwnR w b2 v' us) (hne : t ≠ 43) (hgr : w1.grownBy w2 v'.ownBlock) : OwnG E t w2 b1 v l :=
 ownsRow_grown (h.ext hx) (h'.ext hx) hne hgr
theorem OwnG.setLp {α : Type} {E : Enc α} {t : TypeId} {w : World} {b1 g : Nat} {v x y z : Value} {l : List α} (h : OwnG E t w b1 v l) (hb : w.heap[g]? = some (.cells #[x, y, z] 109 (0, 0))) (hne : t ≠ 109) (k : Nat) (u : Value) : OwnG E t (w.setCell ⟨g, k, none⟩ u) b1 v l :=
 ownsRow_set h hb hne
end
theorem OwnV.mono' {w : World} {base base' : Nat} {v : Value} {vs : List Value} (h : OwnV w base v vs) (hb : base' ≤ base) : OwnV w base' v vs := by
 refine ⟨h.1, ?_⟩
 rcases h.2 with hn | ⟨g, cap, cur, rfl, hbb, rest⟩
 ·exact .inl hn
 ·exact .inr ⟨g, cap, cur, rfl, by omega, rest⟩
theorem RowsI.mono' {w : World} {base base' : Nat} {vs : List Value} {L : List (List Int)} (h : RowsI w base vs L) (hb : base' ≤ base) : RowsI w base' vs L := ⟨h.len, fun i hi => (h.row i hi).mono hb, h.apart⟩
theorem Ext.blk {w w' : World} (hx : Ext w w') {b : Nat} {o : Obj} (h : w.heap[b]? = some o) : w'.heap[b]? = some o := (hx.block b (lt_of_block h)).trans h
theorem blk_ne {w : World} {b b' : Nat} {c c' : Array Value} {t t' : TypeId} {z z' : Nat × Nat} (h : w.heap[b]? = some (.cells c t z)) (h' : w.heap[b']? = some (.cells c' t' z')) (hne : t ≠ t') : b ≠ b' := by
 intro e
 subst e
 rw [h] at h'
 simp only [Option.some.injEq, Obj.cells.injEq] at h'
 exact hne h'.2.1
end Go.Proofs.YthjjfkeacobikaaGreat
namespace Go.Proofs.YthjjfkeacobikaaGreat
open Go.RowKit
def Tells (P : Program) (w : World) (fid : FuncId) (ca : Array Value) (m : Nat) (f : Nat → Int) : Prop :=
 ∀ (s : Nat) (w1 : World), s < m → Ext w w1 → Calls P fid (#[.int .i64 (s : Int)] ++ ca) w1 fun e w2 => e = .returned (.int .i64 (f s)) ∧ Ext w1 w2
def rowF (f : Nat → Int) (m : Nat) : List Int := (List.range m).map f
theorem rowF_succ (f : Nat → Int) (m : Nat) : rowF f (m + 1) = rowF f m ++ [f m] := by simp [rowF, List.range_succ]
theorem rowF_len (f : Nat → Int) (m : Nat) : (rowF f m).length = m := by simp [rowF]
theorem rowF_ok {f : Nat → Int} {n : Nat} (h1 : 1 ≤ n) (h5 : n ≤ 5) (h0 : f 0 = 0) (hb : ∀ s, s < cN n → -500 ≤ f s ∧ f s ≤ 500) : gameOk (n : Int) (rowF f (cN n)) = true := by
 have hN := cN_le n h5
 unfold gameOk
 rw [rowF_len, cntC_nat n h5]
 simp only [Bool.and_eq_true, decide_eq_true_eq]
 refine ⟨?_, ?_, trivial, ?_⟩
 ·rw [List.all_eq_true]
  intro x hx
  obtain ⟨s, hs, rfl⟩ := List.mem_map.1 hx
  have := hb s (List.mem_range.1 hs)
  unfold inB; simp; omega
 ·unfold inB; simp; omega
 ·have : 0 < cN n := by omega
  simp [rowF, this, h0]
theorem two_cell0 {w : World} {g : Nat} {x y : Value} {t : TypeId} (h : w.heap[g]? = some (.cells #[x, y] t (0, 0))) : w.cell? ⟨g, 0, none⟩ = some x := by rw [cell_of_row w g 0 _ t _ h]; rfl
theorem two_cell1 {w : World} {g : Nat} {x y : Value} {t : TypeId} (h : w.heap[g]? = some (.cells #[x, y] t (0, 0))) : w.cell? ⟨g, 1, none⟩ = some y := by rw [cell_of_row w g 1 _ t _ h]; rfl
theorem two_set {w : World} {g : Nat} {x y z : Value} {t : TypeId} (h : w.heap[g]? = some (.cells #[x, y] t (0, 0))) : (w.setCell ⟨g, 1, none⟩ z).heap[g]? = some (.cells #[x, z] t (0, 0)) := by
 rw [heap_setCell_same w g 1 _ t z h]; rfl
def GameV (w : World) (base : Nat) (e : Ending) (n : Nat) (l : List Int) (b : Bool) : Prop := ∃ v, e = .returned (.tuple #[.agg #[.int .i64 (n : Int), v], .bool b]) ∧ OwnI w base v l
set_option maxRecDepth 100000 in
set_option maxHeartbeats 4000000 in
theorem i_made {w : World} {n : Nat} {fid : FuncId} {ca : Array Value} {f : Nat → Int} (h1 : 1 ≤ n) (h5 : n ≤ 5) (hg : IsGo Tryz.prog fid) (hf : Tells Tryz.prog w fid ca (cN n) f)
 (h0 : f 0 = 0) (hb : ∀ s, s < cN n → -500 ≤ f s ∧ f s ≤ 500) :
 Calls Tryz.prog 69 #[.int .i64 (n : Int), .func (.func fid) #[] ca] w fun e w' => GameV w' w.heap.size e n (rowF f (cN n)) true ∧ Ext w w' := by
 have hN := cN_le n h5
 have hcf : ∀ (args : Array Value) (w : World), (callFunc fid args).run Tryz.prog w = .ok (.enter fid args) w := hg
 have HF := Lib.hid hf
 have HOK := Lib.hid (rowF_ok h1 h5 h0 hb)
 clear hf h0 hb hg
 go_enter Tryz.func69, Tryz.ntmps69
 go_wp2_with (first | (go_at_call 107; refine (i_CountC n h5 _).mono ?_; rintro e w' ⟨rfl, rfl⟩))
 go_loopw [12] (fun i wr => ∃ (k : Nat) (a1 : Option Addr) (n1 c1 : Nat), k ≤ cN n ∧ i = .int .i64 (k : Int) ∧ Hid (OwnI wr (w.heap.size + 1 + 1) (.slice a1 n1 c1) (rowF f k)) ∧ Hid (wr.heap[w.heap.size + 1]? = some (.cells #[.int .i64 (n : Int), .slice a1 n1 c1] 29 (0, 0))) ∧ Hid (Ext (w.alloc (.cells #[.int .i64 0, .slice none 0 0] 29)) wr)) (fun i _ => cN n - (intOf i).toNat)
 case atStart =>
  refine ⟨0, none, 0, 0, Nat.zero_le _, rfl, Lib.hid (by unfold rowF; exact ⟨rfl, .inl ⟨rfl, rfl⟩⟩), Lib.hid ?_, Lib.hid ?_⟩
  ·exact heapA_new _ _ _ (by simp)
  ·exact Ext.alloc _ _
 case round =>
  obtain ⟨k, a1, n1, c1, hk, rfl, HO, HB, HX⟩ := hrel
  have hg0 := two_cell0 HB.out
  have hg1 := two_cell1 HB.out
  have hsz := lt_of_block HB.out
  by_cases hlt : k < cN n
  ·go_wp2_with fail
   go_region_law (first
    | (refine step_of_wp _ rfl (wp_append_ints _ _ rfl (w.heap.size + 1 + 1) _ _ rfl (HO1.out.ext (Ext.alloc _ _)) _ 1 _ [f k] rfl (Ints.one _ _ _) (by rw [rowF_len]; omega) (by simp; omega) ?_); intro v3 w3 ho3 hg3 hn3; obtain ⟨a3, n3, c3, rfl, HN3⟩ := ho3.var; have HO3 := Lib.hid ho3; have HX3 := Lib.hid (ext_grown ((HX.out.trans HX1.out).trans (Ext.alloc _ _)) hg3 (fun j hj => by have := (HO1.out.lt j hj).1; simp; omega)); have HB3 := Lib.hid ((hg3.block _ (by simp; omega) (fun e => by have := (HO1.out.lt _ e.symm).1; omega)).trans (((Ext.alloc w1 _).block _ hsz1).trans HB1.out)); have cg3 := two_cell1 HB3.out; have fg3 := frozen_of_row w3 (w.heap.size + 1) 1 _ _ HB3.out; clear ho3 hg3 hn3)
    | (go_simp; refine (HF.out k _ hlt (((Ext.alloc _ _).trans HX.out).trans (Ext.drew wr))).mono ?_; rintro e w1 ⟨rfl, hx⟩; have HX1 := Lib.hid ((Ext.drew wr).trans hx); have HO1 := Lib.hid (HO.out.ext HX1.out); have HB1 := Lib.hid ((HX1.out.block _ hsz).trans HB.out); have b1 := two_cell1 HB1.out; have hsz1 := lt_of_block HB1.out; clear hx))
   all_goals
    go_wp2
    go_roundw
    case rel =>
     refine ⟨k + 1, a3, n3, c3, by omega, by go_num, Lib.hid ?_, Lib.hid (two_set HB3.out), Lib.hid (HX3.out.setCell (by simp) _)⟩
     rw [rowF_succ]
     exact HO3.out.keep fun j hj => heap_setCell_other _ _ _ _ (by have := (HO3.out.lt j hj).1; simp; omega)
    case measure => simp [intOf]; omega
  ·have hkn : k = cN n := by omega
   subst hkn
   have HV := Lib.hid (i_IsValidGame (p := (n : Int)) HO.out.ints)
   rw [HOK.out] at HV
   go_wp2_with fail
   refine HV.out.mono ?_
   rintro e w1 ⟨rfl, hx⟩
   have HO1 := Lib.hid (HO.out.ext hx)
   have hg0' := hx.cellSome hg0
   have hg1' := hx.cellSome hg1
   have HX1 := Lib.hid (HX.out.trans hx)
   have r0 : w1.cell? ⟨w.heap.size, 0, none⟩ = some (.int .i64 0) := HX1.out.cellSome (by simp)
   have r1 : w1.cell? ⟨w.heap.size, 1, none⟩ = some (.slice none 0 0) := HX1.out.cellSome (by simp)
   have f0 : w1.frozen? ⟨w.heap.size, 0, none⟩ = false := (HX1.out.frozens _ _ (by simp)).trans (by simp)
   have f1 : w1.frozen? ⟨w.heap.size, 1, none⟩ = false := (HX1.out.frozens _ _ (by simp)).trans (by simp)
   clear hx hg0 hg1
   go_wp2
   refine bodyPost_ret (v := .tuple #[.agg #[.int .i64 (n : Int), .slice a1 n1 c1], .bool true]) (by simp [results, Tryz.results69, go_sem, r0, r1]) rfl ⟨⟨_, rfl, ?_⟩, ?_⟩
   ·refine HO1.out.mono (by omega) |>.keep fun j hj => ?_
    have := (HO1.out.lt j hj).1
    rw [heap_setCell_other _ _ _ _ (by simp; omega), heap_setCell_other _ _ _ _ (by simp; omega)]
   ·exact ((((Ext.alloc _ _).trans HX1.out).setCell (by simp) _).setCell (by simp) _)
end Go.Proofs.YthjjfkeacobikaaGreat
