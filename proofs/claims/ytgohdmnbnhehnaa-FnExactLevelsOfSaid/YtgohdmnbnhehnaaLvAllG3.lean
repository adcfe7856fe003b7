import Derived.Test.YtgohdmnbnhehnaaLvAllG0
import Derived.Deep.RegionLaw
import Derived.Test.YtgohdmnbnhehnaaLvAllG1
import Derived.Test.YtgohdmnbnhehnaaLvAllG2
namespace Go.Proofs.Ytgohdmnbnhehnaa
set_option linter.unusedVariables false
open Go.RowKit
def Near (w : World) (v v' : Value) : Prop := ∀ k, v'.ownBlock = some k → v.ownBlock = some k ∨ w.heap.size ≤ k
theorem Near.refl (w : World) (v : Value) : Near w v v := fun k hk => .inl hk
theorem Near.trans {w w1 : World} {v v1 v2 : Value} (h : Near w v v1) (h1 : Near w1 v1 v2) (hs : w.heap.size ≤ w1.heap.size) : Near w v v2 := fun k hk => by
 rcases h1 k hk with h2 | h2
 ·exact h k h2
 ·exact .inr (by omega)
theorem grown_trans {w w1 w2 : World} {r r1 : Option Nat} (h : w.grownBy w1 r) (h1 : w1.grownBy w2 r1) (hr : ∀ k, r1 = some k → r = some k ∨ w.heap.size ≤ k) : w.grownBy w2 r :=
 ⟨h1.os.trans h.os, h1.tape.trans h.tape, h1.output.trans h.output, Nat.le_trans h.size h1.size, fun k hk hne => by
  refine (h1.block k (Nat.lt_of_lt_of_le hk h.size) fun e => ?_).trans (h.block k hk hne)
  rcases hr k e.symm with h2 | h2
  ·exact hne h2.symm
  ·omega⟩
theorem grown_ext {w w1 : World} (r : Option Nat) (h : Ext w w1) : w.grownBy w1 r := ⟨h.os, h.tape, h.output, h.size, fun k hk _ => h.block k hk⟩
theorem ext_grown {w0 w w' : World} {row : Option Nat} (h : Ext w0 w) (hg : w.grownBy w' row) (hr : ∀ k, row = some k → w0.heap.size ≤ k) : Ext w0 w' := Below.grown h hg h.size hr
section
variable {P : Program} (w : World)
theorem run_append_near (base : Nat) (t ty e : TypeId) (i : TypeInfo) (z : Value) (size bytes : Nat) (ht : P.underlying t = some (.slice e)) (hi : P.info? e = some i) (hz : i.zero = some z)
 (hsize : i.size = size) (hby : i.bytes = bytes) (hzs : z.cells.size = size) (hsz : 0 < size)
 (v : Value) (n : Nat) (xs : List Value) (hown : w.ownsRow base e size v n xs)
 (a : Addr) (m c : Nat) (news : List Value) (hl : news.length = m * size) (hnews : ∀ j u, news[j]? = some u → w.cell? (a.add j) = some u) (h1 : ∀ u ∈ news, u.oneCell' = true)
 (h63 : n + m ≤ maxLen) (hbytes : (n + m) * bytes ≤ 140737488355328) (hbase : base ≤ w.heap.size) :
 ∃ v' w', (Builtin.append_ #[t, t] ty #[v, .slice (some a) m c]).run P w = .ok v' w' ∧ w'.ownsRow base e size v' (n + m) (xs ++ news) ∧ w.grownBy w' v.ownBlock ∧ Near w v v' := by
 obtain ⟨v', w', hrun, h2, h3, _⟩ := run_append_own (P := P) w base t ty e i z size bytes ht hi hz hsize hby hzs hsz v n xs hown a m c news hl hnews h1 h63 hbytes hbase
 refine ⟨v', w', hrun, h2, h3, ?_⟩
 subst hsize
 subst hby
 have hsmall : n + m ≤ 9223372036854775807 := by simp only [maxLen] at h63; omega
 rcases hown.2 with ⟨rfl, rfl⟩ | ⟨g, cap, cur, rfl, hbg, hg, hnc, hcm, hcs, htake⟩
 ·by_cases hm : m = 0
  ·subst hm
   intro k hk
   rcases h2.2 with ⟨rfl, _⟩ | ⟨g', cap', cur', rfl, _, hg', _⟩
   ·simp [Value.ownBlock] at hk
   ·have hn : news = [] := List.eq_nil_of_length_eq_zero (by simpa using hl)
    subst hn
    have : (Builtin.append_ #[t, t] ty #[Value.slice none 0 0, .slice (some a) 0 c]).run P w = .ok (.slice none 0 0) w := by
     simp [Builtin.append_, run_underlying ht, sizeOf, typeInfo, hi, Builtin.lenOf, Builtin.firstCells, loadCells, loadCellsFrom]
    rw [this] at hrun
    simp at hrun
  ·have hr := run_append_nil (P := P) w t ty e i z ht hi hz a m c news hl hnews (by omega) (by omega) (by have hb := hbytes; simp only [Nat.zero_add] at hb; omega)
   rw [hr] at hrun
   simp only [Result.ok.injEq] at hrun
   obtain ⟨rfl, rfl⟩ := hrun
   intro k hk
   exact .inr (Nat.le_of_eq (Option.some.inj (show some w.heap.size = some k from hk)))
 ·by_cases hroom : n + m ≤ cap
  ·have hfit : n * i.size + news.length ≤ cur.size := by rw [hl, hcs, ← Nat.add_mul]; exact Nat.mul_le_mul_right _ hroom
   have hr := run_append_room (P := P) w t ty e i ht hi g n cap cur hg a m c news hl hnews h1 hroom hfit
   rw [hr] at hrun
   simp only [Result.ok.injEq] at hrun
   obtain ⟨rfl, rfl⟩ := hrun
   intro k hk
   exact .inl hk
  ·have holds : ∀ j u, xs[j]? = some u → w.cell? ((⟨g, 0, none⟩ : Addr).add j) = some u := hown.cells (g := g) rfl
   have hr := run_append_grow (P := P) w t ty e i z ht hi hz ⟨g, 0, none⟩ n cap xs hown.1 holds a m c news hl hnews (by omega) (by omega) (growslice_fits (by omega) hbytes)
   rw [hr] at hrun
   simp only [Result.ok.injEq] at hrun
   obtain ⟨rfl, rfl⟩ := hrun
   intro k hk
   exact .inr (Nat.le_of_eq (Option.some.inj (show some w.heap.size = some k from hk)))
theorem wp_append_near {o : Oper} {a : Act} {K : Act → World → Prop} {Q : Exit → Act → World → Prop} (s x : Operand) (t : TypeId)
 (ho : o.op = .call { callee := .builtin .append, args := #[s, x], argTypes := #[t, t] })
 (base : Nat) (e : TypeId) (i : TypeInfo) (z : Value) (size bytes : Nat) (ht : P.underlying t = some (.slice e)) (hi : P.info? e = some i) (hz : i.zero = some z)
 (hsize : i.size = size) (hby : i.bytes = bytes) (hzs : z.cells.size = size) (hsz : 0 < size)
 (v : Value) (n : Nat) (xs : List Value) (hs : a.eval s = v) (hown : w.ownsRow base e size v n xs)
 (ad : Addr) (m c : Nat) (news : List Value) (hx : a.eval x = .slice (some ad) m c) (hl : news.length = m * size) (hnews : ∀ j u, news[j]? = some u → w.cell? (ad.add j) = some u) (h1 : ∀ u ∈ news, u.oneCell' = true)
 (h63 : n + m ≤ maxLen) (hbytes : (n + m) * bytes ≤ 140737488355328) (hbase : base ≤ w.heap.size)
 (h : ∀ v' w', w'.ownsRow base e size v' (n + m) (xs ++ news) → w.grownBy w' v.ownBlock → Near w v v' → K (a.put o.dst v') w') : o.wp P a w K Q := by
 obtain ⟨v', w', hr, h2, h3, h4⟩ := run_append_near (P := P) w base t o.type e i z size bytes ht hi hz hsize hby hzs hsz v n xs hown ad m c news hl hnews h1 h63 hbytes hbase
 unfold Oper.wp execOp
 simp only [ho, resolve, invoke, builtin, Sem.run_bind, Sem.run_pure, Result.andThen_ok, List.map_toArray, List.map_cons, List.map_nil, hs, hx, hr]
 exact h v' w' h2 h3 h4
theorem wp_append_nothing {o : Oper} {a : Act} {K : Act → World → Prop} {Q : Exit → Act → World → Prop} (s x : Operand) (t : TypeId)
 (ho : o.op = .call { callee := .builtin .append, args := #[s, x], argTypes := #[t, t] })
 (base : Nat) (e : TypeId) (i : TypeInfo) (size : Nat) (ht : P.underlying t = some (.slice e)) (hi : P.info? e = some i)
 (v : Value) (n : Nat) (xs : List Value) (hs : a.eval s = v) (hown : w.ownsRow base e size v n xs) (c : Nat) (hx : a.eval x = .slice none 0 c)
 (h : K (a.put o.dst v) w) : o.wp P a w K Q := by
 have hrun : (Builtin.append_ #[t, t] o.type #[v, .slice none 0 c]).run P w = .ok v w := by
  rcases hown.2 with ⟨rfl, rfl⟩ | ⟨g, cap, cur, rfl, _, _, hnc, _⟩
  ·simp [Builtin.append_, run_underlying ht, sizeOf, typeInfo, hi, Builtin.lenOf, Builtin.firstCells]
  ·simp [Builtin.append_, run_underlying ht, sizeOf, typeInfo, hi, Builtin.lenOf, Builtin.firstCells, hnc, storeCells]
 unfold Oper.wp execOp
 simp only [ho, resolve, invoke, builtin, Sem.run_bind, Sem.run_pure, Result.andThen_ok, List.map_toArray, List.map_cons, List.map_nil, hs, hx, hrun]
 exact h
end
end Go.Proofs.Ytgohdmnbnhehnaa
namespace Go.Proofs.Ytgohdmnbnhehnaa
set_option linter.unusedVariables false
open Go.RowKit
def OwnI (w : World) (base : Nat) (v : Value) (l : List Int) : Prop := w.ownsRow base 3 1 v l.length (l.map (Value.int .i64))
def OwnV (w : World) (base : Nat) (v : Value) (vs : List Value) : Prop := w.ownsRow base 24 1 v vs.length vs
theorem OwnI.form {w : World} {base : Nat} {v : Value} {l : List Int} (h : OwnI w base v l) : ∃ a cap, v = .slice a l.length cap ∧ l.length ≤ cap ∧ cap ≤ 9223372036854775807 := by
 rcases h.2 with ⟨rfl, h0⟩ | ⟨g, cap, cur, rfl, _, _, h1, h2, _⟩
 ·exact ⟨none, 0, by rw [h0], by omega, by omega⟩
 ·exact ⟨_, cap, rfl, h1, by simpa [maxLen] using h2⟩
theorem OwnI.var {w : World} {base : Nat} {v : Value} {l : List Int} (h : OwnI w base v l) : ∃ a n cap, v = .slice a n cap ∧ Hid (l.length = n) := by
 obtain ⟨a, cap, e, _⟩ := h.form
 exact ⟨a, _, cap, e, rfl⟩
theorem OwnI.ints {w : World} {base : Nat} {a : Option Addr} {n cap : Nat} {l : List Int} (h : OwnI w base (.slice a n cap) l) : Ints w a n cap l := by
 rcases h.2 with ⟨he, h0⟩ | ⟨g, cap', cur, he, _, hg, h1, h2, hs, ht⟩
 ·simp only [Value.slice.injEq] at he
  obtain ⟨rfl, rfl, rfl⟩ := he
  exact ⟨h0, Nat.le_refl _, by omega, fun k hk => absurd hk (by omega)⟩
 ·simp only [Value.slice.injEq] at he
  obtain ⟨rfl, rfl, rfl⟩ := he
  refine ⟨rfl, h1, by simpa [maxLen] using h2, fun k hk => ⟨g, 0, rfl, fun k hk => ?_⟩⟩
  rw [Nat.zero_add, cell_of_row w g k cur _ (0, 0) hg]
  have : (cur.toList.take (l.length * 1))[k]? = some (.int .i64 (l[k]?.getD 0)) := by rw [ht]; simp [hk]
  rw [List.getElem?_take, if_pos (by omega)] at this
  simpa using this
theorem OwnI.lt {w : World} {base : Nat} {v : Value} {l : List Int} (h : OwnI w base v l) : ∀ k, v.ownBlock = some k → base ≤ k ∧ k < w.heap.size := World.ownsRow.lt h
theorem OwnI.keep {w w' : World} {base : Nat} {v : Value} {l : List Int} (h : OwnI w base v l) (hk : ∀ k, v.ownBlock = some k → w'.heap[k]? = w.heap[k]?) : OwnI w' base v l := by
 refine ⟨h.1, ?_⟩
 rcases h.2 with hn | ⟨g, cap, cur, rfl, hb, hgg, rest⟩
 ·exact .inl hn
 ·exact .inr ⟨g, cap, cur, rfl, hb, (hk g rfl).trans hgg, rest⟩
theorem OwnI.ext {w w' : World} {base : Nat} {v : Value} {l : List Int} (h : OwnI w base v l) (hx : Ext w w') : OwnI w' base v l := h.keep fun k hk => hx.block k (h.lt k hk).2
theorem OwnI.on {w : World} {base : Nat} {v : Value} {l : List Int} (h : OwnI w base v l) : On base w (fun W => OwnI W base v l) := fun w2 h2 => h.keep fun k hk => h2 k (h.lt k hk).1 (h.lt k hk).2
theorem OwnI.mono {w : World} {base base' : Nat} {v : Value} {l : List Int} (h : OwnI w base v l) (hb : base' ≤ base) : OwnI w base' v l := by
 refine ⟨h.1, ?_⟩
 rcases h.2 with hn | ⟨g, cap, cur, rfl, hbb, rest⟩
 ·exact .inl hn
 ·exact .inr ⟨g, cap, cur, rfl, by omega, rest⟩
theorem OwnI.nil (w : World) (base : Nat) : OwnI w base (.slice none 0 0) [] := World.ownsRow_nil w base _ 1
theorem OwnV.form {w : World} {base : Nat} {v : Value} {vs : List Value} (h : OwnV w base v vs) : ∃ a cap, v = .slice a vs.length cap ∧ vs.length ≤ cap ∧ cap ≤ 9223372036854775807 := by
 rcases h.2 with ⟨rfl, h0⟩ | ⟨g, cap, cur, rfl, _, _, h1, h2, _⟩
 ·exact ⟨none, 0, by rw [h0], by omega, by omega⟩
 ·exact ⟨_, cap, rfl, h1, by simpa [maxLen] using h2⟩
theorem OwnV.var {w : World} {base : Nat} {v : Value} {vs : List Value} (h : OwnV w base v vs) : ∃ a n cap, v = .slice a n cap ∧ Hid (vs.length = n) := by
 obtain ⟨a, cap, e, _⟩ := h.form
 exact ⟨a, _, cap, e, rfl⟩
theorem OwnV.cell {w : World} {base : Nat} {a : Option Addr} {n cap : Nat} {vs : List Value} (h : OwnV w base (.slice a n cap) vs) {k : Nat} (hk : k < n) : ∃ g, a = some ⟨g, 0, none⟩ ∧ base ≤ g ∧ ∀ k, k < n → w.cell? ⟨g, k, none⟩ = vs[k]? := by
 rcases h.2 with ⟨he, h0⟩ | ⟨g, cap', cur, he, hb, hg, h1, h2, hs, ht⟩
 ·simp only [Value.slice.injEq] at he
  omega
 ·simp only [Value.slice.injEq] at he
  obtain ⟨rfl, rfl, rfl⟩ := he
  refine ⟨g, rfl, hb, fun k hk => ?_⟩
  rw [cell_of_row w g k cur _ (0, 0) hg]
  have : (cur.toList.take (vs.length * 1))[k]? = vs[k]? := by rw [ht]
  rw [List.getElem?_take, if_pos (by omega)] at this
  simpa using this
theorem OwnV.len {w : World} {base : Nat} {a : Option Addr} {n cap : Nat} {vs : List Value} (h : OwnV w base (.slice a n cap) vs) : vs.length = n := by
 obtain ⟨a', cap', he, _⟩ := h.form
 simp only [Value.slice.injEq] at he
 exact he.2.1.symm
theorem OwnV.lt {w : World} {base : Nat} {v : Value} {vs : List Value} (h : OwnV w base v vs) : ∀ k, v.ownBlock = some k → base ≤ k ∧ k < w.heap.size := World.ownsRow.lt h
theorem OwnV.keep {w w' : World} {base : Nat} {v : Value} {vs : List Value} (h : OwnV w base v vs) (hk : ∀ k, v.ownBlock = some k → w'.heap[k]? = w.heap[k]?) : OwnV w' base v vs := by
 refine ⟨h.1, ?_⟩
 rcases h.2 with hn | ⟨g, cap, cur, rfl, hb, hgg, rest⟩
 ·exact .inl hn
 ·exact .inr ⟨g, cap, cur, rfl, hb, (hk g rfl).trans hgg, rest⟩
theorem OwnV.ext {w w' : World} {base : Nat} {v : Value} {vs : List Value} (h : OwnV w base v vs) (hx : Ext w w') : OwnV w' base v vs := h.keep fun k hk => hx.block k (h.lt k hk).2
theorem OwnV.on {w : World} {base : Nat} {v : Value} {vs : List Value} (h : OwnV w base v vs) : On base w (fun W => OwnV W base v vs) := fun w2 h2 => h.keep fun k hk => h2 k (h.lt k hk).1 (h.lt k hk).2
theorem OwnV.nil (w : World) (base : Nat) : OwnV w base (.slice none 0 0) [] := World.ownsRow_nil w base _ 1
theorem OwnI.apart {w : World} {base base' : Nat} {v v' : Value} {l : List Int} {vs : List Value} (h : OwnI w base v l) (h' : OwnV w base' v' vs) : ∀ k, v.ownBlock = some k → v'.ownBlock ≠ some k := by
 intro k hk hk'
 rcases h.2 with ⟨rfl, _⟩ | ⟨g, cap, cur, rfl, _, hg, _⟩
 ·simp [Value.ownBlock] at hk
 ·rcases h'.2 with ⟨rfl, _⟩ | ⟨g', cap', cur', rfl, _, hg', _⟩
  ·simp [Value.ownBlock] at hk'
  ·simp only [Value.ownBlock, Option.some.injEq] at hk hk'
   subst hk hk'
   rw [hg] at hg'
   simp at hg'
section
variable {P : Program} {w : World} {ops : Array Oper} {rest : List Oper} {o : Oper} {a : Act} {Q : Exit → Act → World → Prop}
theorem wp_append_ints {K : Act → World → Prop} (s x : Operand) (ho : o.op = .call { callee := .builtin .append, args := #[s, x], argTypes := #[24, 24] })
 (base : Nat) (v : Value) (l : List Int) (hs : a.eval s = v) (hown : OwnI w base v l) (ao : Option Addr) (m c : Nat) (l' : List Int) (hx : a.eval x = .slice ao m c) (hi' : Ints w ao m c l') (hb : l.length + m ≤ 1099511627776) (hbase : base ≤ w.heap.size)
 (h : ∀ v' w', OwnI w' base v' (l ++ l') → w.grownBy w' v.ownBlock → Near w v v' → K (a.put o.dst v') w') : o.wp Try.prog a w K Q := by
 obtain ⟨i, hi, hz0, hz1, hz2⟩ := info_parts Try.infoInt
 cases ao with
 | none =>
   have hm : m = 0 := by
    rcases Nat.eq_zero_or_pos m with h0 | h0
    ·exact h0
    ·obtain ⟨b, off, e, _⟩ := hi'.cell 0 h0; cases e
   subst hm
   have hl : l' = [] := List.eq_nil_of_length_eq_zero hi'.hlen
   subst hl
   refine wp_append_nothing w s x 24 ho base 3 i 1 Try.underlying24 hi v l.length _ hs hown c hx ?_
   exact h v w (by simpa using hown) (World.grownBy.refl _ _) (Near.refl _ _)
 | some ad =>
   refine wp_append_near w s x 24 ho base 3 i (.int .i64 0) 1 8 Try.underlying24 hi hz0 hz1 hz2 rfl (by decide) v l.length (l.map (Value.int .i64)) hs hown ad m c (l'.map (Value.int .i64)) hx (by simp [hi'.hlen]) ?_ ?_ (by simp [maxLen]; omega) (by omega) hbase ?_
   ·intro j u hu
    have hj : j < m := by
     have := (List.getElem?_eq_some_iff.1 hu).1
     simpa [hi'.hlen] using this
    have hj' : j < l'.length := by have := hi'.hlen; omega
    obtain ⟨b, off, e, hc⟩ := hi'.cell j hj
    simp only [Option.some.injEq] at e
    subst e
    have ha : (⟨b, off, none⟩ : Addr).add j = ⟨b, off + j, none⟩ := by unfold Addr.add; split <;> simp_all
    rw [ha, hc j hj]
    simp only [List.getElem?_map, List.getElem?_eq_getElem hj', Option.map_some, Option.some.injEq, Option.getD_some] at hu ⊢
    exact hu
   ·intro u hu
    obtain ⟨z, _, rfl⟩ := List.mem_map.1 hu
    rfl
   ·intro v' w' h1 h2 h3
    refine h v' w' ?_ h2 h3
    unfold OwnI
    rw [List.length_append, hi'.hlen, List.map_append]
    exact h1
theorem append_ints (hgd : o.guard = none) (s x : Operand) (ho : o.op = .call { callee := .builtin .append, args := #[s, x], argTypes := #[24, 24] })
 (base : Nat) (v : Value) (l : List Int) (hs : a.eval s = v) (hown : OwnI w base v l) (ao : Option Addr) (m c : Nat) (l' : List Int) (hx : a.eval x = .slice ao m c) (hi' : Ints w ao m c l') (hb : l.length + m ≤ 1099511627776) (hbase : base ≤ w.heap.size)
 (h : ∀ v' w', OwnI w' base v' (l ++ l') → w.grownBy w' v.ownBlock → Near w v v' → wpList Try.prog ops Q rest (a.put o.dst v') w') : wpList Try.prog ops Q (o :: rest) a w :=
 wpList_plain hgd fun _ hK => wp_append_ints s x ho base v l hs hown ao m c l' hx hi' hb hbase fun v' w' h1 h2 h3 => hK _ _ (h v' w' h1 h2 h3)
theorem wp_append_slice {K : Act → World → Prop} (s x : Operand) (ho : o.op = .call { callee := .builtin .append, args := #[s, x], argTypes := #[40, 40] })
 (base : Nat) (v : Value) (vs : List Value) (hs : a.eval s = v) (hown : OwnV w base v vs) (ad : Addr) (u : Value) (c : Nat) (hx : a.eval x = .slice (some ad) 1 c)
 (hcell : w.cell? ad = some u) (h1c : u.oneCell' = true) (hb : vs.length ≤ 1099511627775) (hbase : base ≤ w.heap.size)
 (h : ∀ v' w', OwnV w' base v' (vs ++ [u]) → w.grownBy w' v.ownBlock → Near w v v' → K (a.put o.dst v') w') : o.wp Try.prog a w K Q := by
 obtain ⟨i, hi, hz0, hz1, hz2⟩ := info_parts Try.infoInts
 refine wp_append_near w s x 40 ho base 24 i (.slice none 0 0) 1 24 Try.underlying40 hi hz0 hz1 hz2 rfl (by decide) v vs.length vs hs hown ad 1 c [u] hx rfl ?_ ?_ (by simp [maxLen]; omega) (by omega) hbase ?_
 ·intro j u' hu
  match j with
  | 0 => simpa [Addr.add] using hu ▸ hcell
  | j + 1 => simp at hu
 ·intro u' hu
  simp only [List.mem_singleton] at hu
  rw [hu]
  exact h1c
 ·intro v' w' h1 h2 h3
  refine h v' w' ?_ h2 h3
  unfold OwnV
  rw [List.length_append]
  exact h1
theorem append_slice (hgd : o.guard = none) (s x : Operand) (ho : o.op = .call { callee := .builtin .append, args := #[s, x], argTypes := #[40, 40] })
 (base : Nat) (v : Value) (vs : List Value) (hs : a.eval s = v) (hown : OwnV w base v vs) (ad : Addr) (u : Value) (c : Nat) (hx : a.eval x = .slice (some ad) 1 c)
 (hcell : w.cell? ad = some u) (h1c : u.oneCell' = true) (hb : vs.length ≤ 1099511627775) (hbase : base ≤ w.heap.size)
 (h : ∀ v' w', OwnV w' base v' (vs ++ [u]) → w.grownBy w' v.ownBlock → Near w v v' → wpList Try.prog ops Q rest (a.put o.dst v') w') : wpList Try.prog ops Q (o :: rest) a w :=
 wpList_plain hgd fun _ hK => wp_append_slice s x ho base v vs hs hown ad u c hx hcell h1c hb hbase fun v' w' h1 h2 h3 => hK _ _ (h v' w' h1 h2 h3)
end
theorem Ints.one (w : World) (x : Int) (t : TypeId) : Ints (w.alloc (.cells #[.int .i64 x] t)) (some ⟨w.heap.size, 0, none⟩) 1 1 [x] :=
 ⟨rfl, Nat.le_refl _, by omega, fun k hk => ⟨_, 0, rfl, fun k hk => by
  obtain rfl : k = 0 := by omega
  simp⟩⟩
def seqI (k : Int) (n : Nat) : List Int := (List.range n).map fun (i : Nat) => k + (i : Int)
theorem seqI_len (k : Int) (n : Nat) : (seqI k n).length = n := by simp [seqI]
theorem seqI_at (k : Int) (n i : Nat) (h : i < n) : (seqI k n)[i]?.getD 0 = k + i := by simp [seqI, h]
def markI (k : Int) (l : List Int) (i : Nat) : List Int := seqI k i ++ l.drop i
theorem markI_zero (k : Int) (l : List Int) : markI k l 0 = l := by simp [markI, seqI]
theorem markI_all (k : Int) (l : List Int) : markI k l l.length = seqI k l.length := by simp [markI]
theorem markI_set (k : Int) (l : List Int) (i : Nat) (h : i < l.length) : (markI k l i).set i (k + i) = markI k l (i + 1) := by
 unfold markI
 rw [List.set_append_right _ _ (by simp [seqI])]
 have : i - (seqI k i).length = 0 := by simp [seqI]
 rw [this, List.drop_eq_getElem_cons h, List.set_cons_zero]
 simp [seqI, List.range_succ]
theorem OwnI.set {w : World} {base g n cap : Nat} {l : List Int} (h : OwnI w base (.slice (some ⟨g, 0, none⟩) n cap) l) (k : Nat) (x : Int) :
 OwnI (w.setCell ⟨g, k, none⟩ (.int .i64 x)) base (.slice (some ⟨g, 0, none⟩) n cap) (l.set k x) := by
 obtain ⟨a', c', he, _⟩ := OwnI.form h
 simp only [Value.slice.injEq] at he
 obtain ⟨_, rfl, _⟩ := he
 have := (World.ownsRow.stored h k (.int .i64 x)).1
 unfold OwnI
 rw [List.length_set, List.map_set]
 exact this
theorem OwnI.block {w : World} {base : Nat} {a : Option Addr} {n cap : Nat} {l : List Int} (h : OwnI w base (.slice a n cap) l) {k : Nat} (hk : k < n) : ∃ g, a = some ⟨g, 0, none⟩ ∧ base ≤ g ∧ (∀ j, w.frozen? ⟨g, j, none⟩ = false) ∧ g < w.heap.size := by
 rcases h.2 with ⟨he, h0⟩ | ⟨g, cap', cur, he, hb, hg, _⟩
 ·simp only [Value.slice.injEq] at he
  omega
 ·simp only [Value.slice.injEq] at he
  obtain ⟨rfl, _⟩ := he
  exact ⟨g, rfl, hb, fun j => frozen_of_row w g j cur _ hg, lt_of_block hg⟩
set_option maxHeartbeats 400000 in
theorem l_markIntS {w : World} {base : Nat} {a : Option Addr} {n cap : Nat} {l : List Int} (h : OwnI w base (.slice a n cap) l) (k0 : Int) (h0 : 0 ≤ k0) (h1 : k0 + n ≤ 4611686018427387904) :
 Calls Try.prog 118 #[.slice a n cap, .int .i64 k0] w fun e w' => e = .returned (.int .i64 (k0 + n)) ∧ OwnI w' base (.slice a n cap) (seqI k0 n) ∧ w.grownBy w' (Value.slice a n cap).ownBlock ∧ w'.heap.size = w.heap.size := by
 have HL := Lib.hid h.ints.hlen
 go_enter Try.func118, Try.ntmps118
 go_wp2
 go_loopw [1, 5] (fun t i wr => ∃ k : Nat, k ≤ n ∧ i = .int .i64 k ∧ t = .int .i64 (k0 + k) ∧ OwnI wr base (.slice a n cap) (markI k0 l k) ∧ w.grownBy wr (Value.slice a n cap).ownBlock ∧ Hid (wr.heap.size = w.heap.size)) (fun _ i _ => n - (intOf i).toNat)
 case atStart => exact ⟨0, Nat.zero_le _, rfl, by simp, by rw [markI_zero]; exact h, World.grownBy.refl _ _, Lib.hid rfl⟩
 case round =>
  obtain ⟨k, hk, rfl, rfl, hown, hg, HS⟩ := hrel
  by_cases hlt : k < n
  ·obtain ⟨g, rfl, hb, hfz, hgl⟩ := hown.block hlt
   obtain ⟨b, off, he, hc⟩ := hown.ints.at hlt
   simp only [Option.some.injEq, Addr.mk.injEq, and_true] at he
   obtain ⟨rfl, rfl⟩ := he
   rw [Nat.zero_add] at hc
   have hfk := hfz k
   obtain ⟨v0, hc0⟩ : ∃ v0, wr.cell? ⟨g, k, none⟩ = some v0 := ⟨_, hc⟩
   clear hc hfz
   have HO := Lib.hid hown
   have HG := Lib.hid hg
   clear hown hg
   go_wp2
   go_roundw
   case rel =>
    refine ⟨k + 1, by omega, by go_num, by go_num, ?_, ?_, Lib.hid (by simp [HS.out])⟩
    ·rw [← markI_set _ _ _ (by have := HL.out; omega)]; exact HO.out.set k _
    ·have hg := HG.out
     exact ⟨hg.os, hg.tape, hg.output, by simpa using hg.size, fun j hj hne => (heap_setCell_other wr _ j _ (by intro e; exact hne (by simp [Value.ownBlock, e]))).trans (hg.block j hj hne)⟩
   case measure => simp [intOf]; omega
  ·have HO := Lib.hid hown
   have HG := Lib.hid hg
   clear hown hg
   go_wp2
   go_ret
   have hkn : k = n := by omega
   subst hkn
   have := HO.out
   have hl := HL.out
   rw [← hl, markI_all, hl] at this
   exact ⟨rfl, this, HG.out, HS.out⟩
set_option maxHeartbeats 400000 in
theorem l_heldIntS {w : World} {a : Option Addr} {n cap : Nat} (k0 : Int) (h : Ints w a n cap (seqI k0 n)) (h0 : 0 ≤ k0) (h1 : k0 + n ≤ 4611686018427387904) :
 Calls Try.prog 119 #[.slice a n cap, .int .i64 k0] w fun e w' => e = .returned (.int .i64 (k0 + n)) ∧ w = w' := by
 have hcap := h.hcap
 have hmax := h.hmax
 go_enter Try.func119, Try.ntmps119
 go_wp2
 go_loop [1, 5] (fun t i => ∃ k : Nat, k ≤ n ∧ i = .int .i64 k ∧ t = .int .i64 (k0 + k)) (fun _ i => n - (intOf i).toNat)
 case atStart => exact ⟨0, Nat.zero_le _, rfl, by simp⟩
 case round =>
  obtain ⟨k, hk, rfl, rfl⟩ := hrel
  by_cases hlt : k < n
  ·obtain ⟨b, off, rfl, hc⟩ := h.at hlt
   rw [seqI_at _ _ _ hlt] at hc
   have hne : ((k0 + (k : Int)) != (k0 + (k : Int))) = false := by simp
   go_wp2
   go_round
   case rel => exact ⟨k + 1, by omega, by go_num, by go_num⟩
   case measure => simp [intOf]; omega
  ·go_wp2
   go_ret
   have hkn : k = n := by omega
   subst hkn
   exact ⟨rfl, rfl⟩
structure RowsI (w : World) (base : Nat) (vs : List Value) (L : List (List Int)) : Prop where
 len : vs.length = L.length
 row : ∀ i, i < L.length → OwnI w base (vs[i]?.getD undef) (L[i]?.getD [])
 apart : ∀ i j k, i < j → j < L.length → (vs[i]?.getD undef).ownBlock = some k → (vs[j]?.getD undef).ownBlock ≠ some k
theorem RowsI.keep {w w' : World} {base : Nat} {vs : List Value} {L : List (List Int)} (h : RowsI w base vs L) (hk : ∀ i k, i < L.length → (vs[i]?.getD undef).ownBlock = some k → w'.heap[k]? = w.heap[k]?) : RowsI w' base vs L :=
 ⟨h.len, fun i hi => (h.row i hi).keep fun k hk' => hk i k hi hk', h.apart⟩
theorem RowsI.ext {w w' : World} {base : Nat} {vs : List Value} {L : List (List Int)} (h : RowsI w base vs L) (hx : Ext w w') : RowsI w' base vs L :=
 h.keep fun i k hi hk => hx.block k ((h.row i hi).lt k hk).2
theorem RowsI.nil (w : World) (base : Nat) : RowsI w base [] [] := ⟨rfl, fun i hi => absurd hi (by simp), fun i j k _ hj => absurd hj (by simp)⟩
theorem RowsI.on {w : World} {base : Nat} {vs : List Value} {L : List (List Int)} (h : RowsI w base vs L) : On base w (fun W => RowsI W base vs L) :=
 fun w2 h2 => h.keep fun i k hi hk => h2 k ((h.row i hi).lt k hk).1 ((h.row i hi).lt k hk).2
theorem RowsI.snoc {w w' : World} {base : Nat} {vs : List Value} {L : List (List Int)} (h : RowsI w base vs L) (hx : Ext w w') {v : Value} {l : List Int} (ho : OwnI w' w.heap.size v l) (hb : base ≤ w.heap.size) : RowsI w' base (vs ++ [v]) (L ++ [l]) := by
 have h' := h.ext hx
 refine ⟨by simp [h.len], fun i hi => ?_, fun i j k hij hj hk => ?_⟩
 ·by_cases hl : i < L.length
  ·rw [List.getElem?_append_left (by rw [h.len]; exact hl), List.getElem?_append_left hl]; exact h'.row i hl
  ·have : i = L.length := by simp at hi; omega
   subst this
   rw [← h.len]
   simp only [List.getElem?_concat_length, Option.getD_some]
   rw [h.len]
   simp only [List.getElem?_concat_length, Option.getD_some]
   exact ho.mono hb
 ·by_cases hl : j < L.length
  ·rw [List.getElem?_append_left (by rw [h.len]; omega)] at hk
   rw [List.getElem?_append_left (by rw [h.len]; exact hl)]
   exact h.apart i j k hij hl hk
  ·have : j = L.length := by simp at hj; omega
   subst this
   rw [List.getElem?_append_left (by rw [h.len]; omega)] at hk
   rw [← h.len]
   simp only [List.getElem?_concat_length, Option.getD_some]
   intro hk'
   have h1 := ((h.row i (by omega)).lt k hk).2
   have h2 := (ho.lt k hk').1
   omega
def OwnSS (w : World) (base : Nat) (v : Value) (L : List (List Int)) : Prop := ∃ vs, OwnV w base v vs ∧ RowsI w base vs L
theorem OwnSS.form {w : World} {base : Nat} {v : Value} {L : List (List Int)} (h : OwnSS w base v L) : ∃ a cap, v = .slice a L.length cap ∧ L.length ≤ cap ∧ cap ≤ 9223372036854775807 := by
 obtain ⟨vs, h1, h2⟩ := h
 have := h1.form
 rwa [h2.len] at this
theorem OwnSS.var {w : World} {base : Nat} {v : Value} {L : List (List Int)} (h : OwnSS w base v L) : ∃ a n cap, v = .slice a n cap ∧ Hid (L.length = n) := by
 obtain ⟨a, cap, e, _⟩ := h.form
 exact ⟨a, _, cap, e, rfl⟩
theorem OwnSS.ext {w w' : World} {base : Nat} {v : Value} {L : List (List Int)} (h : OwnSS w base v L) (hx : Ext w w') : OwnSS w' base v L :=
 let ⟨vs, h1, h2⟩ := h; ⟨vs, h1.ext hx, h2.ext hx⟩
theorem OwnSS.on {w : World} {base : Nat} {v : Value} {L : List (List Int)} (h : OwnSS w base v L) : On base w (fun W => OwnSS W base v L) :=
 let ⟨vs, h1, h2⟩ := h; fun w2 hw => ⟨vs, h1.on w2 hw, h2.on w2 hw⟩
theorem OwnSS.nil (w : World) (base : Nat) : OwnSS w base (.slice none 0 0) [] := ⟨[], OwnV.nil w base, RowsI.nil w base⟩
theorem OwnSS.intss {w : World} {base : Nat} {a : Option Addr} {n cap : Nat} {L : List (List Int)} (h : OwnSS w base (.slice a n cap) L) : IntSS w a n cap L := by
 obtain ⟨a', cap', he, h1, h2⟩ := h.form
 simp only [Value.slice.injEq] at he
 obtain ⟨rfl, rfl, rfl⟩ := he
 obtain ⟨vs, h3, h4⟩ := h
 refine ⟨rfl, h1, h2, fun k hk => ?_⟩
 obtain ⟨g, rfl, _, hc⟩ := h3.cell hk
 refine ⟨g, 0, rfl, fun k hk => ?_⟩
 have hv : k < vs.length := by rw [h4.len]; exact hk
 obtain ⟨a', cap', hf, _⟩ := (h4.row k hk).form
 have ho := h4.row k hk
 rw [hf] at ho
 refine ⟨a', _, cap', ?_, ho.ints⟩
 rw [Nat.zero_add, hc k hk, ← hf]
 simp [hv]
def numb : Int → List (List Int) → List (List Int)
 | _, [] => []
 | k, l :: L => seqI k l.length :: numb (k + l.length) L
def cnt (L : List (List Int)) : Int := (L.map fun l => (l.length : Int)).sum
theorem cnt_nonneg : ∀ L : List (List Int), 0 ≤ cnt L
 | [] => by simp [cnt]
 | l :: L => by have := cnt_nonneg L; simp only [cnt, List.map_cons, List.sum_cons] at *; omega
theorem cnt_append (A B : List (List Int)) : cnt (A ++ B) = cnt A + cnt B := by simp [cnt]
theorem numb_len : ∀ (k : Int) (L : List (List Int)), (numb k L).length = L.length
 | _, [] => rfl
 | k, l :: L => by simp [numb, numb_len]
theorem numb_append : ∀ (k : Int) (A B : List (List Int)), numb k (A ++ B) = numb k A ++ numb (k + cnt A) B
 | k, [], B => by simp [numb, cnt]
 | k, l :: A, B => by
   simp only [List.cons_append, numb, numb_append _ A B, cnt, List.map_cons, List.sum_cons]
   congr 3
   omega
theorem numb_at (k : Int) (L : List (List Int)) (i : Nat) (h : i < L.length) : (numb k L)[i]?.getD [] = seqI (k + cnt (L.take i)) (L[i]?.getD []).length := by
 have h1 : L = L.take i ++ (L[i] :: L.drop (i + 1)) := by rw [← List.drop_eq_getElem_cons h, List.take_append_drop]
 conv => lhs; rw [h1, numb_append]
 rw [List.getElem?_append_right (by rw [numb_len]; simp; omega), numb_len]
 have : i - (List.take i L).length = 0 := by simp; omega
 rw [this]
 simp [numb, h]
theorem cnt_take_le (L : List (List Int)) (i : Nat) : cnt (L.take i) ≤ cnt L := by
 have h := cnt_append (L.take i) (L.drop i)
 rw [List.take_append_drop] at h
 have := cnt_nonneg (L.drop i)
 omega
theorem cnt_take_succ (L : List (List Int)) (i : Nat) (h : i < L.length) : cnt (L.take (i + 1)) = cnt (L.take i) + ((L[i]?.getD []).length : Int) := by
 rw [takeL_snoc h, cnt_append]; simp [cnt]
def markSS (k : Int) (L : List (List Int)) (i : Nat) : List (List Int) := numb k (L.take i) ++ L.drop i
theorem markSS_len (k : Int) (L : List (List Int)) (i : Nat) (h : i ≤ L.length) : (markSS k L i).length = L.length := by simp [markSS, numb_len]; omega
theorem markSS_all (k : Int) (L : List (List Int)) : markSS k L L.length = numb k L := by simp [markSS]
theorem markSS_lo (k : Int) (L : List (List Int)) (i j : Nat) (h : i ≤ j) (hj : j < L.length) : (markSS k L i)[j]?.getD [] = L[j]?.getD [] := by
 unfold markSS
 rw [List.getElem?_append_right (by rw [numb_len]; simp; omega), numb_len]
 have : (List.take i L).length = i := by simp; omega
 rw [this, List.getElem?_drop]
 congr 2
 omega
theorem markSS_hi (k : Int) (L : List (List Int)) (i i' j : Nat) (h : j < i) (h' : j < i') (hj : j < L.length) : (markSS k L i)[j]?.getD [] = (markSS k L i')[j]?.getD [] := by
 have key : ∀ i, j < i → (markSS k L i)[j]?.getD [] = seqI (k + cnt (L.take j)) (L[j]?.getD []).length := fun i h => by
  unfold markSS
  rw [List.getElem?_append_left (by rw [numb_len]; simp; omega), numb_at _ _ _ (by simp; omega), List.take_take, Nat.min_eq_left (by omega)]
  congr 3
  rw [List.getElem?_take, if_pos h]
 rw [key i h, key i' h']
theorem RowsI.marked {w w' : World} {base : Nat} {vs : List Value} {L : List (List Int)} {k0 : Int} {i : Nat} (h : RowsI w base vs (markSS k0 L i)) (hi : i < L.length)
 (ho : OwnI w' base (vs[i]?.getD undef) (seqI (k0 + cnt (L.take i)) (L[i]?.getD []).length)) (hg : w.grownBy w' (vs[i]?.getD undef).ownBlock) : RowsI w' base vs (markSS k0 L (i + 1)) := by
 have hl := markSS_len k0 L i (by omega)
 have hl' := markSS_len k0 L (i + 1) (by omega)
 have hlen := h.len
 refine ⟨by omega, fun j hj => ?_, fun a b k hab hb => h.apart a b k hab (by omega)⟩
 by_cases hji : j = i
 ·subst hji
  have : (markSS k0 L (j + 1))[j]?.getD [] = seqI (k0 + cnt (L.take j)) (L[j]?.getD []).length := by
   unfold markSS
   rw [List.getElem?_append_left (by rw [numb_len]; simp; omega), numb_at _ _ _ (by simp; omega), List.take_take, Nat.min_eq_left (by omega)]
   congr 3
   rw [List.getElem?_take, if_pos (by omega)]
  rw [this]
  exact ho
 ·have he : (markSS k0 L (i + 1))[j]?.getD [] = (markSS k0 L i)[j]?.getD [] := by
   by_cases hlt : j < i
   ·exact markSS_hi _ _ _ _ _ (by omega) hlt (by omega)
   ·rw [markSS_lo _ _ _ _ (by omega) (by omega), markSS_lo _ _ _ _ (by omega) (by omega)]
  rw [he]
  refine (h.row j (by omega)).keep fun k hk => hg.block k ((h.row j (by omega)).lt k hk).2 fun e => ?_
  by_cases hlt : j < i
  ·exact h.apart j i k hlt (by omega) hk e.symm
  ·exact h.apart i j k (by omega) (by omega) e.symm hk
set_option maxHeartbeats 400000 in
theorem l_markIntSS {w : World} {base : Nat} {a : Option Addr} {n cap : Nat} {L : List (List Int)} (h : OwnSS w base (.slice a n cap) L) (k0 : Int) (h0 : 0 ≤ k0) (h1 : k0 + cnt L ≤ 4611686018427387904) :
 Calls Try.prog 54 #[.slice a n cap, .int .i64 k0] w fun e w' => e = .returned (.int .i64 (k0 + cnt L)) ∧ OwnSS w' base (.slice a n cap) (numb k0 L) ∧ Below base w w' ∧ w'.heap.size = w.heap.size := by
 have hI := h.intss
 have hcap := hI.hcap
 have hmax := hI.hmax
 have HL := Lib.hid hI.hlen
 obtain ⟨vs, hv, hr⟩ := h
 clear hI
 go_enter Try.func54, Try.ntmps54
 go_wp2
 go_loopw [1, 5] (fun t i wr => ∃ (k : Nat) (z : Int), k ≤ n ∧ i = .int .i64 k ∧ t = .int .i64 z ∧ Hid (z = k0 + cnt (L.take k)) ∧ OwnV wr base (.slice a n cap) vs ∧ RowsI wr base vs (markSS k0 L k) ∧ Below base w wr ∧ Hid (wr.heap.size = w.heap.size)) (fun _ i _ => n - (intOf i).toNat)
 case atStart => exact ⟨0, k0, Nat.zero_le _, rfl, rfl, Lib.hid (by simp [cnt]), hv, by simpa [markSS, numb] using hr, Below.refl _ _, Lib.hid rfl⟩
 case round =>
  obtain ⟨k, z, hk, rfl, rfl, HZ, hv', hr', hb, HS⟩ := hrel
  by_cases hlt : k < n
  ·obtain ⟨g, rfl, hbg, hc⟩ := hv'.cell hlt
   have hkl : k < L.length := by have := HL.out; omega
   have hrow := hr'.row k (by rw [markSS_len _ _ _ (by omega)]; exact hkl)
   rw [markSS_lo _ _ _ _ (Nat.le_refl _) hkl] at hrow
   obtain ⟨a1, c1, he, _⟩ := hrow.form
   have hck : wr.cell? ⟨g, k, none⟩ = some (.slice a1 (L[k]?.getD []).length c1) := by
    rw [hc k hlt, ← he]
    have : k < vs.length := by rw [hr'.len, markSS_len _ _ _ (by omega)]; exact hkl
    simp [this]
   have hrow' := hrow
   rw [he] at hrow'
   have hz0 : 0 ≤ z := by rw [HZ.out]; have := cnt_nonneg (L.take k); omega
   have hz1 : z + ((L[k]?.getD []).length : Int) ≤ 4611686018427387904 := by
    rw [HZ.out]
    have := cnt_take_le L (k + 1)
    rw [cnt_take_succ L k hkl] at this
    omega
   have HR := Lib.hid hr'
   have HE := Lib.hid he
   have HV := Lib.hid hv'
   have HRW := Lib.hid hrow'
   have HB := Lib.hid hb
   obtain ⟨m, hm⟩ : ∃ m, m = (L[k]?.getD []).length := ⟨_, rfl⟩
   rw [← hm] at hck HRW hz1
   have HM := Lib.hid hm
   clear hr' hrow hrow' hc hv' hb hm he
   go_wp2_with fail
   refine (l_markIntS HRW.out z hz0 hz1).mono ?_
   rintro e w1 ⟨rfl, ho, hg, hsz⟩
   have HG := Lib.hid hg
   have HO := Lib.hid ho
   have HSZ := Lib.hid hsz
   clear hg ho hsz
   go_wp2
   go_roundw
   case rel =>
    refine ⟨k + 1, z + m, by omega, by go_num, rfl, Lib.hid ?_, ?_, ?_, ?_, Lib.hid ?_⟩
    ·rw [cnt_take_succ L k hkl, HZ.out, HM.out]; omega
    ·refine HV.out.keep fun j hj => HG.out.block j (HV.out.lt j hj).2 fun e => ?_
     exact HRW.out.apart HV.out j e.symm hj
    ·refine HR.out.marked hkl ?_ ?_
     ·rw [HE.out, ← HM.out, ← HZ.out]; exact HO.out
     ·rw [HE.out, ← HM.out]; exact HG.out
    ·have hl := fun j hj => (HRW.out.lt j hj).1
     refine HB.out.trans ⟨HG.out.os, HG.out.tape, HG.out.output, HG.out.size, fun j hj => ?_⟩
     by_cases hjs : j < wr.heap.size
     ·exact HG.out.block j hjs fun e => by have := hl j e.symm; omega
     ·rw [Array.getElem?_eq_none (by have := HSZ.out; omega), Array.getElem?_eq_none (by omega)]
    ·rw [HSZ.out, HS.out]
   case measure => simp [intOf]; omega
  ·have HR := Lib.hid hr'
   have HV := Lib.hid hv'
   have HB := Lib.hid hb
   clear hr' hv' hb
   go_wp2
   go_ret
   have hkl : k = L.length := by have := HL.out; omega
   refine ⟨ret_int ?_, ⟨vs, HV.out, ?_⟩, HB.out, HS.out⟩
   ·rw [HZ.out, hkl, List.take_length]
   ·have := HR.out
    rwa [hkl, markSS_all] at this
set_option maxHeartbeats 400000 in
theorem l_heldIntSS {w : World} {a : Option Addr} {n cap : Nat} {L : List (List Int)} (k0 : Int) (h : IntSS w a n cap (numb k0 L)) (h0 : 0 ≤ k0) (h1 : k0 + cnt L ≤ 4611686018427387904) :
 Calls Try.prog 55 #[.slice a n cap, .int .i64 k0] w fun e w' => e = .returned (.int .i64 (k0 + cnt L)) ∧ w = w' := by
 have hcap := h.hcap
 have hmax := h.hmax
 have HL := Lib.hid h.hlen
 go_enter Try.func55, Try.ntmps55
 go_wp2
 go_loop [1, 5] (fun t i => ∃ (k : Nat) (z : Int), k ≤ n ∧ i = .int .i64 k ∧ t = .int .i64 z ∧ Hid (z = k0 + cnt (L.take k))) (fun _ i => n - (intOf i).toNat)
 case atStart => exact ⟨0, k0, Nat.zero_le _, rfl, rfl, Lib.hid (by simp [cnt])⟩
 case round =>
  obtain ⟨k, z, hk, rfl, rfl, HZ⟩ := hrel
  by_cases hlt : k < n
  ·have hkl : k < L.length := by have := HL.out; rw [numb_len] at this; omega
   obtain ⟨b, off, a1, n1, c1, rfl, hc, hr⟩ := h.at hlt
   rw [numb_at _ _ _ hkl] at hr
   have hn1 : n1 = (L[k]?.getD []).length := by have := hr.hlen; rw [seqI_len] at this; exact this.symm
   rw [← hn1, ← HZ.out] at hr
   have hz0 : 0 ≤ z := by rw [HZ.out]; have := cnt_nonneg (L.take k); omega
   have hz1 : z + (n1 : Int) ≤ 4611686018427387904 := by
    rw [HZ.out]
    have := cnt_take_le L (k + 1)
    rw [cnt_take_succ L k hkl] at this
    omega
   have HN := Lib.hid hn1
   have HR := Lib.hid hr
   clear hn1 hr
   go_wp2_with (first | (go_at_call 119; refine (l_heldIntS z HR.out hz0 hz1).mono ?_; rintro e w' ⟨rfl, rfl⟩))
   go_round
   case rel => exact ⟨k + 1, z + n1, by omega, by go_num, rfl, Lib.hid (by rw [cnt_take_succ L k hkl, HZ.out, HN.out]; omega)⟩
   case measure => simp [intOf]; omega
  ·go_wp2
   go_ret
   have hkl : k = L.length := by have := HL.out; rw [numb_len] at this; omega
   exact ⟨ret_int (by rw [HZ.out, hkl, List.take_length]), rfl⟩
theorem Row.own {w : World} {b base : Nat} {l : List Int} {n : Nat} (h : Row w b 3 l) (hb : base ≤ b) (hn : l.length = n) (hm : n ≤ 1099511627776) : OwnI w base (.slice (some ⟨b, 0, none⟩) n n) l := by
 subst hn
 refine ⟨by simp, .inr ⟨b, l.length, intCells l, rfl, hb, h, ?_, ?_, ?_, ?_⟩⟩
 ·omega
 ·simp [maxLen]; omega
 ·simp [intCells]
 ·simp [intCells, List.take_of_length_le]
end Go.Proofs.Ytgohdmnbnhehnaa
namespace Go.Proofs.Ytgohdmnbnhehnaa
set_option linter.unusedVariables false
open Go.RowKit
theorem OwnI.made (w : World) (base : Nat) (hb : base ≤ w.heap.size) : OwnI (w.alloc (.cells #[] 3)) base (.slice (some ⟨w.heap.size, 0, none⟩) 0 0) [] :=
 World.ownsRow_lit w #[] 0 hb (by omega) rfl
theorem OwnV.made (w : World) (base : Nat) (hb : base ≤ w.heap.size) : OwnV (w.alloc (.cells #[] 24)) base (.slice (some ⟨w.heap.size, 0, none⟩) 0 0) [] :=
 World.ownsRow_lit w #[] 0 hb (by omega) rfl
theorem RowsI.grown {w w' : World} {base base' : Nat} {v : Value} {vs : List Value} {L : List (List Int)} (h : RowsI w base vs L) {us : List Value} (hv : OwnV w base' v us) (hg : w.grownBy w' v.ownBlock) : RowsI w' base vs L :=
 h.keep fun i k hi hk => hg.block k ((h.row i hi).lt k hk).2 fun e => (h.row i hi).apart hv k hk e.symm
theorem OwnI.grown {w w' : World} {base base' : Nat} {v u : Value} {us : List Value} {l : List Int} (h : OwnI w base u l) (hv : OwnV w base' v us) (hg : w.grownBy w' v.ownBlock) : OwnI w' base u l :=
 h.keep fun k hk => hg.block k (h.lt k hk).2 fun e => h.apart hv k hk e.symm
end Go.Proofs.Ytgohdmnbnhehnaa
