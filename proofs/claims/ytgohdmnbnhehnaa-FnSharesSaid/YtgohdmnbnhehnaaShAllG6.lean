import Derived.Test.YtgohdmnbnhehnaaShAllG0
import Derived.Test.YtgohdmnbnhehnaaShAllG2
import Derived.Test.YtgohdmnbnhehnaaShAllG5
import Derived.Test.YtgohdmnbnhehnaaShAllG3
import Derived.Test.YtgohdmnbnhehnaaShAllG4
namespace Go.Proofs.Ytgohdmnbnhehnaa
set_option linter.unusedVariables false
set_option linter.unusedSimpArgs false
open Go.RowKit
structure Rats (w : World) (a : Option Addr) (n cap : Nat) (l : List (Int × Int)) : Prop where
  hlen : l.length = n
  hcap : n ≤ cap
  hmax : cap ≤ 9223372036854775807
  cell : ∀ k, k < n → ∃ b off, a = some ⟨b, off, none⟩ ∧ ∀ k, k < n → w.cell? ⟨b, off + k * 2, none⟩ = some (.int .i64 (l[k]?.getD (0, 0)).1) ∧ w.cell? ⟨b, off + k * 2 + 1, none⟩ = some (.int .i64 (l[k]?.getD (0, 0)).2)
theorem Rats.ext {w w' : World} {a : Option Addr} {n cap : Nat} {l : List (Int × Int)} (h : Rats w a n cap l) (hx : Ext w w') : Rats w' a n cap l :=
  ⟨h.hlen, h.hcap, h.hmax, fun k hk => let ⟨b, off, e, hc⟩ := h.cell k hk; ⟨b, off, e, fun k hk => ⟨hx.cellSome (hc k hk).1, hx.cellSome (hc k hk).2⟩⟩⟩
theorem Rats.at {w : World} {a : Option Addr} {n cap : Nat} {l : List (Int × Int)} (h : Rats w a n cap l) {k : Nat} (hk : k < n) :
    ∃ b off x y, a = some ⟨b, off, none⟩ ∧ l[k]?.getD (0, 0) = (x, y) ∧ w.cell? ⟨b, off + k * 2, none⟩ = some (.int .i64 x) ∧ w.cell? ⟨b, off + k * 2 + 1, none⟩ = some (.int .i64 y) :=
  let ⟨b, off, e, hc⟩ := h.cell k hk; ⟨b, off, _, _, e, rfl, (hc k hk).1, (hc k hk).2⟩
theorem take_snocR {l : List (Int × Int)} {k : Nat} (h : k < l.length) : l.take (k+1) = l.take k ++ [l[k]?.getD (0, 0)] := by
  rw [List.take_succ_eq_append_getElem h]; simp [h]
set_option maxHeartbeats 1000000 in
theorem s_EqualVector {w : World} {a a' : Option Addr} {n n' cap cap' : Nat} {l l' : List (Int × Int)} (h : Rats w a n cap l) (h' : Rats w a' n' cap' l') :
    Calls Try.prog 20 #[.slice a n cap, .slice a' n' cap'] w fun e w' => e = .returned (.bool (decide (l = l'))) ∧ Drew w w' := by
  have hn := h.hcap
  have hm := h.hmax
  have hn' := h'.hcap
  have hm' := h'.hmax
  have HL := Lib.hid h.hlen
  have HL' := Lib.hid h'.hlen
  by_cases hne : n = n'
  · subst hne
    go_enter Try.func20, Try.ntmps20
    go_wp2
    go_loopw [5] (fun i wr => ∃ k : Nat, k ≤ n ∧ i = .int .i64 k ∧ l.take k = l'.take k ∧ Drew w wr) (fun i _ => n - (intOf i).toNat)
    case atStart => exact ⟨0, Nat.zero_le _, rfl, rfl, Drew.refl _⟩
    case round =>
      obtain ⟨k, hk, rfl, htk, hx⟩ := hrel
      have HT := Lib.hid htk
      clear htk
      by_cases hlt : k < n
      · have h1 := h.ext hx.ext
        have h1' := h'.ext hx.ext
        obtain ⟨b, off, x, y, rfl, hxy, hc1, hc2⟩ := h1.at hlt
        obtain ⟨b', off', x', y', rfl, hxy', hc1', hc2'⟩ := h1'.at hlt
        have HXY := Lib.hid hxy
        have HXY' := Lib.hid hxy'
        clear hxy hxy'
        by_cases hq : x = x' ∧ y = y'
        · obtain ⟨rfl, rfl⟩ := hq
          go_wp2
          go_quiet (fail)
          go_wp2
          go_roundw
          case rel => exact ⟨k + 1, by omega, by go_num, by rw [take_snocR (by have := HL.out; omega), take_snocR (by have := HL'.out; omega), HT.out, HXY.out, HXY'.out], hx.trans ⟨_, rfl⟩⟩
          case measure => simp [intOf]; omega
        · have HQ := Lib.hid hq
          cases hx1 : (x == x')
          all_goals
            cases hy1 : (y == y')
          case neg.true.true => exact absurd ⟨by simpa using hx1, by simpa using hy1⟩ hq
          all_goals
            clear hq
            go_wp2
            go_quiet (fail)
            go_wp2
            go_ret
            refine ⟨ret_bool ?_, hx.trans ⟨_, rfl⟩⟩
            symm
            rw [decide_eq_false_iff_not]
            intro e
            have := HXY.out.symm.trans ((congrArg (fun l => l[k]?.getD (0, 0)) e).trans HXY'.out)
            simp only [Prod.mk.injEq] at this
            exact HQ.out this
      · go_wp2
        go_ret
        refine ⟨ret_bool ?_, hx⟩
        symm
        rw [decide_eq_true_eq]
        have := HT.out
        rwa [List.take_of_length_le (by have := HL.out; omega), List.take_of_length_le (by have := HL'.out; omega)] at this
  · have hne' : ((n : Int) != (n' : Int)) = true := by simp; omega
    have HN := Lib.hid hne
    clear hne
    go_enter Try.func20, Try.ntmps20
    go_wp2
    go_ret
    refine ⟨ret_bool ?_, Drew.refl _⟩
    symm
    rw [decide_eq_false_iff_not]
    intro e
    exact HN.out (by rw [← HL.out, ← HL'.out, e])
def ratCells (l : List (Int × Int)) : Array Value := (l.flatMap fun p => [Value.int .i64 p.1, Value.int .i64 p.2]).toArray
theorem flat_at : ∀ (l : List (Int × Int)) (k : Nat), k < l.length → (l.flatMap fun p => [Value.int .i64 p.1, Value.int .i64 p.2])[k * 2]? = some (.int .i64 (l[k]?.getD (0, 0)).1) ∧ (l.flatMap fun p => [Value.int .i64 p.1, Value.int .i64 p.2])[k * 2 + 1]? = some (.int .i64 (l[k]?.getD (0, 0)).2)
  | [], k, h => absurd h (by simp)
  | p :: l, 0, _ => by simp
  | p :: l, k + 1, h => by
    have := flat_at l k (by simpa using h)
    rw [show (k + 1) * 2 = k * 2 + 1 + 1 by omega]
    simpa using this
theorem flat_set : ∀ (l : List (Int × Int)) (k : Nat) (x y : Int), k < l.length → ((l.flatMap fun p => [Value.int .i64 p.1, Value.int .i64 p.2]).set (k * 2) (.int .i64 x)).set (k * 2 + 1) (.int .i64 y) = (l.set k (x, y)).flatMap fun p => [Value.int .i64 p.1, Value.int .i64 p.2]
  | [], k, _, _, h => absurd h (by simp)
  | p :: l, 0, _, _, _ => by simp
  | p :: l, k + 1, x, y, h => by
    have := flat_set l k x y (by simpa using h)
    rw [show (k + 1) * 2 = k * 2 + 1 + 1 by omega]
    simpa using this
theorem flat_len : ∀ l : List (Int × Int), (l.flatMap fun p => [Value.int .i64 p.1, Value.int .i64 p.2]).length = l.length * 2
  | [] => rfl
  | p :: l => by have := flat_len l; simp at this ⊢; omega
def RRow (w : World) (b : Nat) (t : TypeId) (l : List (Int × Int)) : Prop := w.heap[b]? = some (.cells (ratCells l) t (0, 0))
theorem RRow.cell {w : World} {b : Nat} {t : TypeId} {l : List (Int × Int)} (h : RRow w b t l) {k : Nat} (hk : k < l.length) : w.cell? ⟨b, k * 2, none⟩ = some (.int .i64 (l[k]?.getD (0, 0)).1) ∧ w.cell? ⟨b, k * 2 + 1, none⟩ = some (.int .i64 (l[k]?.getD (0, 0)).2) := by
  rw [cell_of_row w b _ _ t _ h, cell_of_row w b _ _ t _ h]
  simpa [ratCells] using flat_at l k hk
theorem RRow.free {w : World} {b : Nat} {t : TypeId} {l : List (Int × Int)} (h : RRow w b t l) (k : Nat) : w.frozen? ⟨b, k, none⟩ = false := frozen_of_row w b k _ t h
theorem RRow.lt {w : World} {b : Nat} {t : TypeId} {l : List (Int × Int)} (h : RRow w b t l) : b < w.heap.size := lt_of_block h
theorem RRow.set {w : World} {b : Nat} {t : TypeId} {l : List (Int × Int)} (h : RRow w b t l) {k : Nat} (hk : k < l.length) (x y : Int) : RRow ((w.setCell ⟨b, k * 2, none⟩ (.int .i64 x)).setCell ⟨b, k * 2 + 1, none⟩ (.int .i64 y)) b t (l.set k (x, y)) := by
  have h1 := heap_setCell_same w b (k * 2) _ t (.int .i64 x) h
  have h2 := heap_setCell_same _ b (k * 2 + 1) _ t (.int .i64 y) h1
  unfold RRow
  rw [h2]
  have := flat_set l k x y hk
  simp only [ratCells, List.setIfInBounds_toArray, this]
theorem RRow.ext {w w' : World} {b : Nat} {t : TypeId} {l : List (Int × Int)} (h : RRow w b t l) (hx : Ext w w') : RRow w' b t l := (hx.block b h.lt).trans h
theorem RRow.rats {w : World} {b : Nat} {t : TypeId} {l : List (Int × Int)} (h : RRow w b t l) {n cap : Nat} (hn : l.length = n) (hc : n ≤ cap) (hm : cap ≤ 9223372036854775807) : Rats w (some ⟨b, 0, none⟩) n cap l :=
  ⟨hn, hc, hm, fun _ _ => ⟨b, 0, rfl, fun k hk => by rw [Nat.zero_add]; exact h.cell (by omega)⟩⟩
theorem Try.infoRat : (Try.prog.info? 34).map (fun i => (i.zero, i.size, i.bytes)) = some (some (.agg #[.int .i64 0, .int .i64 0]), 2, 16) := by kernel_rfl
theorem mk_rats (n : Nat) (hn : n ≤ 1099511627776) (w : World) :
    (Instr.makeSlice 29 (.int .i64 (n : Int)) (.int .i64 (n : Int))).run Try.prog w = .ok (.slice (some ⟨w.heap.size, 0, none⟩) n n) (w.alloc (.cells (ratCells (List.replicate n (0, 0))) 34)) := by
  obtain ⟨i, hi, hz0, hz1, hz2⟩ := info_parts Try.infoRat
  have hr := run_make (P := Try.prog) w 29 34 i (.agg #[.int .i64 0, .int .i64 0]) Try.underlying29 hi hz0 .i64 .i64 n n (by omega) (Int.le_refl _) (by rw [hz2]; omega) (by omega)
  simp only [Int.toNat_natCast] at hr
  rw [hr, hz1]
  have : madeCells (Value.agg #[.int .i64 0, .int .i64 0]).cells (n * 2) = ratCells (List.replicate n (0, 0)) := by
    have h1 : (madeCells (Value.agg #[.int .i64 0, .int .i64 0]).cells (n * 2)).toList = List.replicate (n * 2) (Value.int .i64 0) := by
      refine List.eq_replicate_iff.2 ⟨by simp [size_madeCells], fun b hb => ?_⟩
      unfold madeCells at hb
      simp only [Array.toList_map, List.mem_map] at hb
      obtain ⟨i, _, rfl⟩ := hb
      show (#[Value.int .i64 0, Value.int .i64 0] : Array Value)[i % 2]! = _
      have : i % 2 = 0 ∨ i % 2 = 1 := by omega
      rcases this with h | h <;> rw [h] <;> rfl
    have h2 : (ratCells (List.replicate n (0, 0))).toList = List.replicate (n * 2) (Value.int .i64 0) := by
      unfold ratCells
      refine List.eq_replicate_iff.2 ⟨by rw [flat_len]; simp, fun b hb => ?_⟩
      simp only [List.mem_flatMap, List.mem_replicate] at hb
      obtain ⟨p, ⟨_, rfl⟩, h⟩ := hb
      simpa using h
    exact Array.toList_inj.1 (h1.trans h2.symm)
  rw [this]
end Go.Proofs.Ytgohdmnbnhehnaa
namespace Go.Proofs.Ytgohdmnbnhehnaa
set_option linter.unusedVariables false
set_option linter.unusedSimpArgs false
open Go.RowKit
def ratL (l : List (Int × Int)) : List Value := l.flatMap fun p => [Value.int .i64 p.1, Value.int .i64 p.2]
theorem ratL_append (l l' : List (Int × Int)) : ratL (l ++ l') = ratL l ++ ratL l' := by simp [ratL]
theorem ratL_one : ∀ (l : List (Int × Int)), ∀ u ∈ ratL l, u.oneCell' = true
  | [], u, h => by simp [ratL] at h
  | p :: l, u, h => by
    simp only [ratL, List.flatMap_cons, List.mem_append, List.mem_cons, List.not_mem_nil, or_false] at h
    rcases h with (rfl | rfl) | h
    · rfl
    · rfl
    · exact ratL_one l u h
def OwnR (w : World) (base : Nat) (v : Value) (l : List (Int × Int)) : Prop := w.ownsRow base 34 2 v l.length (ratL l)
theorem OwnR.form {w : World} {base : Nat} {v : Value} {l : List (Int × Int)} (h : OwnR w base v l) : ∃ a cap, v = .slice a l.length cap ∧ l.length ≤ cap ∧ cap ≤ 9223372036854775807 := by
  rcases h.2 with ⟨rfl, h0⟩ | ⟨g, cap, cur, rfl, _, _, h1, h2, _⟩
  · exact ⟨none, 0, by rw [h0], by omega, by omega⟩
  · exact ⟨_, cap, rfl, h1, by simpa [maxLen] using h2⟩
theorem OwnR.var {w : World} {base : Nat} {v : Value} {l : List (Int × Int)} (h : OwnR w base v l) : ∃ a n cap, v = .slice a n cap ∧ Hid (l.length = n) := by
  obtain ⟨a, cap, e, _⟩ := h.form
  exact ⟨a, _, cap, e, rfl⟩
theorem OwnR.rats {w : World} {base : Nat} {a : Option Addr} {n cap : Nat} {l : List (Int × Int)} (h : OwnR w base (.slice a n cap) l) : Rats w a n cap l := by
  rcases h.2 with ⟨he, h0⟩ | ⟨g, cap', cur, he, _, hg, h1, h2, hs, ht⟩
  · simp only [Value.slice.injEq] at he
    obtain ⟨rfl, rfl, rfl⟩ := he
    exact ⟨h0, Nat.le_refl _, by omega, fun k hk => absurd hk (by omega)⟩
  · simp only [Value.slice.injEq] at he
    obtain ⟨rfl, rfl, rfl⟩ := he
    refine ⟨rfl, h1, by simpa [maxLen] using h2, fun k hk => ⟨g, 0, rfl, fun k hk => ?_⟩⟩
    rw [Nat.zero_add, cell_of_row w g _ cur _ (0, 0) hg, cell_of_row w g _ cur _ (0, 0) hg]
    obtain ⟨q1, q2⟩ := flat_at l k hk
    change (ratL l)[k * 2]? = _ at q1
    change (ratL l)[k * 2 + 1]? = _ at q2
    rw [← ht, List.getElem?_take, if_pos (by omega)] at q1 q2
    exact ⟨by simpa using q1, by simpa using q2⟩
theorem OwnR.lt {w : World} {base : Nat} {v : Value} {l : List (Int × Int)} (h : OwnR w base v l) : ∀ k, v.ownBlock = some k → base ≤ k ∧ k < w.heap.size := World.ownsRow.lt h
theorem OwnR.keep {w w' : World} {base : Nat} {v : Value} {l : List (Int × Int)} (h : OwnR w base v l) (hk : ∀ k, v.ownBlock = some k → w'.heap[k]? = w.heap[k]?) : OwnR w' base v l := by
  refine ⟨h.1, ?_⟩
  rcases h.2 with hn | ⟨g, cap, cur, rfl, hb, hgg, rest⟩
  · exact .inl hn
  · exact .inr ⟨g, cap, cur, rfl, hb, (hk g rfl).trans hgg, rest⟩
theorem OwnR.ext {w w' : World} {base : Nat} {v : Value} {l : List (Int × Int)} (h : OwnR w base v l) (hx : Ext w w') : OwnR w' base v l := h.keep fun k hk => hx.block k (h.lt k hk).2
theorem OwnR.on {w : World} {base : Nat} {v : Value} {l : List (Int × Int)} (h : OwnR w base v l) : On base w (fun W => OwnR W base v l) := fun w2 h2 => h.keep fun k hk => h2 k (h.lt k hk).1 (h.lt k hk).2
theorem OwnR.mono {w : World} {base base' : Nat} {v : Value} {l : List (Int × Int)} (h : OwnR w base v l) (hb : base' ≤ base) : OwnR w base' v l := by
  refine ⟨h.1, ?_⟩
  rcases h.2 with hn | ⟨g, cap, cur, rfl, hbb, rest⟩
  · exact .inl hn
  · exact .inr ⟨g, cap, cur, rfl, by omega, rest⟩
theorem OwnR.nil (w : World) (base : Nat) : OwnR w base (.slice none 0 0) [] := World.ownsRow_nil w base _ 2
theorem RRow.own {w : World} {b base : Nat} {l : List (Int × Int)} {n : Nat} (h : RRow w b 34 l) (hb : base ≤ b) (hn : l.length = n) (hm : n ≤ 1099511627776) : OwnR w base (.slice (some ⟨b, 0, none⟩) n n) l := by
  subst hn
  refine ⟨?_, .inr ⟨b, l.length, ratCells l, rfl, hb, h, Nat.le_refl _, by simp [maxLen]; omega, ?_, ?_⟩⟩
  · exact flat_len l
  · show (ratCells l).size = _
    unfold ratCells
    simpa using flat_len l
  · show List.take _ (ratCells l).toList = _
    exact List.take_of_length_le (by unfold ratCells; simpa using Nat.le_of_eq (flat_len l))
section
variable {P : Program} {w : World} {ops : Array Oper} {rest : List Oper} {o : Oper} {a : Act} {Q : Exit → Act → World → Prop}
theorem wp_append_rats {K : Act → World → Prop} (s x : Operand) (ho : o.op = .call { callee := .builtin .append, args := #[s, x], argTypes := #[29, 29] })
    (base : Nat) (v : Value) (l : List (Int × Int)) (hs : a.eval s = v) (hown : OwnR w base v l) (ao : Option Addr) (m c : Nat) (l' : List (Int × Int)) (hx : a.eval x = .slice ao m c) (hi' : Rats w ao m c l') (hb : l.length + m ≤ 1099511627776) (hbase : base ≤ w.heap.size)
    (h : ∀ v' w', OwnR w' base v' (l ++ l') → w.grownBy w' v.ownBlock → Near w v v' → K (a.put o.dst v') w') : o.wp Try.prog a w K Q := by
  obtain ⟨i, hi, hz0, hz1, hz2⟩ := info_parts Try.infoRat
  cases ao with
  | none =>
    have hm : m = 0 := by
      rcases Nat.eq_zero_or_pos m with h0 | h0
      · exact h0
      · obtain ⟨b, off, e, _⟩ := hi'.cell 0 h0; cases e
    subst hm
    have hl : l' = [] := List.eq_nil_of_length_eq_zero hi'.hlen
    subst hl
    refine wp_append_nothing w s x 29 ho base 34 i 2 Try.underlying29 hi v l.length _ hs hown c hx ?_
    exact h v w (by simpa using hown) (World.grownBy.refl _ _) (Near.refl _ _)
  | some ad =>
    refine wp_append_near w s x 29 ho base 34 i (.agg #[.int .i64 0, .int .i64 0]) 2 16 Try.underlying29 hi hz0 hz1 hz2 rfl (by decide) v l.length (ratL l) hs hown ad m c (ratL l') hx (by have := flat_len l'; have := hi'.hlen; unfold ratL; omega) ?_ (ratL_one l') (by simp [maxLen]; omega) (by omega) hbase ?_
    · intro j u hu
      have hjl : j < l'.length * 2 := by
        have := (List.getElem?_eq_some_iff.1 hu).1
        have h2 := flat_len l'
        unfold ratL at this
        omega
      have hml := hi'.hlen
      obtain ⟨b, off, e, hc⟩ := hi'.cell (j / 2) (by omega)
      simp only [Option.some.injEq] at e
      subst e
      obtain ⟨c1, c2⟩ := hc (j / 2) (by omega)
      obtain ⟨q1, q2⟩ := flat_at l' (j / 2) (by omega)
      change (ratL l')[j / 2 * 2]? = _ at q1
      change (ratL l')[j / 2 * 2 + 1]? = _ at q2
      have hj : j = j / 2 * 2 ∨ j = j / 2 * 2 + 1 := by omega
      have ha : ∀ k, (⟨b, off, none⟩ : Addr).add k = ⟨b, off + k, none⟩ := fun k => by unfold Addr.add; split <;> simp_all
      rw [ha]
      rcases hj with hj | hj
      · rw [hj] at hu ⊢
        rw [q1] at hu
        rw [c1, ← hu]
      · rw [hj] at hu ⊢
        rw [q2] at hu
        rw [← Nat.add_assoc, c2, ← hu]
    · intro v' w' h1 h2 h3
      refine h v' w' ?_ h2 h3
      unfold OwnR
      rw [List.length_append, hi'.hlen, ratL_append]
      exact h1
theorem append_rats (hgd : o.guard = none) (s x : Operand) (ho : o.op = .call { callee := .builtin .append, args := #[s, x], argTypes := #[29, 29] })
    (base : Nat) (v : Value) (l : List (Int × Int)) (hs : a.eval s = v) (hown : OwnR w base v l) (ao : Option Addr) (m c : Nat) (l' : List (Int × Int)) (hx : a.eval x = .slice ao m c) (hi' : Rats w ao m c l') (hb : l.length + m ≤ 1099511627776) (hbase : base ≤ w.heap.size)
    (h : ∀ v' w', OwnR w' base v' (l ++ l') → w.grownBy w' v.ownBlock → Near w v v' → wpList Try.prog ops Q rest (a.put o.dst v') w') : wpList Try.prog ops Q (o :: rest) a w :=
  wpList_plain hgd fun _ hK => wp_append_rats s x ho base v l hs hown ao m c l' hx hi' hb hbase fun v' w' h1 h2 h3 => hK _ _ (h v' w' h1 h2 h3)
end
theorem OwnR.made (w : World) (base : Nat) (hb : base ≤ w.heap.size) : OwnR (w.alloc (.cells #[] 34)) base (.slice (some ⟨w.heap.size, 0, none⟩) 0 0) [] :=
  World.ownsRow_lit w #[] 0 hb (by omega) rfl
theorem Rats.one (w : World) (x y : Int) (t : TypeId) : Rats (w.alloc (.cells #[.int .i64 x, .int .i64 y] t)) (some ⟨w.heap.size, 0, none⟩) 1 1 [(x, y)] :=
  ⟨rfl, Nat.le_refl _, by omega, fun k hk => ⟨_, 0, rfl, fun k hk => by
    obtain rfl : k = 0 := by omega
    simp⟩⟩
theorem Rats.one' (w : World) (x y : Int) (t : TypeId) (n : Nat) (hn : n = w.heap.size) : Rats (w.alloc (.cells #[.int .i64 x, .int .i64 y] t)) (some ⟨n, 0, none⟩) 1 1 [(x, y)] := by
  subst hn
  exact Rats.one w x y t
theorem OwnR.set {w : World} {base g n cap : Nat} {l : List (Int × Int)} (h : OwnR w base (.slice (some ⟨g, 0, none⟩) n cap) l) {k : Nat} (hk : k < l.length) (x y : Int) :
    OwnR ((w.setCell ⟨g, k * 2, none⟩ (.int .i64 x)).setCell ⟨g, k * 2 + 1, none⟩ (.int .i64 y)) base (.slice (some ⟨g, 0, none⟩) n cap) (l.set k (x, y)) := by
  obtain ⟨a', c', he, _⟩ := OwnR.form h
  simp only [Value.slice.injEq] at he
  obtain ⟨_, rfl, _⟩ := he
  have h1 := (World.ownsRow.stored h (k * 2) (.int .i64 x)).1
  have h2 := (World.ownsRow.stored h1 (k * 2 + 1) (.int .i64 y)).1
  unfold OwnR
  rw [List.length_set]
  have e := flat_set l k x y hk
  change _ = ratL (l.set k (x, y)) at e
  rw [← e]
  exact h2
theorem OwnR.block {w : World} {base : Nat} {a : Option Addr} {n cap : Nat} {l : List (Int × Int)} (h : OwnR w base (.slice a n cap) l) {k : Nat} (hk : k < n) : ∃ g, a = some ⟨g, 0, none⟩ ∧ base ≤ g ∧ (∀ j, w.frozen? ⟨g, j, none⟩ = false) ∧ g < w.heap.size := by
  rcases h.2 with ⟨he, h0⟩ | ⟨g, cap', cur, he, hb, hg, _⟩
  · simp only [Value.slice.injEq] at he
    omega
  · simp only [Value.slice.injEq] at he
    obtain ⟨rfl, _⟩ := he
    exact ⟨g, rfl, hb, fun j => frozen_of_row w g j cur _ hg, lt_of_block hg⟩
end Go.Proofs.Ytgohdmnbnhehnaa
namespace Go.Proofs.Ytgohdmnbnhehnaa
set_option linter.unusedVariables false
open Go.RowKit
theorem Ext.store {w w' : World} (h : Ext w w') {b : Nat} (k : Nat) (hb : w.heap.size ≤ b) (v : Value) : Ext w (w'.setCell ⟨b, k, none⟩ v) := Below.setCell h (p := ⟨b, k, none⟩) hb v
theorem Ext.grown {w0 w w' : World} {row : Option Nat} (h : Ext w0 w) (hg : w.grownBy w' row) (hr : ∀ k, row = some k → w0.heap.size ≤ k) : Ext w0 w' := ext_grown h hg hr
def OffV (vs : List Value) (v : Value) : Prop := ∀ i k, i < vs.length → (vs[i]?.getD undef).ownBlock = some k → v.ownBlock ≠ some k
theorem OffV.nil (v : Value) : OffV [] v := fun i k h => absurd h (by simp)
section
variable {w : World} {base g : Nat} {va vb vc : Value} {vs : List Value} {A : List (List Int)} {B : List Int} {C : List (Int × Int)}
end
theorem Rats.two (W : World) (x y x' y' : Int) (t : TypeId) {n : Nat} (hn : n = W.heap.size) : Rats (W.alloc (.cells #[.int .i64 x, .int .i64 y, .int .i64 x', .int .i64 y'] t)) (some ⟨n, 0, none⟩) 2 2 [(x, y), (x', y')] := by
  subst hn
  exact ⟨rfl, Nat.le_refl _, by omega, fun k hk => ⟨_, 0, rfl, fun k hk => by
    have : k = 0 ∨ k = 1 := by omega
    rcases this with rfl | rfl <;> simp⟩⟩
end Go.Proofs.Ytgohdmnbnhehnaa
namespace Go.Proofs.Ytgohdmnbnhehnaa
set_option linter.unusedVariables false
set_option linter.unusedSimpArgs false
open Go.RowKit
def Tells (P : Program) (w : World) (fid : FuncId) (ca : Array Value) (m : Nat) (f : Nat → Int) : Prop :=
  ∀ (s : Nat) (w1 : World), s < m → Ext w w1 → Calls P fid (#[.int .i64 (s : Int)] ++ ca) w1 fun e w2 => e = .returned (.int .i64 (f s)) ∧ Ext w1 w2
theorem Tells.ext {P : Program} {w w' : World} {fid : FuncId} {ca : Array Value} {m : Nat} {f : Nat → Int} (h : Tells P w fid ca m f) (hx : Ext w w') : Tells P w' fid ca m f :=
  fun s w1 hs k => h s w1 hs (hx.trans k)
end Go.Proofs.Ytgohdmnbnhehnaa
