import Derived.Test.YtgohdmnbnhehnaaLvAllG3
import Derived.Test.YtgohdmnbnhehnaaLvAllG1
import Derived.Test.YtgohdmnbnhehnaaLvAllG5
import Derived.Test.YtgohdmnbnhehnaaLvAllG0
import Derived.Deep.RegionLaw
namespace Go.Proofs.Ytgohdmnbnhehnaa
set_option linter.unusedVariables false
open Go.RowKit
structure Enc (α : Type) where
 enc : α → List Value
 c : Nat
 hc : ∀ x, (enc x).length = c
 pos : 0 < c
 one : ∀ x, ∀ u ∈ enc x, u.oneCell' = true
def Enc.all {α : Type} (E : Enc α) (l : List α) : List Value := l.flatMap E.enc
theorem Enc.all_append {α : Type} (E : Enc α) (l l' : List α) : E.all (l ++ l') = E.all l ++ E.all l' := by simp [Enc.all]
theorem Enc.all_cons {α : Type} (E : Enc α) (x : α) (l : List α) : E.all (x :: l) = E.enc x ++ E.all l := by simp [Enc.all]
theorem Enc.all_len {α : Type} (E : Enc α) : ∀ l : List α, (E.all l).length = l.length * E.c
 | [] => by simp [Enc.all]
 | x :: l => by rw [E.all_cons, List.length_append, E.hc, E.all_len l, List.length_cons, Nat.succ_mul, Nat.add_comm]
theorem Enc.all_at {α : Type} (E : Enc α) : ∀ {l : List α} {k j : Nat} {x : α} {v : Value}, l[k]? = some x → (E.enc x)[j]? = some v → (E.all l)[k * E.c + j]? = some v
 | [], k, j, x, v, h, _ => by simp at h
 | y :: l, 0, j, x, v, h, hj => by
   simp only [List.getElem?_cons_zero, Option.some.injEq] at h
   subst h
   have hl := (List.getElem?_eq_some_iff.1 hj).1
   rw [E.all_cons, Nat.zero_mul, Nat.zero_add, List.getElem?_append_left hl, hj]
 | y :: l, k + 1, j, x, v, h, hj => by
   simp only [List.getElem?_cons_succ] at h
   rw [E.all_cons, List.getElem?_append_right (by rw [E.hc, Nat.succ_mul]; omega), E.hc]
   rw [show (k + 1) * E.c + j - E.c = k * E.c + j by rw [Nat.succ_mul]; omega]
   exact E.all_at h hj
theorem Enc.split {α : Type} (E : Enc α) {l : List α} {i : Nat} {u : Value} (h : (E.all l)[i]? = some u) : ∃ k j x, i = k * E.c + j ∧ l[k]? = some x ∧ (E.enc x)[j]? = some u := by
 have hi : i < l.length * E.c := by have := (List.getElem?_eq_some_iff.1 h).1; rwa [E.all_len] at this
 have hp := E.pos
 have hk : i / E.c < l.length := (Nat.div_lt_iff_lt_mul hp).2 hi
 have hm : i % E.c < E.c := Nat.mod_lt _ hp
 have he : i = i / E.c * E.c + i % E.c := by rw [Nat.mul_comm]; exact (Nat.div_add_mod i E.c).symm
 refine ⟨i / E.c, i % E.c, l[i / E.c], he, List.getElem?_eq_getElem hk, ?_⟩
 have hj : i % E.c < (E.enc l[i / E.c]).length := by rw [E.hc]; exact hm
 have := E.all_at (List.getElem?_eq_getElem hk) (List.getElem?_eq_getElem hj)
 rw [← he, h] at this
 rw [List.getElem?_eq_getElem hj, this]
structure Slc {α : Type} (E : Enc α) (w : World) (a : Option Addr) (n cap : Nat) (l : List α) : Prop where
 hlen : l.length = n
 hcap : n ≤ cap
 hmax : cap ≤ 9223372036854775807
 cell : ∀ k, k < n → ∃ b off, a = some ⟨b, off, none⟩ ∧ ∀ k x j v, l[k]? = some x → (E.enc x)[j]? = some v → w.cell? ⟨b, off + k * E.c + j, none⟩ = some v
theorem Slc.ext {α : Type} {E : Enc α} {w w' : World} {a : Option Addr} {n cap : Nat} {l : List α} (h : Slc E w a n cap l) (hx : Ext w w') : Slc E w' a n cap l :=
 ⟨h.hlen, h.hcap, h.hmax, fun k hk => let ⟨b, off, e, hc⟩ := h.cell k hk; ⟨b, off, e, fun k x j v h1 h2 => hx.cellSome (hc k x j v h1 h2)⟩⟩
theorem Slc.at {α : Type} {E : Enc α} {w : World} {a : Option Addr} {n cap : Nat} {l : List α} (h : Slc E w a n cap l) {k : Nat} (hk : k < n) :
 ∃ b off x, a = some ⟨b, off, none⟩ ∧ l[k]? = some x ∧ ∀ j v, (E.enc x)[j]? = some v → w.cell? ⟨b, off + k * E.c + j, none⟩ = some v :=
 let ⟨b, off, e, hc⟩ := h.cell k hk
 have hl : k < l.length := by rw [h.hlen]; exact hk
 ⟨b, off, l[k], e, List.getElem?_eq_getElem hl, fun j v hj => hc k _ j v (List.getElem?_eq_getElem hl) hj⟩
def OwnG {α : Type} (E : Enc α) (t : TypeId) (w : World) (base : Nat) (v : Value) (l : List α) : Prop := w.ownsRow base t E.c v l.length (E.all l)
section
variable {α : Type} {E : Enc α} {t : TypeId} {w : World} {base : Nat} {l : List α}
theorem OwnG.form {v : Value} (h : OwnG E t w base v l) : ∃ a cap, v = .slice a l.length cap ∧ l.length ≤ cap ∧ cap ≤ 9223372036854775807 := by
 rcases h.2 with ⟨rfl, h0⟩ | ⟨g, cap, cur, rfl, _, _, h1, h2, _⟩
 ·exact ⟨none, 0, by rw [h0], by omega, by omega⟩
 ·exact ⟨_, cap, rfl, h1, by simpa [maxLen] using h2⟩
theorem OwnG.var {v : Value} (h : OwnG E t w base v l) : ∃ a n cap, v = .slice a n cap ∧ Hid (l.length = n) := by
 obtain ⟨a, cap, e, _⟩ := h.form
 exact ⟨a, _, cap, e, rfl⟩
theorem OwnG.lt {v : Value} (h : OwnG E t w base v l) : ∀ k, v.ownBlock = some k → base ≤ k ∧ k < w.heap.size := World.ownsRow.lt h
theorem OwnG.keep {w' : World} {v : Value} (h : OwnG E t w base v l) (hk : ∀ k, v.ownBlock = some k → w'.heap[k]? = w.heap[k]?) : OwnG E t w' base v l := by
 refine ⟨h.1, ?_⟩
 rcases h.2 with hn | ⟨g, cap, cur, rfl, hb, hgg, rest⟩
 ·exact .inl hn
 ·exact .inr ⟨g, cap, cur, rfl, hb, (hk g rfl).trans hgg, rest⟩
theorem OwnG.ext {w' : World} {v : Value} (h : OwnG E t w base v l) (hx : Ext w w') : OwnG E t w' base v l := h.keep fun k hk => hx.block k (h.lt k hk).2
theorem OwnG.on {v : Value} (h : OwnG E t w base v l) : On base w (fun W => OwnG E t W base v l) := fun w2 h2 => h.keep fun k hk => h2 k (h.lt k hk).1 (h.lt k hk).2
theorem OwnG.mono {base' : Nat} {v : Value} (h : OwnG E t w base v l) (hb : base' ≤ base) : OwnG E t w base' v l := by
 refine ⟨h.1, ?_⟩
 rcases h.2 with hn | ⟨g, cap, cur, rfl, hbb, rest⟩
 ·exact .inl hn
 ·exact .inr ⟨g, cap, cur, rfl, by omega, rest⟩
theorem OwnG.nil (E : Enc α) (t : TypeId) (w : World) (base : Nat) : OwnG E t w base (.slice none 0 0) [] := World.ownsRow_nil w base t _
theorem OwnG.block {a : Option Addr} {n cap : Nat} (h : OwnG E t w base (.slice a n cap) l) {k : Nat} (hk : k < n) : ∃ g, a = some ⟨g, 0, none⟩ ∧ base ≤ g ∧ (∀ j, w.frozen? ⟨g, j, none⟩ = false) ∧ g < w.heap.size := by
 rcases h.2 with ⟨he, h0⟩ | ⟨g, cap', cur, he, hb, hg, _⟩
 ·simp only [Value.slice.injEq] at he
  omega
 ·simp only [Value.slice.injEq] at he
  obtain ⟨rfl, _⟩ := he
  exact ⟨g, rfl, hb, fun j => frozen_of_row w g j cur _ hg, lt_of_block hg⟩
theorem OwnG.madeS (E : Enc α) (t : TypeId) (W : World) (base : Nat) (n : Nat) (hn : n = W.heap.size) (hb : base ≤ W.heap.size) : OwnG E t (W.alloc (.cells #[] t)) base (.slice (some ⟨n, 0, none⟩) 0 0) [] := by
 subst hn
 exact World.ownsRow_lit W #[] 0 hb (by omega) (by simp)
theorem ownsRow_apart {w : World} {base base' : Nat} {e e' : TypeId} {s s' : Nat} {v v' : Value} {n n' : Nat} {xs xs' : List Value} (hne : e ≠ e') (h : w.ownsRow base e s v n xs) (h' : w.ownsRow base' e' s' v' n' xs') : ∀ k, v.ownBlock = some k → v'.ownBlock ≠ some k := by
 intro k hk hk'
 rcases h.2 with ⟨rfl, _⟩ | ⟨g, cap, cur, rfl, _, hg, _⟩
 ·simp [Value.ownBlock] at hk
 ·rcases h'.2 with ⟨rfl, _⟩ | ⟨g', cap', cur', rfl, _, hg', _⟩
  ·simp [Value.ownBlock] at hk'
  ·simp only [Value.ownBlock, Option.some.injEq] at hk hk'
   subst hk hk'
   rw [hg] at hg'
   simp only [Option.some.injEq, Obj.cells.injEq] at hg'
   exact hne hg'.2.1
theorem ownsRow_ne {w : World} {base g : Nat} {e e' : TypeId} {s : Nat} {v : Value} {n : Nat} {xs : List Value} {c : Array Value} {z : Nat × Nat} (h : w.ownsRow base e s v n xs) (hb : w.heap[g]? = some (.cells c e' z)) (hne : e ≠ e') : some g ≠ v.ownBlock := by
 intro hk
 rcases h.2 with ⟨rfl, _⟩ | ⟨g', cap, cur, rfl, _, hg, _⟩
 ·simp [Value.ownBlock] at hk
 ·simp only [Value.ownBlock, Option.some.injEq] at hk
  subst hk
  rw [hg] at hb
  simp only [Option.some.injEq, Obj.cells.injEq] at hb
  exact hne hb.2.1
end
section
variable {α : Type} {E : Enc α} {t : TypeId} {P : Program} {w : World} {ops : Array Oper} {rest : List Oper} {o : Oper} {a : Act} {Q : Exit → Act → World → Prop}
end
end Go.Proofs.Ytgohdmnbnhehnaa
namespace Go.Proofs.Ytgohdmnbnhehnaa
set_option linter.unusedVariables false
set_option linter.unusedSimpArgs false
open Go.RowKit
def ratL (l : List (Int × Int)) : List Value := l.flatMap fun p => [Value.int .i64 p.1, Value.int .i64 p.2]
theorem ratL_append (l l' : List (Int × Int)) : ratL (l ++ l') = ratL l ++ ratL l' := by simp [ratL]
theorem ratL_one : ∀ (l : List (Int × Int)), ∀ u ∈ ratL l, u.oneCell' = true
 | [], u, h => by simp [ratL] at h
 | p :: l, u, h => by
   simp only [ratL, List.flatMap_cons, List.mem_append, List.mem_cons, List.not_mem_nil, or_false] at h
   rcases h with (rfl | rfl) | h
   ·rfl
   ·rfl
   ·exact ratL_one l u h
def OwnR (w : World) (base : Nat) (v : Value) (l : List (Int × Int)) : Prop := w.ownsRow base 34 2 v l.length (ratL l)
theorem OwnR.form {w : World} {base : Nat} {v : Value} {l : List (Int × Int)} (h : OwnR w base v l) : ∃ a cap, v = .slice a l.length cap ∧ l.length ≤ cap ∧ cap ≤ 9223372036854775807 := by
 rcases h.2 with ⟨rfl, h0⟩ | ⟨g, cap, cur, rfl, _, _, h1, h2, _⟩
 ·exact ⟨none, 0, by rw [h0], by omega, by omega⟩
 ·exact ⟨_, cap, rfl, h1, by simpa [maxLen] using h2⟩
theorem OwnR.var {w : World} {base : Nat} {v : Value} {l : List (Int × Int)} (h : OwnR w base v l) : ∃ a n cap, v = .slice a n cap ∧ Hid (l.length = n) := by
 obtain ⟨a, cap, e, _⟩ := h.form
 exact ⟨a, _, cap, e, rfl⟩
theorem OwnR.rats {w : World} {base : Nat} {a : Option Addr} {n cap : Nat} {l : List (Int × Int)} (h : OwnR w base (.slice a n cap) l) : Rats w a n cap l := by
 rcases h.2 with ⟨he, h0⟩ | ⟨g, cap', cur, he, _, hg, h1, h2, hs, ht⟩
 ·simp only [Value.slice.injEq] at he
  obtain ⟨rfl, rfl, rfl⟩ := he
  exact ⟨h0, Nat.le_refl _, by omega, fun k hk => absurd hk (by omega)⟩
 ·simp only [Value.slice.injEq] at he
  obtain ⟨rfl, rfl, rfl⟩ := he
  refine ⟨rfl, h1, by simpa [maxLen] using h2, fun k hk => ⟨g, 0, rfl, fun k hk => ?_⟩⟩
  rw [Nat.zero_add, cell_of_row w g _ cur _ (0, 0) hg, cell_of_row w g _ cur _ (0, 0) hg]
  obtain ⟨q1, q2⟩ := flat_at l k hk
  change (ratL l)[k * 2]? = _ at q1
  change (ratL l)[k * 2 + 1]? = _ at q2
  rw [← ht, List.getElem?_take, if_pos (by omega)] at q1 q2
  exact ⟨by simpa using q1, by simpa using q2⟩
theorem OwnR.lt {w : World} {base : Nat} {v : Value} {l : List (Int × Int)} (h : OwnR w base v l) : ∀ k, v.ownBlock = some k → base ≤ k ∧ k < w.heap.size := World.ownsRow.lt h
theorem OwnR.keep {w w' : World} {base : Nat} {v : Value} {l : List (Int × Int)} (h : OwnR w base v l) (hk : ∀ k, v.ownBlock = some k → w'.heap[k]? = w.heap[k]?) : OwnR w' base v l := by
 refine ⟨h.1, ?_⟩
 rcases h.2 with hn | ⟨g, cap, cur, rfl, hb, hgg, rest⟩
 ·exact .inl hn
 ·exact .inr ⟨g, cap, cur, rfl, hb, (hk g rfl).trans hgg, rest⟩
theorem OwnR.ext {w w' : World} {base : Nat} {v : Value} {l : List (Int × Int)} (h : OwnR w base v l) (hx : Ext w w') : OwnR w' base v l := h.keep fun k hk => hx.block k (h.lt k hk).2
theorem OwnR.on {w : World} {base : Nat} {v : Value} {l : List (Int × Int)} (h : OwnR w base v l) : On base w (fun W => OwnR W base v l) := fun w2 h2 => h.keep fun k hk => h2 k (h.lt k hk).1 (h.lt k hk).2
theorem OwnR.mono {w : World} {base base' : Nat} {v : Value} {l : List (Int × Int)} (h : OwnR w base v l) (hb : base' ≤ base) : OwnR w base' v l := by
 refine ⟨h.1, ?_⟩
 rcases h.2 with hn | ⟨g, cap, cur, rfl, hbb, rest⟩
 ·exact .inl hn
 ·exact .inr ⟨g, cap, cur, rfl, by omega, rest⟩
theorem OwnR.nil (w : World) (base : Nat) : OwnR w base (.slice none 0 0) [] := World.ownsRow_nil w base _ 2
theorem RRow.own {w : World} {b base : Nat} {l : List (Int × Int)} {n : Nat} (h : RRow w b 34 l) (hb : base ≤ b) (hn : l.length = n) (hm : n ≤ 1099511627776) : OwnR w base (.slice (some ⟨b, 0, none⟩) n n) l := by
 subst hn
 refine ⟨?_, .inr ⟨b, l.length, ratCells l, rfl, hb, h, Nat.le_refl _, by simp [maxLen]; omega, ?_, ?_⟩⟩
 ·exact flat_len l
 ·show (ratCells l).size = _
  unfold ratCells
  simpa using flat_len l
 ·show List.take _ (ratCells l).toList = _
  exact List.take_of_length_le (by unfold ratCells; simpa using Nat.le_of_eq (flat_len l))
section
variable {P : Program} {w : World} {ops : Array Oper} {rest : List Oper} {o : Oper} {a : Act} {Q : Exit → Act → World → Prop}
theorem wp_append_rats {K : Act → World → Prop} (s x : Operand) (ho : o.op = .call { callee := .builtin .append, args := #[s, x], argTypes := #[29, 29] })
 (base : Nat) (v : Value) (l : List (Int × Int)) (hs : a.eval s = v) (hown : OwnR w base v l) (ao : Option Addr) (m c : Nat) (l' : List (Int × Int)) (hx : a.eval x = .slice ao m c) (hi' : Rats w ao m c l') (hb : l.length + m ≤ 1099511627776) (hbase : base ≤ w.heap.size)
 (h : ∀ v' w', OwnR w' base v' (l ++ l') → w.grownBy w' v.ownBlock → Near w v v' → K (a.put o.dst v') w') : o.wp Try.prog a w K Q := by
 obtain ⟨i, hi, hz0, hz1, hz2⟩ := info_parts Try.infoRat
 cases ao with
 | none =>
   have hm : m = 0 := by
    rcases Nat.eq_zero_or_pos m with h0 | h0
    ·exact h0
    ·obtain ⟨b, off, e, _⟩ := hi'.cell 0 h0; cases e
   subst hm
   have hl : l' = [] := List.eq_nil_of_length_eq_zero hi'.hlen
   subst hl
   refine wp_append_nothing w s x 29 ho base 34 i 2 Try.underlying29 hi v l.length _ hs hown c hx ?_
   exact h v w (by simpa using hown) (World.grownBy.refl _ _) (Near.refl _ _)
 | some ad =>
   refine wp_append_near w s x 29 ho base 34 i (.agg #[.int .i64 0, .int .i64 0]) 2 16 Try.underlying29 hi hz0 hz1 hz2 rfl (by decide) v l.length (ratL l) hs hown ad m c (ratL l') hx (by have := flat_len l'; have := hi'.hlen; unfold ratL; omega) ?_ (ratL_one l') (by simp [maxLen]; omega) (by omega) hbase ?_
   ·intro j u hu
    have hjl : j < l'.length * 2 := by
     have := (List.getElem?_eq_some_iff.1 hu).1
     have h2 := flat_len l'
     unfold ratL at this
     omega
    have hml := hi'.hlen
    obtain ⟨b, off, e, hc⟩ := hi'.cell (j / 2) (by omega)
    simp only [Option.some.injEq] at e
    subst e
    obtain ⟨c1, c2⟩ := hc (j / 2) (by omega)
    obtain ⟨q1, q2⟩ := flat_at l' (j / 2) (by omega)
    change (ratL l')[j / 2 * 2]? = _ at q1
    change (ratL l')[j / 2 * 2 + 1]? = _ at q2
    have hj : j = j / 2 * 2 ∨ j = j / 2 * 2 + 1 := by omega
    have ha : ∀ k, (⟨b, off, none⟩ : Addr).add k = ⟨b, off + k, none⟩ := fun k => by unfold Addr.add; split <;> simp_all
    rw [ha]
    rcases hj with hj | hj
    ·rw [hj] at hu ⊢
     rw [q1] at hu
     rw [c1, ← hu]
    ·rw [hj] at hu ⊢
     rw [q2] at hu
     rw [← Nat.add_assoc, c2, ← hu]
   ·intro v' w' h1 h2 h3
    refine h v' w' ?_ h2 h3
    unfold OwnR
    rw [List.length_append, hi'.hlen, ratL_append]
    exact h1
theorem append_rats (hgd : o.guard = none) (s x : Operand) (ho : o.op = .call { callee := .builtin .append, args := #[s, x], argTypes := #[29, 29] })
 (base : Nat) (v : Value) (l : List (Int × Int)) (hs : a.eval s = v) (hown : OwnR w base v l) (ao : Option Addr) (m c : Nat) (l' : List (Int × Int)) (hx : a.eval x = .slice ao m c) (hi' : Rats w ao m c l') (hb : l.length + m ≤ 1099511627776) (hbase : base ≤ w.heap.size)
 (h : ∀ v' w', OwnR w' base v' (l ++ l') → w.grownBy w' v.ownBlock → Near w v v' → wpList Try.prog ops Q rest (a.put o.dst v') w') : wpList Try.prog ops Q (o :: rest) a w :=
 wpList_plain hgd fun _ hK => wp_append_rats s x ho base v l hs hown ao m c l' hx hi' hb hbase fun v' w' h1 h2 h3 => hK _ _ (h v' w' h1 h2 h3)
end
theorem OwnR.made (w : World) (base : Nat) (hb : base ≤ w.heap.size) : OwnR (w.alloc (.cells #[] 34)) base (.slice (some ⟨w.heap.size, 0, none⟩) 0 0) [] :=
 World.ownsRow_lit w #[] 0 hb (by omega) rfl
theorem Rats.one (w : World) (x y : Int) (t : TypeId) : Rats (w.alloc (.cells #[.int .i64 x, .int .i64 y] t)) (some ⟨w.heap.size, 0, none⟩) 1 1 [(x, y)] :=
 ⟨rfl, Nat.le_refl _, by omega, fun k hk => ⟨_, 0, rfl, fun k hk => by
  obtain rfl : k = 0 := by omega
  simp⟩⟩
theorem Rats.one' (w : World) (x y : Int) (t : TypeId) (n : Nat) (hn : n = w.heap.size) : Rats (w.alloc (.cells #[.int .i64 x, .int .i64 y] t)) (some ⟨n, 0, none⟩) 1 1 [(x, y)] := by
 subst hn
 exact Rats.one w x y t
def seqR (k : Int) (n : Nat) : List (Int × Int) := (List.range n).map fun (i : Nat) => (k + 2 * (i : Int), k + 2 * (i : Int) + 1)
def markR (k : Int) (l : List (Int × Int)) (i : Nat) : List (Int × Int) := seqR k i ++ l.drop i
theorem markR_len (k : Int) (l : List (Int × Int)) (i : Nat) (h : i ≤ l.length) : (markR k l i).length = l.length := by simp [markR, seqR]; omega
theorem markR_zero (k : Int) (l : List (Int × Int)) : markR k l 0 = l := by simp [markR, seqR]
theorem markR_all (k : Int) (l : List (Int × Int)) : markR k l l.length = seqR k l.length := by simp [markR]
theorem markR_set (k : Int) (l : List (Int × Int)) (i : Nat) (h : i < l.length) : (markR k l i).set i (k + 2 * i, k + 2 * i + 1) = markR k l (i + 1) := by
 unfold markR
 rw [List.set_append_right _ _ (by simp [seqR])]
 have : i - (seqR k i).length = 0 := by simp [seqR]
 rw [this, List.drop_eq_getElem_cons h, List.set_cons_zero]
 simp [seqR, List.range_succ]
theorem OwnR.set {w : World} {base g n cap : Nat} {l : List (Int × Int)} (h : OwnR w base (.slice (some ⟨g, 0, none⟩) n cap) l) {k : Nat} (hk : k < l.length) (x y : Int) :
 OwnR ((w.setCell ⟨g, k * 2, none⟩ (.int .i64 x)).setCell ⟨g, k * 2 + 1, none⟩ (.int .i64 y)) base (.slice (some ⟨g, 0, none⟩) n cap) (l.set k (x, y)) := by
 obtain ⟨a', c', he, _⟩ := OwnR.form h
 simp only [Value.slice.injEq] at he
 obtain ⟨_, rfl, _⟩ := he
 have h1 := (World.ownsRow.stored h (k * 2) (.int .i64 x)).1
 have h2 := (World.ownsRow.stored h1 (k * 2 + 1) (.int .i64 y)).1
 unfold OwnR
 rw [List.length_set]
 have e := flat_set l k x y hk
 change _ = ratL (l.set k (x, y)) at e
 rw [← e]
 exact h2
theorem OwnR.block {w : World} {base : Nat} {a : Option Addr} {n cap : Nat} {l : List (Int × Int)} (h : OwnR w base (.slice a n cap) l) {k : Nat} (hk : k < n) : ∃ g, a = some ⟨g, 0, none⟩ ∧ base ≤ g ∧ (∀ j, w.frozen? ⟨g, j, none⟩ = false) ∧ g < w.heap.size := by
 rcases h.2 with ⟨he, h0⟩ | ⟨g, cap', cur, he, hb, hg, _⟩
 ·simp only [Value.slice.injEq] at he
  omega
 ·simp only [Value.slice.injEq] at he
  obtain ⟨rfl, _⟩ := he
  exact ⟨g, rfl, hb, fun j => frozen_of_row w g j cur _ hg, lt_of_block hg⟩
set_option maxHeartbeats 400000 in
theorem l_markRatS {w : World} {base : Nat} {a : Option Addr} {n cap : Nat} {l : List (Int × Int)} (h : OwnR w base (.slice a n cap) l) (k0 : Int) (h0 : 0 ≤ k0) (h1 : k0 + 2 * n ≤ 4611686018427387904) :
 Calls Try.prog 53 #[.slice a n cap, .int .i64 k0] w fun e w' => e = .returned (.int .i64 (k0 + 2 * n)) ∧ OwnR w' base (.slice a n cap) (seqR k0 n) ∧ w.grownBy w' (Value.slice a n cap).ownBlock ∧ w'.heap.size = w.heap.size := by
 have HL := Lib.hid h.rats.hlen
 go_enter Try.func53, Try.ntmps53
 go_wp2
 go_loopw [1, 5] (fun t i wr => ∃ k : Nat, k ≤ n ∧ i = .int .i64 k ∧ t = .int .i64 (k0 + 2 * k) ∧ OwnR wr base (.slice a n cap) (markR k0 l k) ∧ w.grownBy wr (Value.slice a n cap).ownBlock ∧ Hid (wr.heap.size = w.heap.size)) (fun _ i _ => n - (intOf i).toNat)
 case atStart => exact ⟨0, Nat.zero_le _, rfl, by simp, by rw [markR_zero]; exact h, World.grownBy.refl _ _, Lib.hid rfl⟩
 case round =>
  obtain ⟨k, hk, rfl, rfl, hown, hg, HS⟩ := hrel
  by_cases hlt : k < n
  ·obtain ⟨g, rfl, hb, hfz, hgl⟩ := hown.block hlt
   obtain ⟨b, off, x, y, he, hxy, hc, hc'⟩ := hown.rats.at hlt
   simp only [Option.some.injEq, Addr.mk.injEq, and_true] at he
   obtain ⟨rfl, rfl⟩ := he
   rw [Nat.zero_add] at hc hc'
   have hfk := hfz (k * 2)
   have hfk' := hfz (k * 2 + 1)
   clear hfz hxy
   have HO := Lib.hid hown
   have HG := Lib.hid hg
   clear hown hg
   go_wp2
   go_roundw
   case rel =>
    refine ⟨k + 1, by omega, by go_num, by go_num, ?_, ?_, Lib.hid (by simp [HS.out])⟩
    ·rw [← markR_set _ _ _ (by have := HL.out; omega)]
     have := HO.out.set (k := k) (by rw [markR_len _ _ _ (by have := HL.out; omega)]; have := HL.out; omega) (k0 + 2 * k) (k0 + 2 * k + 1)
     exact this
    ·have hg := HG.out
     refine ⟨hg.os, hg.tape, hg.output, by simpa using hg.size, fun j hj hne => ?_⟩
     have hne' : j ≠ g := by intro e; exact hne (by simp [Value.ownBlock, e])
     rw [heap_setCell_other _ _ j _ hne', heap_setCell_other _ _ j _ hne']
     exact hg.block j hj hne
   case measure => simp [intOf]; omega
  ·have HO := Lib.hid hown
   have HG := Lib.hid hg
   clear hown hg
   go_wp2
   go_ret
   have hkn : k = n := by omega
   subst hkn
   have := HO.out
   have hl := HL.out
   rw [← hl, markR_all, hl] at this
   exact ⟨rfl, this, HG.out, HS.out⟩
end Go.Proofs.Ytgohdmnbnhehnaa
namespace Go.Proofs.Ytgohdmnbnhehnaa
set_option linter.unusedVariables false
open Go.RowKit
theorem Ext.store {w w' : World} (h : Ext w w') {b : Nat} (k : Nat) (hb : w.heap.size ≤ b) (v : Value) : Ext w (w'.setCell ⟨b, k, none⟩ v) := Below.setCell h (p := ⟨b, k, none⟩) hb v
theorem Ext.grown {w0 w w' : World} {row : Option Nat} (h : Ext w0 w) (hg : w.grownBy w' row) (hr : ∀ k, row = some k → w0.heap.size ≤ k) : Ext w0 w' := ext_grown h hg hr
def OffV (vs : List Value) (v : Value) : Prop := ∀ i k, i < vs.length → (vs[i]?.getD undef).ownBlock = some k → v.ownBlock ≠ some k
theorem OffV.nil (v : Value) : OffV [] v := fun i k h => absurd h (by simp)
theorem OffV.snoc {w w' : World} {base : Nat} {vs : List Value} {B r : List Int} {v vr : Value} (h : OffV vs v) (hb : OwnI w base v B) (hr : OwnI w' w.heap.size vr r) : OffV (vs ++ [vr]) v := by
 intro i k hi hk hk'
 by_cases hl : i < vs.length
 ·rw [List.getElem?_append_left hl] at hk; exact h i k hl hk hk'
 ·have hie : i = vs.length := by simp at hi; omega
  subst hie
  rw [List.getElem?_concat_length, Option.getD_some] at hk
  have h1 := (hb.lt k hk').2
  have h2 := (hr.lt k hk).1
  omega
section
variable {w : World} {base g : Nat} {va vb vc : Value} {vs : List Value} {A : List (List Int)} {B : List Int} {C : List (Int × Int)}
theorem ownsRow_grown {w w2 : World} {b1 b2 : Nat} {e e' : TypeId} {s s' n n' : Nat} {v v' : Value} {xs xs' : List Value} (h : w.ownsRow b1 e s v n xs) (h' : w.ownsRow b2 e' s' v' n' xs') (hne : e ≠ e') (hgr : w.grownBy w2 v'.ownBlock) : w2.ownsRow b1 e s v n xs :=
 h.kept hgr (by
  cases hv : v.ownBlock with
  | none => exact .inl rfl
  | some k => exact .inr fun e2 => ownsRow_apart hne h h' k hv e2.symm)
theorem OwnG.grownV {α : Type} {E : Enc α} {t : TypeId} {w w1 w2 : World} {b1 b2 : Nat} {v v' : Value} {l : List α} {us : List Value} (h : OwnG E t w b1 v l) (hx : Ext w w1) (h' : OwnV w b2 v' us) (hne : t ≠ 24) (hgr : w1.grownBy w2 v'.ownBlock) : OwnG E t w2 b1 v l :=
 ownsRow_grown (h.ext hx) (h'.ext hx) hne hgr
end
theorem OwnV.mono' {w : World} {base base' : Nat} {v : Value} {vs : List Value} (h : OwnV w base v vs) (hb : base' ≤ base) : OwnV w base' v vs := by
 refine ⟨h.1, ?_⟩
 rcases h.2 with hn | ⟨g, cap, cur, rfl, hbb, rest⟩
 ·exact .inl hn
 ·exact .inr ⟨g, cap, cur, rfl, by omega, rest⟩
theorem OwnSS.mono' {w : World} {base base' : Nat} {v : Value} {L : List (List Int)} (h : OwnSS w base v L) (hb : base' ≤ base) : OwnSS w base' v L :=
 let ⟨vs, h1, h2⟩ := h; ⟨vs, h1.mono' hb, ⟨h2.len, fun i hi => (h2.row i hi).mono hb, h2.apart⟩⟩
theorem RowsI.mono' {w : World} {base base' : Nat} {vs : List Value} {L : List (List Int)} (h : RowsI w base vs L) (hb : base' ≤ base) : RowsI w base' vs L := ⟨h.len, fun i hi => (h.row i hi).mono hb, h.apart⟩
end Go.Proofs.Ytgohdmnbnhehnaa
namespace Go.Proofs.Ytgohdmnbnhehnaa
set_option linter.unusedVariables false
set_option linter.unusedSimpArgs false
set_option maxRecDepth 100000
open Go.RowKit
def in18 (a : Int) : Prop := -1000000000000000000 ≤ a ∧ a ≤ 1000000000000000000
theorem tmod_lt (p : Int) {q : Int} (h : q ≠ 0) : (p.tmod q).natAbs < q.natAbs := by
 rw [Int.natAbs_tmod]
 exact Nat.mod_lt _ (by omega)
theorem tmod_in (p : Int) {q : Int} (h : q ≠ 0) (hq : in18 q) : in18 (p.tmod q) := by
 have := tmod_lt p h
 unfold in18 at *
 revert this
 generalize p.tmod q = r
 intro this
 omega
set_option maxHeartbeats 1000000 in
theorem i_common (a b : Int) (w : World) (ha : in18 a) (hb : in18 b) :
 Calls Try.prog 128 #[.int .i64 a, .int .i64 b] w fun e w' => e = .returned (.int .i64 (gI a b)) ∧ Drew w w' := by
 go_enter Try.func128, Try.ntmps128
 go_wp2
 go_loopw [0, 1] (fun x y wr => ∃ p q : Int, x = .int .i64 p ∧ y = .int .i64 q ∧ Hid (gI p q = gI a b) ∧ Hid (in18 p) ∧ Hid (in18 q) ∧ Drew w wr) (fun _ y _ => (intOf y).natAbs)
 case atStart => exact ⟨a, b, rfl, rfl, Lib.hid rfl, Lib.hid ha, Lib.hid hb, Drew.refl _⟩
 case round =>
  obtain ⟨p, q, rfl, rfl, HG, HP, HQ, hx⟩ := hrel
  obtain ⟨hp1, hp2⟩ := HP.out
  obtain ⟨hq1, hq2⟩ := HQ.out
  by_cases hq : q = 0
  ·subst hq
   go_wp2
   all_goals
    go_ret
    refine ⟨ret_int ?_, hx⟩
    have := HG.out
    rw [gI_zero] at this
    omega
  ·have hqb : (q != 0) = true := by simpa using hq
   have hqb' : (q == 0) = false := by simpa using hq
   have ht := tmod_lt p hq
   have HT := Lib.hid ht
   have HQ' := Lib.hid hq
   go_wp2
   go_quiet (fail)
   go_wp2
   go_roundw
   case rel => exact ⟨q, p.tmod q, rfl, by go_num, Lib.hid (by rw [gI_step]; exact HG.out), HQ, Lib.hid (tmod_in p HQ'.out HQ.out), hx.trans ⟨_, rfl⟩⟩
   case measure => have h := HT.out; rw [Int.natAbs_tmod] at h; simp [intOf, Int.natAbs_tmod]; omega
set_option maxHeartbeats 1000000 in
theorem s_l3Gcd (a b : Int) (w : World) (ha : in18 a) (hb : in18 b) :
 Calls Try.prog 124 #[.int .i64 a, .int .i64 b] w fun e w' => e = .returned (.int .i64 (gI a b)) ∧ Drew w w' := by
 have ha' := ha
 have hb' := hb
 obtain ⟨ha1, ha2⟩ := ha'
 obtain ⟨hb1, hb2⟩ := hb'
 by_cases h1 : a < 0
 all_goals
  by_cases h2 : b < 0
  all_goals
   go_enter Try.func124, Try.ntmps124
   go_wp2
   go_loop [0, 1, 5] (fun x y z => ∃ p q : Int, x = .int .i64 p ∧ y = .int .i64 q ∧ 0 ≤ p ∧ 0 ≤ q ∧ Hid (gI p q = gI a b) ∧ Hid (in18 p) ∧ Hid (in18 q)) (fun _ y _ => (intOf y).natAbs)
   case atStart =>
    first
     | exact ⟨_, _, rfl, rfl, by omega, by omega, Lib.hid rfl, Lib.hid ha, Lib.hid hb⟩
     | exact ⟨-a, _, by go_num, rfl, by omega, by omega, Lib.hid (gI_negl _ _), Lib.hid ⟨by omega, by omega⟩, Lib.hid hb⟩
     | exact ⟨_, -b, rfl, by go_num, by omega, by omega, Lib.hid (gI_negr _ _), Lib.hid ha, Lib.hid ⟨by omega, by omega⟩⟩
     | exact ⟨-a, -b, by go_num, by go_num, by omega, by omega, Lib.hid ((gI_negl _ _).trans (gI_negr _ _)), Lib.hid ⟨by omega, by omega⟩, Lib.hid ⟨by omega, by omega⟩⟩
   case round =>
    obtain ⟨p, q, rfl, rfl, hp0, hq0, HG, HP, HQ⟩ := hrel
    by_cases hq : q = 0
    ·subst hq
     go_wp2
     go_ret
     refine ⟨ret_int ?_, Drew.refl _⟩
     have := HG.out
     rw [gI_zero] at this
     omega
    ·have hqb' : (q == 0) = false := by simpa using hq
     have hgt : 0 < q := by omega
     have HT := Lib.hid (Int.emod_lt_of_pos p hgt)
     have HTN := Lib.hid (Int.emod_nonneg p hq)
     have HQ' := Lib.hid hq
     have HM := Lib.hid (Int.tmod_eq_emod_of_nonneg (b := q) hp0)
     go_wp2
     go_round
     case rel => exact ⟨q, p % q, rfl, by go_num, by omega, HTN.out, Lib.hid (by rw [← HM.out, gI_step]; exact HG.out), HQ, Lib.hid (by rw [← HM.out]; exact tmod_in p HQ'.out HQ.out)⟩
     case measure => have := HT.out; have := HTN.out; simp [intOf]; omega
abbrev ratV (x y : Int) : Value := .agg #[.int .i64 x, .int .i64 y]
abbrev resR (r : (Int × Int) × Bool) : Value := .tuple #[.agg #[.int .i64 r.1.1, .int .i64 r.1.2], .bool r.2]
theorem in18_neg {a : Int} (h : in18 a) : in18 (-a) := by unfold in18 at *; omega
theorem quo_in (n : Int) {g : Int} (hg : 1 ≤ g) (hn : in18 n) : in18 (n.tdiv g) := by
 have := tdiv_abs n g hg
 unfold in18 at *
 revert this
 generalize n.tdiv g = r
 intro this
 omega
theorem kwrap_in {a : Int} (h : in18 a) : IntKind.i64.wrap a = a ∧ wrap64 a = a := by
 unfold in18 at h
 have : wrap64 a = a := by unfold wrap64; omega
 exact ⟨by rw [IntKind.wrap_i64]; omega, this⟩
set_option maxHeartbeats 1000000 in
theorem i_IsValidRat (x y : Int) (w : World) :
 Calls Try.prog 80 #[ratV x y] w fun e w' => e = .returned (.bool (valR (x, y))) ∧ Ext w w' := by
 have HX := Lib.hid (Ext.alloc w (.cells #[.int .i64 x, .int .i64 y] 34))
 cases h1 : inB y 1 1000000000
 ·have H1 := Lib.hid h1
  clear h1
  go_enter Try.func80, Try.ntmps80
  go_wp2_with fail
  refine (i_within _ _ _ _).mono ?_
  rw [H1.out]
  rintro e w1 ⟨rfl, rfl⟩
  go_wp2
  go_ret
  exact ⟨ret_bool (by simp [valR, H1.out]), HX.out⟩
 ·have H1 := Lib.hid h1
  have hy : in18 y := by simp only [inB, Bool.and_eq_true, decide_eq_true_eq] at h1; exact ⟨by omega, by omega⟩
  clear h1
  cases h2 : inB x (-1000000000) 1000000000
  ·have H2 := Lib.hid h2
   clear h2
   go_enter Try.func80, Try.ntmps80
   go_wp2_with fail
   refine (i_within _ _ _ _).mono ?_
   rw [H1.out]
   rintro e w1 ⟨rfl, rfl⟩
   go_wp2_with fail
   refine (i_within _ _ _ _).mono ?_
   rw [H2.out]
   rintro e w1 ⟨rfl, rfl⟩
   go_wp2
   go_ret
   exact ⟨ret_bool (by simp [valR, H2.out]), HX.out⟩
  ·have H2 := Lib.hid h2
   have hx : in18 x := by simp only [inB, Bool.and_eq_true, decide_eq_true_eq] at h2; exact ⟨by omega, by omega⟩
   clear h2
   have HC := Lib.hid (i_common x y (w.alloc (.cells #[.int .i64 x, .int .i64 y] 34)) hx hy)
   go_enter Try.func80, Try.ntmps80
   go_wp2_with fail
   refine (i_within _ _ _ _).mono ?_
   rw [H1.out]
   rintro e w1 ⟨rfl, rfl⟩
   go_wp2_with fail
   refine (i_within _ _ _ _).mono ?_
   rw [H2.out]
   rintro e w1 ⟨rfl, rfl⟩
   go_wp2_with fail
   refine HC.out.mono ?_
   rintro e w1 ⟨rfl, hd⟩
   go_wp2
   go_ret
   exact ⟨ret_bool (by simp only [valR, H1.out, H2.out]; by_cases h : gI x y = 1 <;> simp [h]), HX.out.trans hd.ext⟩
set_option maxHeartbeats 1000000 in
theorem s_IsValidRat (x y : Int) (w : World) :
 Calls Try.prog 125 #[ratV x y] w fun e w' => e = .returned (.bool (valR (x, y))) ∧ Ext w w' := by
 have HX := Lib.hid (Ext.alloc w (.cells #[.int .i64 x, .int .i64 y] 34))
 cases h1 : inB y 1 1000000000
 ·have H1 := Lib.hid h1
  clear h1
  go_enter Try.func125, Try.ntmps125
  go_wp2_with fail
  refine (s_l1In _ _ _ _).mono ?_
  rw [H1.out]
  rintro e w1 ⟨rfl, rfl⟩
  go_wp2
  go_ret
  exact ⟨ret_bool (by simp [valR, H1.out]), HX.out⟩
 ·have H1 := Lib.hid h1
  have hy : in18 y := by simp only [inB, Bool.and_eq_true, decide_eq_true_eq] at h1; exact ⟨by omega, by omega⟩
  clear h1
  cases h2 : inB x (-1000000000) 1000000000
  ·have H2 := Lib.hid h2
   clear h2
   go_enter Try.func125, Try.ntmps125
   go_wp2_with fail
   refine (s_l1In _ _ _ _).mono ?_
   rw [H1.out]
   rintro e w1 ⟨rfl, rfl⟩
   go_wp2_with fail
   refine (s_l1In _ _ _ _).mono ?_
   rw [H2.out]
   rintro e w1 ⟨rfl, rfl⟩
   go_wp2
   go_ret
   exact ⟨ret_bool (by simp [valR, H2.out]), HX.out⟩
  ·have H2 := Lib.hid h2
   have hx : in18 x := by simp only [inB, Bool.and_eq_true, decide_eq_true_eq] at h2; exact ⟨by omega, by omega⟩
   clear h2
   have HC := Lib.hid (s_l3Gcd x y (w.alloc (.cells #[.int .i64 x, .int .i64 y] 34)) hx hy)
   go_enter Try.func125, Try.ntmps125
   go_wp2_with fail
   refine (s_l1In _ _ _ _).mono ?_
   rw [H1.out]
   rintro e w1 ⟨rfl, rfl⟩
   go_wp2_with fail
   refine (s_l1In _ _ _ _).mono ?_
   rw [H2.out]
   rintro e w1 ⟨rfl, rfl⟩
   go_wp2_with fail
   refine HC.out.mono ?_
   rintro e w1 ⟨rfl, hd⟩
   go_wp2
   go_ret
   exact ⟨ret_bool (by simp only [valR, H1.out, H2.out]; by_cases h : gI x y = 1 <;> simp [h]), HX.out.trans hd.ext⟩
set_option maxHeartbeats 4000000 in
theorem i_RatOf (n d : Int) (w : World) :
 Calls Try.prog 81 #[.int .i64 n, .int .i64 d] w fun e w' => e = .returned (resR (ratOf n d)) ∧ Ext w w' := by
 have HX := Lib.hid (Ext.alloc w (.cells #[.int .i64 0, .int .i64 0] 34))
 by_cases h0 : d = 0
 ·have HR := Lib.hid (show ratOf n d = ((0, 0), false) by unfold ratOf; rw [if_pos (.inl h0)])
  subst h0
  go_enter Try.func81, Try.ntmps81
  go_wp2
  rw [HR.out]
  refine bodyPost_ret (v := .tuple #[.agg #[.int .i64 0, .int .i64 0], .bool false]) (by simp [results, Try.results81, go_sem]) rfl ⟨rfl, HX.out⟩
 have h0b : (d == 0) = false := by simpa using h0
 cases h1 : inB n (-1000000000000000000) 1000000000000000000
 ·have H1 := Lib.hid h1
  clear h1
  have HR := Lib.hid (show ratOf n d = ((0, 0), false) by unfold ratOf; rw [if_pos (.inr (.inl H1.out))])
  go_enter Try.func81, Try.ntmps81
  go_wp2_with fail
  refine (i_within _ _ _ _).mono ?_
  rw [H1.out]
  rintro e w1 ⟨rfl, rfl⟩
  go_wp2
  rw [HR.out]
  refine bodyPost_ret (v := .tuple #[.agg #[.int .i64 0, .int .i64 0], .bool false]) (by simp [results, Try.results81, go_sem]) rfl ⟨rfl, HX.out⟩
 have H1 := Lib.hid h1
 have hn : in18 n := by simp only [inB, Bool.and_eq_true, decide_eq_true_eq] at h1; exact ⟨by omega, by omega⟩
 clear h1
 cases h2 : inB d (-1000000000000000000) 1000000000000000000
 ·have H2 := Lib.hid h2
  clear h2
  have HR := Lib.hid (show ratOf n d = ((0, 0), false) by unfold ratOf; rw [if_pos (.inr (.inr H2.out))])
  go_enter Try.func81, Try.ntmps81
  go_wp2_with fail
  refine (i_within _ _ _ _).mono ?_
  rw [H1.out]
  rintro e w1 ⟨rfl, rfl⟩
  go_wp2_with fail
  refine (i_within _ _ _ _).mono ?_
  rw [H2.out]
  rintro e w1 ⟨rfl, rfl⟩
  go_wp2
  rw [HR.out]
  refine bodyPost_ret (v := .tuple #[.agg #[.int .i64 0, .int .i64 0], .bool false]) (by simp [results, Try.results81, go_sem]) rfl ⟨rfl, HX.out⟩
 have H2 := Lib.hid h2
 have hd : in18 d := by simp only [inB, Bool.and_eq_true, decide_eq_true_eq] at h2; exact ⟨by omega, by omega⟩
 clear h2
 have hg1 := gI_pos n h0
 have hg2 := gI_le n h0
 have hq := quo_in n hg1 hn
 have hq' := quo_in d hg1 hd
 by_cases h3 : d < 0
 ·have HC := Lib.hid (i_common n d (w.alloc (.cells #[.int .i64 0, .int .i64 0] 34)) hn hd)
  obtain ⟨g, hg⟩ : ∃ g, g = gI n d := ⟨_, rfl⟩
  rw [← hg] at hg1 hg2 HC hq hq'
  have HG := Lib.hid hg
  have hg3 : g ≤ 1000000000000000000 := by obtain ⟨_, _⟩ := hd; omega
  have hgz : ¬ g = 0 := by omega
  have hgn : (-g == 0) = false := by simp; omega
  obtain ⟨hn1, hn2⟩ := hn
  obtain ⟨hd1, hd2⟩ := hd
  obtain ⟨q1, hq1⟩ : ∃ q1, q1 = -(n.tdiv g) := ⟨_, rfl⟩
  obtain ⟨q2, hq2⟩ : ∃ q2, q2 = -(d.tdiv g) := ⟨_, rfl⟩
  have HR := Lib.hid (show ratOf n d = cutR (q1, q2) by unfold ratOf; rw [if_neg (by simp [h0, H1.out, H2.out]), if_pos h3, ← HG.out, Int.tdiv_neg, Int.tdiv_neg, hq1, hq2])
  obtain ⟨e1, e2⟩ := kwrap_in (in18_neg hq)
  obtain ⟨e3, e4⟩ := kwrap_in (in18_neg hq')
  rw [← hq1] at e1 e2
  rw [← hq2] at e3 e4
  have m1 : (-n).tdiv g = q1 := by rw [Int.neg_tdiv, hq1]
  have m2 : (-d).tdiv g = q2 := by rw [Int.neg_tdiv, hq2]
  have m3 : n.tdiv (-g) = q1 := by rw [Int.tdiv_neg, hq1]
  have m4 : d.tdiv (-g) = q2 := by rw [Int.tdiv_neg, hq2]
  have hq1' := hq1.symm
  have hq2' := hq2.symm
  clear hq hq' hg hg2 hq1 hq2
  cases hv : valR (q1, q2)
  all_goals
   go_enter Try.func81, Try.ntmps81
   go_wp2_with fail
   refine (i_within _ _ _ _).mono ?_
   rw [H1.out]
   rintro e w1 ⟨rfl, rfl⟩
   go_wp2_with fail
   refine (i_within _ _ _ _).mono ?_
   rw [H2.out]
   rintro e w1 ⟨rfl, rfl⟩
   go_wp2_with fail
   refine HC.out.mono ?_
   rintro e w1 ⟨rfl, hd⟩
   have hB : w1.heap[w.heap.size]? = some (.cells #[.int .i64 0, .int .i64 0] 34 (0, 0)) := (hd.ext.block _ (by simp)).trans (heap_alloc_new _ _)
   have HB := Lib.hid hB
   have LT := Lib.hid (lt_of_block hB)
   have X1 := Lib.hid (HX.out.trans hd.ext)
   clear hd hB
   go_wp2
   go_region_law (fail)
   have X2 := Lib.hid ((X1.out.trans (Ext.alloc w1 (.cells #[.int .i64 q1, .int .i64 q2] 34))).trans (Ext.drew _))
   have HV := Lib.hid (i_IsValidRat q1 q2 ((w1.alloc (.cells #[.int .i64 q1, .int .i64 q2] 34)).drew))
   go_wp2_with fail
   refine HV.out.mono ?_
   rw [hv]
   rintro e w2 ⟨rfl, hx⟩
   have lt := LT.out
   have hB : w2.heap[w.heap.size]? = some (.cells #[.int .i64 0, .int .i64 0] 34 (0, 0)) := (hx.block _ (by simp; omega)).trans ((heapA_old w1 (.cells #[.int .i64 q1, .int .i64 q2] 34) _ lt).trans HB.out)
   have hC : w2.heap[w1.heap.size]? = some (.cells #[.int .i64 q1, .int .i64 q2] 34 (0, 0)) := (hx.block _ (by simp)).trans (heap_alloc_new w1 (.cells #[.int .i64 q1, .int .i64 q2] 34))
   have b0 : w2.cell? ⟨w.heap.size, 0, none⟩ = some (.int .i64 0) := by rw [cell_of_row _ _ _ _ _ _ hB]; rfl
   have b1 : w2.cell? ⟨w.heap.size, 1, none⟩ = some (.int .i64 0) := by rw [cell_of_row _ _ _ _ _ _ hB]; rfl
   have c0 : w2.cell? ⟨w1.heap.size, 0, none⟩ = some (.int .i64 q1) := by rw [cell_of_row _ _ _ _ _ _ hC]; rfl
   have c1 : w2.cell? ⟨w1.heap.size, 1, none⟩ = some (.int .i64 q2) := by rw [cell_of_row _ _ _ _ _ _ hC]; rfl
   have fb : ∀ o, w2.frozen? ⟨w.heap.size, o, none⟩ = false := fun o => frozen_of_row _ _ _ _ _ hB
   have X3 := Lib.hid (X2.out.trans hx)
   clear hx hB hC lt
   go_wp2
   rw [HR.out]
  ·refine bodyPost_ret (v := .tuple #[.agg #[.int .i64 0, .int .i64 0], .bool false]) (by simp [results, Try.results81, go_sem, b0, b1]) rfl ⟨by simp [cutR, hv], ?_⟩
   exact (X3.out.setCell (by simp) _).setCell (by simp) _
  ·refine bodyPost_ret (v := .tuple #[.agg #[.int .i64 q1, .int .i64 q2], .bool true]) (by simp [results, Try.results81, go_sem, b0, b1]) rfl ⟨by simp [cutR, hv], ?_⟩
   exact (X3.out.setCell (by simp) _).setCell (by simp) _
 ·have HC := Lib.hid (i_common n d (w.alloc (.cells #[.int .i64 0, .int .i64 0] 34)) hn hd)
  obtain ⟨g, hg⟩ : ∃ g, g = gI n d := ⟨_, rfl⟩
  rw [← hg] at hg1 hg2 HC hq hq'
  have HG := Lib.hid hg
  have hg3 : g ≤ 1000000000000000000 := by obtain ⟨_, _⟩ := hd; omega
  have hgz : ¬ g = 0 := by omega
  obtain ⟨hn1, hn2⟩ := hn
  obtain ⟨hd1, hd2⟩ := hd
  obtain ⟨q1, hq1⟩ : ∃ q1, q1 = n.tdiv g := ⟨_, rfl⟩
  obtain ⟨q2, hq2⟩ : ∃ q2, q2 = d.tdiv g := ⟨_, rfl⟩
  have HR := Lib.hid (show ratOf n d = cutR (q1, q2) by unfold ratOf; rw [if_neg (by simp [h0, H1.out, H2.out]), if_neg h3, ← HG.out, hq1, hq2])
  have hm : d.tdiv g = d / g := Int.tdiv_eq_ediv_of_nonneg (by omega)
  obtain ⟨e1, e2⟩ := kwrap_in hq
  obtain ⟨e3, e4⟩ := kwrap_in hq'
  rw [← hq1] at e1 e2
  rw [← hq2] at e3 e4
  have hq1' := hq1.symm
  have hq2' := hq2.symm
  have hq3' : d / g = q2 := by rw [← hm, hq2]
  clear hq hq' hg hg2 hq1 hq2 hm
  cases hv : valR (q1, q2)
  all_goals
   go_enter Try.func81, Try.ntmps81
   go_wp2_with fail
   refine (i_within _ _ _ _).mono ?_
   rw [H1.out]
   rintro e w1 ⟨rfl, rfl⟩
   go_wp2_with fail
   refine (i_within _ _ _ _).mono ?_
   rw [H2.out]
   rintro e w1 ⟨rfl, rfl⟩
   go_wp2_with fail
   refine HC.out.mono ?_
   rintro e w1 ⟨rfl, hd⟩
   have hB : w1.heap[w.heap.size]? = some (.cells #[.int .i64 0, .int .i64 0] 34 (0, 0)) := (hd.ext.block _ (by simp)).trans (heap_alloc_new _ _)
   have HB := Lib.hid hB
   have LT := Lib.hid (lt_of_block hB)
   have X1 := Lib.hid (HX.out.trans hd.ext)
   clear hd hB
   go_wp2
   go_region_law (fail)
   have X2 := Lib.hid ((X1.out.trans (Ext.alloc w1 (.cells #[.int .i64 q1, .int .i64 q2] 34))).trans (Ext.drew _))
   have HV := Lib.hid (i_IsValidRat q1 q2 ((w1.alloc (.cells #[.int .i64 q1, .int .i64 q2] 34)).drew))
   go_wp2_with fail
   refine HV.out.mono ?_
   rw [hv]
   rintro e w2 ⟨rfl, hx⟩
   have lt := LT.out
   have hB : w2.heap[w.heap.size]? = some (.cells #[.int .i64 0, .int .i64 0] 34 (0, 0)) := (hx.block _ (by simp; omega)).trans ((heapA_old w1 (.cells #[.int .i64 q1, .int .i64 q2] 34) _ lt).trans HB.out)
   have hC : w2.heap[w1.heap.size]? = some (.cells #[.int .i64 q1, .int .i64 q2] 34 (0, 0)) := (hx.block _ (by simp)).trans (heap_alloc_new w1 (.cells #[.int .i64 q1, .int .i64 q2] 34))
   have b0 : w2.cell? ⟨w.heap.size, 0, none⟩ = some (.int .i64 0) := by rw [cell_of_row _ _ _ _ _ _ hB]; rfl
   have b1 : w2.cell? ⟨w.heap.size, 1, none⟩ = some (.int .i64 0) := by rw [cell_of_row _ _ _ _ _ _ hB]; rfl
   have c0 : w2.cell? ⟨w1.heap.size, 0, none⟩ = some (.int .i64 q1) := by rw [cell_of_row _ _ _ _ _ _ hC]; rfl
   have c1 : w2.cell? ⟨w1.heap.size, 1, none⟩ = some (.int .i64 q2) := by rw [cell_of_row _ _ _ _ _ _ hC]; rfl
   have fb : ∀ o, w2.frozen? ⟨w.heap.size, o, none⟩ = false := fun o => frozen_of_row _ _ _ _ _ hB
   have X3 := Lib.hid (X2.out.trans hx)
   clear hx hB hC lt
   go_wp2
   rw [HR.out]
  ·refine bodyPost_ret (v := .tuple #[.agg #[.int .i64 0, .int .i64 0], .bool false]) (by simp [results, Try.results81, go_sem, b0, b1]) rfl ⟨by simp [cutR, hv], ?_⟩
   exact (X3.out.setCell (by simp) _).setCell (by simp) _
  ·refine bodyPost_ret (v := .tuple #[.agg #[.int .i64 q1, .int .i64 q2], .bool true]) (by simp [results, Try.results81, go_sem, b0, b1]) rfl ⟨by simp [cutR, hv], ?_⟩
   exact (X3.out.setCell (by simp) _).setCell (by simp) _
set_option maxHeartbeats 4000000 in
theorem s_RatOf (n d : Int) (w : World) :
 Calls Try.prog 66 #[.int .i64 n, .int .i64 d] w fun e w' => e = .returned (resR (ratOf n d)) ∧ Ext w w' := by
 have HX := Lib.hid (Ext.alloc w (.cells #[.int .i64 0, .int .i64 0] 34))
 by_cases h0 : d = 0
 ·have HR := Lib.hid (show ratOf n d = ((0, 0), false) by unfold ratOf; rw [if_pos (.inl h0)])
  subst h0
  go_enter Try.func66, Try.ntmps66
  go_wp2
  rw [HR.out]
  refine bodyPost_ret (v := .tuple #[.agg #[.int .i64 0, .int .i64 0], .bool false]) (by simp [results, Try.results66, go_sem]) rfl ⟨rfl, HX.out⟩
 have h0b : (d == 0) = false := by simpa using h0
 cases h1 : inB n (-1000000000000000000) 1000000000000000000
 ·have H1 := Lib.hid h1
  clear h1
  have HR := Lib.hid (show ratOf n d = ((0, 0), false) by unfold ratOf; rw [if_pos (.inr (.inl H1.out))])
  go_enter Try.func66, Try.ntmps66
  go_wp2_with fail
  refine (s_l1In _ _ _ _).mono ?_
  rw [H1.out]
  rintro e w1 ⟨rfl, rfl⟩
  go_wp2
  rw [HR.out]
  refine bodyPost_ret (v := .tuple #[.agg #[.int .i64 0, .int .i64 0], .bool false]) (by simp [results, Try.results66, go_sem]) rfl ⟨rfl, HX.out⟩
 have H1 := Lib.hid h1
 have hn : in18 n := by simp only [inB, Bool.and_eq_true, decide_eq_true_eq] at h1; exact ⟨by omega, by omega⟩
 clear h1
 cases h2 : inB d (-1000000000000000000) 1000000000000000000
 ·have H2 := Lib.hid h2
  clear h2
  have HR := Lib.hid (show ratOf n d = ((0, 0), false) by unfold ratOf; rw [if_pos (.inr (.inr H2.out))])
  go_enter Try.func66, Try.ntmps66
  go_wp2_with fail
  refine (s_l1In _ _ _ _).mono ?_
  rw [H1.out]
  rintro e w1 ⟨rfl, rfl⟩
  go_wp2_with fail
  refine (s_l1In _ _ _ _).mono ?_
  rw [H2.out]
  rintro e w1 ⟨rfl, rfl⟩
  go_wp2
  rw [HR.out]
  refine bodyPost_ret (v := .tuple #[.agg #[.int .i64 0, .int .i64 0], .bool false]) (by simp [results, Try.results66, go_sem]) rfl ⟨rfl, HX.out⟩
 have H2 := Lib.hid h2
 have hd : in18 d := by simp only [inB, Bool.and_eq_true, decide_eq_true_eq] at h2; exact ⟨by omega, by omega⟩
 clear h2
 have hg1 := gI_pos n h0
 have hg2 := gI_le n h0
 have hq := quo_in n hg1 hn
 have hq' := quo_in d hg1 hd
 by_cases h3 : d < 0
 ·have HC := Lib.hid (s_l3Gcd (-n) (-d) (w.alloc (.cells #[.int .i64 0, .int .i64 0] 34)) (in18_neg hn) (in18_neg hd))
  rw [gI_negl, gI_negr] at HC
  obtain ⟨g, hg⟩ : ∃ g, g = gI n d := ⟨_, rfl⟩
  rw [← hg] at hg1 hg2 HC hq hq'
  have HG := Lib.hid hg
  have hg3 : g ≤ 1000000000000000000 := by obtain ⟨_, _⟩ := hd; omega
  have hgz : ¬ g = 0 := by omega
  have hgn : (-g == 0) = false := by simp; omega
  obtain ⟨hn1, hn2⟩ := hn
  obtain ⟨hd1, hd2⟩ := hd
  obtain ⟨q1, hq1⟩ : ∃ q1, q1 = -(n.tdiv g) := ⟨_, rfl⟩
  obtain ⟨q2, hq2⟩ : ∃ q2, q2 = -(d.tdiv g) := ⟨_, rfl⟩
  have HR := Lib.hid (show ratOf n d = cutR (q1, q2) by unfold ratOf; rw [if_neg (by simp [h0, H1.out, H2.out]), if_pos h3, ← HG.out, Int.tdiv_neg, Int.tdiv_neg, hq1, hq2])
  obtain ⟨e1, e2⟩ := kwrap_in (in18_neg hq)
  obtain ⟨e3, e4⟩ := kwrap_in (in18_neg hq')
  rw [← hq1] at e1 e2
  rw [← hq2] at e3 e4
  have m1 : (-n).tdiv g = q1 := by rw [Int.neg_tdiv, hq1]
  have m2 : (-d).tdiv g = q2 := by rw [Int.neg_tdiv, hq2]
  have m3 : n.tdiv (-g) = q1 := by rw [Int.tdiv_neg, hq1]
  have m4 : d.tdiv (-g) = q2 := by rw [Int.tdiv_neg, hq2]
  have hq1' := hq1.symm
  have hq2' := hq2.symm
  clear hq hq' hg hg2 hq1 hq2
  cases hv : valR (q1, q2)
  all_goals
   go_enter Try.func66, Try.ntmps66
   go_wp2_with fail
   refine (s_l1In _ _ _ _).mono ?_
   rw [H1.out]
   rintro e w1 ⟨rfl, rfl⟩
   go_wp2_with fail
   refine (s_l1In _ _ _ _).mono ?_
   rw [H2.out]
   rintro e w1 ⟨rfl, rfl⟩
   go_wp2_with fail
   refine HC.out.mono ?_
   rintro e w1 ⟨rfl, hd⟩
   have hB : w1.heap[w.heap.size]? = some (.cells #[.int .i64 0, .int .i64 0] 34 (0, 0)) := (hd.ext.block _ (by simp)).trans (heap_alloc_new _ _)
   have HB := Lib.hid hB
   have LT := Lib.hid (lt_of_block hB)
   have X1 := Lib.hid (HX.out.trans hd.ext)
   clear hd hB
   go_wp2
   go_region_law (fail)
   have X2 := Lib.hid ((X1.out.trans (Ext.alloc w1 (.cells #[.int .i64 q1, .int .i64 q2] 34))).trans (Ext.drew _))
   have HV := Lib.hid (s_IsValidRat q1 q2 ((w1.alloc (.cells #[.int .i64 q1, .int .i64 q2] 34)).drew))
   go_wp2_with fail
   refine HV.out.mono ?_
   rw [hv]
   rintro e w2 ⟨rfl, hx⟩
   have lt := LT.out
   have hB : w2.heap[w.heap.size]? = some (.cells #[.int .i64 0, .int .i64 0] 34 (0, 0)) := (hx.block _ (by simp; omega)).trans ((heapA_old w1 (.cells #[.int .i64 q1, .int .i64 q2] 34) _ lt).trans HB.out)
   have hC : w2.heap[w1.heap.size]? = some (.cells #[.int .i64 q1, .int .i64 q2] 34 (0, 0)) := (hx.block _ (by simp)).trans (heap_alloc_new w1 (.cells #[.int .i64 q1, .int .i64 q2] 34))
   have b0 : w2.cell? ⟨w.heap.size, 0, none⟩ = some (.int .i64 0) := by rw [cell_of_row _ _ _ _ _ _ hB]; rfl
   have b1 : w2.cell? ⟨w.heap.size, 1, none⟩ = some (.int .i64 0) := by rw [cell_of_row _ _ _ _ _ _ hB]; rfl
   have c0 : w2.cell? ⟨w1.heap.size, 0, none⟩ = some (.int .i64 q1) := by rw [cell_of_row _ _ _ _ _ _ hC]; rfl
   have c1 : w2.cell? ⟨w1.heap.size, 1, none⟩ = some (.int .i64 q2) := by rw [cell_of_row _ _ _ _ _ _ hC]; rfl
   have fb : ∀ o, w2.frozen? ⟨w.heap.size, o, none⟩ = false := fun o => frozen_of_row _ _ _ _ _ hB
   have X3 := Lib.hid (X2.out.trans hx)
   clear hx hB hC lt
   go_wp2
   rw [HR.out]
  ·refine bodyPost_ret (v := .tuple #[.agg #[.int .i64 0, .int .i64 0], .bool false]) (by simp [results, Try.results66, go_sem, b0, b1]) rfl ⟨by simp [cutR, hv], ?_⟩
   exact (X3.out.setCell (by simp) _).setCell (by simp) _
  ·refine bodyPost_ret (v := .tuple #[.agg #[.int .i64 q1, .int .i64 q2], .bool true]) (by simp [results, Try.results66, go_sem, b0, b1]) rfl ⟨by simp [cutR, hv], ?_⟩
   exact (X3.out.setCell (by simp) _).setCell (by simp) _
 ·have HC := Lib.hid (s_l3Gcd n d (w.alloc (.cells #[.int .i64 0, .int .i64 0] 34)) hn hd)
  obtain ⟨g, hg⟩ : ∃ g, g = gI n d := ⟨_, rfl⟩
  rw [← hg] at hg1 hg2 HC hq hq'
  have HG := Lib.hid hg
  have hg3 : g ≤ 1000000000000000000 := by obtain ⟨_, _⟩ := hd; omega
  have hgz : ¬ g = 0 := by omega
  obtain ⟨hn1, hn2⟩ := hn
  obtain ⟨hd1, hd2⟩ := hd
  obtain ⟨q1, hq1⟩ : ∃ q1, q1 = n.tdiv g := ⟨_, rfl⟩
  obtain ⟨q2, hq2⟩ : ∃ q2, q2 = d.tdiv g := ⟨_, rfl⟩
  have HR := Lib.hid (show ratOf n d = cutR (q1, q2) by unfold ratOf; rw [if_neg (by simp [h0, H1.out, H2.out]), if_neg h3, ← HG.out, hq1, hq2])
  have hm : d.tdiv g = d / g := Int.tdiv_eq_ediv_of_nonneg (by omega)
  obtain ⟨e1, e2⟩ := kwrap_in hq
  obtain ⟨e3, e4⟩ := kwrap_in hq'
  rw [← hq1] at e1 e2
  rw [← hq2] at e3 e4
  have hq1' := hq1.symm
  have hq2' := hq2.symm
  have hq3' : d / g = q2 := by rw [← hm, hq2]
  clear hq hq' hg hg2 hq1 hq2 hm
  cases hv : valR (q1, q2)
  all_goals
   go_enter Try.func66, Try.ntmps66
   go_wp2_with fail
   refine (s_l1In _ _ _ _).mono ?_
   rw [H1.out]
   rintro e w1 ⟨rfl, rfl⟩
   go_wp2_with fail
   refine (s_l1In _ _ _ _).mono ?_
   rw [H2.out]
   rintro e w1 ⟨rfl, rfl⟩
   go_wp2_with fail
   refine HC.out.mono ?_
   rintro e w1 ⟨rfl, hd⟩
   have hB : w1.heap[w.heap.size]? = some (.cells #[.int .i64 0, .int .i64 0] 34 (0, 0)) := (hd.ext.block _ (by simp)).trans (heap_alloc_new _ _)
   have HB := Lib.hid hB
   have LT := Lib.hid (lt_of_block hB)
   have X1 := Lib.hid (HX.out.trans hd.ext)
   clear hd hB
   go_wp2
   go_region_law (fail)
   have X2 := Lib.hid ((X1.out.trans (Ext.alloc w1 (.cells #[.int .i64 q1, .int .i64 q2] 34))).trans (Ext.drew _))
   have HV := Lib.hid (s_IsValidRat q1 q2 ((w1.alloc (.cells #[.int .i64 q1, .int .i64 q2] 34)).drew))
   go_wp2_with fail
   refine HV.out.mono ?_
   rw [hv]
   rintro e w2 ⟨rfl, hx⟩
   have lt := LT.out
   have hB : w2.heap[w.heap.size]? = some (.cells #[.int .i64 0, .int .i64 0] 34 (0, 0)) := (hx.block _ (by simp; omega)).trans ((heapA_old w1 (.cells #[.int .i64 q1, .int .i64 q2] 34) _ lt).trans HB.out)
   have hC : w2.heap[w1.heap.size]? = some (.cells #[.int .i64 q1, .int .i64 q2] 34 (0, 0)) := (hx.block _ (by simp)).trans (heap_alloc_new w1 (.cells #[.int .i64 q1, .int .i64 q2] 34))
   have b0 : w2.cell? ⟨w.heap.size, 0, none⟩ = some (.int .i64 0) := by rw [cell_of_row _ _ _ _ _ _ hB]; rfl
   have b1 : w2.cell? ⟨w.heap.size, 1, none⟩ = some (.int .i64 0) := by rw [cell_of_row _ _ _ _ _ _ hB]; rfl
   have c0 : w2.cell? ⟨w1.heap.size, 0, none⟩ = some (.int .i64 q1) := by rw [cell_of_row _ _ _ _ _ _ hC]; rfl
   have c1 : w2.cell? ⟨w1.heap.size, 1, none⟩ = some (.int .i64 q2) := by rw [cell_of_row _ _ _ _ _ _ hC]; rfl
   have fb : ∀ o, w2.frozen? ⟨w.heap.size, o, none⟩ = false := fun o => frozen_of_row _ _ _ _ _ hB
   have X3 := Lib.hid (X2.out.trans hx)
   clear hx hB hC lt
   go_wp2
   rw [HR.out]
  ·refine bodyPost_ret (v := .tuple #[.agg #[.int .i64 0, .int .i64 0], .bool false]) (by simp [results, Try.results66, go_sem, b0, b1]) rfl ⟨by simp [cutR, hv], ?_⟩
   exact (X3.out.setCell (by simp) _).setCell (by simp) _
  ·refine bodyPost_ret (v := .tuple #[.agg #[.int .i64 q1, .int .i64 q2], .bool true]) (by simp [results, Try.results66, go_sem, b0, b1]) rfl ⟨by simp [cutR, hv], ?_⟩
   exact (X3.out.setCell (by simp) _).setCell (by simp) _
end Go.Proofs.Ytgohdmnbnhehnaa
