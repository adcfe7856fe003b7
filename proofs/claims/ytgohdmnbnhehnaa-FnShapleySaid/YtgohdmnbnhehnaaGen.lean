/- Slices of elements of several cells, of whatever type: read, owned by a call, appended to. Over any program. -/
import Derived.Test.YtgohdmnbnhehnaaAppend
namespace Go.Proofs.Ytgohdmnbnhehnaa
set_option linter.unusedVariables false
open Go.RowKit

/-- How an element lies in memory: as c cells. -/
structure Enc (α : Type) where
  enc : α → List Value
  c : Nat
  hc : ∀ x, (enc x).length = c
  pos : 0 < c
  one : ∀ x, ∀ u ∈ enc x, u.oneCell' = true
def Enc.all {α : Type} (E : Enc α) (l : List α) : List Value := l.flatMap E.enc
theorem Enc.all_append {α : Type} (E : Enc α) (l l' : List α) : E.all (l ++ l') = E.all l ++ E.all l' := by simp [Enc.all]
theorem Enc.all_cons {α : Type} (E : Enc α) (x : α) (l : List α) : E.all (x :: l) = E.enc x ++ E.all l := by simp [Enc.all]
theorem Enc.all_len {α : Type} (E : Enc α) : ∀ l : List α, (E.all l).length = l.length * E.c
  | [] => by simp [Enc.all]
  | x :: l => by rw [E.all_cons, List.length_append, E.hc, E.all_len l, List.length_cons, Nat.succ_mul, Nat.add_comm]
theorem Enc.all_at {α : Type} (E : Enc α) : ∀ {l : List α} {k j : Nat} {x : α} {v : Value}, l[k]? = some x → (E.enc x)[j]? = some v → (E.all l)[k * E.c + j]? = some v
  | [], k, j, x, v, h, _ => by simp at h
  | y :: l, 0, j, x, v, h, hj => by
    simp only [List.getElem?_cons_zero, Option.some.injEq] at h
    subst h
    have hl := (List.getElem?_eq_some_iff.1 hj).1
    rw [E.all_cons, Nat.zero_mul, Nat.zero_add, List.getElem?_append_left hl, hj]
  | y :: l, k + 1, j, x, v, h, hj => by
    simp only [List.getElem?_cons_succ] at h
    rw [E.all_cons, List.getElem?_append_right (by rw [E.hc, Nat.succ_mul]; omega), E.hc]
    rw [show (k + 1) * E.c + j - E.c = k * E.c + j by rw [Nat.succ_mul]; omega]
    exact E.all_at h hj
theorem Enc.all_one {α : Type} (E : Enc α) (l : List α) : ∀ u ∈ E.all l, u.oneCell' = true := by
  intro u hu
  obtain ⟨x, _, hx⟩ := List.mem_flatMap.1 hu
  exact E.one x u hx
theorem Enc.split {α : Type} (E : Enc α) {l : List α} {i : Nat} {u : Value} (h : (E.all l)[i]? = some u) : ∃ k j x, i = k * E.c + j ∧ l[k]? = some x ∧ (E.enc x)[j]? = some u := by
  have hi : i < l.length * E.c := by have := (List.getElem?_eq_some_iff.1 h).1; rwa [E.all_len] at this
  have hp := E.pos
  have hk : i / E.c < l.length := (Nat.div_lt_iff_lt_mul hp).2 hi
  have hm : i % E.c < E.c := Nat.mod_lt _ hp
  have he : i = i / E.c * E.c + i % E.c := by rw [Nat.mul_comm]; exact (Nat.div_add_mod i E.c).symm
  refine ⟨i / E.c, i % E.c, l[i / E.c], he, List.getElem?_eq_getElem hk, ?_⟩
  have hj : i % E.c < (E.enc l[i / E.c]).length := by rw [E.hc]; exact hm
  have := E.all_at (List.getElem?_eq_getElem hk) (List.getElem?_eq_getElem hj)
  rw [← he, h] at this
  rw [List.getElem?_eq_getElem hj, this]

/-- A slice that can be read. -/
structure Slc {α : Type} (E : Enc α) (w : World) (a : Option Addr) (n cap : Nat) (l : List α) : Prop where
  hlen : l.length = n
  hcap : n ≤ cap
  hmax : cap ≤ 9223372036854775807
  cell : ∀ k, k < n → ∃ b off, a = some ⟨b, off, none⟩ ∧ ∀ k x j v, l[k]? = some x → (E.enc x)[j]? = some v → w.cell? ⟨b, off + k * E.c + j, none⟩ = some v
theorem Slc.ext {α : Type} {E : Enc α} {w w' : World} {a : Option Addr} {n cap : Nat} {l : List α} (h : Slc E w a n cap l) (hx : Ext w w') : Slc E w' a n cap l :=
  ⟨h.hlen, h.hcap, h.hmax, fun k hk => let ⟨b, off, e, hc⟩ := h.cell k hk; ⟨b, off, e, fun k x j v h1 h2 => hx.cellSome (hc k x j v h1 h2)⟩⟩
theorem Slc.at {α : Type} {E : Enc α} {w : World} {a : Option Addr} {n cap : Nat} {l : List α} (h : Slc E w a n cap l) {k : Nat} (hk : k < n) :
    ∃ b off x, a = some ⟨b, off, none⟩ ∧ l[k]? = some x ∧ ∀ j v, (E.enc x)[j]? = some v → w.cell? ⟨b, off + k * E.c + j, none⟩ = some v :=
  let ⟨b, off, e, hc⟩ := h.cell k hk
  have hl : k < l.length := by rw [h.hlen]; exact hk
  ⟨b, off, l[k], e, List.getElem?_eq_getElem hl, fun j v hj => hc k _ j v (List.getElem?_eq_getElem hl) hj⟩
theorem take_snocG {α : Type} {l : List α} {k : Nat} {x : α} (h : l[k]? = some x) : l.take (k + 1) = l.take k ++ [x] := by
  obtain ⟨hk, rfl⟩ := List.getElem?_eq_some_iff.1 h
  rw [List.take_succ_eq_append_getElem hk]

/-- v is a slice of these elements in a block of its own from base on (or nil). -/
def OwnG {α : Type} (E : Enc α) (t : TypeId) (w : World) (base : Nat) (v : Value) (l : List α) : Prop := w.ownsRow base t E.c v l.length (E.all l)
section
variable {α : Type} {E : Enc α} {t : TypeId} {w : World} {base : Nat} {l : List α}
theorem OwnG.form {v : Value} (h : OwnG E t w base v l) : ∃ a cap, v = .slice a l.length cap ∧ l.length ≤ cap ∧ cap ≤ 9223372036854775807 := by
  rcases h.2 with ⟨rfl, h0⟩ | ⟨g, cap, cur, rfl, _, _, h1, h2, _⟩
  · exact ⟨none, 0, by rw [h0], by omega, by omega⟩
  · exact ⟨_, cap, rfl, h1, by simpa [maxLen] using h2⟩
theorem OwnG.var {v : Value} (h : OwnG E t w base v l) : ∃ a n cap, v = .slice a n cap ∧ Hid (l.length = n) := by
  obtain ⟨a, cap, e, _⟩ := h.form
  exact ⟨a, _, cap, e, rfl⟩
theorem OwnG.slc {a : Option Addr} {n cap : Nat} (h : OwnG E t w base (.slice a n cap) l) : Slc E w a n cap l := by
  rcases h.2 with ⟨he, h0⟩ | ⟨g, cap', cur, he, _, hg, h1, h2, hs, ht⟩
  · simp only [Value.slice.injEq] at he
    obtain ⟨rfl, rfl, rfl⟩ := he
    exact ⟨h0, Nat.le_refl _, by omega, fun k hk => absurd hk (by omega)⟩
  · simp only [Value.slice.injEq] at he
    obtain ⟨rfl, rfl, rfl⟩ := he
    refine ⟨rfl, h1, by simpa [maxLen] using h2, fun k hk => ⟨g, 0, rfl, fun k x j v hx hv => ?_⟩⟩
    rw [Nat.zero_add, cell_of_row w g _ cur _ (0, 0) hg]
    have q := E.all_at hx hv
    rw [← ht, List.getElem?_take] at q
    split at q
    · simpa using q
    · cases q
theorem OwnG.lt {v : Value} (h : OwnG E t w base v l) : ∀ k, v.ownBlock = some k → base ≤ k ∧ k < w.heap.size := World.ownsRow.lt h
theorem OwnG.keep {w' : World} {v : Value} (h : OwnG E t w base v l) (hk : ∀ k, v.ownBlock = some k → w'.heap[k]? = w.heap[k]?) : OwnG E t w' base v l := by
  refine ⟨h.1, ?_⟩
  rcases h.2 with hn | ⟨g, cap, cur, rfl, hb, hgg, rest⟩
  · exact .inl hn
  · exact .inr ⟨g, cap, cur, rfl, hb, (hk g rfl).trans hgg, rest⟩
theorem OwnG.ext {w' : World} {v : Value} (h : OwnG E t w base v l) (hx : Ext w w') : OwnG E t w' base v l := h.keep fun k hk => hx.block k (h.lt k hk).2
theorem OwnG.on {v : Value} (h : OwnG E t w base v l) : On base w (fun W => OwnG E t W base v l) := fun w2 h2 => h.keep fun k hk => h2 k (h.lt k hk).1 (h.lt k hk).2
theorem OwnG.mono {base' : Nat} {v : Value} (h : OwnG E t w base v l) (hb : base' ≤ base) : OwnG E t w base' v l := by
  refine ⟨h.1, ?_⟩
  rcases h.2 with hn | ⟨g, cap, cur, rfl, hbb, rest⟩
  · exact .inl hn
  · exact .inr ⟨g, cap, cur, rfl, by omega, rest⟩
theorem OwnG.nil (E : Enc α) (t : TypeId) (w : World) (base : Nat) : OwnG E t w base (.slice none 0 0) [] := World.ownsRow_nil w base t _
theorem OwnG.block {a : Option Addr} {n cap : Nat} (h : OwnG E t w base (.slice a n cap) l) {k : Nat} (hk : k < n) : ∃ g, a = some ⟨g, 0, none⟩ ∧ base ≤ g ∧ (∀ j, w.frozen? ⟨g, j, none⟩ = false) ∧ g < w.heap.size := by
  rcases h.2 with ⟨he, h0⟩ | ⟨g, cap', cur, he, hb, hg, _⟩
  · simp only [Value.slice.injEq] at he
    omega
  · simp only [Value.slice.injEq] at he
    obtain ⟨rfl, _⟩ := he
    exact ⟨g, rfl, hb, fun j => frozen_of_row w g j cur _ hg, lt_of_block hg⟩
theorem OwnG.madeS (E : Enc α) (t : TypeId) (W : World) (base : Nat) (n : Nat) (hn : n = W.heap.size) (hb : base ≤ W.heap.size) : OwnG E t (W.alloc (.cells #[] t)) base (.slice (some ⟨n, 0, none⟩) 0 0) [] := by
  subst hn
  exact World.ownsRow_lit W #[] 0 hb (by omega) (by simp)
theorem OwnG.lit (E : Enc α) (t : TypeId) (W : World) (base : Nat) (l : List α) (cs : Array Value) (hcs : cs = (E.all l).toArray) (n : Nat) (hn : n = W.heap.size) (hb : base ≤ W.heap.size) (hm : l.length ≤ 1099511627776) : OwnG E t (W.alloc (.cells cs t)) base (.slice (some ⟨n, 0, none⟩) l.length l.length) l := by
  subst hn hcs
  refine ⟨E.all_len l, .inr ⟨_, l.length, (E.all l).toArray, rfl, hb, heap_alloc_new W _, Nat.le_refl _, by simp [maxLen]; omega, by simp [E.all_len], ?_⟩⟩
  show List.take _ (E.all l) = _
  exact List.take_of_length_le (by rw [E.all_len]; exact Nat.le_refl _)
theorem ownsRow_apart {w : World} {base base' : Nat} {e e' : TypeId} {s s' : Nat} {v v' : Value} {n n' : Nat} {xs xs' : List Value} (hne : e ≠ e') (h : w.ownsRow base e s v n xs) (h' : w.ownsRow base' e' s' v' n' xs') : ∀ k, v.ownBlock = some k → v'.ownBlock ≠ some k := by
  intro k hk hk'
  rcases h.2 with ⟨rfl, _⟩ | ⟨g, cap, cur, rfl, _, hg, _⟩
  · simp [Value.ownBlock] at hk
  · rcases h'.2 with ⟨rfl, _⟩ | ⟨g', cap', cur', rfl, _, hg', _⟩
    · simp [Value.ownBlock] at hk'
    · simp only [Value.ownBlock, Option.some.injEq] at hk hk'
      subst hk hk'
      rw [hg] at hg'
      simp only [Option.some.injEq, Obj.cells.injEq] at hg'
      exact hne hg'.2.1
theorem ownsRow_ne {w : World} {base g : Nat} {e e' : TypeId} {s : Nat} {v : Value} {n : Nat} {xs : List Value} {c : Array Value} {z : Nat × Nat} (h : w.ownsRow base e s v n xs) (hb : w.heap[g]? = some (.cells c e' z)) (hne : e ≠ e') : some g ≠ v.ownBlock := by
  intro hk
  rcases h.2 with ⟨rfl, _⟩ | ⟨g', cap, cur, rfl, _, hg, _⟩
  · simp [Value.ownBlock] at hk
  · simp only [Value.ownBlock, Option.some.injEq] at hk
    subst hk
    rw [hg] at hb
    simp only [Option.some.injEq, Obj.cells.injEq] at hb
    exact hne hb.2.1
/-- Elements in a new block, as the compiler hands them to append. -/
theorem Slc.lit (E : Enc α) (t : TypeId) (W : World) (l : List α) (m : Nat) (hm : l.length = m) (cs : Array Value) (hcs : cs = (E.all l).toArray) (n : Nat) (hn : n = W.heap.size) (hb : m ≤ 1099511627776) : Slc E (W.alloc (.cells cs t)) (some ⟨n, 0, none⟩) m m l := by
  subst hm
  exact (OwnG.lit E t W 0 l cs hcs n hn (Nat.zero_le _) hb).slc
end

section
variable {α : Type} {E : Enc α} {t : TypeId} {P : Program} {w : World} {ops : Array Oper} {rest : List Oper} {o : Oper} {a : Act} {Q : Exit → Act → World → Prop}
theorem wp_append_g {K : Act → World → Prop} {ts : TypeId} {z : Value} {bytes : Nat} (E : Enc α) (hinf : (P.info? t).map (fun i => (i.zero, i.size, i.bytes)) = some (some z, E.c, bytes)) (hz : z.cells.size = E.c) (ht : P.underlying ts = some (.slice t)) (hby : bytes ≤ 64)
    (s x : Operand) (ho : o.op = .call { callee := .builtin .append, args := #[s, x], argTypes := #[ts, ts] })
    (base : Nat) (v : Value) (l : List α) (hs : a.eval s = v) (hown : OwnG E t w base v l) (ao : Option Addr) (m c : Nat) (l' : List α) (hx : a.eval x = .slice ao m c) (hi' : Slc E w ao m c l') (hb : l.length + m ≤ 1099511627776) (hbase : base ≤ w.heap.size)
    (h : ∀ v' w', OwnG E t w' base v' (l ++ l') → w.grownBy w' v.ownBlock → Near w v v' → K (a.put o.dst v') w') : o.wp P a w K Q := by
  obtain ⟨i, hi, hz0, hz1, hz2⟩ : ∃ i, P.info? t = some i ∧ i.zero = some z ∧ i.size = E.c ∧ i.bytes = bytes := by
    cases hq : P.info? t with
    | none => rw [hq] at hinf; simp at hinf
    | some i => rw [hq] at hinf; simp at hinf; exact ⟨i, rfl, hinf.1, hinf.2.1, hinf.2.2⟩
  cases ao with
  | none =>
    have hm : m = 0 := by
      rcases Nat.eq_zero_or_pos m with h0 | h0
      · exact h0
      · obtain ⟨b, off, e, _⟩ := hi'.cell 0 h0; cases e
    subst hm
    have hl : l' = [] := List.eq_nil_of_length_eq_zero hi'.hlen
    subst hl
    refine wp_append_nothing w s x ts ho base t i E.c ht hi v l.length _ hs hown c hx ?_
    exact h v w (by simpa using hown) (World.grownBy.refl _ _) (Near.refl _ _)
  | some ad =>
    refine wp_append_near w s x ts ho base t i z E.c bytes ht hi hz0 hz1 hz2 hz E.pos v l.length (E.all l) hs hown ad m c (E.all l') hx (by rw [E.all_len, hi'.hlen]) ?_ (E.all_one l') (by simp [maxLen]; omega) (by have := Nat.mul_le_mul hb hby; omega) hbase ?_
    · intro i u hu
      obtain ⟨k, j, y, he, hk, hj⟩ := E.split hu
      have hkl : k < m := by rw [← hi'.hlen]; exact (List.getElem?_eq_some_iff.1 hk).1
      obtain ⟨b, off, e, hc⟩ := hi'.cell k hkl
      simp only [Option.some.injEq] at e
      subst e
      have ha : ∀ k, (⟨b, off, none⟩ : Addr).add k = ⟨b, off + k, none⟩ := fun k => by unfold Addr.add; split <;> simp_all
      rw [ha, he, ← Nat.add_assoc]
      exact hc k y j u hk hj
    · intro v' w' h1 h2 h3
      refine h v' w' ?_ h2 h3
      unfold OwnG
      rw [List.length_append, hi'.hlen, E.all_append]
      exact h1
theorem append_g {ts : TypeId} {z : Value} {bytes : Nat} (E : Enc α) (hinf : (P.info? t).map (fun i => (i.zero, i.size, i.bytes)) = some (some z, E.c, bytes)) (hz : z.cells.size = E.c) (ht : P.underlying ts = some (.slice t)) (hby : bytes ≤ 64) (hgd : o.guard = none)
    (s x : Operand) (ho : o.op = .call { callee := .builtin .append, args := #[s, x], argTypes := #[ts, ts] })
    (base : Nat) (v : Value) (l : List α) (hs : a.eval s = v) (hown : OwnG E t w base v l) (ao : Option Addr) (m c : Nat) (l' : List α) (hx : a.eval x = .slice ao m c) (hi' : Slc E w ao m c l') (hb : l.length + m ≤ 1099511627776) (hbase : base ≤ w.heap.size)
    (h : ∀ v' w', OwnG E t w' base v' (l ++ l') → w.grownBy w' v.ownBlock → Near w v v' → wpList P ops Q rest (a.put o.dst v') w') : wpList P ops Q (o :: rest) a w :=
  wpList_plain hgd fun _ hK => wp_append_g E hinf hz ht hby s x ho base v l hs hown ao m c l' hx hi' hb hbase fun v' w' h1 h2 h3 => hK _ _ (h v' w' h1 h2 h3)
end

end Go.Proofs.Ytgohdmnbnhehnaa
