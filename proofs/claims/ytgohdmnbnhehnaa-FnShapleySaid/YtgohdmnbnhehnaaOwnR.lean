/- Slices of fractions that a call owns: appended to, marked and looked at again. -/
import Derived.Test.YtgohdmnbnhehnaaOwn
import Derived.Test.YtgohdmnbnhehnaaRat
namespace Go.Proofs.Ytgohdmnbnhehnaa
set_option linter.unusedVariables false
set_option linter.unusedSimpArgs false
open Go.RowKit

def ratL (l : List (Int × Int)) : List Value := l.flatMap fun p => [Value.int .i64 p.1, Value.int .i64 p.2]
theorem ratL_append (l l' : List (Int × Int)) : ratL (l ++ l') = ratL l ++ ratL l' := by simp [ratL]
theorem ratL_one : ∀ (l : List (Int × Int)), ∀ u ∈ ratL l, u.oneCell' = true
  | [], u, h => by simp [ratL] at h
  | p :: l, u, h => by
    simp only [ratL, List.flatMap_cons, List.mem_append, List.mem_cons, List.not_mem_nil, or_false] at h
    rcases h with (rfl | rfl) | h
    · rfl
    · rfl
    · exact ratL_one l u h
/-- v is a slice of these fractions in a block of its own from base on (or nil). -/
def OwnR (w : World) (base : Nat) (v : Value) (l : List (Int × Int)) : Prop := w.ownsRow base 34 2 v l.length (ratL l)

theorem OwnR.form {w : World} {base : Nat} {v : Value} {l : List (Int × Int)} (h : OwnR w base v l) : ∃ a cap, v = .slice a l.length cap ∧ l.length ≤ cap ∧ cap ≤ 9223372036854775807 := by
  rcases h.2 with ⟨rfl, h0⟩ | ⟨g, cap, cur, rfl, _, _, h1, h2, _⟩
  · exact ⟨none, 0, by rw [h0], by omega, by omega⟩
  · exact ⟨_, cap, rfl, h1, by simpa [maxLen] using h2⟩
theorem OwnR.var {w : World} {base : Nat} {v : Value} {l : List (Int × Int)} (h : OwnR w base v l) : ∃ a n cap, v = .slice a n cap ∧ Hid (l.length = n) := by
  obtain ⟨a, cap, e, _⟩ := h.form
  exact ⟨a, _, cap, e, rfl⟩
theorem OwnR.rats {w : World} {base : Nat} {a : Option Addr} {n cap : Nat} {l : List (Int × Int)} (h : OwnR w base (.slice a n cap) l) : Rats w a n cap l := by
  rcases h.2 with ⟨he, h0⟩ | ⟨g, cap', cur, he, _, hg, h1, h2, hs, ht⟩
  · simp only [Value.slice.injEq] at he
    obtain ⟨rfl, rfl, rfl⟩ := he
    exact ⟨h0, Nat.le_refl _, by omega, fun k hk => absurd hk (by omega)⟩
  · simp only [Value.slice.injEq] at he
    obtain ⟨rfl, rfl, rfl⟩ := he
    refine ⟨rfl, h1, by simpa [maxLen] using h2, fun k hk => ⟨g, 0, rfl, fun k hk => ?_⟩⟩
    rw [Nat.zero_add, cell_of_row w g _ cur _ (0, 0) hg, cell_of_row w g _ cur _ (0, 0) hg]
    obtain ⟨q1, q2⟩ := flat_at l k hk
    change (ratL l)[k * 2]? = _ at q1
    change (ratL l)[k * 2 + 1]? = _ at q2
    rw [← ht, List.getElem?_take, if_pos (by omega)] at q1 q2
    exact ⟨by simpa using q1, by simpa using q2⟩
theorem OwnR.lt {w : World} {base : Nat} {v : Value} {l : List (Int × Int)} (h : OwnR w base v l) : ∀ k, v.ownBlock = some k → base ≤ k ∧ k < w.heap.size := World.ownsRow.lt h
theorem OwnR.keep {w w' : World} {base : Nat} {v : Value} {l : List (Int × Int)} (h : OwnR w base v l) (hk : ∀ k, v.ownBlock = some k → w'.heap[k]? = w.heap[k]?) : OwnR w' base v l := by
  refine ⟨h.1, ?_⟩
  rcases h.2 with hn | ⟨g, cap, cur, rfl, hb, hgg, rest⟩
  · exact .inl hn
  · exact .inr ⟨g, cap, cur, rfl, hb, (hk g rfl).trans hgg, rest⟩
theorem OwnR.ext {w w' : World} {base : Nat} {v : Value} {l : List (Int × Int)} (h : OwnR w base v l) (hx : Ext w w') : OwnR w' base v l := h.keep fun k hk => hx.block k (h.lt k hk).2
theorem OwnR.on {w : World} {base : Nat} {v : Value} {l : List (Int × Int)} (h : OwnR w base v l) : On base w (fun W => OwnR W base v l) := fun w2 h2 => h.keep fun k hk => h2 k (h.lt k hk).1 (h.lt k hk).2
theorem OwnR.mono {w : World} {base base' : Nat} {v : Value} {l : List (Int × Int)} (h : OwnR w base v l) (hb : base' ≤ base) : OwnR w base' v l := by
  refine ⟨h.1, ?_⟩
  rcases h.2 with hn | ⟨g, cap, cur, rfl, hbb, rest⟩
  · exact .inl hn
  · exact .inr ⟨g, cap, cur, rfl, by omega, rest⟩
theorem OwnR.nil (w : World) (base : Nat) : OwnR w base (.slice none 0 0) [] := World.ownsRow_nil w base _ 2
theorem RRow.own {w : World} {b base : Nat} {l : List (Int × Int)} {n : Nat} (h : RRow w b 34 l) (hb : base ≤ b) (hn : l.length = n) (hm : n ≤ 1099511627776) : OwnR w base (.slice (some ⟨b, 0, none⟩) n n) l := by
  subst hn
  refine ⟨?_, .inr ⟨b, l.length, ratCells l, rfl, hb, h, Nat.le_refl _, by simp [maxLen]; omega, ?_, ?_⟩⟩
  · exact flat_len l
  · show (ratCells l).size = _
    unfold ratCells
    simpa using flat_len l
  · show List.take _ (ratCells l).toList = _
    exact List.take_of_length_le (by unfold ratCells; simpa using Nat.le_of_eq (flat_len l))

section
variable {P : Program} {w : World} {ops : Array Oper} {rest : List Oper} {o : Oper} {a : Act} {Q : Exit → Act → World → Prop}

theorem wp_append_rats {K : Act → World → Prop} (s x : Operand) (ho : o.op = .call { callee := .builtin .append, args := #[s, x], argTypes := #[29, 29] })
    (base : Nat) (v : Value) (l : List (Int × Int)) (hs : a.eval s = v) (hown : OwnR w base v l) (ao : Option Addr) (m c : Nat) (l' : List (Int × Int)) (hx : a.eval x = .slice ao m c) (hi' : Rats w ao m c l') (hb : l.length + m ≤ 1099511627776) (hbase : base ≤ w.heap.size)
    (h : ∀ v' w', OwnR w' base v' (l ++ l') → w.grownBy w' v.ownBlock → Near w v v' → K (a.put o.dst v') w') : o.wp Try.prog a w K Q := by
  obtain ⟨i, hi, hz0, hz1, hz2⟩ := info_parts Try.infoRat
  cases ao with
  | none =>
    have hm : m = 0 := by
      rcases Nat.eq_zero_or_pos m with h0 | h0
      · exact h0
      · obtain ⟨b, off, e, _⟩ := hi'.cell 0 h0; cases e
    subst hm
    have hl : l' = [] := List.eq_nil_of_length_eq_zero hi'.hlen
    subst hl
    refine wp_append_nothing w s x 29 ho base 34 i 2 Try.underlying29 hi v l.length _ hs hown c hx ?_
    exact h v w (by simpa using hown) (World.grownBy.refl _ _) (Near.refl _ _)
  | some ad =>
    refine wp_append_near w s x 29 ho base 34 i (.agg #[.int .i64 0, .int .i64 0]) 2 16 Try.underlying29 hi hz0 hz1 hz2 rfl (by decide) v l.length (ratL l) hs hown ad m c (ratL l') hx (by have := flat_len l'; have := hi'.hlen; unfold ratL; omega) ?_ (ratL_one l') (by simp [maxLen]; omega) (by omega) hbase ?_
    · intro j u hu
      have hjl : j < l'.length * 2 := by
        have := (List.getElem?_eq_some_iff.1 hu).1
        have h2 := flat_len l'
        unfold ratL at this
        omega
      have hml := hi'.hlen
      obtain ⟨b, off, e, hc⟩ := hi'.cell (j / 2) (by omega)
      simp only [Option.some.injEq] at e
      subst e
      obtain ⟨c1, c2⟩ := hc (j / 2) (by omega)
      obtain ⟨q1, q2⟩ := flat_at l' (j / 2) (by omega)
      change (ratL l')[j / 2 * 2]? = _ at q1
      change (ratL l')[j / 2 * 2 + 1]? = _ at q2
      have hj : j = j / 2 * 2 ∨ j = j / 2 * 2 + 1 := by omega
      have ha : ∀ k, (⟨b, off, none⟩ : Addr).add k = ⟨b, off + k, none⟩ := fun k => by unfold Addr.add; split <;> simp_all
      rw [ha]
      rcases hj with hj | hj
      · rw [hj] at hu ⊢
        rw [q1] at hu
        rw [c1, ← hu]
      · rw [hj] at hu ⊢
        rw [q2] at hu
        rw [← Nat.add_assoc, c2, ← hu]
    · intro v' w' h1 h2 h3
      refine h v' w' ?_ h2 h3
      unfold OwnR
      rw [List.length_append, hi'.hlen, ratL_append]
      exact h1

theorem append_rats (hgd : o.guard = none) (s x : Operand) (ho : o.op = .call { callee := .builtin .append, args := #[s, x], argTypes := #[29, 29] })
    (base : Nat) (v : Value) (l : List (Int × Int)) (hs : a.eval s = v) (hown : OwnR w base v l) (ao : Option Addr) (m c : Nat) (l' : List (Int × Int)) (hx : a.eval x = .slice ao m c) (hi' : Rats w ao m c l') (hb : l.length + m ≤ 1099511627776) (hbase : base ≤ w.heap.size)
    (h : ∀ v' w', OwnR w' base v' (l ++ l') → w.grownBy w' v.ownBlock → Near w v v' → wpList Try.prog ops Q rest (a.put o.dst v') w') : wpList Try.prog ops Q (o :: rest) a w :=
  wpList_plain hgd fun _ hK => wp_append_rats s x ho base v l hs hown ao m c l' hx hi' hb hbase fun v' w' h1 h2 h3 => hK _ _ (h v' w' h1 h2 h3)
end
theorem OwnR.made (w : World) (base : Nat) (hb : base ≤ w.heap.size) : OwnR (w.alloc (.cells #[] 34)) base (.slice (some ⟨w.heap.size, 0, none⟩) 0 0) [] :=
  World.ownsRow_lit w #[] 0 hb (by omega) rfl

/-- One fraction in a new block, as the compiler hands it to append. -/
theorem Rats.one (w : World) (x y : Int) (t : TypeId) : Rats (w.alloc (.cells #[.int .i64 x, .int .i64 y] t)) (some ⟨w.heap.size, 0, none⟩) 1 1 [(x, y)] :=
  ⟨rfl, Nat.le_refl _, by omega, fun k hk => ⟨_, 0, rfl, fun k hk => by
    obtain rfl : k = 0 := by omega
    simp⟩⟩

theorem Rats.one' (w : World) (x y : Int) (t : TypeId) (n : Nat) (hn : n = w.heap.size) : Rats (w.alloc (.cells #[.int .i64 x, .int .i64 y] t)) (some ⟨n, 0, none⟩) 1 1 [(x, y)] := by
  subst hn
  exact Rats.one w x y t

/-- (k, k+1), (k+2, k+3), .. -/
def seqR (k : Int) (n : Nat) : List (Int × Int) := (List.range n).map fun (i : Nat) => (k + 2 * (i : Int), k + 2 * (i : Int) + 1)
theorem seqR_len (k : Int) (n : Nat) : (seqR k n).length = n := by simp [seqR]
theorem seqR_at (k : Int) (n i : Nat) (h : i < n) : (seqR k n)[i]?.getD (0, 0) = (k + 2 * i, k + 2 * i + 1) := by simp [seqR, h]
/-- The first i fractions marked from k on. -/
def markR (k : Int) (l : List (Int × Int)) (i : Nat) : List (Int × Int) := seqR k i ++ l.drop i
theorem markR_len (k : Int) (l : List (Int × Int)) (i : Nat) (h : i ≤ l.length) : (markR k l i).length = l.length := by simp [markR, seqR]; omega
theorem markR_zero (k : Int) (l : List (Int × Int)) : markR k l 0 = l := by simp [markR, seqR]
theorem markR_all (k : Int) (l : List (Int × Int)) : markR k l l.length = seqR k l.length := by simp [markR]
theorem markR_set (k : Int) (l : List (Int × Int)) (i : Nat) (h : i < l.length) : (markR k l i).set i (k + 2 * i, k + 2 * i + 1) = markR k l (i + 1) := by
  unfold markR
  rw [List.set_append_right _ _ (by simp [seqR])]
  have : i - (seqR k i).length = 0 := by simp [seqR]
  rw [this, List.drop_eq_getElem_cons h, List.set_cons_zero]
  simp [seqR, List.range_succ]

theorem OwnR.set {w : World} {base g n cap : Nat} {l : List (Int × Int)} (h : OwnR w base (.slice (some ⟨g, 0, none⟩) n cap) l) {k : Nat} (hk : k < l.length) (x y : Int) :
    OwnR ((w.setCell ⟨g, k * 2, none⟩ (.int .i64 x)).setCell ⟨g, k * 2 + 1, none⟩ (.int .i64 y)) base (.slice (some ⟨g, 0, none⟩) n cap) (l.set k (x, y)) := by
  obtain ⟨a', c', he, _⟩ := OwnR.form h
  simp only [Value.slice.injEq] at he
  obtain ⟨_, rfl, _⟩ := he
  have h1 := (World.ownsRow.stored h (k * 2) (.int .i64 x)).1
  have h2 := (World.ownsRow.stored h1 (k * 2 + 1) (.int .i64 y)).1
  unfold OwnR
  rw [List.length_set]
  have e := flat_set l k x y hk
  change _ = ratL (l.set k (x, y)) at e
  rw [← e]
  exact h2
theorem OwnR.block {w : World} {base : Nat} {a : Option Addr} {n cap : Nat} {l : List (Int × Int)} (h : OwnR w base (.slice a n cap) l) {k : Nat} (hk : k < n) : ∃ g, a = some ⟨g, 0, none⟩ ∧ base ≤ g ∧ (∀ j, w.frozen? ⟨g, j, none⟩ = false) ∧ g < w.heap.size := by
  rcases h.2 with ⟨he, h0⟩ | ⟨g, cap', cur, he, hb, hg, _⟩
  · simp only [Value.slice.injEq] at he
    omega
  · simp only [Value.slice.injEq] at he
    obtain ⟨rfl, _⟩ := he
    exact ⟨g, rfl, hb, fun j => frozen_of_row w g j cur _ hg, lt_of_block hg⟩

set_option maxHeartbeats 400000 in
theorem l_markRatS {w : World} {base : Nat} {a : Option Addr} {n cap : Nat} {l : List (Int × Int)} (h : OwnR w base (.slice a n cap) l) (k0 : Int) (h0 : 0 ≤ k0) (h1 : k0 + 2 * n ≤ 4611686018427387904) :
    Calls Try.prog 53 #[.slice a n cap, .int .i64 k0] w fun e w' => e = .returned (.int .i64 (k0 + 2 * n)) ∧ OwnR w' base (.slice a n cap) (seqR k0 n) ∧ w.grownBy w' (Value.slice a n cap).ownBlock ∧ w'.heap.size = w.heap.size := by
  have HL := Lib.hid h.rats.hlen
  go_enter Try.func53, Try.ntmps53
  go_wp2
  go_loopw [1, 5] (fun t i wr => ∃ k : Nat, k ≤ n ∧ i = .int .i64 k ∧ t = .int .i64 (k0 + 2 * k) ∧ OwnR wr base (.slice a n cap) (markR k0 l k) ∧ w.grownBy wr (Value.slice a n cap).ownBlock ∧ Hid (wr.heap.size = w.heap.size)) (fun _ i _ => n - (intOf i).toNat)
  case atStart => exact ⟨0, Nat.zero_le _, rfl, by simp, by rw [markR_zero]; exact h, World.grownBy.refl _ _, Lib.hid rfl⟩
  case round =>
    obtain ⟨k, hk, rfl, rfl, hown, hg, HS⟩ := hrel
    by_cases hlt : k < n
    · obtain ⟨g, rfl, hb, hfz, hgl⟩ := hown.block hlt
      obtain ⟨b, off, x, y, he, hxy, hc, hc'⟩ := hown.rats.at hlt
      simp only [Option.some.injEq, Addr.mk.injEq, and_true] at he
      obtain ⟨rfl, rfl⟩ := he
      rw [Nat.zero_add] at hc hc'
      have hfk := hfz (k * 2)
      have hfk' := hfz (k * 2 + 1)
      clear hfz hxy
      have HO := Lib.hid hown
      have HG := Lib.hid hg
      clear hown hg
      go_wp2
      go_roundw
      case rel =>
        refine ⟨k + 1, by omega, by go_num, by go_num, ?_, ?_, Lib.hid (by simp [HS.out])⟩
        · rw [← markR_set _ _ _ (by have := HL.out; omega)]
          have := HO.out.set (k := k) (by rw [markR_len _ _ _ (by have := HL.out; omega)]; have := HL.out; omega) (k0 + 2 * k) (k0 + 2 * k + 1)
          exact this
        · have hg := HG.out
          refine ⟨hg.os, hg.tape, hg.output, by simpa using hg.size, fun j hj hne => ?_⟩
          have hne' : j ≠ g := by intro e; exact hne (by simp [Value.ownBlock, e])
          rw [heap_setCell_other _ _ j _ hne', heap_setCell_other _ _ j _ hne']
          exact hg.block j hj hne
      case measure => simp [intOf]; omega
    · have HO := Lib.hid hown
      have HG := Lib.hid hg
      clear hown hg
      go_wp2
      go_ret
      have hkn : k = n := by omega
      subst hkn
      have := HO.out
      have hl := HL.out
      rw [← hl, markR_all, hl] at this
      exact ⟨rfl, this, HG.out, HS.out⟩

end Go.Proofs.Ytgohdmnbnhehnaa
