/- All orders of the players: the program's closure makes the list of the reference's recursion; AllOrders on both sides. -/
import Derived.Test.YtokpmflhgehicaaOrders
import Derived.Deep.RegionLaw
import Derived.Laws.EntriesVeiled
namespace Go.Proofs.Ytokpmflhgehicaa
set_option linter.unusedVariables false
open Go.RowKit

theorem OwnI.pop {w : World} {base : Nat} {a : Option Addr} {n cap : Nat} {l : List Int} {x : Int} (h : OwnI w base (.slice a (n + 1) cap) (l ++ [x])) : OwnI w base (.slice a n cap) l := by
  obtain ⟨a', c', he, _⟩ := h.form
  simp only [Value.slice.injEq, List.length_append, List.length_singleton] at he
  have hn : n = l.length := by omega
  subst hn
  refine ⟨by simp, ?_⟩
  rcases h.2 with ⟨he, h0⟩ | ⟨g, cap', cur, he, hb, hg, h1, h2, hs, ht⟩
  · simp at h0
  · simp only [Value.slice.injEq] at he
    obtain ⟨rfl, _, rfl⟩ := he
    refine .inr ⟨g, cap, cur, rfl, hb, hg, by simp at h1; omega, h2, hs, ?_⟩
    have := congrArg (List.take (l.length * 1)) ht
    rw [List.take_take, Nat.min_eq_left (by simp)] at this
    rw [this]
    simp

/-- What the closure finds in memory: the four captured variables, the order that is being made, the list so far. -/
structure StO (w : World) (base bn bN bo bw n : Nat) (p : List Int) (L : List (List Int)) (a : Option Addr) (m c : Nat) (vs : List Value) (a' : Option Addr) (m' c' : Nat) : Prop where
  hN : w.heap[bN]? = some (.cells #[.int .i64 (n : Int)] 3 (0, 0))
  hw : w.heap[bw]? = some (.cells #[.func (.func 147) #[] #[.pointer (some ⟨bn, 0, none⟩), .pointer (some ⟨bN, 0, none⟩), .pointer (some ⟨bo, 0, none⟩), .pointer (some ⟨bw, 0, none⟩)]] 1 (0, 0))
  hn : w.heap[bn]? = some (.cells #[.slice a m c] 34 (0, 0))
  ho : w.heap[bo]? = some (.cells #[.slice a' m' c'] 47 (0, 0))
  now : OwnI w base (.slice a m c) p
  out : OwnV w base (.slice a' m' c') vs
  rows : RowsI w base vs L
  apart : ∀ i k, i < L.length → (vs[i]?.getD undef).ownBlock = some k → (Value.slice a m c).ownBlock ≠ some k
  sep : ∀ k, k = bn ∨ k = bN ∨ k = bo ∨ k = bw → (Value.slice a m c).ownBlock ≠ some k ∧ (Value.slice a' m' c').ownBlock ≠ some k ∧ ∀ i, i < L.length → (vs[i]?.getD undef).ownBlock ≠ some k
  no : bn ≠ bo
  nN : bn ≠ bN
  nw : bn ≠ bw
  oN : bo ≠ bN
  ow : bo ≠ bw
  size : base ≤ w.heap.size

theorem heap_setCell_one {w : World} {b : Nat} {v u : Value} {t : TypeId} (h : w.heap[b]? = some (.cells #[v] t (0, 0))) : (w.setCell ⟨b, 0, none⟩ u).heap[b]? = some (.cells #[u] t (0, 0)) := one_setCell h

section
variable {w w' : World} {base bn bN bo bw n m c m' c' : Nat} {p : List Int} {L : List (List Int)} {a a' : Option Addr} {vs : List Value}

theorem StO.ext (h : StO w base bn bN bo bw n p L a m c vs a' m' c') (hx : Ext w w') : StO w' base bn bN bo bw n p L a m c vs a' m' c' := by
  have hs := h.size
  exact ⟨(hx.block _ (lt_of_block h.hN)).trans h.hN, (hx.block _ (lt_of_block h.hw)).trans h.hw, (hx.block _ (lt_of_block h.hn)).trans h.hn, (hx.block _ (lt_of_block h.ho)).trans h.ho, h.now.ext hx, h.out.ext hx, h.rows.ext hx, h.apart, h.sep, h.no, h.nN, h.nw, h.oN, h.ow, Nat.le_trans hs hx.size⟩

/-- The order grew. -/
theorem StO.pushed (h : StO w base bn bN bo bw n p L a m c vs a' m' c') {a1 : Option Addr} {m1 c1 : Nat} {x : Int} (hg : w.grownBy w' (Value.slice a m c).ownBlock) (ho : OwnI w' base (.slice a1 m1 c1) (p ++ [x])) (hnear : Near w (.slice a m c) (.slice a1 m1 c1)) :
    StO (w'.setCell ⟨bn, 0, none⟩ (.slice a1 m1 c1)) base bn bN bo bw n (p ++ [x]) L a1 m1 c1 vs a' m' c' := by
  have hs := h.size
  have hlow : ∀ k, k = bn ∨ k = bN ∨ k = bo ∨ k = bw → k < w.heap.size → w'.heap[k]? = w.heap[k]? := fun k hk hlt => hg.block k hlt fun e => (h.sep k hk).1 e.symm
  have hne : ∀ k, k ≠ bn → (w'.setCell ⟨bn, 0, none⟩ (.slice a1 m1 c1)).heap[k]? = w'.heap[k]? := fun k hk => heap_setCell_other w' _ k _ hk
  have hbn := lt_of_block h.hn
  have hnow1 : ∀ k, k = bn ∨ k = bN ∨ k = bo ∨ k = bw → k < w.heap.size → (Value.slice a1 m1 c1).ownBlock ≠ some k := fun k hk hlt e => by
    rcases hnear k e with h1 | h1
    · exact (h.sep k hk).1 h1
    · omega
  refine ⟨?_, ?_, heap_setCell_one ((hlow _ (.inl rfl) hbn).trans h.hn), ?_, ho.keep fun k hk => hne k (fun e => hnow1 bn (.inl rfl) hbn (e ▸ hk)), ?_, ?_, ?_, ?_, h.no, h.nN, h.nw, h.oN, h.ow, by simpa using Nat.le_trans hs hg.size⟩
  · rw [hne _ (Ne.symm h.nN), hlow _ (by simp) (lt_of_block h.hN)]; exact h.hN
  · rw [hne _ (Ne.symm h.nw), hlow _ (by simp) (lt_of_block h.hw)]; exact h.hw
  · rw [hne _ (Ne.symm h.no), hlow _ (by simp) (lt_of_block h.ho)]; exact h.ho
  · refine h.out.keep fun k hk => ?_
    rw [hne k (fun e => (h.sep bn (.inl rfl)).2.1 (e ▸ hk))]
    exact hg.block k (h.out.lt k hk).2 fun e => h.now.apart h.out k e.symm hk
  · refine h.rows.keep fun i k hi hk => ?_
    have hlt := (h.rows.row i hi).lt k hk
    rw [hne k (fun e => (h.sep bn (.inl rfl)).2.2 i hi (e ▸ hk))]
    exact hg.block k hlt.2 fun e => h.apart i k hi hk e.symm
  · intro i k hi hk e
    have hlt := (h.rows.row i hi).lt k hk
    rcases hnear k e with h1 | h1
    · exact h.apart i k hi hk h1
    · omega
  · intro k hk
    refine ⟨hnow1 k hk ?_, (h.sep k hk).2⟩
    rcases hk with rfl | rfl | rfl | rfl
    · exact hbn
    · exact lt_of_block h.hN
    · exact lt_of_block h.ho
    · exact lt_of_block h.hw

/-- The order's last is taken off. -/
theorem StO.popped {x : Int} (h : StO w base bn bN bo bw n (p ++ [x]) L a (m + 1) c vs a' m' c') : StO (w.setCell ⟨bn, 0, none⟩ (.slice a m c)) base bn bN bo bw n p L a m c vs a' m' c' := by
  have hs := h.size
  have hne : ∀ k, k ≠ bn → (w.setCell ⟨bn, 0, none⟩ (.slice a m c)).heap[k]? = w.heap[k]? := fun k hk => heap_setCell_other w _ k _ hk
  have hp := h.now.pop
  have hob : ∀ k, (Value.slice a m c).ownBlock = some k → (Value.slice a (m + 1) c).ownBlock = some k := fun k e => by cases a <;> exact e
  refine ⟨?_, ?_, heap_setCell_one h.hn, ?_, hp.keep fun k hk => hne k (fun e => (h.sep bn (.inl rfl)).1 (hob _ (e ▸ hk))), ?_, ?_, fun i k hi hk e => h.apart i k hi hk (hob k e), fun k hk => ⟨fun e => (h.sep k hk).1 (hob k e), (h.sep k hk).2⟩, h.no, h.nN, h.nw, h.oN, h.ow, by simpa using hs⟩
  · rw [hne _ (Ne.symm h.nN)]; exact h.hN
  · rw [hne _ (Ne.symm h.nw)]; exact h.hw
  · rw [hne _ (Ne.symm h.no)]; exact h.ho
  · exact h.out.keep fun k hk => hne k (fun e => (h.sep bn (.inl rfl)).2.1 (e ▸ hk))
  · exact h.rows.keep fun i k hi hk => hne k (fun e => (h.sep bn (.inl rfl)).2.2 i hi (e ▸ hk))

/-- The list has a row more: a new one. -/
theorem StO.listed (h : StO w base bn bN bo bw n p L a m c vs a' m' c') {w1 w2 w3 : World} {v : Value} {q : List Int} (hx : Ext w w1) (ho : OwnI w1 w.heap.size v q) (hx2 : Ext w1 w2) {a1 : Option Addr} {m1 c1 : Nat}
    (hg : w2.grownBy w3 (Value.slice a' m' c').ownBlock) (hv : OwnV w3 base (.slice a1 m1 c1) (vs ++ [v])) (hnear : Near w2 (.slice a' m' c') (.slice a1 m1 c1)) :
    StO (w3.setCell ⟨bo, 0, none⟩ (.slice a1 m1 c1)) base bn bN bo bw n p (L ++ [q]) a m c (vs ++ [v]) a1 m1 c1 := by
  have hs := h.size
  have h2 := (h.ext hx).ext hx2
  have hs2 := h2.size
  have hlow : ∀ k, k = bn ∨ k = bN ∨ k = bo ∨ k = bw → k < w2.heap.size → w3.heap[k]? = w2.heap[k]? := fun k hk hlt => hg.block k hlt fun e => (h2.sep k hk).2.1 e.symm
  have hne : ∀ k, k ≠ bo → (w3.setCell ⟨bo, 0, none⟩ (.slice a1 m1 c1)).heap[k]? = w3.heap[k]? := fun k hk => heap_setCell_other w3 _ k _ hk
  have hr2 : RowsI w2 base (vs ++ [v]) (L ++ [q]) := (h.rows.snoc hx ho hs).ext hx2
  have hlt4 : ∀ k, k = bn ∨ k = bN ∨ k = bo ∨ k = bw → k < w.heap.size := fun k hk => by
    rcases hk with rfl | rfl | rfl | rfl
    · exact lt_of_block h.hn
    · exact lt_of_block h.hN
    · exact lt_of_block h.ho
    · exact lt_of_block h.hw
  have hlt2 : ∀ k, k < w.heap.size → k < w2.heap.size := fun k hk => Nat.lt_of_lt_of_le hk (Nat.le_trans hx.size hx2.size)
  have hout1 : ∀ k, k = bn ∨ k = bN ∨ k = bo ∨ k = bw → (Value.slice a1 m1 c1).ownBlock ≠ some k := fun k hk e => by
    rcases hnear k e with h1 | h1
    · exact (h2.sep k hk).2.1 h1
    · have := hlt2 k (hlt4 k hk); omega
  have hrow1 : ∀ k, k = bn ∨ k = bN ∨ k = bo ∨ k = bw → ∀ i, i < (L ++ [q]).length → ((vs ++ [v])[i]?.getD undef).ownBlock ≠ some k := fun k hk i hi e => by
    by_cases hl : i < L.length
    · rw [List.getElem?_append_left (by rw [h.rows.len]; exact hl)] at e
      exact (h.sep k hk).2.2 i hl e
    · have : i = L.length := by simp at hi; omega
      subst this
      rw [← h.rows.len] at e
      simp only [List.getElem?_concat_length, Option.getD_some] at e
      have h3 := (ho.lt k e).1
      have := hlt4 k hk
      omega
  refine ⟨?_, ?_, ?_, heap_setCell_one ((hlow _ (by simp) (lt_of_block h2.ho)).trans h2.ho), ?_, ?_, ?_, ?_, fun k hk => ⟨(h.sep k hk).1, hout1 k hk, hrow1 k hk⟩, h.no, h.nN, h.nw, h.oN, h.ow, by simpa using Nat.le_trans hs2 hg.size⟩
  · rw [hne _ (Ne.symm h.oN), hlow _ (by simp) (lt_of_block h2.hN)]; exact h2.hN
  · rw [hne _ (Ne.symm h.ow), hlow _ (by simp) (lt_of_block h2.hw)]; exact h2.hw
  · rw [hne _ h.no, hlow _ (by simp) (lt_of_block h2.hn)]; exact h2.hn
  · refine h2.now.keep fun k hk => ?_
    rw [hne k (fun e => (h.sep bo (by simp)).1 (e ▸ hk))]
    exact hg.block k (h2.now.lt k hk).2 fun e => h2.now.apart h2.out k hk e.symm
  · exact hv.keep fun k hk => hne k (fun e => hout1 bo (by simp) (e ▸ hk))
  · exact (hr2.grown h2.out hg).keep fun i k hi hk => hne k (fun e => hrow1 bo (by simp) i hi (e ▸ hk))
  · intro i k hi hk e
    by_cases hl : i < L.length
    · rw [List.getElem?_append_left (by rw [h.rows.len]; exact hl)] at hk
      exact h.apart i k hl hk e
    · have : i = L.length := by simp at hi; omega
      subst this
      rw [← h.rows.len] at hk
      simp only [List.getElem?_concat_length, Option.getD_some] at hk
      have h3 := (ho.lt k hk).1
      have h4 := (h.now.lt k e).2
      omega

theorem StO.hoGrown (h : StO w base bn bN bo bw n p L a m c vs a' m' c') (hg : w.grownBy w' (Value.slice a' m' c').ownBlock) : w'.heap[bo]? = some (.cells #[.slice a' m' c'] 47 (0, 0)) :=
  (hg.block bo (lt_of_block h.ho) fun e => (h.sep bo (by simp)).2.1 e.symm).trans h.ho
theorem StO.hnGrown (h : StO w base bn bN bo bw n p L a m c vs a' m' c') (hg : w.grownBy w' (Value.slice a m c).ownBlock) : w'.heap[bn]? = some (.cells #[.slice a m c] 34 (0, 0)) :=
  (hg.block bn (lt_of_block h.hn) fun e => (h.sep bn (.inl rfl)).1 e.symm).trans h.hn
theorem StO.below {B : Nat} (h : StO w base bn bN bo bw n p L a m c vs a' m' c') {b : Nat} (hb : B ≤ b) {w0 : World} (h0 : Below B w0 w) (v : Value) : Below B w0 (w.setCell ⟨b, 0, none⟩ v) := h0.setCell hb v
end

theorem go_AllOrders1 : IsGo Try.prog 147 := isGo Try.func147 (by kernel_rfl) (by kernel_rfl)

/-- The closure's end: for some lists in memory. -/
def StEnd (base bn bN bo bw n : Nat) (p : List Int) (L : List (List Int)) (w : World) : Prop := ∃ a m c vs a' m' c', StO w base bn bN bo bw n p L a m c vs a' m' c'

set_option maxRecDepth 100000 in
set_option maxHeartbeats 1000000 in
theorem i_AllOrders1 (n : Nat) (hn : n ≤ 5) (B base bn bN bo bw : Nat) (hBn : B ≤ bn) (hBo : B ≤ bo) (hBb : B ≤ base) : ∀ (f : Nat) (w : World) (p : List Int) (L : List (List Int)) (a : Option Addr) (m c : Nat) (vs : List Value) (a' : Option Addr) (m' c' : Nat),
    StO w base bn bN bo bw n p L a m c vs a' m' c' → p.length + f = n → L.length + 5 ^ f ≤ 1000000 →
    Calls Try.prog 147 #[.pointer (some ⟨bn, 0, none⟩), .pointer (some ⟨bN, 0, none⟩), .pointer (some ⟨bo, 0, none⟩), .pointer (some ⟨bw, 0, none⟩)] w fun e w' =>
      e = .returned (.tuple #[]) ∧ StEnd base bn bN bo bw n p (L ++ ordersF f n p) w' ∧ Below B w w' := by
  intro f
  induction f with
  | zero =>
    intro w p L a m c vs a' m' c' hS hp hL
    have hm : m = p.length := hS.now.ints.hlen.symm
    have heq : ((m : Int) == (n : Int)) = true := by simp; omega
    have hm5 : m ≤ 5 := by omega
    have cn := cell_of_one hS.hn
    have cN := cell_of_one hS.hN
    have co := cell_of_one hS.ho
    have HS := Lib.hid hS
    have HM := Lib.hid hm
    clear hS hm hp
    go_enter Try.func147, Try.ntmps147
    go_wp2_with fail
    go_region_law (first
      | (refine step_of_wp _ rfl (wp_append_slice _ _ rfl base _ vs rfl (HS1.out.ext (Ext.alloc _ _)).out _ _ 1 rfl (by simp; rfl) rfl (by have := HS1.out.rows.len; omega) (by have := HS1.out.size; simp; omega) ?_); intro v3 w3 ho3 hg3 hn3; obtain ⟨a3, n3, c3, rfl, HN3⟩ := ho3.var; have HO3 := Lib.hid ho3; have HG3 := Lib.hid hg3; have HNE := Lib.hid hn3; have co3 := cell_of_one ((HS1.out.ext (Ext.alloc _ _)).hoGrown hg3); have cf3 := free_of_one ((HS1.out.ext (Ext.alloc _ _)).hoGrown hg3); clear ho3 hg3 hn3)
      | (go_simp; go_at_call 100; refine (clone_ints (HS.out.ext (Ext.drew w)).now.ints (by omega)).mono ?_; rintro e w1 ⟨v1, rfl, ho, hx⟩; obtain ⟨a1, n1, c1, rfl, HN1⟩ := ho.var; have HS1 := Lib.hid ((HS.out.ext (Ext.drew w)).ext hx); have HO1 := Lib.hid ho; have HX1 := Lib.hid hx; have co1 := cell_of_one HS1.out.ho; have lo1 := lt_of_block HS1.out.ho; clear ho hx))
    all_goals
      go_wp2
      refine bodyPost_ret (results_none rfl _ _ _) rfl ?_
      have hs := HS.out.size
      refine ⟨rfl, ⟨a, m, c, _, a3, n3, c3, (HS.out.ext (Ext.drew w)).listed HX1.out HO1.out (Ext.alloc _ _) HG3.out HO3.out HNE.out⟩, ?_⟩
      refine (Below.grown (Below.mono (((Ext.drew w).trans HX1.out).trans (Ext.alloc _ _)) (by omega)) HG3.out ?_ ?_).setCell hBo _
      · have := HX1.out.size; simp at this ⊢; omega
      · intro k e
        have := ((HS1.out.ext (Ext.alloc w1 (.cells #[.slice a1 n1 c1] 34))).out.lt k e).1
        omega
  | succ f ih =>
    intro w p L a m c vs a' m' c' hS hp hL
    have hm : m = p.length := hS.now.ints.hlen.symm
    have heq : ((m : Int) == (n : Int)) = false := by simp; omega
    have cn := cell_of_one hS.hn
    have cN := cell_of_one hS.hN
    have hm5 : m ≤ 5 := by omega
    have HP := Lib.hid hp
    have h5 := Nat.pow_succ 5 f
    have HL := Lib.hid hL
    have hfid := go_AllOrders1
    have hcf : ∀ (args : Array Value) (w : World), (callFunc 147 args).run Try.prog w = .ok (.enter 147 args) w := hfid
    clear hp hL hfid hm
    go_enter Try.func147, Try.ntmps147
    go_wp2
    go_loopw [15] (fun i wr => ∃ (k : Nat), k ≤ n ∧ i = .int .i64 (k : Int) ∧ StEnd base bn bN bo bw n p (L ++ ordersTo f n p k) wr ∧ Below B w wr) (fun i _ => n - (intOf i).toNat)
    case atStart => exact ⟨0, Nat.zero_le _, rfl, ⟨a, m, c, vs, a', m', c', by rw [ordersTo_zero, List.append_nil]; exact hS⟩, Below.refl _ _⟩
    case round =>
      obtain ⟨k, hk, rfl, ⟨a1, m1, c1, vs1, a1', m1', c1', hS1⟩, hB⟩ := hrel
      have HB := Lib.hid hB
      have HS1 := Lib.hid hS1
      have cn1 := cell_of_one hS1.hn
      have cf1 := free_of_one hS1.hn
      clear hB hS hS1
      by_cases hlt : k < n
      · cases hh : hasI p (k : Int)
        · have HH := Lib.hid hh
          have hm1 : m1 ≤ 5 := by have := HS1.out.now.ints.hlen; have := HP.out; omega
          go_wp2_with (first
            | (go_at_call 148; refine (contains_ints _ HS1.out.now.ints).mono ?_; rintro e w' ⟨rfl, rfl⟩)
            | (at_builtin; refine append_ints rfl _ _ rfl base (.slice a1 m1 c1) _ rfl (HS1.out.now.ext (Ext.alloc _ _)) _ 1 _ [(k : Int)] rfl (Ints.one _ _ _) (by have := HP.out; simp; omega) (by have := HS1.out.size; simp; omega) ?_; intro v2 w2 ho hg hnear; obtain ⟨a2, n2, c2, rfl, HN2⟩ := ho.var; have HS2 := Lib.hid ((HS1.out.ext (Ext.alloc _ _)).pushed hg ho hnear); have HG2 := Lib.hid hg; have cw2 := cell_of_one HS2.out.hw; have cn2 := cell_of_one ((HS1.out.ext (Ext.alloc _ _)).hnGrown hg); have cf2 := free_of_one ((HS1.out.ext (Ext.alloc _ _)).hnGrown hg); clear ho hg hnear))
          have HLEN := ordersTo_len n hn f p k hlt
          have HREC := Lib.hid (ih _ (p ++ [(k : Int)]) (L ++ ordersTo f n p k) a2 n2 c2 vs1 a1' m1' c1' HS2.out (by simp; have := HP.out; omega) (by have := HL.out; simp; omega))
          clear HLEN
          refine HREC.out.mono ?_
          rintro e w3 ⟨rfl, ⟨a4, m4, c4, vs4, a4', m4', c4', hS4⟩, hB4⟩
          obtain ⟨q, rfl⟩ : ∃ q, m4 = q + 1 := ⟨p.length, by have := hS4.now.ints.hlen; simp at this; omega⟩
          have hq := hS4.now.ints.hcap
          have hq' := hS4.now.ints.hmax
          have cn4 := cell_of_one hS4.hn
          have cf4 := free_of_one hS4.hn
          have HS4 := Lib.hid hS4
          have HB4 := Lib.hid hB4
          clear hS4 hB4
          go_wp2
          go_roundw
          case rel =>
            refine ⟨k + 1, by omega, by go_num, ⟨a4, q, c4, vs4, a4', m4', c4', ?_⟩, ?_⟩
            · rw [ordersTo_succ, HH.out]
              have := HS4.out.popped
              simpa using this
            · have hs := HS1.out.size
              refine ((HB.out.trans ?_).trans HB4.out).setCell hBn _
              refine (Below.grown (Below.mono (Ext.alloc _ _) (by omega)) HG2.out (by simp; omega) ?_).setCell hBn _
              intro j e
              have := (HS1.out.now.lt j e).1
              omega
          case measure => simp [intOf]; omega
        · have HH := Lib.hid hh
          go_wp2_with (first
            | (go_at_call 148; refine (contains_ints _ HS1.out.now.ints).mono ?_; rintro e w' ⟨rfl, rfl⟩))
          go_roundw
          case rel =>
            refine ⟨k + 1, by omega, by go_num, ⟨a1, m1, c1, vs1, a1', m1', c1', ?_⟩, HB.out⟩
            rw [ordersTo_succ, HH.out]
            simpa using HS1.out
          case measure => simp [intOf]; omega
      · have hkn : k = n := by omega
        subst hkn
        go_wp2
        go_end0
        refine ⟨rfl, ⟨a1, m1, c1, vs1, a1', m1', c1', ?_⟩, HB.out⟩
        have := HS1.out
        rwa [ordersTo_all] at this

/-- All orders of n players. -/
def ordersOf (n : Int) : List (List Int) := if 1 ≤ n ∧ n ≤ 5 then ordersF n.toNat n.toNat [] else []

set_option maxHeartbeats 1000000 in
theorem s_AllOrders (x : Int) (w : World) :
    Calls Try.prog 69 #[.int .i64 x] w fun e w' => ∃ v, e = .returned v ∧ OwnSS w' w.heap.size v (ordersOf x) ∧ Ext w w' := by
  cases hin : inB x 1 5
  · have HI := Lib.hid (show ordersOf x = [] by unfold ordersOf; rw [if_neg]; unfold inB at hin; simp at hin; omega)
    go_enter Try.func69, Try.ntmps69
    go_wp2_with (first | (go_at_call 92; refine (s_l1In _ _ _ _).mono ?_; rintro e w' ⟨rfl, rfl⟩))
    go_ret
    exact ⟨_, rfl, by rw [HI.out]; exact ⟨[], OwnV.made w _ (Nat.le_refl _), RowsI.nil _ _⟩, Ext.alloc _ _⟩
  · have hb : 1 ≤ x ∧ x ≤ 5 := by unfold inB at hin; simpa using hin
    obtain ⟨n, rfl⟩ : ∃ n : Nat, x = n := ⟨x.toNat, by omega⟩
    have hn : n ≤ 5 := by omega
    have h5 : 5 ^ n ≤ 5 ^ 5 := Nat.pow_le_pow_right (by omega) hn
    have HI := Lib.hid (show ordersOf (n : Int) = ordersF n n [] by unfold ordersOf; rw [if_pos hb]; simp)
    have HC := Lib.hid (s_l15Orders n hn n ((w.alloc (.cells #[] 3)).alloc (.cells #[] 34)) w.heap.size w.heap.size (some ⟨w.heap.size, 0, none⟩) 0 0 [] (some ⟨w.heap.size + 1, 0, none⟩) 0 0 [] (by simp) ((OwnI.made w w.heap.size (Nat.le_refl _)).ext (Ext.alloc _ _)) ⟨[], by simpa using OwnV.made (w.alloc (.cells #[] 3)) w.heap.size (by simp), RowsI.nil _ _⟩ (by simp; omega) (by simp; omega))
    clear h5 hb
    go_enter Try.func69, Try.ntmps69
    go_wp2_with (first | (go_at_call 92; refine (s_l1In _ _ _ _).mono ?_; rintro e w' ⟨rfl, rfl⟩))
    refine HC.out.mono ?_
    rintro e w1 ⟨v, rfl, ho, hg, _⟩
    have HO := Lib.hid ho
    have HX := Lib.hid (ext_grown ((Ext.alloc w (.cells #[] 3)).trans (Ext.alloc _ (.cells #[] 34))) hg (fun k hk => by have := Option.some.inj (show some (w.heap.size + 1) = some k from hk); omega))
    clear ho hg
    go_wp2
    go_ret
    exact ⟨_, rfl, by rw [HI.out]; simpa using HO.out, HX.out⟩
set_option maxHeartbeats 1000000 in
theorem i_AllOrders (x : Int) (w : World) :
    Calls Try.prog 67 #[.int .i64 x] w fun e w' => ∃ v, e = .returned v ∧ OwnSS w' w.heap.size v (ordersOf x) ∧ Ext w w' := by
  cases hin : inB x 1 5
  · have HI := Lib.hid (show ordersOf x = [] by unfold ordersOf; rw [if_neg]; unfold inB at hin; simp at hin; omega)
    go_enter Try.func67, Try.ntmps67
    go_wp2_with (first | (go_at_call 97; refine (i_within _ _ _ _).mono ?_; rintro e w' ⟨rfl, rfl⟩))
    go_ret
    exact ⟨_, rfl, by rw [HI.out]; exact OwnSS.nil _ _, Ext.alloc _ _⟩
  · have hb : 1 ≤ x ∧ x ≤ 5 := by unfold inB at hin; simpa using hin
    obtain ⟨n, rfl⟩ : ∃ n : Nat, x = n := ⟨x.toNat, by omega⟩
    have hn : n ≤ 5 := by omega
    have h5 : 5 ^ n ≤ 5 ^ 5 := Nat.pow_le_pow_right (by omega) hn
    have HI := Lib.hid (show ordersOf (n : Int) = ordersF n n [] by unfold ordersOf; rw [if_pos hb]; simp)
    have hcf : ∀ (args : Array Value) (w : World), (callFunc 147 args).run Try.prog w = .ok (.enter 147 args) w := go_AllOrders1
    clear hb
    go_enter Try.func67, Try.ntmps67
    go_wp2_with (first | (go_at_call 97; refine (i_within _ _ _ _).mono ?_; rintro e w' ⟨rfl, rfl⟩))
    have hS : StO ((((((w.alloc (.cells #[.int .i64 (n : Int)] 3)).alloc (.cells #[] 34)).alloc (.cells #[.slice (some ⟨w.heap.size + 1, 0, none⟩) 0 0] 47)).alloc (.cells #[] 3)).alloc (.cells #[.slice (some ⟨w.heap.size + 1 + 1 + 1, 0, none⟩) 0 0] 34)).alloc
        (.cells #[.func (.func 147) #[] #[.pointer (some ⟨w.heap.size + 1 + 1 + 1 + 1, 0, none⟩), .pointer (some ⟨w.heap.size, 0, none⟩), .pointer (some ⟨w.heap.size + 1 + 1, 0, none⟩), .pointer (some ⟨w.heap.size + 1 + 1 + 1 + 1 + 1, 0, none⟩)]] 1))
        w.heap.size (w.heap.size + 1 + 1 + 1 + 1) w.heap.size (w.heap.size + 1 + 1) (w.heap.size + 1 + 1 + 1 + 1 + 1) n [] [] (some ⟨w.heap.size + 1 + 1 + 1, 0, none⟩) 0 0 [] (some ⟨w.heap.size + 1, 0, none⟩) 0 0 := by
      refine ⟨?_, ?_, ?_, ?_, ?_, ?_, RowsI.nil _ _, fun i k hi => absurd hi (by simp), ?_, by omega, by omega, by omega, by omega, by omega, by simp; omega⟩
      · repeat (first | exact heapA_new _ _ _ (by simp) | rw [heapA_old _ _ _ (by simp; omega)] | rw [heapA_old _ _ _ (by simp)])
      · repeat (first | exact heapA_new _ _ _ (by simp) | rw [heapA_old _ _ _ (by simp; omega)] | rw [heapA_old _ _ _ (by simp)])
      · repeat (first | exact heapA_new _ _ _ (by simp) | rw [heapA_old _ _ _ (by simp; omega)] | rw [heapA_old _ _ _ (by simp)])
      · repeat (first | exact heapA_new _ _ _ (by simp) | rw [heapA_old _ _ _ (by simp; omega)] | rw [heapA_old _ _ _ (by simp)])
      · exact ((by simpa using OwnI.made (((w.alloc (.cells #[.int .i64 (n : Int)] 3)).alloc (.cells #[] 34)).alloc (.cells #[.slice (some ⟨w.heap.size + 1, 0, none⟩) 0 0] 47)) w.heap.size (by simp; omega) : OwnI _ w.heap.size (.slice (some ⟨w.heap.size + 1 + 1 + 1, 0, none⟩) 0 0) []).ext (Ext.alloc _ _)).ext (Ext.alloc _ _)
      · exact ((((by simpa using OwnV.made (w.alloc (.cells #[.int .i64 (n : Int)] 3)) w.heap.size (by simp) : OwnV _ w.heap.size (.slice (some ⟨w.heap.size + 1, 0, none⟩) 0 0) []).ext (Ext.alloc _ _)).ext (Ext.alloc _ _)).ext (Ext.alloc _ _)).ext (Ext.alloc _ _)
      · intro k hk
        refine ⟨fun e => ?_, fun e => ?_, fun i hi => absurd hi (by simp)⟩
        · have := Option.some.inj (show some (w.heap.size + 1 + 1 + 1) = some k from e); omega
        · have := Option.some.inj (show some (w.heap.size + 1) = some k from e); omega
    have HC := Lib.hid (i_AllOrders1 n hn w.heap.size _ _ _ _ _ (by omega) (by omega) (Nat.le_refl _) n _ [] [] _ _ _ _ _ _ _ hS (by simp) (by simp; omega))
    clear hS
    refine HC.out.mono ?_
    rintro e w1 ⟨rfl, ⟨a, m, c, vs, a', m', c', hS1⟩, hB⟩
    have co := cell_of_one hS1.ho
    have HS1 := Lib.hid hS1
    have HX := Lib.hid (Below.trans (((((((Below.refl w.heap.size w).alloc (Nat.le_refl _) (.cells #[.int .i64 (n : Int)] 3)).alloc (by simp) _).alloc (by simp; omega) _).alloc (by simp; omega) _).alloc (by simp; omega) _).alloc (by simp; omega) _) hB)
    clear hS1 hB
    go_wp2
    go_ret
    refine ⟨_, rfl, ?_, HX.out⟩
    rw [HI.out]
    exact ⟨vs, HS1.out.out, by simpa using HS1.out.rows⟩
end Go.Proofs.Ytokpmflhgehicaa
