/- A linear program that a call builds field by field: its box, its rows, its right side and its costs, all owned and apart. -/
import Derived.Test.YtokpmflhgehicaaMatO
import Derived.Test.YtokpmflhgehicaaGen
import Derived.Test.YtokpmflhgehicaaOwnR
namespace Go.Proofs.Ytokpmflhgehicaa
set_option linter.unusedVariables false
open Go.RowKit

theorem Ext.store {w w' : World} (h : Ext w w') {b : Nat} (k : Nat) (hb : w.heap.size ≤ b) (v : Value) : Ext w (w'.setCell ⟨b, k, none⟩ v) := Below.setCell h (p := ⟨b, k, none⟩) hb v
theorem Ext.grown {w0 w w' : World} {row : Option Nat} (h : Ext w0 w) (hg : w.grownBy w' row) (hr : ∀ k, row = some k → w0.heap.size ≤ k) : Ext w0 w' := ext_grown h hg hr
/-- The rows' blocks are not v's. -/
def OffV (vs : List Value) (v : Value) : Prop := ∀ i k, i < vs.length → (vs[i]?.getD undef).ownBlock = some k → v.ownBlock ≠ some k
theorem OffV.nil (v : Value) : OffV [] v := fun i k h => absurd h (by simp)
theorem OffV.near {w : World} {base : Nat} {vs : List Value} {A : List (List Int)} {v v' : Value} (h : OffV vs v) (hr : RowsI w base vs A) (hn : Near w v v') : OffV vs v' := by
  intro i k hi hk hk'
  rcases hn k hk' with h1 | h1
  · exact h i k hi hk h1
  · have := ((hr.row i (by rw [← hr.len]; exact hi)).lt k hk).2
    omega
theorem OffV.snoc {w w' : World} {base : Nat} {vs : List Value} {B r : List Int} {v vr : Value} (h : OffV vs v) (hb : OwnI w base v B) (hr : OwnI w' w.heap.size vr r) : OffV (vs ++ [vr]) v := by
  intro i k hi hk hk'
  by_cases hl : i < vs.length
  · rw [List.getElem?_append_left hl] at hk; exact h i k hl hk hk'
  · have hie : i = vs.length := by simp at hi; omega
    subst hie
    rw [List.getElem?_concat_length, Option.getD_some] at hk
    have h1 := (hb.lt k hk').2
    have h2 := (hr.lt k hk).1
    omega

/-- In the box g lie the three slices; all is owned from base on. -/
structure LpO (w : World) (base g : Nat) (va vb vc : Value) (vs : List Value) (A : List (List Int)) (B : List Int) (C : List (Int × Int)) : Prop where
  box : w.heap[g]? = some (.cells #[va, vb, vc] 81 (0, 0))
  hg : base ≤ g
  a : OwnV w base va vs
  rows : RowsI w base vs A
  b : OwnI w base vb B
  off : OffV vs vb
  c : OwnR w base vc C
section
variable {w : World} {base g : Nat} {va vb vc : Value} {vs : List Value} {A : List (List Int)} {B : List Int} {C : List (Int × Int)}
theorem LpO.lt (h : LpO w base g va vb vc vs A B C) : g < w.heap.size := lt_of_block h.box
theorem LpO.ext {w' : World} (h : LpO w base g va vb vc vs A B C) (hx : Ext w w') : LpO w' base g va vb vc vs A B C :=
  ⟨(hx.block _ h.lt).trans h.box, h.hg, h.a.ext hx, h.rows.ext hx, h.b.ext hx, h.off, h.c.ext hx⟩
theorem LpO.c0 (h : LpO w base g va vb vc vs A B C) : w.cell? ⟨g, 0, none⟩ = some va := by rw [cell_of_row w g 0 _ _ _ h.box]; rfl
theorem LpO.c1 (h : LpO w base g va vb vc vs A B C) : w.cell? ⟨g, 1, none⟩ = some vb := by rw [cell_of_row w g 1 _ _ _ h.box]; rfl
theorem LpO.c2 (h : LpO w base g va vb vc vs A B C) : w.cell? ⟨g, 2, none⟩ = some vc := by rw [cell_of_row w g 2 _ _ _ h.box]; rfl
theorem LpO.free (h : LpO w base g va vb vc vs A B C) (k : Nat) : w.frozen? ⟨g, k, none⟩ = false := frozen_of_row w g k _ _ h.box
theorem LpO.new {w : World} {base : Nat} (hb : base ≤ w.heap.size) : LpO (w.alloc (.cells #[.slice none 0 0, .slice none 0 0, .slice none 0 0] 81)) base w.heap.size (.slice none 0 0) (.slice none 0 0) (.slice none 0 0) [] [] [] [] :=
  ⟨heap_alloc_new _ _, hb, OwnV.nil _ _, RowsI.nil _ _, OwnI.nil _ _, OffV.nil _, OwnR.nil _ _⟩
theorem LpO.boxc0 {x y z : Value} (h : w.heap[g]? = some (.cells #[x, y, z] 81 (0, 0))) : w.cell? ⟨g, 0, none⟩ = some x := by rw [cell_of_row w g 0 _ _ _ h]; rfl
theorem LpO.boxc1 {x y z : Value} (h : w.heap[g]? = some (.cells #[x, y, z] 81 (0, 0))) : w.cell? ⟨g, 1, none⟩ = some y := by rw [cell_of_row w g 1 _ _ _ h]; rfl
theorem LpO.boxc2 {x y z : Value} (h : w.heap[g]? = some (.cells #[x, y, z] 81 (0, 0))) : w.cell? ⟨g, 2, none⟩ = some z := by rw [cell_of_row w g 2 _ _ _ h]; rfl
theorem LpO.boxf {x y z : Value} (h : w.heap[g]? = some (.cells #[x, y, z] 81 (0, 0))) (k : Nat) : w.frozen? ⟨g, k, none⟩ = false := frozen_of_row w g k _ _ h
theorem LpO.neA (h : LpO w base g va vb vc vs A B C) : some g ≠ va.ownBlock := ownsRow_ne h.a h.box (by decide)
theorem LpO.neB (h : LpO w base g va vb vc vs A B C) : some g ≠ vb.ownBlock := ownsRow_ne h.b h.box (by decide)
theorem LpO.neC (h : LpO w base g va vb vc vs A B C) : some g ≠ vc.ownBlock := ownsRow_ne h.c h.box (by decide)
theorem LpO.neR (h : LpO w base g va vb vc vs A B C) {i : Nat} (hi : i < A.length) : some g ≠ (vs[i]?.getD undef).ownBlock := ownsRow_ne (h.rows.row i hi) h.box (by decide)
/-- A store into the box of what fits. -/
theorem LpO.store {w w' : World} {k : Nat} {v : Value} (hb : w.heap[g]? = some (.cells #[va, vb, vc] 81 (0, 0))) : (w.setCell ⟨g, k, none⟩ v).heap[g]? = some (.cells (#[va, vb, vc].setIfInBounds k v) 81 (0, 0)) := heap_setCell_same w g k _ _ v hb
theorem LpO.pushA {w1 w2 : World} (h : LpO w base g va vb vc vs A B C) (hx : Ext w w1) {vr va' : Value} {r : List Int} (hr : OwnI w1 w.heap.size vr r) (hbs : base ≤ w.heap.size) (hgr : w1.grownBy w2 va.ownBlock) (ho : OwnV w2 base va' (vs ++ [vr])) (hn : Near w1 va va') :
    LpO (w2.setCell ⟨g, 0, none⟩ va') base g va' vb vc (vs ++ [vr]) (A ++ [r]) B C := by
  have h1 := h.ext hx
  have hbox : w2.heap[g]? = some (.cells #[va, vb, vc] 81 (0, 0)) := (hgr.block g h1.lt h1.neA).trans h1.box
  have hset : ∀ k, k ≠ g → (w2.setCell ⟨g, 0, none⟩ va').heap[k]? = w2.heap[k]? := fun k hk => heap_setCell_other _ _ _ _ hk
  have hB2 : OwnI w2 base vb B := h1.b.keep fun k hk => hgr.block k (h1.b.lt k hk).2 fun e => h1.b.apart h1.a k hk e.symm
  have hC2 : OwnR w2 base vc C := h1.c.keep fun k hk => hgr.block k (h1.c.lt k hk).2 fun e => ownsRow_apart (by decide) h1.c h1.a k hk e.symm
  have hR1 : RowsI w1 base (vs ++ [vr]) (A ++ [r]) := h.rows.snoc hx hr hbs
  have hR2 : RowsI w2 base (vs ++ [vr]) (A ++ [r]) := hR1.keep fun i k hi hk => hgr.block k ((hR1.row i hi).lt k hk).2 fun e => (hR1.row i hi).apart h1.a k hk e.symm
  refine ⟨?_, h.hg, ?_, ?_, ?_, h.off.snoc h.b hr, ?_⟩
  · have := LpO.store (w := w2) (w' := w2) (k := 0) (v := va') hbox
    exact this
  · exact ho.keep fun k hk => hset k fun e => (ownsRow_ne ho hbox (by decide)) (by rw [hk, e])
  · exact hR2.keep fun i k hi hk => hset k fun e => (ownsRow_ne (hR2.row i hi) hbox (by decide)) (by rw [hk, e])
  · exact hB2.keep fun k hk => hset k fun e => (ownsRow_ne hB2 hbox (by decide)) (by rw [hk, e])
  · exact hC2.keep fun k hk => hset k fun e => (ownsRow_ne hC2 hbox (by decide)) (by rw [hk, e])
theorem LpO.pushB {w1 w2 : World} (h : LpO w base g va vb vc vs A B C) (hx : Ext w w1) {vb' : Value} {B' : List Int} (hgr : w1.grownBy w2 vb.ownBlock) (ho : OwnI w2 base vb' B') (hn : Near w1 vb vb') :
    LpO (w2.setCell ⟨g, 1, none⟩ vb') base g va vb' vc vs A B' C := by
  have h1 := h.ext hx
  have hbox : w2.heap[g]? = some (.cells #[va, vb, vc] 81 (0, 0)) := (hgr.block g h1.lt h1.neB).trans h1.box
  have hset : ∀ k, k ≠ g → (w2.setCell ⟨g, 1, none⟩ vb').heap[k]? = w2.heap[k]? := fun k hk => heap_setCell_other _ _ _ _ hk
  have hA2 : OwnV w2 base va vs := h1.a.keep fun k hk => hgr.block k (h1.a.lt k hk).2 fun e => h1.b.apart h1.a k e.symm hk
  have hC2 : OwnR w2 base vc C := h1.c.keep fun k hk => hgr.block k (h1.c.lt k hk).2 fun e => ownsRow_apart (by decide) h1.c h1.b k hk e.symm
  have hR2 : RowsI w2 base vs A := h1.rows.keep fun i k hi hk => hgr.block k ((h1.rows.row i hi).lt k hk).2 fun e => h1.off i k (by rw [h1.rows.len]; exact hi) hk e.symm
  refine ⟨?_, h.hg, ?_, ?_, ?_, h1.off.near h1.rows hn, ?_⟩
  · have := LpO.store (w := w2) (w' := w2) (k := 1) (v := vb') hbox
    exact this
  · exact hA2.keep fun k hk => hset k fun e => (ownsRow_ne hA2 hbox (by decide)) (by rw [hk, e])
  · exact hR2.keep fun i k hi hk => hset k fun e => (ownsRow_ne (hR2.row i hi) hbox (by decide)) (by rw [hk, e])
  · exact ho.keep fun k hk => hset k fun e => (ownsRow_ne ho hbox (by decide)) (by rw [hk, e])
  · exact hC2.keep fun k hk => hset k fun e => (ownsRow_ne hC2 hbox (by decide)) (by rw [hk, e])
theorem LpO.pushC {w1 w2 : World} (h : LpO w base g va vb vc vs A B C) (hx : Ext w w1) {vc' : Value} {C' : List (Int × Int)} (hgr : w1.grownBy w2 vc.ownBlock) (ho : OwnR w2 base vc' C') :
    LpO (w2.setCell ⟨g, 2, none⟩ vc') base g va vb vc' vs A B C' := by
  have h1 := h.ext hx
  have hbox : w2.heap[g]? = some (.cells #[va, vb, vc] 81 (0, 0)) := (hgr.block g h1.lt h1.neC).trans h1.box
  have hset : ∀ k, k ≠ g → (w2.setCell ⟨g, 2, none⟩ vc').heap[k]? = w2.heap[k]? := fun k hk => heap_setCell_other _ _ _ _ hk
  have hA2 : OwnV w2 base va vs := h1.a.keep fun k hk => hgr.block k (h1.a.lt k hk).2 fun e => ownsRow_apart (by decide) h1.a h1.c k hk e.symm
  have hB2 : OwnI w2 base vb B := h1.b.keep fun k hk => hgr.block k (h1.b.lt k hk).2 fun e => ownsRow_apart (by decide) h1.b h1.c k hk e.symm
  have hR2 : RowsI w2 base vs A := h1.rows.keep fun i k hi hk => hgr.block k ((h1.rows.row i hi).lt k hk).2 fun e => ownsRow_apart (by decide) (h1.rows.row i hi) h1.c k hk e.symm
  refine ⟨?_, h.hg, ?_, ?_, ?_, h.off, ?_⟩
  · have := LpO.store (w := w2) (w' := w2) (k := 2) (v := vc') hbox
    exact this
  · exact hA2.keep fun k hk => hset k fun e => (ownsRow_ne hA2 hbox (by decide)) (by rw [hk, e])
  · exact hR2.keep fun i k hi hk => hset k fun e => (ownsRow_ne (hR2.row i hi) hbox (by decide)) (by rw [hk, e])
  · exact hB2.keep fun k hk => hset k fun e => (ownsRow_ne hB2 hbox (by decide)) (by rw [hk, e])
  · exact ho.keep fun k hk => hset k fun e => (ownsRow_ne ho hbox (by decide)) (by rw [hk, e])
/-- Another owned slice of another type stays. -/
theorem ownsRow_grown {w w2 : World} {b1 b2 : Nat} {e e' : TypeId} {s s' n n' : Nat} {v v' : Value} {xs xs' : List Value} (h : w.ownsRow b1 e s v n xs) (h' : w.ownsRow b2 e' s' v' n' xs') (hne : e ≠ e') (hgr : w.grownBy w2 v'.ownBlock) : w2.ownsRow b1 e s v n xs :=
  h.kept hgr (by
    cases hv : v.ownBlock with
    | none => exact .inl rfl
    | some k => exact .inr fun e2 => ownsRow_apart hne h h' k hv e2.symm)
theorem ownsRow_set {w : World} {b1 g k : Nat} {e e' : TypeId} {s n : Nat} {v u : Value} {xs : List Value} {c : Array Value} {z : Nat × Nat} (h : w.ownsRow b1 e s v n xs) (hb : w.heap[g]? = some (.cells c e' z)) (hne : e ≠ e') : (w.setCell ⟨g, k, none⟩ u).ownsRow b1 e s v n xs := by
  refine ⟨h.1, ?_⟩
  rcases h.2 with hn | ⟨g', cap, cur, rfl, hbb, hgg, rest⟩
  · exact .inl hn
  · refine .inr ⟨g', cap, cur, rfl, hbb, ?_, rest⟩
    rw [heap_setCell_other _ _ _ _ fun e2 => by subst e2; exact ownsRow_ne h hb hne rfl]
    exact hgg
theorem LpO.boxA {w1 w2 : World} (h : LpO w base g va vb vc vs A B C) (hx : Ext w w1) (hg : w1.grownBy w2 va.ownBlock) : w2.heap[g]? = some (.cells #[va, vb, vc] 81 (0, 0)) := (hg.block g (h.ext hx).lt (h.ext hx).neA).trans (h.ext hx).box
theorem LpO.boxB {w1 w2 : World} (h : LpO w base g va vb vc vs A B C) (hx : Ext w w1) (hg : w1.grownBy w2 vb.ownBlock) : w2.heap[g]? = some (.cells #[va, vb, vc] 81 (0, 0)) := (hg.block g (h.ext hx).lt (h.ext hx).neB).trans (h.ext hx).box
theorem LpO.boxC {w1 w2 : World} (h : LpO w base g va vb vc vs A B C) (hx : Ext w w1) (hg : w1.grownBy w2 vc.ownBlock) : w2.heap[g]? = some (.cells #[va, vb, vc] 81 (0, 0)) := (hg.block g (h.ext hx).lt (h.ext hx).neC).trans (h.ext hx).box
theorem OwnG.grownV {α : Type} {E : Enc α} {t : TypeId} {w w1 w2 : World} {b1 b2 : Nat} {v v' : Value} {l : List α} {us : List Value} (h : OwnG E t w b1 v l) (hx : Ext w w1) (h' : OwnV w b2 v' us) (hne : t ≠ 34) (hgr : w1.grownBy w2 v'.ownBlock) : OwnG E t w2 b1 v l :=
  ownsRow_grown (h.ext hx) (h'.ext hx) hne hgr
theorem OwnG.grownI {α : Type} {E : Enc α} {t : TypeId} {w w1 w2 : World} {b1 b2 : Nat} {v v' : Value} {l : List α} {us : List Int} (h : OwnG E t w b1 v l) (hx : Ext w w1) (h' : OwnI w b2 v' us) (hne : t ≠ 3) (hgr : w1.grownBy w2 v'.ownBlock) : OwnG E t w2 b1 v l :=
  ownsRow_grown (h.ext hx) (h'.ext hx) hne hgr
theorem OwnG.grownR {α : Type} {E : Enc α} {t : TypeId} {w w1 w2 : World} {b1 b2 : Nat} {v v' : Value} {l : List α} {us : List (Int × Int)} (h : OwnG E t w b1 v l) (hx : Ext w w1) (h' : OwnR w b2 v' us) (hne : t ≠ 76) (hgr : w1.grownBy w2 v'.ownBlock) : OwnG E t w2 b1 v l :=
  ownsRow_grown (h.ext hx) (h'.ext hx) hne hgr
theorem OwnG.setLp {α : Type} {E : Enc α} {t : TypeId} {w : World} {b1 g : Nat} {v x y z : Value} {l : List α} (h : OwnG E t w b1 v l) (hb : w.heap[g]? = some (.cells #[x, y, z] 81 (0, 0))) (hne : t ≠ 81) (k : Nat) (u : Value) : OwnG E t (w.setCell ⟨g, k, none⟩ u) b1 v l :=
  ownsRow_set h hb hne
end

theorem OwnV.mono' {w : World} {base base' : Nat} {v : Value} {vs : List Value} (h : OwnV w base v vs) (hb : base' ≤ base) : OwnV w base' v vs := by
  refine ⟨h.1, ?_⟩
  rcases h.2 with hn | ⟨g, cap, cur, rfl, hbb, rest⟩
  · exact .inl hn
  · exact .inr ⟨g, cap, cur, rfl, by omega, rest⟩
theorem OwnSS.mono' {w : World} {base base' : Nat} {v : Value} {L : List (List Int)} (h : OwnSS w base v L) (hb : base' ≤ base) : OwnSS w base' v L :=
  let ⟨vs, h1, h2⟩ := h; ⟨vs, h1.mono' hb, ⟨h2.len, fun i hi => (h2.row i hi).mono hb, h2.apart⟩⟩

theorem OwnI.keptR {w w1 w2 : World} {b1 b2 : Nat} {v v' : Value} {l : List Int} {us : List (Int × Int)} (h : OwnI w b1 v l) (hx : Ext w w1) (h' : OwnR w b2 v' us) (hgr : w1.grownBy w2 v'.ownBlock) : OwnI w2 b1 v l :=
  ownsRow_grown (h.ext hx) (h'.ext hx) (by decide) hgr
theorem OwnR.keptI {w w1 w2 : World} {b1 b2 : Nat} {v v' : Value} {l : List (Int × Int)} {us : List Int} (h : OwnR w b1 v l) (hx : Ext w w1) (h' : OwnI w b2 v' us) (hgr : w1.grownBy w2 v'.ownBlock) : OwnR w2 b1 v l :=
  ownsRow_grown (h.ext hx) (h'.ext hx) (by decide) hgr
theorem OwnR.keptV {w w1 w2 : World} {b1 b2 : Nat} {v v' : Value} {l : List (Int × Int)} {us : List Value} (h : OwnR w b1 v l) (hx : Ext w w1) (h' : OwnV w b2 v' us) (hgr : w1.grownBy w2 v'.ownBlock) : OwnR w2 b1 v l :=
  ownsRow_grown (h.ext hx) (h'.ext hx) (by decide) hgr
theorem OwnI.keptV {w w1 w2 : World} {b1 b2 : Nat} {v v' : Value} {l : List Int} {us : List Value} (h : OwnI w b1 v l) (hx : Ext w w1) (h' : OwnV w b2 v' us) (hgr : w1.grownBy w2 v'.ownBlock) : OwnI w2 b1 v l :=
  ownsRow_grown (h.ext hx) (h'.ext hx) (by decide) hgr
theorem Ints.lit {W : World} (l : List Int) (t : TypeId) {m : Nat} (hm : l.length = m) {cs : Array Value} (hcs : cs = intCells l) {n : Nat} (hn : n = W.heap.size) (hb : m ≤ 1099511627776) : Ints (W.alloc (.cells cs t)) (some ⟨n, 0, none⟩) m m l := by
  subst hn hcs
  exact (show Row (W.alloc (.cells (intCells l) t)) W.heap.size t l from heap_alloc_new W _).ints hm (Nat.le_refl _) (by omega)

theorem Rats.two (W : World) (x y x' y' : Int) (t : TypeId) {n : Nat} (hn : n = W.heap.size) : Rats (W.alloc (.cells #[.int .i64 x, .int .i64 y, .int .i64 x', .int .i64 y'] t)) (some ⟨n, 0, none⟩) 2 2 [(x, y), (x', y')] := by
  subst hn
  exact ⟨rfl, Nat.le_refl _, by omega, fun k hk => ⟨_, 0, rfl, fun k hk => by
    have : k = 0 ∨ k = 1 := by omega
    rcases this with rfl | rfl <;> simp⟩⟩

theorem RowsI.mono' {w : World} {base base' : Nat} {vs : List Value} {L : List (List Int)} (h : RowsI w base vs L) (hb : base' ≤ base) : RowsI w base' vs L := ⟨h.len, fun i hi => (h.row i hi).mono hb, h.apart⟩

end Go.Proofs.Ytokpmflhgehicaa
