import Derived.Test.YtgohdmnbnhehnaaGreatFnAllG8
import Derived.Test.YtgohdmnbnhehnaaGreatFnAllG2
import Derived.Test.YtgohdmnbnhehnaaGreatFnAllG7
import Derived.Test.YtgohdmnbnhehnaaGreatFnAllG33
import Derived.Lib.SliceRun
import Derived.Test.YtgohdmnbnhehnaaGreatFnAllG3
namespace Go.Proofs.YtgohdmnbnhehnaaGreat
set_option linter.unusedVariables false
open Go.RowKit
theorem Ext.store {w w' : World} (h : Ext w w') {b : Nat} (k : Nat) (hb : w.heap.size ≤ b) (v : Value) : Ext w (w'.setCell ⟨b, k, none⟩ v) := Below.setCell h (p := ⟨b, k, none⟩) hb v
theorem Ext.grown {w0 w w' : World} {row : Option Nat} (h : Ext w0 w) (hg : w.grownBy w' row) (hr : ∀ k, row = some k → w0.heap.size ≤ k) : Ext w0 w' := ext_grown h hg hr
def OffV (vs : List Value) (v : Value) : Prop := ∀ i k, i < vs.length → (vs[i]?.getD undef).ownBlock = some k → v.ownBlock ≠ some k
theorem OffV.nil (v : Value) : OffV [] v := fun i k h => absurd h (by simp)
theorem OffV.near {w : World} {base : Nat} {vs : List Value} {A : List (List Int)} {v v' : Value} (h : OffV vs v) (hr : RowsI w base vs A) (hn : Near w v v') : OffV vs v' := by
 intro i k hi hk hk'
 rcases hn k hk' with h1 | h1
 ·exact h i k hi hk h1
 ·have := ((hr.row i (by rw [← hr.len]; exact hi)).lt k hk).2
  omega
theorem OffV.snoc {w w' : World} {base : Nat} {vs : List Value} {B r : List Int} {v vr : Value} (h : OffV vs v) (hb : OwnI w base v B) (hr : OwnI w' w.heap.size vr r) : OffV (vs ++ [vr]) v := by
 intro i k hi hk hk'
 by_cases hl : i < vs.length
 ·rw [List.getElem?_append_left hl] at hk; exact h i k hl hk hk'
 ·have hie : i = vs.length := by simp at hi; omega
  subst hie
  rw [List.getElem?_concat_length, Option.getD_some] at hk
  have h1 := (hb.lt k hk').2
  have h2 := (hr.lt k hk).1
  omega
structure LpO (w : World) (base g : Nat) (va vb vc : Value) (vs : List Value) (A : List (List Int)) (B : List Int) (C : List (Int × Int)) : Prop where
 box : w.heap[g]? = some (.cells #[va, vb, vc] 67 (0, 0))
 hg : base ≤ g
 a : OwnV w base va vs
 rows : RowsI w base vs A
 b : OwnI w base vb B
 off : OffV vs vb
 c : OwnR w base vc C
section
variable {w : World} {base g : Nat} {va vb vc : Value} {vs : List Value} {A : List (List Int)} {B : List Int} {C : List (Int × Int)}
theorem LpO.lt (h : LpO w base g va vb vc vs A B C) : g < w.heap.size := lt_of_block h.box
theorem LpO.ext {w' : World} (h : LpO w base g va vb vc vs A B C) (hx : Ext w w') : LpO w' base g va vb vc vs A B C :=
 ⟨(hx.block _ h.lt).trans h.box, h.hg, h.a.ext hx, h.rows.ext hx, h.b.ext hx, h.off, h.c.ext hx⟩
theorem LpO.c0 (h : LpO w base g va vb vc vs A B C) : w.cell? ⟨g, 0, none⟩ = some va := by rw [cell_of_row w g 0 _ _ _ h.box]; rfl
theorem LpO.c1 (h : LpO w base g va vb vc vs A B C) : w.cell? ⟨g, 1, none⟩ = some vb := by rw [cell_of_row w g 1 _ _ _ h.box]; rfl
theorem LpO.c2 (h : LpO w base g va vb vc vs A B C) : w.cell? ⟨g, 2, none⟩ = some vc := by rw [cell_of_row w g 2 _ _ _ h.box]; rfl
theorem LpO.free (h : LpO w base g va vb vc vs A B C) (k : Nat) : w.frozen? ⟨g, k, none⟩ = false := frozen_of_row w g k _ _ h.box
theorem LpO.new {w : World} {base : Nat} (hb : base ≤ w.heap.size) : LpO (w.alloc (.cells #[.slice none 0 0, .slice none 0 0, .slice none 0 0] 67)) base w.heap.size (.slice none 0 0) (.slice none 0 0) (.slice none 0 0) [] [] [] [] :=
 ⟨heap_alloc_new _ _, hb, OwnV.nil _ _, RowsI.nil _ _, OwnI.nil _ _, OffV.nil _, OwnR.nil _ _⟩
theorem LpO.boxc0 {x y z : Value} (h : w.heap[g]? = some (.cells #[x, y, z] 67 (0, 0))) : w.cell? ⟨g, 0, none⟩ = some x := by rw [cell_of_row w g 0 _ _ _ h]; rfl
theorem LpO.boxc1 {x y z : Value} (h : w.heap[g]? = some (.cells #[x, y, z] 67 (0, 0))) : w.cell? ⟨g, 1, none⟩ = some y := by rw [cell_of_row w g 1 _ _ _ h]; rfl
theorem LpO.boxc2 {x y z : Value} (h : w.heap[g]? = some (.cells #[x, y, z] 67 (0, 0))) : w.cell? ⟨g, 2, none⟩ = some z := by rw [cell_of_row w g 2 _ _ _ h]; rfl
theorem LpO.boxf {x y z : Value} (h : w.heap[g]? = some (.cells #[x, y, z] 67 (0, 0))) (k : Nat) : w.frozen? ⟨g, k, none⟩ = false := frozen_of_row w g k _ _ h
theorem LpO.neA (h : LpO w base g va vb vc vs A B C) : some g ≠ va.ownBlock := ownsRow_ne h.a h.box (by decide)
theorem LpO.neB (h : LpO w base g va vb vc vs A B C) : some g ≠ vb.ownBlock := ownsRow_ne h.b h.box (by decide)
theorem LpO.neC (h : LpO w base g va vb vc vs A B C) : some g ≠ vc.ownBlock := ownsRow_ne h.c h.box (by decide)
theorem LpO.store {w w' : World} {k : Nat} {v : Value} (hb : w.heap[g]? = some (.cells #[va, vb, vc] 67 (0, 0))) : (w.setCell ⟨g, k, none⟩ v).heap[g]? = some (.cells (#[va, vb, vc].setIfInBounds k v) 67 (0, 0)) := heap_setCell_same w g k _ _ v hb
theorem LpO.pushA {w1 w2 : World} (h : LpO w base g va vb vc vs A B C) (hx : Ext w w1) {vr va' : Value} {r : List Int} (hr : OwnI w1 w.heap.size vr r) (hbs : base ≤ w.heap.size) (hgr : w1.grownBy w2 va.ownBlock) (ho : OwnV w2 base va' (vs ++ [vr])) (hn : Near w1 va va') :
 LpO (w2.setCell ⟨g, 0, none⟩ va') base g va' vb vc (vs ++ [vr]) (A ++ [r]) B C := by
 have h1 := h.ext hx
 have hbox : w2.heap[g]? = some (.cells #[va, vb, vc] 67 (0, 0)) := (hgr.block g h1.lt h1.neA).trans h1.box
 have hset : ∀ k, k ≠ g → (w2.setCell ⟨g, 0, none⟩ va').heap[k]? = w2.heap[k]? := fun k hk => heap_setCell_other _ _ _ _ hk
 have hB2 : OwnI w2 base vb B := h1.b.keep fun k hk => hgr.block k (h1.b.lt k hk).2 fun e => h1.b.apart h1.a k hk e.symm
 have hC2 : OwnR w2 base vc C := h1.c.keep fun k hk => hgr.block k (h1.c.lt k hk).2 fun e => ownsRow_apart (by decide) h1.c h1.a k hk e.symm
 have hR1 : RowsI w1 base (vs ++ [vr]) (A ++ [r]) := h.rows.snoc hx hr hbs
 have hR2 : RowsI w2 base (vs ++ [vr]) (A ++ [r]) := hR1.keep fun i k hi hk => hgr.block k ((hR1.row i hi).lt k hk).2 fun e => (hR1.row i hi).apart h1.a k hk e.symm
 refine ⟨?_, h.hg, ?_, ?_, ?_, h.off.snoc h.b hr, ?_⟩
 ·have := LpO.store (w := w2) (w' := w2) (k := 0) (v := va') hbox
  exact this
 ·exact ho.keep fun k hk => hset k fun e => (ownsRow_ne ho hbox (by decide)) (by rw [hk, e])
 ·exact hR2.keep fun i k hi hk => hset k fun e => (ownsRow_ne (hR2.row i hi) hbox (by decide)) (by rw [hk, e])
 ·exact hB2.keep fun k hk => hset k fun e => (ownsRow_ne hB2 hbox (by decide)) (by rw [hk, e])
 ·exact hC2.keep fun k hk => hset k fun e => (ownsRow_ne hC2 hbox (by decide)) (by rw [hk, e])
theorem LpO.pushB {w1 w2 : World} (h : LpO w base g va vb vc vs A B C) (hx : Ext w w1) {vb' : Value} {B' : List Int} (hgr : w1.grownBy w2 vb.ownBlock) (ho : OwnI w2 base vb' B') (hn : Near w1 vb vb') :
 LpO (w2.setCell ⟨g, 1, none⟩ vb') base g va vb' vc vs A B' C := by
 have h1 := h.ext hx
 have hbox : w2.heap[g]? = some (.cells #[va, vb, vc] 67 (0, 0)) := (hgr.block g h1.lt h1.neB).trans h1.box
 have hset : ∀ k, k ≠ g → (w2.setCell ⟨g, 1, none⟩ vb').heap[k]? = w2.heap[k]? := fun k hk => heap_setCell_other _ _ _ _ hk
 have hA2 : OwnV w2 base va vs := h1.a.keep fun k hk => hgr.block k (h1.a.lt k hk).2 fun e => h1.b.apart h1.a k e.symm hk
 have hC2 : OwnR w2 base vc C := h1.c.keep fun k hk => hgr.block k (h1.c.lt k hk).2 fun e => ownsRow_apart (by decide) h1.c h1.b k hk e.symm
 have hR2 : RowsI w2 base vs A := h1.rows.keep fun i k hi hk => hgr.block k ((h1.rows.row i hi).lt k hk).2 fun e => h1.off i k (by rw [h1.rows.len]; exact hi) hk e.symm
 refine ⟨?_, h.hg, ?_, ?_, ?_, h1.off.near h1.rows hn, ?_⟩
 ·have := LpO.store (w := w2) (w' := w2) (k := 1) (v := vb') hbox
  exact this
 ·exact hA2.keep fun k hk => hset k fun e => (ownsRow_ne hA2 hbox (by decide)) (by rw [hk, e])
 ·exact hR2.keep fun i k hi hk => hset k fun e => (ownsRow_ne (hR2.row i hi) hbox (by decide)) (by rw [hk, e])
 ·exact ho.keep fun k hk => hset k fun e => (ownsRow_ne ho hbox (by decide)) (by rw [hk, e])
 ·exact hC2.keep fun k hk => hset k fun e => (ownsRow_ne hC2 hbox (by decide)) (by rw [hk, e])
theorem LpO.pushC {w1 w2 : World} (h : LpO w base g va vb vc vs A B C) (hx : Ext w w1) {vc' : Value} {C' : List (Int × Int)} (hgr : w1.grownBy w2 vc.ownBlock) (ho : OwnR w2 base vc' C') :
 LpO (w2.setCell ⟨g, 2, none⟩ vc') base g va vb vc' vs A B C' := by
 have h1 := h.ext hx
 have hbox : w2.heap[g]? = some (.cells #[va, vb, vc] 67 (0, 0)) := (hgr.block g h1.lt h1.neC).trans h1.box
 have hset : ∀ k, k ≠ g → (w2.setCell ⟨g, 2, none⟩ vc').heap[k]? = w2.heap[k]? := fun k hk => heap_setCell_other _ _ _ _ hk
 have hA2 : OwnV w2 base va vs := h1.a.keep fun k hk => hgr.block k (h1.a.lt k hk).2 fun e => ownsRow_apart (by decide) h1.a h1.c k hk e.symm
 have hB2 : OwnI w2 base vb B := h1.b.keep fun k hk => hgr.block k (h1.b.lt k hk).2 fun e => ownsRow_apart (by decide) h1.b h1.c k hk e.symm
 have hR2 : RowsI w2 base vs A := h1.rows.keep fun i k hi hk => hgr.block k ((h1.rows.row i hi).lt k hk).2 fun e => ownsRow_apart (by decide) (h1.rows.row i hi) h1.c k hk e.symm
 refine ⟨?_, h.hg, ?_, ?_, ?_, h.off, ?_⟩
 ·have := LpO.store (w := w2) (w' := w2) (k := 2) (v := vc') hbox
  exact this
 ·exact hA2.keep fun k hk => hset k fun e => (ownsRow_ne hA2 hbox (by decide)) (by rw [hk, e])
 ·exact hR2.keep fun i k hi hk => hset k fun e => (ownsRow_ne (hR2.row i hi) hbox (by decide)) (by rw [hk, e])
 ·exact hB2.keep fun k hk => hset k fun e => (ownsRow_ne hB2 hbox (by decide)) (by rw [hk, e])
 ·exact ho.keep fun k hk => hset k fun e => (ownsRow_ne ho hbox (by decide)) (by rw [hk, e])
theorem ownsRow_grown {w w2 : World} {b1 b2 : Nat} {e e' : TypeId} {s s' n n' : Nat} {v v' : Value} {xs xs' : List Value} (h : w.ownsRow b1 e s v n xs) (h' : w.ownsRow b2 e' s' v' n' xs') (hne : e ≠ e') (hgr : w.grownBy w2 v'.ownBlock) : w2.ownsRow b1 e s v n xs :=
 h.kept hgr (by
  cases hv : v.ownBlock with
  | none => exact .inl rfl
  | some k => exact .inr fun e2 => ownsRow_apart hne h h' k hv e2.symm)
theorem ownsRow_set {w : World} {b1 g k : Nat} {e e' : TypeId} {s n : Nat} {v u : Value} {xs : List Value} {c : Array Value} {z : Nat × Nat} (h : w.ownsRow b1 e s v n xs) (hb : w.heap[g]? = some (.cells c e' z)) (hne : e ≠ e') : (w.setCell ⟨g, k, none⟩ u).ownsRow b1 e s v n xs := by
 refine ⟨h.1, ?_⟩
 rcases h.2 with hn | ⟨g', cap, cur, rfl, hbb, hgg, rest⟩
 ·exact .inl hn
 ·refine .inr ⟨g', cap, cur, rfl, hbb, ?_, rest⟩
  rw [heap_setCell_other _ _ _ _ fun e2 => by subst e2; exact ownsRow_ne h hb hne rfl]
  exact hgg
theorem LpO.boxA {w1 w2 : World} (h : LpO w base g va vb vc vs A B C) (hx : Ext w w1) (hg : w1.grownBy w2 va.ownBlock) : w2.heap[g]? = some (.cells #[va, vb, vc] 67 (0, 0)) := (hg.block g (h.ext hx).lt (h.ext hx).neA).trans (h.ext hx).box
theorem LpO.boxB {w1 w2 : World} (h : LpO w base g va vb vc vs A B C) (hx : Ext w w1) (hg : w1.grownBy w2 vb.ownBlock) : w2.heap[g]? = some (.cells #[va, vb, vc] 67 (0, 0)) := (hg.block g (h.ext hx).lt (h.ext hx).neB).trans (h.ext hx).box
theorem LpO.boxC {w1 w2 : World} (h : LpO w base g va vb vc vs A B C) (hx : Ext w w1) (hg : w1.grownBy w2 vc.ownBlock) : w2.heap[g]? = some (.cells #[va, vb, vc] 67 (0, 0)) := (hg.block g (h.ext hx).lt (h.ext hx).neC).trans (h.ext hx).box
theorem OwnG.grownV {α : Type} {E : Enc α} {t : TypeId} {w w1 w2 : World} {b1 b2 : Nat} {v v' : Value} {l : List α} {us : List Value} (h : OwnG E t w b1 v l) (hx : Ext w w1) (h' : OwnV w b2 v' us) (hne : t ≠ 22) (hgr : w1.grownBy w2 v'.ownBlock) : OwnG E t w2 b1 v l :=
 ownsRow_grown (h.ext hx) (h'.ext hx) hne hgr
theorem OwnG.grownI {α : Type} {E : Enc α} {t : TypeId} {w w1 w2 : World} {b1 b2 : Nat} {v v' : Value} {l : List α} {us : List Int} (h : OwnG E t w b1 v l) (hx : Ext w w1) (h' : OwnI w b2 v' us) (hne : t ≠ 3) (hgr : w1.grownBy w2 v'.ownBlock) : OwnG E t w2 b1 v l :=
 ownsRow_grown (h.ext hx) (h'.ext hx) hne hgr
theorem OwnG.grownR {α : Type} {E : Enc α} {t : TypeId} {w w1 w2 : World} {b1 b2 : Nat} {v v' : Value} {l : List α} {us : List (Int × Int)} (h : OwnG E t w b1 v l) (hx : Ext w w1) (h' : OwnR w b2 v' us) (hne : t ≠ 85) (hgr : w1.grownBy w2 v'.ownBlock) : OwnG E t w2 b1 v l :=
 ownsRow_grown (h.ext hx) (h'.ext hx) hne hgr
theorem OwnG.setLp {α : Type} {E : Enc α} {t : TypeId} {w : World} {b1 g : Nat} {v x y z : Value} {l : List α} (h : OwnG E t w b1 v l) (hb : w.heap[g]? = some (.cells #[x, y, z] 67 (0, 0))) (hne : t ≠ 67) (k : Nat) (u : Value) : OwnG E t (w.setCell ⟨g, k, none⟩ u) b1 v l :=
 ownsRow_set h hb hne
end
theorem OwnV.mono' {w : World} {base base' : Nat} {v : Value} {vs : List Value} (h : OwnV w base v vs) (hb : base' ≤ base) : OwnV w base' v vs := by
 refine ⟨h.1, ?_⟩
 rcases h.2 with hn | ⟨g, cap, cur, rfl, hbb, rest⟩
 ·exact .inl hn
 ·exact .inr ⟨g, cap, cur, rfl, by omega, rest⟩
theorem OwnSS.mono' {w : World} {base base' : Nat} {v : Value} {L : List (List Int)} (h : OwnSS w base v L) (hb : base' ≤ base) : OwnSS w base' v L :=
 let ⟨vs, h1, h2⟩ := h; ⟨vs, h1.mono' hb, ⟨h2.len, fun i hi => (h2.row i hi).mono hb, h2.apart⟩⟩
theorem OwnI.keptR {w w1 w2 : World} {b1 b2 : Nat} {v v' : Value} {l : List Int} {us : List (Int × Int)} (h : OwnI w b1 v l) (hx : Ext w w1) (h' : OwnR w b2 v' us) (hgr : w1.grownBy w2 v'.ownBlock) : OwnI w2 b1 v l :=
 ownsRow_grown (h.ext hx) (h'.ext hx) (by decide) hgr
theorem OwnR.keptI {w w1 w2 : World} {b1 b2 : Nat} {v v' : Value} {l : List (Int × Int)} {us : List Int} (h : OwnR w b1 v l) (hx : Ext w w1) (h' : OwnI w b2 v' us) (hgr : w1.grownBy w2 v'.ownBlock) : OwnR w2 b1 v l :=
 ownsRow_grown (h.ext hx) (h'.ext hx) (by decide) hgr
theorem Ints.litM {W : World} (l : List Int) (t : TypeId) {m : Nat} (hm : l.length = m) {cs : Array Value} (hcs : cs = intCells l) {n : Nat} (hn : n = W.heap.size) (hb : m ≤ 1099511627776) : Ints (W.alloc (.cells cs t)) (some ⟨n, 0, none⟩) m m l := by
 subst hn hcs
 exact (show Row (W.alloc (.cells (intCells l) t)) W.heap.size t l from heap_alloc_new W _).ints hm (Nat.le_refl _) (by omega)
theorem Rats.two (W : World) (x y x' y' : Int) (t : TypeId) {n : Nat} (hn : n = W.heap.size) : Rats (W.alloc (.cells #[.int .i64 x, .int .i64 y, .int .i64 x', .int .i64 y'] t)) (some ⟨n, 0, none⟩) 2 2 [(x, y), (x', y')] := by
 subst hn
 exact ⟨rfl, Nat.le_refl _, by omega, fun k hk => ⟨_, 0, rfl, fun k hk => by
  have : k = 0 ∨ k = 1 := by omega
  rcases this with rfl | rfl <;> simp⟩⟩
theorem RowsI.mono' {w : World} {base base' : Nat} {vs : List Value} {L : List (List Int)} (h : RowsI w base vs L) (hb : base' ≤ base) : RowsI w base' vs L := ⟨h.len, fun i hi => (h.row i hi).mono hb, h.apart⟩
theorem Ext.blk {w w' : World} (hx : Ext w w') {b : Nat} {o : Obj} (h : w.heap[b]? = some o) : w'.heap[b]? = some o := (hx.block b (lt_of_block h)).trans h
theorem blk_ne {w : World} {b b' : Nat} {c c' : Array Value} {t t' : TypeId} {z z' : Nat × Nat} (h : w.heap[b]? = some (.cells c t z)) (h' : w.heap[b']? = some (.cells c' t' z')) (hne : t ≠ t') : b ≠ b' := by
 intro e
 subst e
 rw [h] at h'
 simp only [Option.some.injEq, Obj.cells.injEq] at h'
 exact hne h'.2.1
end Go.Proofs.YtgohdmnbnhehnaaGreat
namespace Go.Proofs.YtgohdmnbnhehnaaGreat
set_option linter.unusedVariables false
set_option linter.unusedSimpArgs false
set_option maxRecDepth 100000
open Go.RowKit
structure Kept (p : Int → Bool) (l M : List Int) (i j : Nat) : Prop where
 len : M.length = l.length
 le : i ≤ j
 jl : j ≤ l.length
 lo : M.take i = (l.take j).filter fun x => !p x
 hi : ∀ k, j ≤ k → M[k]?.getD 0 = l[k]?.getD 0
theorem Kept.drop {p : Int → Bool} {l M : List Int} {i j : Nat} (h : Kept p l M i j) (hj : j < l.length) (hp : p (l[j]?.getD 0) = true) : Kept p l M i (j + 1) :=
 ⟨h.len, by have := h.le; omega, by omega, by rw [take_snoc hj, List.filter_append, ← h.lo]; simp [hp], fun k hk => h.hi k (by omega)⟩
theorem Kept.keep {p : Int → Bool} {l M : List Int} {i j : Nat} (h : Kept p l M i j) (hj : j < l.length) (hp : p (l[j]?.getD 0) = false) : Kept p l (M.set i (l[j]?.getD 0)) (i + 1) (j + 1) := by
 have hi : i < M.length := by have := h.le; have := h.len; omega
 refine ⟨by rw [List.length_set]; exact h.len, by have := h.le; omega, by omega, ?_, fun k hk => ?_⟩
 ·rw [take_snoc hj, List.filter_append, ← h.lo, List.take_succ_eq_append_getElem (by rw [List.length_set]; exact hi), List.take_set_of_le (Nat.le_refl _), List.getElem_set_self]
  simp [hp]
 ·have := h.le
  rw [List.getElem?_set_ne (by omega)]
  exact h.hi k (by omega)
theorem Kept.start {p : Int → Bool} {l : List Int} {i : Nat} (hi : i < l.length) (ha : (l.take i).all (fun x => !p x) = true) (hp : p (l[i]?.getD 0) = true) : Kept p l l i (i + 1) := by
 refine ⟨rfl, by omega, by omega, ?_, fun _ _ => rfl⟩
 rw [take_snoc hi, List.filter_append]
 have : (l.take i).filter (fun x => !p x) = l.take i := List.filter_eq_self.2 fun x hx => List.all_eq_true.1 ha x hx
 rw [this]; simp [hp]
theorem OwnI.zeros {base g n cap : Nat} : ∀ (m : Nat) {o : Nat} {w : World} {M : List Int}, OwnI w base (.slice (some ⟨g, 0, none⟩) n cap) M → ∃ M', OwnI (w.setCells g o (List.replicate m (.int .i64 0))) base (.slice (some ⟨g, 0, none⟩) n cap) M' ∧ M'.take o = M.take o
 | 0, _, _, M, h => ⟨M, h, rfl⟩
 | m + 1, o, w, M, h => by
   obtain ⟨M', h1, h2⟩ := OwnI.zeros m (o := o + 1) (h.set o 0)
   refine ⟨M', h1, ?_⟩
   have h3 := congrArg (List.take o) h2
   rw [List.take_take, List.take_take, Nat.min_eq_left (by omega)] at h3
   rw [h3, List.take_set_of_le (Nat.le_refl _)]
theorem OwnI.takeO {w : World} {base g n cap : Nat} {M : List Int} (h : OwnI w base (.slice (some ⟨g, 0, none⟩) n cap) M) {k : Nat} (hk : k ≤ n) : OwnI w base (.slice (some ⟨g, 0, none⟩) k cap) (M.take k) := by
 rcases h.2 with ⟨he, h0⟩ | ⟨g', cap', cur, he, hb, hg, h1, h2, hs, ht⟩
 ·cases he
 ·simp only [Value.slice.injEq, Option.some.injEq, Addr.mk.injEq, and_true] at he
  obtain ⟨rfl, rfl, rfl⟩ := he
  have hl : (M.take k).length = k := by simp; omega
  refine ⟨by simp, .inr ⟨g, cap, cur, by rw [hl], hb, hg, by omega, h2, hs, ?_⟩⟩
  rw [hl, List.map_take, ← ht, List.take_take, Nat.mul_one, Nat.mul_one, Nat.min_eq_left hk]
theorem OwnI.outS {w : World} {base g n cap : Nat} {l : List Int} (h : OwnI w base (.slice (some ⟨g, 0, none⟩) n cap) l) : base ≤ g ∧ g < w.heap.size ∧ (∀ j, w.frozen? ⟨g, j, none⟩ = false) ∧ ∀ k, k < n → w.cell? ⟨g, k, none⟩ = some (.int .i64 (l[k]?.getD 0)) := by
 rcases h.2 with ⟨he, h0⟩ | ⟨g', cap', cur, he, hb, hg, h1, h2, hs, ht⟩
 ·cases he
 ·have hgg : g' = g := by simp only [Value.slice.injEq, Option.some.injEq, Addr.mk.injEq, and_true] at he; exact he.1.symm
  subst hgg
  refine ⟨hb, lt_of_block hg, fun j => frozen_of_row w g' j cur _ hg, fun k hk => ?_⟩
  obtain ⟨b, off, e, hc⟩ := h.ints.at hk
  simp only [Option.some.injEq, Addr.mk.injEq, and_true] at e
  rw [← e.1, ← e.2, Nat.zero_add] at hc
  exact hc
theorem below_setCells' {B : Nat} {a : World} (b : Nat) (hb : B ≤ b) : ∀ (vs : List Value) (o : Nat) {w : World}, Below B a w → Below B a (w.setCells b o vs)
 | [], _, _, h => h
 | v :: r, o, w, h => below_setCells' b hb r (o + 1) (h.setCell hb v)
theorem zero_int (w : World) : (zeroValue 3).run Tryz.prog w = .ok (.int .i64 0) w := rfl
set_option maxHeartbeats 4000000 in
theorem i_deleteFunc {W0 w : World} {base g n cap : Nat} {l : List Int} {fid : FuncId} {ca : Array Value} {p : Int → Bool} (hX : Ext W0 w) (hb : W0.heap.size ≤ base) (h : OwnI w base (.slice (some ⟨g, 0, none⟩) n cap) l) (hn : 0 < n) (hg : IsGo Tryz.prog fid) (hf : Asks Tryz.prog W0 fid ca p) :
 Calls Tryz.prog 150 #[.slice (some ⟨g, 0, none⟩) n cap, .func (.func fid) #[] ca] w fun e w' =>
  (∃ m, e = .returned (.slice (some ⟨g, 0, none⟩) m cap) ∧ OwnI w' base (.slice (some ⟨g, 0, none⟩) m cap) (l.filter fun x => !p x)) ∧ Ext W0 w' := by
 have hcap := h.ints.hcap
 have hmax := h.ints.hmax
 have hcf : ∀ (args : Array Value) (w : World), (callFunc fid args).run Tryz.prog w = .ok (.enter fid args) w := hg
 have HL := Lib.hid h.ints.hlen
 have HO := Lib.hid h
 have hbg := h.outS.1
 have HBG := Lib.hid hbg
 have HF := Lib.hid hf
 have HX := Lib.hid hX
 have HIX := Lib.hid (indexFunc_ints (w := w) h.ints hg (hf.ext hX))
 clear h hf hX hg hbg
 by_cases hany : ∃ i, l.findIdx? p = some i
 ·obtain ⟨i0, hi0⟩ := hany
  have hix : indexF p l = (i0 : Int) := by unfold indexF; rw [hi0]
  obtain ⟨hil, hip, hia⟩ := List.findIdx?_eq_some_iff_getElem.1 hi0
  have hin : i0 < n := by rw [← HL.out]; exact hil
  have hall : (l.take i0).all (fun x => !p x) = true := by
   rw [List.all_eq_true]; intro x hx
   obtain ⟨j, hj, rfl⟩ := List.mem_take_iff_getElem.1 hx
   have := hia j (by omega)
   simpa using this
  have HK0 := Lib.hid (Kept.start (p := p) hil hall (by rw [List.getElem?_eq_getElem hil]; exact hip))
  rw [hix] at HIX
  clear hix hi0 hip hia hall hil
  go_enter Tryz.func150, Tryz.ntmps150
  go_wp2_with fail
  refine HIX.out.mono ?_
  rintro e w1 ⟨rfl, hx1⟩
  have HX1 := Lib.hid (HX.out.trans hx1)
  have HO1 := Lib.hid (HO.out.ext hx1)
  have hne : ((i0 : Int) == -1) = false := by simp
  clear hx1
  go_wp2_with fail
  go_loopg [5, 6] n (fun gk ii jj wr => ∃ (i j : Nat) (M : List Int), Hid (gk + j = n + i0 + 1) ∧ ii = .int .i64 (i : Int) ∧ jj = .int .i64 (j : Int) ∧ Hid (Kept p l M i j) ∧ Hid (i < j) ∧ Hid (OwnI wr base (.slice (some ⟨g, 0, none⟩) n cap) M) ∧ Hid (Ext W0 wr))
  case atStart => exact ⟨i0, i0 + 1, l, Lib.hid (by omega), rfl, by simp, HK0, Lib.hid (by omega), HO1, HX1⟩
  case round =>
   obtain ⟨g1, h_g1⟩ : ∃ x, x = gk := ⟨_, rfl⟩
   subst h_g1
   obtain ⟨wr1, h_wr1⟩ : ∃ x, x = wr := ⟨_, rfl⟩
   subst h_wr1
   obtain ⟨i, j, M, HJ, rfl, rfl, HK, HIJ, HM, HX2⟩ := hrel
   have hij := HIJ.out
   by_cases hlt : j < n
   ·have hc := HM.out.outS.2.2.2 j hlt
    rw [HK.out.hi j (Nat.le_refl _)] at hc
    obtain ⟨x, hx⟩ : ∃ x, x = l[j]?.getD 0 := ⟨_, rfl⟩
    rw [← hx] at hc
    have HXX := Lib.hid hx
    have HC := Lib.hid (HF.out x wr1 HX2.out)
    have hjl : j < l.length := by rw [HL.out]; exact hlt
    clear hx
    cases hpx : p x
    ·have HKN := Lib.hid (HK.out.keep hjl (by rw [← HXX.out]; exact hpx))
     rw [← HXX.out] at HKN
     rw [hpx] at HC
     clear hpx
     go_wp2_with fail
     refine HC.out.mono ?_
     rintro e w2 ⟨rfl, hx2⟩
     have HM2 := Lib.hid (HM.out.ext hx2)
     have hci := HM2.out.outS.2.2.2 i (by omega)
     have hfz := HM2.out.outS.2.2.1
     have hfi := hfz i
     have HM3 := Lib.hid (HM2.out.set i x)
     have HX3 := Lib.hid ((HX2.out.trans hx2).store i (Nat.le_trans hb HBG.out) (.int .i64 x))
     clear hx2 hfz
     go_wp2_with fail
     go_roundg (g1 - 1)
     case measure => have := HJ.out; omega
     case rel => exact ⟨i + 1, j + 1, _, Lib.hid (by have := HJ.out; omega), by go_num, by go_num, HKN, Lib.hid (by omega), HM3, HX3⟩
    ·have HKN := Lib.hid (HK.out.drop hjl (by rw [← HXX.out]; exact hpx))
     rw [hpx] at HC
     clear hpx
     go_wp2_with fail
     refine HC.out.mono ?_
     rintro e w2 ⟨rfl, hx2⟩
     have HM2 := Lib.hid (HM.out.ext hx2)
     have HX3 := Lib.hid (HX2.out.trans hx2)
     clear hx2
     go_wp2_with fail
     go_roundg (g1 - 1)
     case measure => have := HJ.out; omega
     case rel => exact ⟨i, j + 1, _, Lib.hid (by have := HJ.out; omega), rfl, by go_num, HKN, Lib.hid (by omega), HM2, HX3⟩
   ·have hjn : j = n := by have := HK.out.jl; have := HL.out; omega
    subst hjn
    have hcl : ∀ ty, (Builtin.clear_ #[22] ty #[.slice (some ⟨g, i, none⟩) (j - i) (cap - i)]).run Tryz.prog wr1 = .ok (.tuple #[]) (wr1.setCells g i (List.replicate (j - i) (.int .i64 0))) := fun ty => by
     refine Lib.run_clear_slice wr1 _ 3 ty _ Tryz.underlying22 zero_int rfl rfl g i _ _ (by omega) (fun k hk => ?_) (fun k hk => ?_)
     ·rw [HM.out.outS.2.2.2 (i + k) (by omega)]; rfl
     ·exact HM.out.outS.2.2.1 _
    obtain ⟨M', hM', hMt⟩ := OwnI.zeros (w := wr1) (j - i) (o := i) HM.out
    have HT := Lib.hid (show M'.take i = l.filter fun x => !p x by
     rw [hMt, HK.out.lo, List.take_of_length_le (by rw [HL.out]; exact Nat.le_refl _)])
    have HMF := Lib.hid hM'
    have HXF := Lib.hid (below_setCells' g (Nat.le_trans hb HBG.out) (List.replicate (j - i) (.int .i64 0)) i HX2.out)
    clear hMt hM'
    go_wp2_with fail
    go_ret
    exact ⟨⟨i, rfl, by rw [← HT.out]; exact HMF.out.takeO (by omega)⟩, HXF.out⟩
 ·have hix : indexF p l = -1 := by
   unfold indexF
   cases hq : l.findIdx? p with
   | none => rfl
   | some i => exact absurd ⟨i, hq⟩ hany
  have HFI := Lib.hid (show l.filter (fun x => !p x) = l by
   rw [List.filter_eq_self]; intro x hx
   cases hq : l.findIdx? p with
   | none => have := List.findIdx?_eq_none_iff.1 hq x hx; simpa using this
   | some i => exact absurd ⟨i, hq⟩ hany)
  rw [hix] at HIX
  clear hix hany
  go_enter Tryz.func150, Tryz.ntmps150
  go_wp2_with fail
  refine HIX.out.mono ?_
  rintro e w1 ⟨rfl, hx1⟩
  have HX1 := Lib.hid (HX.out.trans hx1)
  have HO1 := Lib.hid (HO.out.ext hx1)
  clear hx1
  go_wp2_with fail
  go_ret
  exact ⟨⟨n, rfl, by rw [HFI.out]; exact HO1.out⟩, HX1.out⟩
def AsksX (P : Program) (w : World) (fid : FuncId) (ca : Array Value) (p : Int × Int × Int → Bool) : Prop :=
 ∀ x y z (w1 : World), Ext w w1 → Calls P fid (#[.agg #[.int .i64 x, .int .i64 y, .int .i64 z]] ++ ca) w1 fun e w2 => e = .returned (.bool (p (x, y, z))) ∧ Ext w1 w2
set_option maxHeartbeats 1000000 in
theorem indexFunc_fixs {w : World} {a : Option Addr} {n cap : Nat} {l : List (Int × Int × Int)} {fid : FuncId} {ca : Array Value} {p : Int × Int × Int → Bool} (h : Fixs w a n cap l) (hg : IsGo Tryz.prog fid) (hf : AsksX Tryz.prog w fid ca p) :
 Calls Tryz.prog 205 #[.slice a n cap, .func (.func fid) #[] ca] w fun e w' => e = .returned (.int .i64 (indexF p l)) ∧ Ext w w' := by
 have hn := h.hcap
 have hm := h.hmax
 have hcf : ∀ (args : Array Value) (w : World), (callFunc fid args).run Tryz.prog w = .ok (.enter fid args) w := hg
 have HL := Lib.hid h.hlen
 have HI := Lib.hid h
 have HF := Lib.hid hf
 clear h hf hg
 go_enter Tryz.func205, Tryz.ntmps205
 go_wp2_with fail
 go_loopg [8] n (fun gk ii wr => ∃ k : Nat, Hid (gk + k = n) ∧ ii = .int .i64 (k : Int) ∧ Hid ((l.take k).all (fun x => !p x) = true) ∧ Hid (Ext w wr))
 case atStart => exact ⟨0, Lib.hid (by omega), rfl, Lib.hid rfl, Lib.hid (Ext.refl _)⟩
 case round =>
  obtain ⟨g1, h_g1⟩ : ∃ x, x = gk := ⟨_, rfl⟩
  subst h_g1
  obtain ⟨wr1, h_wr1⟩ : ∃ x, x = wr := ⟨_, rfl⟩
  subst h_wr1
  obtain ⟨k, HK, rfl, HA, HX⟩ := hrel
  by_cases hlt : k < n
  ·obtain ⟨b, off, x, y, z, rfl, hxy, hc0, hc1, hc2⟩ := (HI.out.ext HX.out).at hlt
   have HC := Lib.hid (HF.out x y z wr1 HX.out)
   have hkl : k < l.length := by rw [HL.out]; exact hlt
   cases hb : p (x, y, z)
   all_goals rw [hb] at HC
   ·have HT := Lib.hid (show (l.take (k + 1)).all (fun x => !p x) = true by rw [take_snocX hkl, List.all_append, HA.out, hxy]; simp [hb])
    clear hb hxy
    go_wp2_with fail
    refine HC.out.mono ?_
    rintro e w2 ⟨rfl, hx2⟩
    have HX2 := Lib.hid (HX.out.trans hx2)
    clear hx2
    go_wp2_with fail
    go_roundg (g1 - 1)
    case measure => have := HK.out; omega
    case rel => exact ⟨k + 1, Lib.hid (by have := HK.out; omega), by go_num, HT, HX2⟩
   ·have HT := Lib.hid (show indexF p l = (k : Int) from indexF_at (d := (0, 0, 0)) hkl HA.out (by rw [hxy]; exact hb))
    clear hb hxy
    go_wp2_with fail
    refine HC.out.mono ?_
    rintro e w2 ⟨rfl, hx2⟩
    have HX2 := Lib.hid (HX.out.trans hx2)
    clear hx2
    go_wp2_with fail
    go_ret
    exact ⟨ret_int HT.out.symm, HX2.out⟩
  ·have HT := Lib.hid (show l.take k = l from List.take_of_length_le (by rw [HL.out]; have := HK.out; omega))
   go_wp2_with fail
   go_ret
   exact ⟨ret_int (by rw [indexF_none]; have := HA.out; rwa [HT.out] at this), HX.out⟩
set_option maxHeartbeats 400000 in
theorem containsFunc_fixs {w : World} {a : Option Addr} {n cap : Nat} {l : List (Int × Int × Int)} {fid : FuncId} {ca : Array Value} {p : Int × Int × Int → Bool} (h : Fixs w a n cap l) (hg : IsGo Tryz.prog fid) (hf : AsksX Tryz.prog w fid ca p) :
 Calls Tryz.prog 153 #[.slice a n cap, .func (.func fid) #[] ca] w fun e w' => e = .returned (.bool (l.any p)) ∧ Ext w w' := by
 have HC := Lib.hid (indexFunc_fixs h hg hf)
 go_enter Tryz.func153, Tryz.ntmps153
 go_wp2_with fail
 refine HC.out.mono ?_
 rintro e w2 ⟨rfl, hx2⟩
 go_wp2
 all_goals go_ret; refine ⟨ret_bool ?_, hx2⟩; rw [← indexF_any]
theorem go_free11 : IsGo Tryz.prog 154 := isGo Tryz.func154 (by kernel_rfl) (by kernel_rfl)
theorem go_free1 : IsGo Tryz.prog 152 := isGo Tryz.func152 (by kernel_rfl) (by kernel_rfl)
set_option maxHeartbeats 400000 in
theorem i_free11 {w : World} (x y z s : Int) {b : Nat} (hc : w.cell? ⟨b, 0, none⟩ = some (.int .i64 s)) :
 Calls Tryz.prog 154 #[.agg #[.int .i64 x, .int .i64 y, .int .i64 z], .pointer (some ⟨b, 0, none⟩)] w fun e w' => e = .returned (.bool (x == s)) ∧ Ext w w' := by
 have HX := Lib.hid (Ext.alloc w (.cells #[.int .i64 x, .int .i64 y, .int .i64 z] 108))
 have hb : b < w.heap.size := World.block_lt_of_cell? _ _ hc
 cases hq : (x == s)
 all_goals
  go_enter Tryz.func154, Tryz.ntmps154
  go_wp2_with fail
  go_ret
  exact ⟨ret_bool rfl, HX.out⟩
set_option maxHeartbeats 400000 in
theorem i_free1 {w : World} (s : Int) {b : Nat} {a : Option Addr} {n cap : Nat} {L : List (Int × Int × Int)} (hc : w.cell? ⟨b, 0, none⟩ = some (.slice a n cap)) (h : Fixs w a n cap L) :
 Calls Tryz.prog 152 #[.int .i64 s, .pointer (some ⟨b, 0, none⟩)] w fun e w' => e = .returned (.bool (hasX L s)) ∧ Ext w w' := by
 have HX := Lib.hid (Ext.alloc w (.cells #[.int .i64 s] 3))
 have hb : b < w.heap.size := World.block_lt_of_cell? _ _ hc
 have HC := Lib.hid (containsFunc_fixs (ca := #[.pointer (some ⟨w.heap.size, 0, none⟩)]) (p := fun f => f.1 == s) (h.ext HX.out) go_free11 (fun x y z w1 hx => i_free11 x y z s (hx.cellSome (by simp))))
 clear h
 go_enter Tryz.func152, Tryz.ntmps152
 go_wp2_with fail
 refine HC.out.mono ?_
 rintro e w2 ⟨rfl, hx2⟩
 have HX2 := Lib.hid (HX.out.trans hx2)
 clear hx2
 go_wp2_with fail
 go_ret
 exact ⟨rfl, HX2.out⟩
set_option maxHeartbeats 2000000 in
theorem i_freeCoalitions {w : World} (x : Int) (a : Option Addr) (n cap : Nat) (h4 : 3 ≤ n) (hn : n ≤ 1000) {fa : Option Addr} {fn fcap : Nat} {L : List (Int × Int × Int)} (h : Fixs w fa fn fcap L) :
 Calls Tryz.prog 90 #[pair x a n cap, .slice fa fn fcap] w fun e w' => (∃ v, e = .returned v ∧ OwnI w' w.heap.size v (freeL L (n - 2))) ∧ Ext w w' := by
 obtain ⟨W, hW⟩ : ∃ W, W = (w.alloc (.cells #[.int .i64 x, .slice a n cap] 47)).alloc (.cells #[.slice fa fn fcap] 43) := ⟨_, rfl⟩
 have HWS := Lib.hid (show W.heap.size = w.heap.size + 2 by rw [hW]; simp)
 have HX0 := Lib.hid (show Ext w W by rw [hW]; exact (Ext.alloc _ _).trans (Ext.alloc _ _))
 have HWL := Lib.hid (show W.cell? ⟨w.heap.size + 1, 0, none⟩ = some (.slice fa fn fcap) by rw [hW]; simp)
 have HF := Lib.hid (h.ext HX0.out)
 have HA := Lib.hid (show Asks Tryz.prog W 152 #[.pointer (some ⟨w.heap.size + 1, 0, none⟩)] (hasX L) from fun s w1 hx => i_free1 s (hx.cellSome HWL.out) (HF.out.ext hx))
 have HC := Lib.hid (i_coalitions (w := W) 1 ((n : Int) - 2) (n - 2) (by omega) (by omega) (by omega) (by omega))
 rw [hW] at HC
 clear h
 go_enter Tryz.func90, Tryz.ntmps90
 go_wp2_with fail
 refine HC.out.mono ?_
 rw [← hW]
 clear hW
 rintro e w1 ⟨⟨v, rfl, ho⟩, hx1⟩
 obtain ⟨a1, m, c1, rfl, hm⟩ := ho.var
 have hm0 : 0 < m := by have := hm.out; rw [seqI_len] at this; omega
 obtain ⟨g, rfl, _, _, _⟩ := ho.block hm0
 have HD := Lib.hid (i_deleteFunc hx1 (Nat.le_refl _) ho hm0 go_free1 HA.out)
 clear ho hm hx1
 go_wp2_with fail
 refine HD.out.mono ?_
 rintro e w2 ⟨⟨m2, rfl, ho2⟩, hx2⟩
 have HO2 := Lib.hid ho2
 have HX2 := Lib.hid hx2
 clear ho2 hx2
 go_wp2_with fail
 go_ret
 exact ⟨⟨_, rfl, HO2.out.mono (by rw [HWS.out]; omega)⟩, HX0.out.trans HX2.out⟩
def Tells (P : Program) (w : World) (fid : FuncId) (ca : Array Value) (m : Nat) (f : Nat → Int) : Prop :=
 ∀ (s : Nat) (w1 : World), s < m → Ext w w1 → Calls P fid (#[.int .i64 (s : Int)] ++ ca) w1 fun e w2 => e = .returned (.int .i64 (f s)) ∧ Ext w1 w2
theorem Tells.ext {P : Program} {w w' : World} {fid : FuncId} {ca : Array Value} {m : Nat} {f : Nat → Int} (h : Tells P w fid ca m f) (hx : Ext w w') : Tells P w' fid ca m f :=
 fun s w1 hs k => h s w1 hs (hx.trans k)
theorem getD_bd {V : List Int} (hV : ∀ x ∈ V, -500 ≤ x ∧ x ≤ 500) (k : Nat) : -500 ≤ V[k]?.getD 0 ∧ V[k]?.getD 0 ≤ 500 := by
 by_cases h : k < V.length
 ·have := hV _ (List.getElem_mem h); simpa [h] using this
 ·simp [List.getElem?_eq_none (by omega : V.length ≤ k)]
end Go.Proofs.YtgohdmnbnhehnaaGreat
