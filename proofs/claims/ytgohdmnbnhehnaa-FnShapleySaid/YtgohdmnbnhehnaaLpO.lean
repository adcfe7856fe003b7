/- A linear program that a call builds field by field: its box, its rows, its right side and its costs, all owned and apart. -/
import Derived.Test.YtgohdmnbnhehnaaMatO
import Derived.Test.YtgohdmnbnhehnaaGen
import Derived.Test.YtgohdmnbnhehnaaOwnR
namespace Go.Proofs.Ytgohdmnbnhehnaa
set_option linter.unusedVariables false
open Go.RowKit

theorem Ext.store {w w' : World} (h : Ext w w') {b : Nat} (k : Nat) (hb : w.heap.size ≤ b) (v : Value) : Ext w (w'.setCell ⟨b, k, none⟩ v) := Below.setCell h (p := ⟨b, k, none⟩) hb v
theorem Ext.grown {w0 w w' : World} {row : Option Nat} (h : Ext w0 w) (hg : w.grownBy w' row) (hr : ∀ k, row = some k → w0.heap.size ≤ k) : Ext w0 w' := ext_grown h hg hr
/-- The rows' blocks are not v's. -/
def OffV (vs : List Value) (v : Value) : Prop := ∀ i k, i < vs.length → (vs[i]?.getD undef).ownBlock = some k → v.ownBlock ≠ some k
theorem OffV.nil (v : Value) : OffV [] v := fun i k h => absurd h (by simp)
theorem OffV.near {w : World} {base : Nat} {vs : List Value} {A : List (List Int)} {v v' : Value} (h : OffV vs v) (hr : RowsI w base vs A) (hn : Near w v v') : OffV vs v' := by
  intro i k hi hk hk'
  rcases hn k hk' with h1 | h1
  · exact h i k hi hk h1
  · have := ((hr.row i (by rw [← hr.len]; exact hi)).lt k hk).2
    omega
theorem OffV.snoc {w w' : World} {base : Nat} {vs : List Value} {B r : List Int} {v vr : Value} (h : OffV vs v) (hb : OwnI w base v B) (hr : OwnI w' w.heap.size vr r) : OffV (vs ++ [vr]) v := by
  intro i k hi hk hk'
  by_cases hl : i < vs.length
  · rw [List.getElem?_append_left hl] at hk; exact h i k hl hk hk'
  · have hie : i = vs.length := by simp at hi; omega
    subst hie
    rw [List.getElem?_concat_length, Option.getD_some] at hk
    have h1 := (hb.lt k hk').2
    have h2 := (hr.lt k hk).1
    omega

section
variable {w : World} {base g : Nat} {va vb vc : Value} {vs : List Value} {A : List (List Int)} {B : List Int} {C : List (Int × Int)}
/-- Another owned slice of another type stays. -/
theorem ownsRow_grown {w w2 : World} {b1 b2 : Nat} {e e' : TypeId} {s s' n n' : Nat} {v v' : Value} {xs xs' : List Value} (h : w.ownsRow b1 e s v n xs) (h' : w.ownsRow b2 e' s' v' n' xs') (hne : e ≠ e') (hgr : w.grownBy w2 v'.ownBlock) : w2.ownsRow b1 e s v n xs :=
  h.kept hgr (by
    cases hv : v.ownBlock with
    | none => exact .inl rfl
    | some k => exact .inr fun e2 => ownsRow_apart hne h h' k hv e2.symm)
theorem ownsRow_set {w : World} {b1 g k : Nat} {e e' : TypeId} {s n : Nat} {v u : Value} {xs : List Value} {c : Array Value} {z : Nat × Nat} (h : w.ownsRow b1 e s v n xs) (hb : w.heap[g]? = some (.cells c e' z)) (hne : e ≠ e') : (w.setCell ⟨g, k, none⟩ u).ownsRow b1 e s v n xs := by
  refine ⟨h.1, ?_⟩
  rcases h.2 with hn | ⟨g', cap, cur, rfl, hbb, hgg, rest⟩
  · exact .inl hn
  · refine .inr ⟨g', cap, cur, rfl, hbb, ?_, rest⟩
    rw [heap_setCell_other _ _ _ _ fun e2 => by subst e2; exact ownsRow_ne h hb hne rfl]
    exact hgg
theorem OwnG.grownV {α : Type} {E : Enc α} {t : TypeId} {w w1 w2 : World} {b1 b2 : Nat} {v v' : Value} {l : List α} {us : List Value} (h : OwnG E t w b1 v l) (hx : Ext w w1) (h' : OwnV w b2 v' us) (hne : t ≠ 24) (hgr : w1.grownBy w2 v'.ownBlock) : OwnG E t w2 b1 v l :=
  ownsRow_grown (h.ext hx) (h'.ext hx) hne hgr
theorem OwnG.grownI {α : Type} {E : Enc α} {t : TypeId} {w w1 w2 : World} {b1 b2 : Nat} {v v' : Value} {l : List α} {us : List Int} (h : OwnG E t w b1 v l) (hx : Ext w w1) (h' : OwnI w b2 v' us) (hne : t ≠ 3) (hgr : w1.grownBy w2 v'.ownBlock) : OwnG E t w2 b1 v l :=
  ownsRow_grown (h.ext hx) (h'.ext hx) hne hgr
theorem OwnG.grownR {α : Type} {E : Enc α} {t : TypeId} {w w1 w2 : World} {b1 b2 : Nat} {v v' : Value} {l : List α} {us : List (Int × Int)} (h : OwnG E t w b1 v l) (hx : Ext w w1) (h' : OwnR w b2 v' us) (hne : t ≠ 34) (hgr : w1.grownBy w2 v'.ownBlock) : OwnG E t w2 b1 v l :=
  ownsRow_grown (h.ext hx) (h'.ext hx) hne hgr
end

theorem OwnV.mono' {w : World} {base base' : Nat} {v : Value} {vs : List Value} (h : OwnV w base v vs) (hb : base' ≤ base) : OwnV w base' v vs := by
  refine ⟨h.1, ?_⟩
  rcases h.2 with hn | ⟨g, cap, cur, rfl, hbb, rest⟩
  · exact .inl hn
  · exact .inr ⟨g, cap, cur, rfl, by omega, rest⟩
theorem OwnSS.mono' {w : World} {base base' : Nat} {v : Value} {L : List (List Int)} (h : OwnSS w base v L) (hb : base' ≤ base) : OwnSS w base' v L :=
  let ⟨vs, h1, h2⟩ := h; ⟨vs, h1.mono' hb, ⟨h2.len, fun i hi => (h2.row i hi).mono hb, h2.apart⟩⟩

theorem OwnI.keptR {w w1 w2 : World} {b1 b2 : Nat} {v v' : Value} {l : List Int} {us : List (Int × Int)} (h : OwnI w b1 v l) (hx : Ext w w1) (h' : OwnR w b2 v' us) (hgr : w1.grownBy w2 v'.ownBlock) : OwnI w2 b1 v l :=
  ownsRow_grown (h.ext hx) (h'.ext hx) (by decide) hgr
theorem OwnR.keptI {w w1 w2 : World} {b1 b2 : Nat} {v v' : Value} {l : List (Int × Int)} {us : List Int} (h : OwnR w b1 v l) (hx : Ext w w1) (h' : OwnI w b2 v' us) (hgr : w1.grownBy w2 v'.ownBlock) : OwnR w2 b1 v l :=
  ownsRow_grown (h.ext hx) (h'.ext hx) (by decide) hgr
theorem OwnR.keptV {w w1 w2 : World} {b1 b2 : Nat} {v v' : Value} {l : List (Int × Int)} {us : List Value} (h : OwnR w b1 v l) (hx : Ext w w1) (h' : OwnV w b2 v' us) (hgr : w1.grownBy w2 v'.ownBlock) : OwnR w2 b1 v l :=
  ownsRow_grown (h.ext hx) (h'.ext hx) (by decide) hgr
theorem OwnI.keptV {w w1 w2 : World} {b1 b2 : Nat} {v v' : Value} {l : List Int} {us : List Value} (h : OwnI w b1 v l) (hx : Ext w w1) (h' : OwnV w b2 v' us) (hgr : w1.grownBy w2 v'.ownBlock) : OwnI w2 b1 v l :=
  ownsRow_grown (h.ext hx) (h'.ext hx) (by decide) hgr
theorem Ints.litM {W : World} (l : List Int) (t : TypeId) {m : Nat} (hm : l.length = m) {cs : Array Value} (hcs : cs = intCells l) {n : Nat} (hn : n = W.heap.size) (hb : m ≤ 1099511627776) : Ints (W.alloc (.cells cs t)) (some ⟨n, 0, none⟩) m m l := by
  subst hn hcs
  exact (show Row (W.alloc (.cells (intCells l) t)) W.heap.size t l from heap_alloc_new W _).ints hm (Nat.le_refl _) (by omega)

theorem Rats.two (W : World) (x y x' y' : Int) (t : TypeId) {n : Nat} (hn : n = W.heap.size) : Rats (W.alloc (.cells #[.int .i64 x, .int .i64 y, .int .i64 x', .int .i64 y'] t)) (some ⟨n, 0, none⟩) 2 2 [(x, y), (x', y')] := by
  subst hn
  exact ⟨rfl, Nat.le_refl _, by omega, fun k hk => ⟨_, 0, rfl, fun k hk => by
    have : k = 0 ∨ k = 1 := by omega
    rcases this with rfl | rfl <;> simp⟩⟩

theorem RowsI.mono' {w : World} {base base' : Nat} {vs : List Value} {L : List (List Int)} (h : RowsI w base vs L) (hb : base' ≤ base) : RowsI w base' vs L := ⟨h.len, fun i hi => (h.row i hi).mono hb, h.apart⟩

theorem Ext.blk {w w' : World} (hx : Ext w w') {b : Nat} {o : Obj} (h : w.heap[b]? = some o) : w'.heap[b]? = some o := (hx.block b (lt_of_block h)).trans h
theorem grown_blk {w w' : World} {row : Option Nat} (hg : w.grownBy w' row) {b : Nat} {o : Obj} (h : w.heap[b]? = some o) (hne : some b ≠ row) : w'.heap[b]? = some o := (hg.block b (lt_of_block h) hne).trans h
theorem blk_ne {w : World} {b b' : Nat} {c c' : Array Value} {t t' : TypeId} {z z' : Nat × Nat} (h : w.heap[b]? = some (.cells c t z)) (h' : w.heap[b']? = some (.cells c' t' z')) (hne : t ≠ t') : b ≠ b' := by
  intro e
  subst e
  rw [h] at h'
  simp only [Option.some.injEq, Obj.cells.injEq] at h'
  exact hne h'.2.1
theorem gbox0 {w : World} {b : Nat} {x y : Value} {t : TypeId} (h : w.heap[b]? = some (.cells #[x, y] t (0, 0))) : w.cell? ⟨b, 0, none⟩ = some x := by rw [cell_of_row w b 0 _ _ _ h]; rfl
theorem gbox1 {w : World} {b : Nat} {x y : Value} {t : TypeId} (h : w.heap[b]? = some (.cells #[x, y] t (0, 0))) : w.cell? ⟨b, 1, none⟩ = some y := by rw [cell_of_row w b 1 _ _ _ h]; rfl

end Go.Proofs.Ytgohdmnbnhehnaa
