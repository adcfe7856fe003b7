/- Boxes that a draw holds while its cursor runs. -/
import Derived.Test.YtgohdmnbnhehnaaDrawB
import Derived.Test.YtgohdmnbnhehnaaLate
namespace Go.Proofs.Ytgohdmnbnhehnaa
set_option linter.unusedVariables false
set_option linter.unusedSimpArgs false
set_option maxRecDepth 100000
open Go.RowKit

abbrev Bx := Nat → Option (Array Value × TypeId)
def Bx.nil : Bx := fun _ => none
def Bx.upd (f : Bx) (b : Nat) (p : Array Value × TypeId) : Bx := fun k => if k = b then some p else f k
theorem Bx.same (f : Bx) (b : Nat) (p : Array Value × TypeId) : f.upd b p b = some p := by unfold Bx.upd; rw [if_pos rfl]
theorem Bx.other (f : Bx) {b k : Nat} (p : Array Value × TypeId) (h : k ≠ b) : f.upd b p k = f k := by unfold Bx.upd; rw [if_neg h]
/-- Boxes made since w, apart from the cursor. -/
structure Bxs (w wr : World) (cb : Nat) (f : Bx) : Prop where
  cur : Cur wr cb
  grown : w.grownBy wr (some cb)
  box : ∀ b p, f b = some p → wr.heap[b]? = some (.cells p.1 p.2 (0, 0)) ∧ b ≠ cb ∧ w.heap.size ≤ b
  dry : ∀ b p, f b = some p → ∀ (j : Nat) (y : Int), p.1[j]? ≠ some (Value.int .u8 y)
section
variable {w wr w' : World} {cb b : Nat} {f : Bx} {p : Array Value × TypeId}
theorem Bxs.lt (h : Bxs w wr cb f) (hf : f b = some p) : b < wr.heap.size := lt_of_block (h.box b p hf).1
theorem Bxs.call (h : Bxs w wr cb f) (hc : Cur w' cb) (hg : wr.grownBy w' (some cb)) : Bxs w w' cb f :=
  ⟨hc, grown_two h.grown hg, fun b p hf => ⟨(grown_block hg (h.lt hf) (h.box b p hf).2.1).trans (h.box b p hf).1, (h.box b p hf).2⟩, h.dry⟩
theorem Bxs.ext (h : Bxs w wr cb f) (hx : Ext wr w') : Bxs w w' cb f := h.call (h.cur.ext hx) (grown_ext _ hx)
theorem Bxs.cell (h : Bxs w wr cb f) (hf : f b = some p) (i : Nat) : wr.cell? ⟨b, i, none⟩ = p.1[i]? := cell_of_row wr b i _ _ _ (h.box b p hf).1
theorem Bxs.c0 {x0 x1 : Value} {t : TypeId} (h : Bxs w wr cb f) (hf : f b = some (#[x0, x1], t)) : wr.cell? ⟨b, 0, none⟩ = some x0 := h.cell hf 0
theorem Bxs.c1 {x0 x1 : Value} {t : TypeId} (h : Bxs w wr cb f) (hf : f b = some (#[x0, x1], t)) : wr.cell? ⟨b, 1, none⟩ = some x1 := h.cell hf 1
theorem Bxs.free (h : Bxs w wr cb f) (hf : f b = some p) (i : Nat) : wr.frozen? ⟨b, i, none⟩ = false := frozen_of_row wr b i _ _ (h.box b p hf).1
theorem Bxs.start (hc : Cur wr cb) (hg : w.grownBy wr (some cb)) : Bxs w wr cb Bx.nil := ⟨hc, hg, fun _ _ h => (by cases h), fun _ _ h => (by cases h)⟩
/-- One more, that is there already. -/
theorem Bxs.add (h : Bxs w wr cb f) (b : Nat) (arr : Array Value) (t : TypeId) (hb : wr.heap[b]? = some (.cells arr t (0, 0))) (hne : b ≠ cb) (hw : w.heap.size ≤ b) (hd : ∀ (j : Nat) (y : Int), arr[j]? ≠ some (Value.int .u8 y)) : Bxs w wr cb (f.upd b (arr, t)) := by
  refine ⟨h.cur, h.grown, fun k p hf => ?_, fun k p hf => ?_⟩
  all_goals
    by_cases e : k = b
    · subst e
      rw [Bx.same] at hf
      cases hf
      first | exact ⟨hb, hne, hw⟩ | exact hd
    · rw [Bx.other _ _ e] at hf
      first | exact h.box k p hf | exact h.dry k p hf
theorem Bxs.new (h : Bxs w wr cb f) (arr : Array Value) (t : TypeId) (hd : ∀ (j : Nat) (y : Int), arr[j]? ≠ some (Value.int .u8 y)) : Bxs w (wr.alloc (.cells arr t)) cb (f.upd wr.heap.size (arr, t)) :=
  (h.ext (Ext.alloc wr _)).add _ _ _ (heap_alloc_new _ _) (by have := h.cur.lt; omega) h.grown.size hd
theorem Bxs.put (h : Bxs w wr cb f) (hf : f b = some p) (i : Nat) (v : Value) (hv : ∀ y : Int, v ≠ Value.int .u8 y) : Bxs w (wr.setCell ⟨b, i, none⟩ v) cb (f.upd b (p.1.setIfInBounds i v, p.2)) := by
  have hb := h.box b p hf
  have ho : ∀ j, j ≠ b → (wr.setCell ⟨b, i, none⟩ v).heap[j]? = wr.heap[j]? := fun j hj => heap_setCell_other _ _ _ _ hj
  have hg := h.grown
  refine ⟨h.cur.put' hb.2.1 (fun j y e => ?_) i v, ⟨hg.os, hg.tape, hg.output, by simpa using hg.size, fun j hj hn => (ho j (by omega)).trans (hg.block j hj hn)⟩, fun k q hk => ?_, fun k q hk => ?_⟩
  · rw [h.cell hf] at e; exact h.dry b p hf j y e
  · by_cases e : k = b
    · subst e
      rw [Bx.same] at hk
      cases hk
      exact ⟨heap_setCell_same wr k i _ _ v hb.1, hb.2⟩
    · rw [Bx.other _ _ e] at hk
      have := h.box k q hk
      exact ⟨(ho k e).trans this.1, this.2⟩
  · by_cases e : k = b
    · subst e
      rw [Bx.same] at hk
      cases hk
      intro j y ej
      simp only [Array.getElem?_setIfInBounds] at ej
      split at ej
      · split at ej
        · exact hv y (Option.some.inj ej)
        · cases ej
      · exact h.dry k p hf j y ej
    · rw [Bx.other _ _ e] at hk
      exact h.dry k q hk
/-- A struct of two is stored anew. -/
theorem Bxs.put2 {x0 x1 : Value} {t : TypeId} (h : Bxs w wr cb f) (hf : f b = some (#[x0, x1], t)) (v0 v1 : Value) (h0 : ∀ y : Int, v0 ≠ Value.int .u8 y) (h1 : ∀ y : Int, v1 ≠ Value.int .u8 y) :
    Bxs w ((wr.setCell ⟨b, 0, none⟩ v0).setCell ⟨b, 1, none⟩ v1) cb (f.upd b (#[v0, v1], t)) := by
  have h2 := (h.put hf 0 v0 h0).put (Bx.same _ _ _) 1 v1 h1
  refine ⟨h2.cur, h2.grown, fun k p hk => h2.box k p ?_, fun k p hk => h2.dry k p ?_⟩
  all_goals
    by_cases e : k = b
    · subst e; rw [Bx.same] at hk ⊢; rw [← hk]; rfl
    · rw [Bx.other _ _ e] at hk; rw [Bx.other _ _ e, Bx.other _ _ e]; exact hk
theorem OwnI.calls {base : Nat} {v : Value} {V : List Int} (ho : OwnI wr base v V) (hg : wr.grownBy w' (some cb)) (hb : cb < base) : OwnI w' base v V :=
  ho.keep fun k hk => grown_block hg (ho.lt k hk).2 (by have := (ho.lt k hk).1; omega)
theorem OwnI.put2 {base : Nat} {v : Value} {V : List Int} (ho : OwnI wr base v V) (hb : b < base) (v0 v1 : Value) : OwnI ((wr.setCell ⟨b, 0, none⟩ v0).setCell ⟨b, 1, none⟩ v1) base v V :=
  ((OwnI.on ho).set hb v0 |>.set (a := ⟨b, 1, none⟩) hb v1).here
/-- A cell that holds no byte is written. -/
theorem Cur.puts {k : Nat} {u : Value} (h : Cur wr cb) (hne : b ≠ cb) (hb : wr.cell? ⟨b, k, none⟩ = some u) (hu : ∀ y : Int, u ≠ Value.int .u8 y) (v : Value) : Cur (wr.setCell ⟨b, k, none⟩ v) cb := by
  obtain ⟨ba, bn, bc, i, x, h1, h2, h3, h4, h5⟩ := h
  refine ⟨ba, bn, bc, i, x, (heap_setCell_other _ _ _ _ (Ne.symm hne)).trans h1, ⟨h2.hcap, h2.hmax, fun j hj => ?_⟩, h3, h4, h5⟩
  obtain ⟨b', off, e, hc⟩ := h2.cell j hj
  refine ⟨b', off, e, fun j hj => ?_⟩
  obtain ⟨y, hy, hy1⟩ := hc j hj
  refine ⟨y, (World.cell?_setCell_other _ _ _ _ fun e2 => ?_).trans hy, hy1⟩
  rw [e2, hy] at hb
  exact hu y (Option.some.inj hb).symm
/-- A cell of a row made since w is written. -/
theorem Bxs.putr {k : Nat} {u : Value} (h : Bxs w wr cb f) (hne : b ≠ cb) (hw : w.heap.size ≤ b) (hf : f b = none) (hb : wr.cell? ⟨b, k, none⟩ = some u) (hu : ∀ y : Int, u ≠ Value.int .u8 y) (v : Value) : Bxs w (wr.setCell ⟨b, k, none⟩ v) cb f := by
  have ho : ∀ j, j ≠ b → (wr.setCell ⟨b, k, none⟩ v).heap[j]? = wr.heap[j]? := fun j hj => heap_setCell_other _ _ _ _ hj
  have hg := h.grown
  refine ⟨h.cur.puts hne hb hu v, ⟨hg.os, hg.tape, hg.output, by simpa using hg.size, fun j hj hn => (ho j (by omega)).trans (hg.block j hj hn)⟩, fun j q hq => ?_, h.dry⟩
  have := h.box j q hq
  exact ⟨(ho j fun e => by subst e; rw [hf] at hq; cases hq).trans this.1, this.2⟩
/-- A draw has only made memory. -/
theorem Bxs.all (h : Bxs w wr cb f) (hcb : w.heap.size ≤ cb) : Ext w wr := ext_grown (Ext.refl w) h.grown (fun k hk => by have := Option.some.inj hk; omega)
end

theorem pair_dry (x : Int) (s : Value) (hs : ∀ y : Int, s ≠ Value.int .u8 y) : ∀ (j : Nat) (y : Int), (#[Value.int .i64 x, s] : Array Value)[j]? ≠ some (Value.int .u8 y) := fun j y e => by
  match j with
  | 0 => simp at e
  | 1 => exact hs y (by simpa using e)
  | j + 2 => simp at e
theorem slice_dry (a : Option Addr) (n c : Nat) : ∀ y : Int, Value.slice a n c ≠ Value.int .u8 y := fun y e => by cases e
theorem i64_dry (x : Int) : ∀ y : Int, Value.int .i64 x ≠ Value.int .u8 y := fun y e => by cases e

end Go.Proofs.Ytgohdmnbnhehnaa
