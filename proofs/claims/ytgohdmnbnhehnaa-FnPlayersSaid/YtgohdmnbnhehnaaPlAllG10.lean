import Derived.Test.YtgohdmnbnhehnaaPlAllG4
import Derived.Test.YtgohdmnbnhehnaaPlAllG7
import Derived.Test.YtgohdmnbnhehnaaPlAllG6
import Derived.Test.YtgohdmnbnhehnaaPlAllG3
import Derived.Deep.DeepCutAuto
namespace Go.Proofs.Ytgohdmnbnhehnaa
set_option linter.unusedVariables false
set_option linter.unusedSimpArgs false
set_option maxRecDepth 100000
open Go.RowKit
theorem rcell {w : World} {b : Nat} {x y : Int} {t : TypeId} (h : w.heap[b]? = some (.cells #[.int .i64 x, .int .i64 y] t (0, 0))) : w.cell? ⟨b, 0, none⟩ = some (.int .i64 x) ∧ w.cell? ⟨b, 1, none⟩ = some (.int .i64 y) ∧ ∀ o, w.frozen? ⟨b, o, none⟩ = false :=
  ⟨by rw [cell_of_row _ _ _ _ _ _ h]; rfl, by rw [cell_of_row _ _ _ _ _ _ h]; rfl, fun o => frozen_of_row _ _ _ _ _ h⟩
end Go.Proofs.Ytgohdmnbnhehnaa
namespace Go.Proofs.Ytgohdmnbnhehnaa
set_option linter.unusedVariables false
open Go.RowKit
structure Boxed (w W : World) (g : Nat) (p q : Int) : Prop where
  ext : Ext w W
  ge : w.heap.size ≤ g
  cell : W.heap[g]? = some (.cells #[.int .i64 p, .int .i64 q] 34 (0, 0))
theorem Boxed.lt {w W : World} {g : Nat} {p q : Int} (h : Boxed w W g p q) : g < W.heap.size := lt_of_block h.cell
theorem Boxed.c0 {w W : World} {g : Nat} {p q : Int} (h : Boxed w W g p q) : W.cell? ⟨g, 0, none⟩ = some (.int .i64 p) := (rcell h.cell).1
theorem Boxed.c1 {w W : World} {g : Nat} {p q : Int} (h : Boxed w W g p q) : W.cell? ⟨g, 1, none⟩ = some (.int .i64 q) := (rcell h.cell).2.1
theorem Boxed.free {w W : World} {g : Nat} {p q : Int} (h : Boxed w W g p q) (o : Nat) : W.frozen? ⟨g, o, none⟩ = false := (rcell h.cell).2.2 o
theorem Boxed.new {w W : World} (h : Ext w W) (p q : Int) : Boxed w (W.alloc (.cells #[.int .i64 p, .int .i64 q] 34)) W.heap.size p q :=
  ⟨h.trans (Ext.alloc _ _), h.size, heap_alloc_new _ _⟩
theorem Boxed.put {w W : World} {g : Nat} {p q : Int} (h : Boxed w W g p q) (p' q' : Int) : Boxed w ((W.setCell ⟨g, 0, none⟩ (.int .i64 p')).setCell ⟨g, 1, none⟩ (.int .i64 q')) g p' q' :=
  ⟨(h.ext.setCell (p := ⟨g, 0, none⟩) h.ge (.int .i64 p')).setCell (p := ⟨g, 1, none⟩) h.ge (.int .i64 q'), h.ge, by rw [heap_setCell_same _ _ _ _ _ _ (heap_setCell_same _ _ _ _ _ _ h.cell)]; rfl⟩
theorem Boxed.rats {w W : World} {g : Nat} {p q : Int} (h : Boxed w W g p q) : Rats W (some ⟨g, 0, none⟩) 1 1 [(p, q)] :=
  ⟨rfl, Nat.le_refl _, by omega, fun k hk => ⟨_, 0, rfl, fun k hk => by
    obtain rfl : k = 0 := by omega
    exact ⟨h.c0, h.c1⟩⟩⟩
end Go.Proofs.Ytgohdmnbnhehnaa
