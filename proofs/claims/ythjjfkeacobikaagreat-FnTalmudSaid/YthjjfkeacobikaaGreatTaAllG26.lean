import Derived.Test.YthjjfkeacobikaaGreatTaAllG25
import Derived.Outline
import Derived.Deep.CutBlock
import Derived.Test.YthjjfkeacobikaaGreatTaAllG11
import Derived.Test.YthjjfkeacobikaaGreatTaAllG23
import Derived.Test.YthjjfkeacobikaaGreatTaAllG18
import Derived.Test.YthjjfkeacobikaaGreatTaAllG8
set_option linter.unusedVariables false
set_option linter.unusedSimpArgs false
namespace Go.Proofs.YthjjfkeacobikaaGreat
set_option maxRecDepth 100000
open Go.RowKit
theorem lbox {w : World} {g : Nat} {a b c d e f h : Value} {t : TypeId} (hb : w.heap[g]? = some (.cells #[a, b, c, d, e, f, h] t (0, 0))) :
 w.cell? ⟨g, 0, none⟩ = some a ∧ w.cell? ⟨g, 1, none⟩ = some b ∧ w.cell? ⟨g, 2, none⟩ = some c ∧ w.cell? ⟨g, 3, none⟩ = some d ∧ w.cell? ⟨g, 4, none⟩ = some e ∧ w.cell? ⟨g, 5, none⟩ = some f ∧ w.cell? ⟨g, 6, none⟩ = some h ∧ ∀ k, w.frozen? ⟨g, k, none⟩ = false := by
 refine ⟨?_, ?_, ?_, ?_, ?_, ?_, ?_, fun k => frozen_of_row w g k _ _ hb⟩ <;> rw [cell_of_row w g _ _ _ _ hb] <;> rfl
theorem Ext.set7 {w w' : World} (h : Ext w w') {b : Nat} (hb : w.heap.size ≤ b) (x0 x1 x2 x3 x4 x5 x6 : Value) :
 Ext w (((((((w'.setCell ⟨b, 0, none⟩ x0).setCell ⟨b, 1, none⟩ x1).setCell ⟨b, 2, none⟩ x2).setCell ⟨b, 3, none⟩ x3).setCell ⟨b, 4, none⟩ x4).setCell ⟨b, 5, none⟩ x5).setCell ⟨b, 6, none⟩ x6) :=
 ((((((h.setCell (p := ⟨b, 0, none⟩) hb _).setCell (p := ⟨b, 1, none⟩) hb _).setCell (p := ⟨b, 2, none⟩) hb _).setCell (p := ⟨b, 3, none⟩) hb _).setCell (p := ⟨b, 4, none⟩) hb _).setCell (p := ⟨b, 5, none⟩) hb _).setCell (p := ⟨b, 6, none⟩) hb _
theorem set7_other (w' : World) {b k : Nat} (h : k ≠ b) (x0 x1 x2 x3 x4 x5 x6 : Value) :
 (((((((w'.setCell ⟨b, 0, none⟩ x0).setCell ⟨b, 1, none⟩ x1).setCell ⟨b, 2, none⟩ x2).setCell ⟨b, 3, none⟩ x3).setCell ⟨b, 4, none⟩ x4).setCell ⟨b, 5, none⟩ x5).setCell ⟨b, 6, none⟩ x6).heap[k]? = w'.heap[k]? := by
 rw [heap_setCell_other _ _ _ _ h, heap_setCell_other _ _ _ _ h, heap_setCell_other _ _ _ _ h, heap_setCell_other _ _ _ _ h, heap_setCell_other _ _ _ _ h, heap_setCell_other _ _ _ _ h, heap_setCell_other _ _ _ _ h]
structure LrO (w : World) (base g : Nat) (s : Int) (vx vy vr : Value) (p q piv : Int) (Y : List (Int × Int)) : Prop where
 box : w.heap[g]? = some (.cells #[.int .i64 s, vx, vy, vr, .int .i64 p, .int .i64 q, .int .i64 piv] 113 (0, 0))
 hg : base ≤ g
 y : OwnR w base vy Y
section
variable {w : World} {base g : Nat} {s : Int} {vx vy vr : Value} {p q piv : Int} {Y : List (Int × Int)}
end
section
variable {w : World} {a : Option Addr} {na ca : Nat} {b : Option Addr} {nb cb : Nat} {c : Option Addr} {nc cc : Nat} {A : List (List Int)} {B : List Int} {C : List (Int × Int)}
end
end Go.Proofs.YthjjfkeacobikaaGreat
namespace Go.Proofs.YthjjfkeacobikaaGreat
set_option maxRecDepth 100000
open Go.RowKit
def LrR (w : World) (base : Nat) (e : Ending) (r : LpR) : Prop := ∃ xa xn xc ya yn yc ra rn rc, e = .returned (lrW r xa xn xc ya yn yc ra rn rc) ∧ LrOw w base xa xn xc ya yn yc ra rn rc r
theorem LrR.zero (w : World) (base : Nat) (s : Int) : LrR w base (.returned (lrW (lpZero s) none 0 0 none 0 0 none 0 0)) (lpZero s) := ⟨none, 0, 0, none, 0, 0, none, 0, 0, rfl, LrOw.zero w base s⟩
section
variable {w : World} {a : Option Addr} {na ca : Nat} {b : Option Addr} {nb cb : Nat} {c : Option Addr} {nc cc : Nat} {A : List (List Int)} {B : List Int} {C : List (Int × Int)}
end
end Go.Proofs.YthjjfkeacobikaaGreat
