import Derived.Test.YthjjfkeacobikaaGreatVoAllG2
import Derived.Test.YthjjfkeacobikaaGreatVoAllG0
import Derived.Deep.DeepCutAuto
import Derived.Deep.RegionHeld3
import Derived.Deep.RegionLaw
import Derived.StillTailTactics
namespace Go.Proofs.YthjjfkeacobikaaGreat
set_option linter.unusedVariables false
set_option linter.unusedSimpArgs false
set_option maxRecDepth 100000
open Go.RowKit
def Tiny (V : List Int) : Prop := ∀ k : Nat, -100 ≤ V[k]?.getD 0 ∧ V[k]?.getD 0 ≤ 100
theorem grown_block {w w' : World} {cb b : Nat} (hg : w.grownBy w' (some cb)) (hb : b < w.heap.size) (hne : b ≠ cb) : w'.heap[b]? = w.heap[b]? := hg.block b hb fun e => hne (Option.some.inj e)
structure Dealt (w w' : World) (cb most n vb : Nat) (V : List Int) : Prop where
 lo : 1 ≤ n
 hi : n ≤ most
 len : V.length = cN n
 tiny : Tiny V
 zero : V[0]?.getD 0 = 0
 row : Row w' vb 3 V
 new : w.heap.size ≤ vb
 ne : vb ≠ cb
structure DS (w wr : World) (cb vb gb rb n : Nat) (V : List Int) : Prop where
 row : Row wr vb 3 V
 cur : Cur wr cb
 gbk : wr.heap[gb]? = some (.cells #[.int .i64 (n : Int), .slice (some ⟨vb, 0, none⟩) (cN n) (cN n)] 29 (0, 0))
 rbk : wr.heap[rb]? = some (.cells #[.int .i64 0, .slice none 0 0] 29 (0, 0))
 grown : w.grownBy wr (some cb)
 apart : vb ≠ cb ∧ gb ≠ cb ∧ rb ≠ cb ∧ gb ≠ vb ∧ rb ≠ vb ∧ rb ≠ gb ∧ w.heap.size ≤ vb ∧ w.heap.size ≤ gb ∧ w.heap.size ≤ rb
theorem Cur.put' {w : World} {cb b : Nat} (h : Cur w cb) (hne : b ≠ cb) (hno : ∀ j x, w.cell? ⟨b, j, none⟩ ≠ some (.int .u8 x)) (k : Nat) (v : Value) : Cur (w.setCell ⟨b, k, none⟩ v) cb := by
 obtain ⟨ba, bn, bc, i, x, h1, h2, h3, h4, h5⟩ := h
 refine ⟨ba, bn, bc, i, x, (heap_setCell_other _ _ _ _ (Ne.symm hne)).trans h1, ⟨h2.hcap, h2.hmax, fun j hj => ?_⟩, h3, h4, h5⟩
 obtain ⟨b', off, e, hc⟩ := h2.cell j hj
 refine ⟨b', off, e, fun j hj => ?_⟩
 obtain ⟨y, hy, hy1⟩ := hc j hj
 refine ⟨y, (cell_same (heap_setCell_other _ _ _ _ ?_) _).trans hy, hy1⟩
 intro e2
 subst e2
 exact hno _ _ hy
theorem Ints.lit (w : World) (l : List Int) (t : TypeId) (hl : l.length ≤ 9223372036854775807) : Ints (w.alloc (.cells (intCells l) t)) (some ⟨w.heap.size, 0, none⟩) l.length l.length l :=
 Row.ints (heap_alloc_new w _) rfl (Nat.le_refl _) hl
theorem OwnI.made (w : World) (base : Nat) (hb : base ≤ w.heap.size) : OwnI (w.alloc (.cells #[] 3)) base (.slice (some ⟨w.heap.size, 0, none⟩) 0 0) [] :=
 World.ownsRow_lit w #[] 0 hb (by omega) rfl
section
variable {w0 w : World} {cb : Nat} {a' : Option Addr} {n' c' : Nat} {C : List Int} {base : Nat} {a : Option Addr} {n cap : Nat}
end
theorem Ints.oneS (w : World) (x : Int) (t : TypeId) (n : Nat) (hn : n = w.heap.size) : Ints (w.alloc (.cells #[.int .i64 x] t)) (some ⟨n, 0, none⟩) 1 1 [x] := by
 subst hn
 exact Ints.one w x t
theorem OwnI.madeS (w : World) (base n : Nat) (hn : n = w.heap.size) (hb : base ≤ w.heap.size) : OwnI (w.alloc (.cells #[] 3)) base (.slice (some ⟨n, 0, none⟩) 0 0) [] := by
 subst hn
 exact OwnI.made w base hb
end Go.Proofs.YthjjfkeacobikaaGreat
