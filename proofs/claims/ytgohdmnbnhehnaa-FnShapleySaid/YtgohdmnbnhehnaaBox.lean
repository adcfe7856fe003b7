/- A fraction that a statement 'x, ok := f(..)' leaves in a box of its own, wherever the box was made; and lists made step by step that may fail. -/
import Derived.Test.YtgohdmnbnhehnaaOwnR
import Derived.Test.YtgohdmnbnhehnaaRatA
import Derived.Test.YtgohdmnbnhehnaaSort2
import Derived.Deep.DeepCutAuto
namespace Go.Proofs.Ytgohdmnbnhehnaa
set_option linter.unusedVariables false
open Go.RowKit

/-- In W, which has grown out of w, the block g, made since, holds the two numbers. -/
structure Boxed (w W : World) (g : Nat) (p q : Int) : Prop where
  ext : Ext w W
  ge : w.heap.size ≤ g
  cell : W.heap[g]? = some (.cells #[.int .i64 p, .int .i64 q] 34 (0, 0))
theorem Boxed.lt {w W : World} {g : Nat} {p q : Int} (h : Boxed w W g p q) : g < W.heap.size := lt_of_block h.cell
theorem Boxed.grow {w W W' : World} {g : Nat} {p q : Int} (h : Boxed w W g p q) (hx : Ext W W') : Boxed w W' g p q :=
  ⟨h.ext.trans hx, h.ge, (hx.block _ h.lt).trans h.cell⟩
theorem Boxed.more {w0 w W : World} {g : Nat} {p q : Int} (h : Boxed w W g p q) (hx : Ext w0 w) : Boxed w0 W g p q :=
  ⟨hx.trans h.ext, Nat.le_trans hx.size h.ge, h.cell⟩
theorem Boxed.c0 {w W : World} {g : Nat} {p q : Int} (h : Boxed w W g p q) : W.cell? ⟨g, 0, none⟩ = some (.int .i64 p) := (rcell h.cell).1
theorem Boxed.c1 {w W : World} {g : Nat} {p q : Int} (h : Boxed w W g p q) : W.cell? ⟨g, 1, none⟩ = some (.int .i64 q) := (rcell h.cell).2.1
theorem Boxed.free {w W : World} {g : Nat} {p q : Int} (h : Boxed w W g p q) (o : Nat) : W.frozen? ⟨g, o, none⟩ = false := (rcell h.cell).2.2 o
theorem Boxed.new {w W : World} (h : Ext w W) (p q : Int) : Boxed w (W.alloc (.cells #[.int .i64 p, .int .i64 q] 34)) W.heap.size p q :=
  ⟨h.trans (Ext.alloc _ _), h.size, heap_alloc_new _ _⟩
theorem Boxed.new' {w W : World} (h : Ext w W) (p q : Int) {n : Nat} (hn : n = W.heap.size) : Boxed w (W.alloc (.cells #[.int .i64 p, .int .i64 q] 34)) n p q := by
  subst hn; exact Boxed.new h p q
theorem Boxed.newD {w W : World} (h : Ext w (W.alloc (.cells #[.int .i64 0, .int .i64 0] 34)).drew) : w.heap.size ≤ W.heap.size → Boxed w (W.alloc (.cells #[.int .i64 0, .int .i64 0] 34)).drew W.heap.size 0 0 :=
  fun hs => ⟨h, hs, heap_alloc_new W _⟩
theorem Boxed.put {w W : World} {g : Nat} {p q : Int} (h : Boxed w W g p q) (p' q' : Int) : Boxed w ((W.setCell ⟨g, 0, none⟩ (.int .i64 p')).setCell ⟨g, 1, none⟩ (.int .i64 q')) g p' q' :=
  ⟨(h.ext.setCell (p := ⟨g, 0, none⟩) h.ge (.int .i64 p')).setCell (p := ⟨g, 1, none⟩) h.ge (.int .i64 q'), h.ge, by rw [heap_setCell_same _ _ _ _ _ _ (heap_setCell_same _ _ _ _ _ _ h.cell)]; rfl⟩
theorem Boxed.rats {w W : World} {g : Nat} {p q : Int} (h : Boxed w W g p q) : Rats W (some ⟨g, 0, none⟩) 1 1 [(p, q)] :=
  ⟨rfl, Nat.le_refl _, by omega, fun k hk => ⟨_, 0, rfl, fun k hk => by
    obtain rfl : k = 0 := by omega
    exact ⟨h.c0, h.c1⟩⟩⟩
/-- The box of a first alloc, with the draw behind it, after a call. -/
theorem Boxed.firstD {w w' : World} (h : Ext (w.alloc (.cells #[.int .i64 0, .int .i64 0] 34)).drew w') : Boxed w w' w.heap.size 0 0 :=
  Boxed.grow ⟨(Ext.alloc _ _).trans (Ext.drew _), Nat.le_refl _, heap_alloc_new w _⟩ h
theorem Boxed.laterD {w W w' : World} (h : Ext w W) (hx : Ext (W.alloc (.cells #[.int .i64 0, .int .i64 0] 34)) w') : Boxed w w' W.heap.size 0 0 :=
  Boxed.grow (Boxed.new h 0 0) hx

/-- A list made step by step; none as soon as a step fails. -/
def runT (f : Nat → Option (Int × Int)) : Nat → Option (List (Int × Int))
  | 0 => some []
  | m + 1 => (runT f m).bind fun l => (f m).map fun x => l ++ [x]
theorem runT_some {f : Nat → Option (Int × Int)} {k : Nat} {r : List (Int × Int)} {x : Int × Int} (h : runT f k = some r) (hx : f k = some x) : runT f (k + 1) = some (r ++ [x]) := by simp [runT, h, hx]
theorem runT_stuck {f : Nat → Option (Int × Int)} {k : Nat} (h : runT f k = none) : ∀ {n : Nat}, k ≤ n → runT f n = none
  | n, hn => by
    obtain ⟨d, rfl⟩ : ∃ d, n = k + d := ⟨n - k, by omega⟩
    clear hn
    induction d with
    | zero => exact h
    | succ d ih => show (runT f (k + d)).bind _ = none; rw [ih]; rfl
theorem runT_fail {f : Nat → Option (Int × Int)} {k n : Nat} {r : List (Int × Int)} (h : runT f k = some r) (hx : f k = none) (hn : k < n) : runT f n = none :=
  runT_stuck (k := k + 1) (by simp [runT, h, hx]) (by omega)
theorem runT_len {f : Nat → Option (Int × Int)} : ∀ {k : Nat} {r : List (Int × Int)}, runT f k = some r → r.length = k
  | 0, r, h => by simp only [runT, Option.some.injEq] at h; rw [← h]; rfl
  | k + 1, r, h => by
    cases hk : runT f k with
    | none => simp [runT, hk] at h
    | some l =>
      cases hf : f k with
      | none => simp [runT, hk, hf] at h
      | some x =>
        rw [runT_some hk hf] at h
        simp only [Option.some.injEq] at h
        rw [← h, List.length_append, runT_len hk]
        rfl
theorem runT_at {f : Nat → Option (Int × Int)} : ∀ {k : Nat} {r : List (Int × Int)}, runT f k = some r → ∀ i, i < k → f i = some (r[i]?.getD (0, 0))
  | 0, r, h => fun i hi => absurd hi (by omega)
  | k + 1, r, h => fun i hi => by
    cases hk : runT f k with
    | none => simp [runT, hk] at h
    | some l =>
      cases hf : f k with
      | none => simp [runT, hk, hf] at h
      | some x =>
        rw [runT_some hk hf] at h
        simp only [Option.some.injEq] at h
        subst h
        have hl := runT_len hk
        by_cases hik : i < k
        · rw [List.getElem?_append_left (by omega)]; exact runT_at hk i hik
        · obtain rfl : i = k := by omega
          rw [← hl, List.getElem?_concat_length, Option.getD_some, hl, hf]
theorem runT_congr {f g : Nat → Option (Int × Int)} : ∀ {k : Nat}, (∀ i, i < k → f i = g i) → runT f k = runT g k
  | 0, _ => rfl
  | k + 1, h => by
    show (runT f k).bind _ = (runT g k).bind _
    rw [runT_congr (fun i hi => h i (by omega)), h k (by omega)]
theorem runT_getD_le {f : Nat → Option (Int × Int)} (k : Nat) : ((runT f k).getD []).length ≤ k := by
  cases h : runT f k with
  | none => simp
  | some r => have := runT_len h; simp; omega
/-- All steps well: the list. -/
theorem runT_all {f : Nat → Option (Int × Int)} {F : Nat → Int × Int} : ∀ {k : Nat}, (∀ i, i < k → f i = some (F i)) → runT f k = some ((List.range k).map F)
  | 0, _ => rfl
  | k + 1, h => by
    rw [runT_some (runT_all fun i hi => h i (by omega)) (h k (by omega)), List.range_succ, List.map_append]
    rfl

/-- a + k b. -/
def sclF (A : List (Int × Int)) (k : Int × Int) (B : List (Int × Int)) (i : Nat) : Option (Int × Int) :=
  if (mulR k (B[i]?.getD (0, 0))).2 = true ∧ (addR (A[i]?.getD (0, 0)) (mulR k (B[i]?.getD (0, 0))).1).2 = true then some (addR (A[i]?.getD (0, 0)) (mulR k (B[i]?.getD (0, 0))).1).1 else none
def sclL (A : List (Int × Int)) (k : Int × Int) (B : List (Int × Int)) : Option (List (Int × Int)) := if A.length = B.length then runT (sclF A k B) A.length else none
/-- Claims less losses. -/
def loseF (C : List Int) (L : List (Int × Int)) (i : Nat) : Option (Int × Int) :=
  if (subR (C[i]?.getD 0, 1) (L[i]?.getD (0, 0))).2 = true then some (subR (C[i]?.getD 0, 1) (L[i]?.getD (0, 0))).1 else none
/-- Whole numbers as fractions. -/
def wholeL (C : List Int) : List (Int × Int) := C.map fun c => (c, 1)
theorem wholeL_len (C : List Int) : (wholeL C).length = C.length := by simp [wholeL]
theorem wholeL_at {C : List Int} {k : Nat} (h : k < C.length) : (wholeL C)[k]?.getD (0, 0) = (C[k]?.getD 0, 1) := by simp [wholeL, h]
def fitL (C : List Int) : Bool := C.all fun c => inB c (-1000000000) 1000000000

end Go.Proofs.Ytgohdmnbnhehnaa
