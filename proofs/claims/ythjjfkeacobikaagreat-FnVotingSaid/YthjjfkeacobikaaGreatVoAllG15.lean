import Derived.Test.YthjjfkeacobikaaGreatVoAllG14
import Derived.Outline
import Derived.Test.YthjjfkeacobikaaGreatVoAllG10
namespace Go.Proofs.YthjjfkeacobikaaGreat
set_option linter.unusedVariables false
set_option linter.unusedSimpArgs false
set_option maxRecDepth 100000
open Go.RowKit
def PivR (w : World) (base : Nat) (e : Ending) (t : Tb) (ok : Bool) : Prop := ∃ va vb vs, e = .returned (.tuple #[.agg #[va, vb, .int .i64 t.cols], .bool ok]) ∧ OwnT w base va vb vs t
section
variable {w : World} {ra : Option Addr} {rn rc : Nat} {ba : Option Addr} {bn bc : Nat} {t : Tb}
end
end Go.Proofs.YthjjfkeacobikaaGreat
namespace Go.Proofs.YthjjfkeacobikaaGreat
set_option linter.unusedVariables false
set_option linter.unusedSimpArgs false
set_option maxRecDepth 100000
open Go.RowKit
structure Mod (S : Nat) (w w' : World) : Prop where
 os : w'.os = w.os
 tape : w'.tape = w.tape
 output : w'.output = w.output
 size : w.heap.size ≤ w'.heap.size
 block : ∀ k, k < w.heap.size → k ≠ S → w'.heap[k]? = w.heap[k]?
theorem Mod.refl (S : Nat) (w : World) : Mod S w w := ⟨rfl, rfl, rfl, Nat.le_refl _, fun _ _ _ => rfl⟩
theorem Mod.of {S : Nat} {w w' : World} (h : Ext w w') : Mod S w w' := ⟨h.os, h.tape, h.output, h.size, fun k hk _ => h.block k hk⟩
theorem Mod.trans {S : Nat} {a b c : World} (h : Mod S a b) (k : Mod S b c) : Mod S a c :=
 ⟨k.os.trans h.os, k.tape.trans h.tape, k.output.trans h.output, Nat.le_trans h.size k.size, fun i hi hn => (k.block i (Nat.lt_of_lt_of_le hi h.size) hn).trans (h.block i hi hn)⟩
theorem Mod.set (S : Nat) (w : World) (k : Nat) (v : Value) : Mod S w (w.setCell ⟨S, k, none⟩ v) := by
 have h := (Below.refl S w).setCell (p := ⟨S, k, none⟩) (Nat.le_refl S) v
 exact ⟨h.os, h.tape, h.output, h.size, fun i _ hn => heap_setCell_other _ _ _ _ hn⟩
theorem Mod.ext {S : Nat} {w0 w w' : World} (h : Mod S w w') (hx : Ext w0 w) (hs : w0.heap.size ≤ S) : Ext w0 w' :=
 ⟨h.os.trans hx.os, h.tape.trans hx.tape, h.output.trans hx.output, Nat.le_trans hx.size h.size, fun k hk => (h.block k (Nat.lt_of_lt_of_le hk hx.size) (by omega)).trans (hx.block k hk)⟩
structure SolvC (w : World) (S : Nat) (ra : Option Addr) (rn rc : Nat) (ba : Option Addr) (bn bc : Nat) (vs : List Value) (t : Tb) (n : Nat) (f : Bool) : Prop where
 box : w.heap[S]? = some (.cells #[.slice ra rn rc, .slice ba bn bc, .int .i64 t.cols, .int .i64 (n : Int), .bool f] 215 (0, 0))
 tb : OwnT w 0 (.slice ra rn rc) (.slice ba bn bc) vs t
section
variable {w : World} {S : Nat} {ra : Option Addr} {rn rc : Nat} {ba : Option Addr} {bn bc : Nat} {vs : List Value} {t : Tb} {n : Nat} {f : Bool}
end
def Left (S : Nat) (w w' : World) (o : Option (Tb × Nat)) : Prop :=
 Mod S w w' ∧ ∃ ra rn rc ba bn bc vs, match o with
  | some (t, n) => SolvC w' S ra rn rc ba bn bc vs t n false
  | none => ∃ t n, SolvC w' S ra rn rc ba bn bc vs t n true
def pivS (t : Tb) (n : Nat) (row col : Int) : Option (Tb × Nat) := if n = 1000 then none else (pivotT t row col).map fun t' => (t', n + 1)
theorem TInv.bounds {n m : Nat} {T0 : Nat → Nat → Rat} {t : Tb} (h : TInv n m T0 t) : (∀ i, i < m → (t.row i).length = n + m + 1) ∧ ∀ i j, -9223372036854775807 ≤ (t.at i j).1 ∧ (t.at i j).1 ≤ 9223372036854775807 := by
 refine ⟨fun i hi => (h.row i hi).1, fun i j => ?_⟩
 by_cases hi : i < m
 ·by_cases hj : j < n + m + 1
  ·have := valR_bd ((h.row i hi).2 j hj)
   unfold Tb.at
   omega
  ·unfold Tb.at
   rw [List.getElem?_eq_none (by rw [(h.row i hi).1]; omega)]; simp
 ·unfold Tb.at Tb.row
  rw [List.getElem?_eq_none (l := t.rows) (by rw [h.len]; omega)]; simp
section
variable {w : World} {S : Nat} {ra : Option Addr} {rn rc : Nat} {ba : Option Addr} {bn bc : Nat} {vs : List Value} {t : Tb} {n : Nat}
end
end Go.Proofs.YthjjfkeacobikaaGreat
namespace Go.Proofs.YthjjfkeacobikaaGreat
set_option linter.unusedVariables false
set_option linter.unusedSimpArgs false
set_option maxRecDepth 100000
open Go.RowKit
theorem phase_none {cost : List (Int × Int)} {t : Tb} (f : Nat) (h : costT t cost = none) : phaseT cost f t = none := by unfold phaseT; rw [h]
theorem phase_enter {cost cs : List (Int × Int)} {t : Tb} (f : Nat) (h : costT t cost = some cs) (he : enterT cs t.cols < 0) : phaseT cost f t = some ⟨t, f, cs, -1⟩ := by unfold phaseT; rw [h]; simp only [he, if_true]
theorem phase_leave {cost cs : List (Int × Int)} {t : Tb} (f : Nat) (h : costT t cost = some cs) (he : ¬ enterT cs t.cols < 0) (hl : leaveT t (enterT cs t.cols) < 0) : phaseT cost f t = some ⟨t, f, cs, enterT cs t.cols⟩ := by
 unfold phaseT; rw [h]; simp only [he, hl, if_true, if_false]
theorem phase_pivot {cost cs : List (Int × Int)} {t : Tb} {n : Nat} (hn : n ≤ 1000) (h : costT t cost = some cs) (he : ¬ enterT cs t.cols < 0) (hl : ¬ leaveT t (enterT cs t.cols) < 0) :
 phaseT cost (1000 - n) t = (pivS t n (leaveT t (enterT cs t.cols)) (enterT cs t.cols)).bind fun s => phaseT cost (1000 - s.2) s.1 := by
 unfold pivS
 by_cases hn0 : n = 1000
 ·subst hn0
  unfold phaseT; rw [h]; simp only [he, hl, if_false, if_true]; rfl
 ·rw [if_neg hn0]
  obtain ⟨f, hf⟩ : ∃ f, 1000 - n = f + 1 := ⟨999 - n, by omega⟩
  rw [hf]
  have e : 1000 - (n + 1) = f := by omega
  conv => lhs; unfold phaseT
  rw [h]; simp only [he, hl, if_false]
  cases pivotT t (leaveT t (enterT cs t.cols)) (enterT cs t.cols) with
  | none => rfl
  | some t' => simp only [Option.map_some, Option.bind_some, e]
structure Head (w wr : World) (S : Nat) (N m : Nat) (T0 : Nat → Nat → Rat) (cost : List (Int × Int)) (o : Option Ph) (gk : Nat) (nn : Nat) (f : Bool) (tt : Tb) (ra : Option Addr) (rn rc : Nat) (ba : Option Addr) (bn bc : Nat) (vs : List Value) : Prop where
 meas : gk = if f = true then 0 else 2 * (1000 - nn) + 1
 mod : Mod S w wr
 st : SolvC wr S ra rn rc ba bn bc vs tt nn f
 go : f = false → TInv N m T0 tt ∧ nn ≤ 1000 ∧ phaseT cost (1000 - nn) tt = o
 no : f = true → o = none
section
variable {w : World} {S : Nat} {ra : Option Addr} {rn rc : Nat} {ba : Option Addr} {bn bc : Nat} {vs : List Value} {t : Tb} {n : Nat}
end
end Go.Proofs.YthjjfkeacobikaaGreat
