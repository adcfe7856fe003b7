import Derived.Test.YtgohdmnbnhehnaaLvAllG16
import Derived.Outline
import Derived.Test.YtgohdmnbnhehnaaLvAllG12
namespace Go.Proofs.Ytgohdmnbnhehnaa
set_option linter.unusedVariables false
set_option linter.unusedSimpArgs false
set_option maxRecDepth 100000
open Go.RowKit
structure Mod (S : Nat) (w w' : World) : Prop where
 os : w'.os = w.os
 tape : w'.tape = w.tape
 output : w'.output = w.output
 size : w.heap.size ≤ w'.heap.size
 block : ∀ k, k < w.heap.size → k ≠ S → w'.heap[k]? = w.heap[k]?
theorem Mod.refl (S : Nat) (w : World) : Mod S w w := ⟨rfl, rfl, rfl, Nat.le_refl _, fun _ _ _ => rfl⟩
theorem Mod.trans {S : Nat} {a b c : World} (h : Mod S a b) (k : Mod S b c) : Mod S a c :=
 ⟨k.os.trans h.os, k.tape.trans h.tape, k.output.trans h.output, Nat.le_trans h.size k.size, fun i hi hn => (k.block i (Nat.lt_of_lt_of_le hi h.size) hn).trans (h.block i hi hn)⟩
theorem Mod.set (S : Nat) (w : World) (k : Nat) (v : Value) : Mod S w (w.setCell ⟨S, k, none⟩ v) := by
 have h := (Below.refl S w).setCell (p := ⟨S, k, none⟩) (Nat.le_refl S) v
 exact ⟨h.os, h.tape, h.output, h.size, fun i _ hn => heap_setCell_other _ _ _ _ hn⟩
theorem Mod.ext {S : Nat} {w0 w w' : World} (h : Mod S w w') (hx : Ext w0 w) (hs : w0.heap.size ≤ S) : Ext w0 w' :=
 ⟨h.os.trans hx.os, h.tape.trans hx.tape, h.output.trans hx.output, Nat.le_trans hx.size h.size, fun k hk => (h.block k (Nat.lt_of_lt_of_le hk hx.size) (by omega)).trans (hx.block k hk)⟩
section
variable {w : World} {S : Nat} {ra : Option Addr} {rn rc : Nat} {ba : Option Addr} {bn bc : Nat} {vs : List Value} {t : Tb} {n : Nat} {f : Bool}
end
section
variable {w : World} {S : Nat} {ra : Option Addr} {rn rc : Nat} {ba : Option Addr} {bn bc : Nat} {vs : List Value} {t : Tb} {n : Nat}
end
end Go.Proofs.Ytgohdmnbnhehnaa
