import Derived.Test.YthjjfkeacobikaaGreatTaAllG21
import Derived.Outline
import Derived.Test.YthjjfkeacobikaaGreatTaAllG18
set_option linter.unusedVariables false
set_option linter.unusedSimpArgs false
namespace Go.Proofs.YthjjfkeacobikaaGreat
set_option maxRecDepth 100000
open Go.RowKit
structure TbM (w : World) (base g G N cap : Nat) (vb : Value) (x : Int) (vs : List Value) (M : List (List (Int × Int))) (l : List Int) : Prop where
 box : w.heap[g]? = some (.cells #[.slice (some ⟨G, 0, none⟩) N cap, vb, .int .i64 x] 83 (0, 0))
 hg : base ≤ g
 m : RMat w base (some ⟨G, 0, none⟩) N cap vs M
 b : OwnI w base vb l
section
variable {w : World} {base g G N cap : Nat} {vb : Value} {x : Int} {vs : List Value} {M : List (List (Int × Int))} {l : List Int}
theorem TbM.ext {w' : World} (h : TbM w base g G N cap vb x vs M l) (hx : Ext w w') : TbM w' base g G N cap vb x vs M l := ⟨(hx.block _ (lt_of_block h.box)).trans h.box, h.hg, h.m.ext hx, h.b.ext hx⟩
theorem TbM.own (h : TbM w base g G N cap vb x vs M l) : OwnT w base (.slice (some ⟨G, 0, none⟩) N cap) vb vs ⟨M, l, x⟩ := ⟨h.m.own, h.m.rows, h.b⟩
theorem TbM.c0 (h : TbM w base g G N cap vb x vs M l) : w.cell? ⟨g, 0, none⟩ = some (.slice (some ⟨G, 0, none⟩) N cap) := tbox0 h.box
theorem TbM.put {w2 : World} (h : TbM w base g G N cap vb x vs M l) (hx : Ext w w2) (hb : base ≤ w.heap.size) {v : Value} {r : List (Int × Int)} (ho : OwnR w2 w.heap.size v r) {i : Nat} (hi : i < N) :
 TbM (w2.setCell ⟨G, i, none⟩ v) base g G N cap vb x (vs.set i v) (M.set i r) l := by
 have h2 := h.ext hx
 have hG : g ≠ G := fun e => (ownsRow_ne h.m.own h.box (by decide)) (by rw [e]; rfl)
 refine ⟨by rw [heap_setCell_other _ _ _ _ hG]; exact h2.box, h.hg, h.m.put hx hb ho hi, h2.b.keep fun k hk => heap_setCell_other _ _ _ _ fun e => ?_⟩
 exact ownsRow_apart (by decide) h2.b h2.m.own k hk (by subst e; rfl)
theorem TbM.putB {B n bc : Nat} (h : TbM w base g G N cap (.slice (some ⟨B, 0, none⟩) n bc) x vs M l) (i : Nat) (z : Int) :
 TbM (w.setCell ⟨B, i, none⟩ (.int .i64 z)) base g G N cap (.slice (some ⟨B, 0, none⟩) n bc) x vs M (l.set i z) := by
 have hBg : g ≠ B := fun e => (ownsRow_ne h.b h.box (by decide)) (by rw [e]; rfl)
 refine ⟨by rw [heap_setCell_other _ _ _ _ hBg]; exact h.box, h.hg, h.m.keep (fun k hk => heap_setCell_other _ _ _ _ fun e => ?_) (fun j k hj hk => heap_setCell_other _ _ _ _ fun e => ?_), h.b.set i z⟩
 ·exact ownsRow_apart (by decide) h.m.own h.b k hk (by subst e; rfl)
 ·exact ownsRow_apart (by decide) (h.m.rows.row j (by rw [h.m.len]; exact hj)) h.b k hk (by subst e; rfl)
end
def pivOr (t : Tb) (row col : Int) : Tb := (pivotT t row col).getD t
theorem pivotT_yes {t : Tb} {r c : Nat} (h : pivArgs t (r : Int) (c : Int) = true) : pivotT t r c = pivotG t r c := by unfold pivotT; rw [if_pos h]; rfl
theorem pivotG_div {t : Tb} {r c : Nat} (h : divL (t.row r) (t.at r c) = none) : pivotG t r c = none := by unfold pivotG; rw [h]; rfl
theorem pivotG_main {t : Tb} {r c : Nat} {main : List (Int × Int)} (h : divL (t.row r) (t.at r c) = some main) : pivotG t r c = (pivN t r c main t.rows.length).map fun rs => ⟨rs, t.basis.set r (c : Int), t.cols⟩ := by unfold pivotG; rw [h]; rfl
theorem pivN_none {t : Tb} {r c : Nat} {main : List (Int × Int)} {k : Nat} (h : pivN t r c main k = none) : ∀ {n : Nat}, k ≤ n → pivN t r c main n = none
 | n, hn => by
   obtain ⟨d, rfl⟩ : ∃ d, n = k + d := ⟨n - k, by omega⟩
   clear hn
   induction d with
   | zero => exact h
   | succ d ih => show (pivN t r c main (k + d)).bind _ = none; rw [ih]; rfl
theorem pivN_skip {t : Tb} {r c : Nat} {main : List (Int × Int)} {k : Nat} {M : List (List (Int × Int))} (h : pivN t r c main k = some M) (hs : k = r ∨ t.at k c = (0, 1)) : pivN t r c main (k + 1) = some M := by
 simp only [pivN, h, Option.bind_some, pivF, if_pos hs]
theorem pivN_go {t : Tb} {r c : Nat} {main : List (Int × Int)} {k : Nat} {M : List (List (Int × Int))} (h : pivN t r c main k = some M) (hs : ¬ (k = r ∨ t.at k c = (0, 1))) : pivN t r c main (k + 1) = (sclL (t.row k) (negR (t.at k c)) main).map fun x => M.set k x := by
 simp only [pivN, h, Option.bind_some, pivF, if_neg hs]
end Go.Proofs.YthjjfkeacobikaaGreat
namespace Go.Proofs.YthjjfkeacobikaaGreat
set_option maxRecDepth 100000
open Go.RowKit
def PivR (w : World) (base : Nat) (e : Ending) (t : Tb) (ok : Bool) : Prop := ∃ va vb vs, e = .returned (.tuple #[.agg #[va, vb, .int .i64 t.cols], .bool ok]) ∧ OwnT w base va vb vs t
section
variable {w : World} {ra : Option Addr} {rn rc : Nat} {ba : Option Addr} {bn bc : Nat} {t : Tb}
end
end Go.Proofs.YthjjfkeacobikaaGreat
namespace Go.Proofs.YthjjfkeacobikaaGreat
set_option maxRecDepth 100000
open Go.RowKit
structure Mod (S : Nat) (w w' : World) : Prop where
 os : w'.os = w.os
 tape : w'.tape = w.tape
 output : w'.output = w.output
 size : w.heap.size ≤ w'.heap.size
 block : ∀ k, k < w.heap.size → k ≠ S → w'.heap[k]? = w.heap[k]?
theorem Mod.refl (S : Nat) (w : World) : Mod S w w := ⟨rfl, rfl, rfl, Nat.le_refl _, fun _ _ _ => rfl⟩
theorem Mod.of {S : Nat} {w w' : World} (h : Ext w w') : Mod S w w' := ⟨h.os, h.tape, h.output, h.size, fun k hk _ => h.block k hk⟩
theorem Mod.trans {S : Nat} {a b c : World} (h : Mod S a b) (k : Mod S b c) : Mod S a c :=
 ⟨k.os.trans h.os, k.tape.trans h.tape, k.output.trans h.output, Nat.le_trans h.size k.size, fun i hi hn => (k.block i (Nat.lt_of_lt_of_le hi h.size) hn).trans (h.block i hi hn)⟩
theorem Mod.set (S : Nat) (w : World) (k : Nat) (v : Value) : Mod S w (w.setCell ⟨S, k, none⟩ v) := by
 have h := (Below.refl S w).setCell (p := ⟨S, k, none⟩) (Nat.le_refl S) v
 exact ⟨h.os, h.tape, h.output, h.size, fun i _ hn => heap_setCell_other _ _ _ _ hn⟩
theorem Mod.ext {S : Nat} {w0 w w' : World} (h : Mod S w w') (hx : Ext w0 w) (hs : w0.heap.size ≤ S) : Ext w0 w' :=
 ⟨h.os.trans hx.os, h.tape.trans hx.tape, h.output.trans hx.output, Nat.le_trans hx.size h.size, fun k hk => (h.block k (Nat.lt_of_lt_of_le hk hx.size) (by omega)).trans (hx.block k hk)⟩
structure SolvC (w : World) (S : Nat) (ra : Option Addr) (rn rc : Nat) (ba : Option Addr) (bn bc : Nat) (vs : List Value) (t : Tb) (n : Nat) (f : Bool) : Prop where
 box : w.heap[S]? = some (.cells #[.slice ra rn rc, .slice ba bn bc, .int .i64 t.cols, .int .i64 (n : Int), .bool f] 215 (0, 0))
 tb : OwnT w 0 (.slice ra rn rc) (.slice ba bn bc) vs t
section
variable {w : World} {S : Nat} {ra : Option Addr} {rn rc : Nat} {ba : Option Addr} {bn bc : Nat} {vs : List Value} {t : Tb} {n : Nat} {f : Bool}
end
def Left (S : Nat) (w w' : World) (o : Option (Tb × Nat)) : Prop :=
 Mod S w w' ∧ ∃ ra rn rc ba bn bc vs, match o with
  | some (t, n) => SolvC w' S ra rn rc ba bn bc vs t n false
  | none => ∃ t n, SolvC w' S ra rn rc ba bn bc vs t n true
def pivS (t : Tb) (n : Nat) (row col : Int) : Option (Tb × Nat) := if n = 1000 then none else (pivotT t row col).map fun t' => (t', n + 1)
theorem TInv.bounds {n m : Nat} {T0 : Nat → Nat → Rat} {t : Tb} (h : TInv n m T0 t) : (∀ i, i < m → (t.row i).length = n + m + 1) ∧ ∀ i j, -9223372036854775807 ≤ (t.at i j).1 ∧ (t.at i j).1 ≤ 9223372036854775807 := by
 refine ⟨fun i hi => (h.row i hi).1, fun i j => ?_⟩
 by_cases hi : i < m
 ·by_cases hj : j < n + m + 1
  ·have := valR_bd ((h.row i hi).2 j hj)
   unfold Tb.at
   omega
  ·unfold Tb.at
   rw [List.getElem?_eq_none (by rw [(h.row i hi).1]; omega)]; simp
 ·unfold Tb.at Tb.row
  rw [List.getElem?_eq_none (l := t.rows) (by rw [h.len]; omega)]; simp
section
variable {w : World} {S : Nat} {ra : Option Addr} {rn rc : Nat} {ba : Option Addr} {bn bc : Nat} {vs : List Value} {t : Tb} {n : Nat}
end
end Go.Proofs.YthjjfkeacobikaaGreat
