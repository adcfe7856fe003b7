import Derived.Test.YthjjfkeacobikaaGreatTaAllG20
set_option linter.unusedVariables false
set_option linter.unusedSimpArgs false
namespace Go.Proofs.YthjjfkeacobikaaGreat
set_option maxRecDepth 100000
open Go.RowKit
theorem allR_succ (p : Nat → Bool) (k : Nat) : (List.range (k + 1)).all p = ((List.range k).all p && p k) := by
 rw [List.range_succ, List.all_append]; simp
theorem allR_false {p : Nat → Bool} {k n : Nat} (h : k < n) (hp : p k = false) : (List.range n).all p = false := by
 rw [List.all_eq_false]; exact ⟨k, List.mem_range.2 h, by simp [hp]⟩
def okRowI (m : Nat) (r : List Int) : Bool := decide (r.length = m) && r.all (inB · (-5000) 5000)
theorem okLP_eq (A : List (List Int)) (B : List Int) (C : List (Int × Int)) : okLP A B C = (decide (C.length ≤ 70) && (decide (A.length ≤ 8) && (decide (B.length = A.length) && (allV C && (A.all (okRowI C.length) && B.all (inB · (-5000) 5000)))))) := rfl
theorem all_takeL {p : List Int → Bool} {l : List (List Int)} {k : Nat} (h : k < l.length) : (l.take (k + 1)).all p = ((l.take k).all p && p (l[k]?.getD [])) := by
 rw [takeL_snoc h]; simp
theorem all_falseL {p : List Int → Bool} {l : List (List Int)} {k : Nat} (h : k < l.length) (hb : p (l[k]?.getD []) = false) : l.all p = false := by
 rw [List.all_eq_false]
 exact ⟨l[k], List.getElem_mem h, by rw [List.getElem?_eq_getElem h] at hb; simpa using hb⟩
section
variable {w : World} {a : Option Addr} {na ca : Nat} {b : Option Addr} {nb cb : Nat} {c : Option Addr} {nc cc : Nat} {A : List (List Int)} {B : List Int} {C : List (Int × Int)}
end
end Go.Proofs.YthjjfkeacobikaaGreat
namespace Go.Proofs.YthjjfkeacobikaaGreat
set_option maxRecDepth 100000
open Go.RowKit
def giveF (A : List (List Int)) (x : List (Int × Int)) (B : List Int) (i : Nat) : Bool := decide (dotL (wholeL (A[i]?.getD [])) x = some (B[i]?.getD 0, 1))
theorem givesB_eq (A : List (List Int)) (x : List (Int × Int)) (B : List Int) : givesB A x B = (List.range A.length).all (giveF A x B) := rfl
section
variable {w : World} {a : Option Addr} {na ca : Nat} {b : Option Addr} {nb cb : Nat} {c : Option Addr} {nc cc : Nat} {A : List (List Int)} {B : List Int} {C : List (Int × Int)}
theorem okLP_rows (h : LpC w a na ca b nb cb c nc cc A B C) (ok : okLP A B C = true) : nc ≤ 70 ∧ na ≤ 8 ∧ nb = na ∧ (∀ i, i < na → (A[i]?.getD []).length = nc) ∧ (∀ i, i < na → (A[i]?.getD []).length ≤ 70 ∧ ∀ x ∈ A[i]?.getD [], -5000 ≤ x ∧ x ≤ 5000) ∧ ∀ x ∈ B, -5000 ≤ x ∧ x ≤ 5000 := by
 have l1 := h.a.hlen
 have l2 := h.b.hlen
 have l3 := h.c.hlen
 rw [okLP_eq] at ok
 simp only [Bool.and_eq_true, decide_eq_true_eq, List.all_eq_true, okRowI, inB] at ok
 obtain ⟨h1, h2, h3, h4, h5, h6⟩ := ok
 have key : ∀ i, i < na → (A[i]?.getD []).length = nc ∧ ∀ x ∈ A[i]?.getD [], -5000 ≤ x ∧ x ≤ 5000 := by
  intro i hi
  rw [List.getElem?_eq_getElem (by omega), Option.getD_some]
  have := h5 _ (List.getElem_mem (l := A) (n := i) (by omega))
  exact ⟨by omega, this.2⟩
 exact ⟨by omega, by omega, by omega, fun i hi => (key i hi).1, fun i hi => ⟨by have := (key i hi).1; omega, (key i hi).2⟩, h6⟩
end
end Go.Proofs.YthjjfkeacobikaaGreat
namespace Go.Proofs.YthjjfkeacobikaaGreat
set_option maxRecDepth 100000
open Go.RowKit
structure LrC (w : World) (xa : Option Addr) (xn xc : Nat) (ya : Option Addr) (yn yc : Nat) (ra : Option Addr) (rn rc : Nat) (r : LpR) : Prop where
 x : Rats w xa xn xc r.X
 y : Rats w ya yn yc r.Y
 ray : Rats w ra rn rc r.ray
theorem LrC.ext {w w' : World} {xa : Option Addr} {xn xc : Nat} {ya : Option Addr} {yn yc : Nat} {ra : Option Addr} {rn rc : Nat} {r : LpR} (h : LrC w xa xn xc ya yn yc ra rn rc r) (hx : Ext w w') : LrC w' xa xn xc ya yn yc ra rn rc r := ⟨h.x.ext hx, h.y.ext hx, h.ray.ext hx⟩
abbrev lrW (r : LpR) (xa : Option Addr) (xn xc : Nat) (ya : Option Addr) (yn yc : Nat) (ra : Option Addr) (rn rc : Nat) : Value :=
 .agg #[.int .i64 r.status, .slice xa xn xc, .slice ya yn yc, .slice ra rn rc, .int .i64 r.value.1, .int .i64 r.value.2, .int .i64 r.pivots]
abbrev lrBox (r : LpR) (xa : Option Addr) (xn xc : Nat) (ya : Option Addr) (yn yc : Nat) (ra : Option Addr) (rn rc : Nat) : Obj :=
 .cells #[.int .i64 r.status, .slice xa xn xc, .slice ya yn yc, .slice ra rn rc, .int .i64 r.value.1, .int .i64 r.value.2, .int .i64 r.pivots] 113
theorem colL_small {A : List (List Int)} (h : ∀ i, i < A.length → ∀ x ∈ A[i]?.getD [], -5000 ≤ x ∧ x ≤ 5000) (j : Nat) : ∀ x ∈ colL A j, -5000 ≤ x ∧ x ≤ 5000 := by
 intro x hx
 obtain ⟨r, hr, rfl⟩ := List.mem_map.1 hx
 obtain ⟨i, hi, rfl⟩ := List.mem_iff_getElem.1 hr
 by_cases hj : j < A[i].length
 ·rw [List.getElem?_eq_getElem hj]
  exact h i hi _ (by rw [List.getElem?_eq_getElem hi]; exact List.getElem_mem _)
 ·rw [List.getElem?_eq_none (by omega)]; simp
theorem colL_len (A : List (List Int)) (j : Nat) : (colL A j).length = A.length := by simp [colL]
def meetO (x y : Option (Int × Int)) (v : Int × Int) : Bool := match x, y with | some x, some y => decide (x = y) && decide (x = v) | _, _ => false
theorem meetB_eq (B : List Int) (C : List (Int × Int)) (r : LpR) : meetB B C r = meetO (dotL C r.X) (dotL r.Y (wholeL B)) r.value := rfl
theorem meetO_no (x : Option (Int × Int)) (v : Int × Int) : meetO none x v = false ∧ meetO x none v = false := by cases x <;> exact ⟨rfl, rfl⟩
theorem meetO_some (x1 x2 y1 y2 v1 v2 : Int) : meetO (some (x1, x2)) (some (y1, y2)) (v1, v2) = (((x1 == y1) && (x2 == y2)) && ((x1 == v1) && (x2 == v2))) := by
 simp only [meetO]; rw [Bool.eq_iff_iff]; simp
section
variable {w : World} {a : Option Addr} {na ca : Nat} {b : Option Addr} {nb cb : Nat} {c : Option Addr} {nc cc : Nat} {A : List (List Int)} {B : List Int} {C : List (Int × Int)}
 {xa : Option Addr} {xn xc : Nat} {ya : Option Addr} {yn yc : Nat} {ra : Option Addr} {rn rc : Nat} {r : LpR}
structure Two (w W : World) (a : Option Addr) (na ca : Nat) (b : Option Addr) (nb cb : Nat) (c : Option Addr) (nc cc : Nat) (xa : Option Addr) (xn xc : Nat) (ya : Option Addr) (yn yc : Nat) (ra : Option Addr) (rn rc : Nat) (r : LpR) (A : List (List Int)) (B : List Int) (C : List (Int × Int)) : Prop where
 ext : Ext ((w.alloc (lpBox a na ca b nb cb c nc cc)).alloc (lrBox r xa xn xc ya yn yc ra rn rc)) W
 lp : LpC W a na ca b nb cb c nc cc A B C
 lr : LrC W xa xn xc ya yn yc ra rn rc r
theorem Two.grow {W W' : World} (h : Two w W a na ca b nb cb c nc cc xa xn xc ya yn yc ra rn rc r A B C) (hx : Ext W W') : Two w W' a na ca b nb cb c nc cc xa xn xc ya yn yc ra rn rc r A B C := ⟨h.ext.trans hx, h.lp.ext hx, h.lr.ext hx⟩
theorem Two.all {W : World} (h : Two w W a na ca b nb cb c nc cc xa xn xc ya yn yc ra rn rc r A B C) : Ext w W := ((Ext.alloc _ _).trans (Ext.alloc _ _)).trans h.ext
theorem Two.p {W : World} (h : Two w W a na ca b nb cb c nc cc xa xn xc ya yn yc ra rn rc r A B C) : W.cell? ⟨w.heap.size, 0, none⟩ = some (.slice a na ca) ∧ W.cell? ⟨w.heap.size, 1, none⟩ = some (.slice b nb cb) ∧ W.cell? ⟨w.heap.size, 2, none⟩ = some (.slice c nc cc) :=
 ⟨h.ext.cellSome (by simp), h.ext.cellSome (by simp), h.ext.cellSome (by simp)⟩
theorem Two.q {W : World} (h : Two w W a na ca b nb cb c nc cc xa xn xc ya yn yc ra rn rc r A B C) : W.cell? ⟨w.heap.size + 1, 0, none⟩ = some (.int .i64 r.status) ∧ W.cell? ⟨w.heap.size + 1, 1, none⟩ = some (.slice xa xn xc) ∧ W.cell? ⟨w.heap.size + 1, 2, none⟩ = some (.slice ya yn yc) ∧ W.cell? ⟨w.heap.size + 1, 3, none⟩ = some (.slice ra rn rc) ∧ W.cell? ⟨w.heap.size + 1, 4, none⟩ = some (.int .i64 r.value.1) ∧ W.cell? ⟨w.heap.size + 1, 5, none⟩ = some (.int .i64 r.value.2) :=
 ⟨h.ext.cellSome (by simp), h.ext.cellSome (by simp), h.ext.cellSome (by simp), h.ext.cellSome (by simp), h.ext.cellSome (by simp), h.ext.cellSome (by simp)⟩
end
end Go.Proofs.YthjjfkeacobikaaGreat
