import Derived.Test.YthjjfkeacobikaaGreatTaAllG12
import Derived.Test.YthjjfkeacobikaaGreatTaAllG11
import Derived.Test.YthjjfkeacobikaaGreatTaAllG16
import Derived.Test.YthjjfkeacobikaaGreatTaAllG13
import Derived.Test.YthjjfkeacobikaaGreatTaAllG0
import Derived.Test.YthjjfkeacobikaaGreatTaAllG9
set_option linter.unusedVariables false
set_option linter.unusedSimpArgs false
namespace Go.Proofs.YthjjfkeacobikaaGreat
open Go.RowKit
def excR (v : Int) (r : Int × Int) : Option (Int × Int) := if (subR (v, 1) r).2 = true then some (subR (v, 1) r).1 else none
def excS (V : List Int) (X : List (Int × Int)) (s : Nat) : Option (Int × Int) := (shareP X s).bind (excR (V[s]?.getD 0))
def excL (V : List Int) (X : List (Int × Int)) (lo m : Nat) : Option (List (Int × Int)) := runT (fun k => excS V X (lo + k)) m
def allX (p : Int) (V : List Int) (X : List (Int × Int)) : Option (List (Int × Int)) := if payP p V X = true then excL V X 1 (V.length - 2) else none
def coreS (p : Int) (V : List Int) (X : List (Int × Int)) : Bool := match allX p V X with
 | none => false
 | some l => l.all fun e => decide (e.1 ≤ 0)
theorem allX_not {p : Int} {V : List Int} {X : List (Int × Int)} (h : payP p V X = false) : allX p V X = none := by unfold allX; rw [if_neg (by rw [h]; simp)]
theorem allX_ok {p : Int} {V : List Int} {X : List (Int × Int)} (h : payP p V X = true) : allX p V X = excL V X 1 (V.length - 2) := by unfold allX; rw [if_pos h]
theorem payP_game {p : Int} {V : List Int} {X : List (Int × Int)} (h : payP p V X = true) : gameOk p V = true := by
 unfold payP at h; simp only [Bool.and_eq_true] at h; exact h.1
def convF (V : List Int) (a b : Nat) : Bool := decide (V[a ||| b]?.getD 0 + V[a &&& b]?.getD 0 < V[a]?.getD 0 + V[b]?.getD 0)
def convOk (p : Int) (V : List Int) : Bool := gameOk p V && ((List.range V.length).all fun a => (List.range V.length).all fun b => !convF V a b)
def sumM (F : Nat → Int) (s : Nat) : Nat → Int
 | 0 => 0
 | m + 1 => sumM F s m + if bit (s : Int) m = true then F m else 0
theorem sumM_succ (F : Nat → Int) (s m : Nat) : sumM F s (m + 1) = sumM F s m + if bit (s : Int) m = true then F m else 0 := rfl
theorem all_bit : ∀ n : Fin 6, ∀ k : Fin 5, k.val < n.val → bit ((cN n.val - 1 : Nat) : Int) k.val = true := by decide +kernel
theorem share_sub {X : List (Int × Int)} {n : Nat} {D : Int} {S : Nat → Int} (hD : 1 ≤ D ∧ D ≤ 120) (hn : n ≤ 5) (hX : X.length = n) (hF : ∀ k, k < n → Fr (X[k]?.getD (0, 0)) (S k) D) (hS : ∀ k, -32000000 ≤ S k ∧ S k ≤ 32000000) {s : Nat} (hs : s < cN n) :
 ∀ j, j ≤ 5 → ∃ r, payT X (memI (s : Int) j) (0, 1) = some r ∧ Fr r (sumM S s j) D ∧ (sumM S s j).natAbs ≤ j * 32000000
 | 0, _ => ⟨(0, 1), rfl, (Fr.int 0 (by omega) (by omega)).move (by omega) (by simp [sumM]), by simp [sumM]⟩
 | j + 1, hj => by
   obtain ⟨r, h1, h2, h3⟩ := share_sub hD hn hX hF hS hs j (by omega)
   rw [memI_succ, payT_append, h1]
   rw [sumM_succ]
   obtain ⟨M, hM⟩ : ∃ M, M = (j + 1) * 32000000 := ⟨_, rfl⟩
   rw [← hM]
   cases hb : bit (s : Int) j
   ·have e1 : (if false = true then S j else 0) = (0 : Int) := rfl
    rw [e1, Int.add_zero]
    exact ⟨r, rfl, h2, by omega⟩
   ·have hjn : j < n := by
     rcases Nat.lt_or_ge j n with h | h
     ·exact h
     ·rw [bit_big n s j hn hs h (by omega)] at hb; cases hb
    have h4 := hF j hjn
    have h5 := hS j
    obtain ⟨T, hT⟩ : ∃ T, T = sumM S s j := ⟨_, rfl⟩
    rw [← hT] at h2 h3 ⊢
    have b1 := h2.size
    have b2 := h4.size
    have hj5 : j * 32000000 ≤ 160000000 := by omega
    have m1 := small_mul (x := r.1) (y := (X[j]?.getD (0, 0)).2) (a := 160000000) (b := 120) (by omega) (by have := (valR_bd h4.1).1; omega)
    have m2 := small_mul (x := (X[j]?.getD (0, 0)).1) (y := r.2) (a := 160000000) (b := 120) (by omega) (by have := (valR_bd h2.1).1; omega)
    obtain ⟨r', ha, hf⟩ := h2.add h4 (z := T + S j) (F := D) (by omega) (by omega) (by omega) (by omega) (by grind)
    refine ⟨r', ?_, by simpa using hf, by simp only [if_true]; omega⟩
    simp only [if_true, Option.bind_some, payT]
    rw [if_neg (by rw [hX]; omega), Int.toNat_natCast, ha, if_pos rfl]
theorem core_of {n : Nat} {V : List Int} (hg : gameOk (n : Int) V = true) {X : List (Int × Int)} {D : Int} {S : Nat → Int} (hD : 1 ≤ D ∧ D ≤ 120) (hX : X.length = n) (hF : ∀ k, k < n → Fr (X[k]?.getD (0, 0)) (S k) D) (hS : ∀ k, -32000000 ≤ S k ∧ S k ≤ 32000000)
 (hall : sumM S (cN n - 1) 5 = V[cN n - 1]?.getD 0 * D) (hge : ∀ s, s < cN n → V[s]?.getD 0 * D ≤ sumM S s 5) : coreS (n : Int) V X = true := by
 obtain ⟨n', hn', h1, h5, hlen, h0, hV⟩ := gameOk_len hg
 obtain rfl : n = n' := by omega
 have hc := cN_le n h5
 have hpay : payP (n : Int) V X = true := by
  have hav : allV X = true := List.all_eq_true.2 fun x hx => by
   obtain ⟨k, hk, rfl⟩ := List.getElem_of_mem hx
   have := (hF k (by omega)).1
   rw [List.getElem?_eq_getElem hk] at this
   exact this
  obtain ⟨r, r1, r2, r3⟩ := share_sub hD h5 hX hF hS (s := cN n - 1) (by omega) 5 (Nat.le_refl _)
  have hgr := grandV_ok hg
  rw [hlen] at hgr
  have hgb := getD_bd hV (cN n - 1)
  have hr : r = (grandV (n : Int) V, 1) := by
   rw [hgr]
   exact r2.eq (Fr.int _ (by omega) (by omega)) (by rw [hall, Int.mul_one])
  unfold payP
  rw [hg, hav, hlen]
  simp only [Bool.true_and, Bool.and_eq_true, decide_eq_true_eq]
  refine ⟨by omega, ?_⟩
  unfold shareP
  rw [r1, hr]
 unfold coreS
 have hex : ∀ k, k < V.length - 2 → ∃ e, excS V X (1 + k) = some e ∧ e.1 ≤ 0 := fun k hk => by
  obtain ⟨r, r1, r2, r3⟩ := share_sub hD h5 hX hF hS (s := 1 + k) (by omega) 5 (Nat.le_refl _)
  have hv := getD_bd hV (1 + k)
  obtain ⟨v, hv'⟩ : ∃ v, v = V[1 + k]?.getD 0 := ⟨_, rfl⟩
  have hle := hge (1 + k) (by omega)
  rw [← hv'] at hv hle
  have b := r2.size
  have vb := valR_bd r2.1
  have m1 := small_mul (x := v) (y := r.2) (a := 500) (b := 120) (by omega) (by omega)
  have m2 := small_mul (x := v) (y := D) (a := 500) (b := 120) (by omega) (by omega)
  obtain ⟨e, he, hf⟩ := (Fr.int v (by omega) (by omega)).sub r2 (z := v * D - sumM S (1 + k) 5) (F := D) (by omega) (by omega) (by omega) (by simp only [Int.mul_one]; omega) (by grind)
  refine ⟨e, ?_, ?_⟩
  ·unfold excS shareP
   rw [r1]
   show excR (V[1 + k]?.getD 0) r = some e
   unfold excR
   rw [← hv', he, if_pos rfl]
  ·obtain ⟨f1, f2, f3⟩ := hf
   have fb := valR_bd f1
   rcases Int.lt_or_le 0 e.1 with hpos | hneg
   ·have p1 : 0 < e.1 * D := Int.mul_pos hpos f2
    have p2 : (v * D - sumM S (1 + k) 5) * e.2 ≤ 0 := Int.mul_nonpos_of_nonpos_of_nonneg (by omega) (by omega)
    omega
   ·exact hneg
 have hall2 : allX (n : Int) V X = some ((List.range (V.length - 2)).map fun k => (excS V X (1 + k)).getD (0, 0)) := by
  rw [allX_ok hpay]
  exact runT_all fun i hi => by obtain ⟨e, he, _⟩ := hex i hi; rw [he]; rfl
 rw [hall2]
 rw [List.all_eq_true]
 intro e he
 obtain ⟨k, hk, rfl⟩ := List.mem_map.1 he
 obtain ⟨e, he, hn⟩ := hex k (List.mem_range.1 hk)
 rw [he]
 simpa using hn
def negR (r : Int × Int) : Int × Int := (-r.1, r.2)
structure Tb where
 rows : List (List (Int × Int))
 basis : List Int
 cols : Int
def Tb.row (t : Tb) (i : Nat) : List (Int × Int) := t.rows[i]?.getD []
def Tb.at (t : Tb) (i j : Nat) : Int × Int := (t.row i)[j]?.getD (0, 0)
def tbOk (t : Tb) : Bool :=
 inB t.cols 0 1000 && (decide (t.basis.length = t.rows.length) && (t.basis.all (fun b => inB b 0 (t.cols + t.rows.length - 1)) && t.rows.all (fun r => decide ((r.length : Int) = t.cols + t.rows.length + 1))))
def divF (A : List (Int × Int)) (p : Int × Int) (i : Nat) : Option (Int × Int) := if (divR (A[i]?.getD (0, 0)) p).2 = true then some (divR (A[i]?.getD (0, 0)) p).1 else none
def divL (A : List (Int × Int)) (p : Int × Int) : Option (List (Int × Int)) := runT (divF A p) A.length
def pivF (t : Tb) (row col : Nat) (main : List (Int × Int)) (st : List (List (Int × Int))) (i : Nat) : Option (List (List (Int × Int))) :=
 if (i = row ∨ t.at i col = (0, 1)) then some st else (sclL (t.row i) (negR (t.at i col)) main).map fun r => st.set i r
def pivN (t : Tb) (row col : Nat) (main : List (Int × Int)) : Nat → Option (List (List (Int × Int)))
 | 0 => some (t.rows.set row main)
 | k + 1 => (pivN t row col main k).bind fun st => pivF t row col main st k
def pivotG (t : Tb) (row col : Nat) : Option Tb :=
 (divL (t.row row) (t.at row col)).bind fun main => (pivN t row col main t.rows.length).map fun rs => ⟨rs, t.basis.set row (col : Int), t.cols⟩
def pivArgs (t : Tb) (row col : Int) : Bool := tbOk t && (inB row 0 (t.rows.length - 1) && inB col 0 (t.cols + t.rows.length - 1))
def pivotT (t : Tb) (row col : Int) : Option Tb := if pivArgs t row col = true then pivotG t row.toNat col.toNat else none
def costN (t : Tb) (cost : List (Int × Int)) : Nat → Option (List (Int × Int))
 | 0 => some (cost ++ [(0, 1)])
 | k + 1 => (costN t cost k).bind fun out => sclL out (negR (cost[(t.basis[k]?.getD 0).toNat]?.getD (0, 0))) (t.row k)
def costOk (t : Tb) (cost : List (Int × Int)) : Bool := tbOk t && (decide ((cost.length : Int) = t.cols + t.rows.length) && allV cost)
def costT (t : Tb) (cost : List (Int × Int)) : Option (List (Int × Int)) := if costOk t cost = true then costN t cost t.rows.length else none
def solN (t : Tb) : Nat → List (Int × Int)
 | 0 => List.replicate (t.cols.toNat + t.rows.length) (0, 1)
 | k + 1 => (solN t k).set (t.basis[k]?.getD 0).toNat (t.at k (t.cols.toNat + t.rows.length))
def solT (t : Tb) : List (Int × Int) := if tbOk t = true then solN t t.rows.length else []
def belowZ (c : Int × Int) : Bool := decide (cmpR c (0, 1) < 0)
def enterT (costs : List (Int × Int)) (last : Int) : Int := if (costs.length : Int) < last then -1 else indexF belowZ (costs.take last.toNat)
def leaveF (t : Tb) (col : Nat) (st : Int × (Int × Int)) (i : Nat) : Int × (Int × Int) :=
 if cmpR (t.at i col) (0, 1) ≤ 0 then st
 else if (divR (t.at i (t.cols.toNat + t.rows.length)) (t.at i col)).2 = false then st
 else if st.1 < 0 ∨ cmpR (divR (t.at i (t.cols.toNat + t.rows.length)) (t.at i col)).1 st.2 < 0 ∨ (cmpR (divR (t.at i (t.cols.toNat + t.rows.length)) (t.at i col)).1 st.2 = 0 ∧ t.basis[i]?.getD 0 < t.basis[st.1.toNat]?.getD 0)
  then ((i : Int), (divR (t.at i (t.cols.toNat + t.rows.length)) (t.at i col)).1) else st
def leaveN (t : Tb) (col : Nat) : Nat → Int × (Int × Int)
 | 0 => (-1, (0, 0))
 | k + 1 => leaveF t col (leaveN t col k) k
def leaveT (t : Tb) (col : Int) : Int := if (tbOk t && inB col 0 (t.cols + t.rows.length - 1)) = true then (leaveN t col.toNat t.rows.length).1 else -1
structure Ph where
 t : Tb
 left : Nat
 costs : List (Int × Int)
 col : Int
def phaseT (cost : List (Int × Int)) : Nat → Tb → Option Ph
 | f, t => match costT t cost with
   | none => none
   | some cs =>
     if enterT cs t.cols < 0 then some ⟨t, f, cs, -1⟩
     else if leaveT t (enterT cs t.cols) < 0 then some ⟨t, f, cs, enterT cs t.cols⟩
     else match f with
      | 0 => none
      | f + 1 => match pivotT t (leaveT t (enterT cs t.cols)) (enterT cs t.cols) with
        | none => none
        | some t' => phaseT cost f t'
def offZ (c : Int × Int) : Bool := decide (c ≠ (0, 1))
def driveF (n : Nat) (s : Tb × Nat) (k : Nat) : Option (Tb × Nat) :=
 if s.1.basis[k]?.getD 0 < n then some s
 else if indexF offZ ((s.1.row k).take n) < 0 then some s
 else match s.2 with
  | 0 => none
  | f + 1 => (pivotT s.1 k (indexF offZ ((s.1.row k).take n))).map fun t => (t, f)
def driveN (n : Nat) (s : Tb × Nat) : Nat → Option (Tb × Nat)
 | 0 => some s
 | k + 1 => (driveN n s k).bind fun s' => driveF n s' k
def sideI (b : Int) : Int := if b < 0 then -1 else 1
def unitL (m i : Nat) : List (Int × Int) := (List.range m).map fun k => if k = i then (1, 1) else (0, 1)
def startRow (A : List (List Int)) (B : List Int) (i : Nat) : List (Int × Int) :=
 ((A[i]?.getD []).map fun x => (sideI (B[i]?.getD 0) * x, 1)) ++ unitL A.length i ++ [(sideI (B[i]?.getD 0) * B[i]?.getD 0, 1)]
def startT (A : List (List Int)) (B : List Int) (n : Nat) : Tb := ⟨(List.range A.length).map (startRow A B), (List.range A.length).map fun i => ((n + i : Nat) : Int), n⟩
def dotN (A B : List (Int × Int)) : Nat → Option (Int × Int)
 | 0 => some (0, 1)
 | k + 1 => (dotN A B k).bind fun s => if (mulR (A[k]?.getD (0, 0)) (B[k]?.getD (0, 0))).2 = true ∧ (addR s (mulR (A[k]?.getD (0, 0)) (B[k]?.getD (0, 0))).1).2 = true
     then some (addR s (mulR (A[k]?.getD (0, 0)) (B[k]?.getD (0, 0))).1).1 else none
def dotL (A B : List (Int × Int)) : Option (Int × Int) := if A.length = B.length then dotN A B A.length else none
def okLP (A : List (List Int)) (B : List Int) (C : List (Int × Int)) : Bool :=
 decide (C.length ≤ 70) && (decide (A.length ≤ 8) && (decide (B.length = A.length) && (allV C && (A.all (fun r => decide (r.length = C.length) && r.all (inB · (-5000) 5000)) && B.all (inB · (-5000) 5000)))))
def colL (A : List (List Int)) (j : Nat) : List Int := A.map fun r => r[j]?.getD 0
def posV (x : List (Int × Int)) : Bool := x.all fun r => valR r && decide (0 ≤ r.1)
def givesB (A : List (List Int)) (x : List (Int × Int)) (B : List Int) : Bool := (List.range A.length).all fun i => decide (dotL (wholeL (A[i]?.getD [])) x = some (B[i]?.getD 0, 1))
def feasB (A : List (List Int)) (B : List Int) (n : Nat) (x : List (Int × Int)) : Bool := decide (x.length = n) && (posV x && givesB A x B)
structure LpR where
 status : Int
 X : List (Int × Int)
 Y : List (Int × Int)
 ray : List (Int × Int)
 value : Int × Int
 pivots : Int
deriving DecidableEq
def lpZero (s : Int) : LpR := ⟨s, [], [], [], (0, 0), 0⟩
def boundI (A : List (List Int)) (Y C : List (Int × Int)) (j : Nat) : Bool :=
 match dotL Y (wholeL (colL A j)) with
 | none => false
 | some v => (subR (C[j]?.getD (0, 0)) v).2 && decide (0 ≤ (subR (C[j]?.getD (0, 0)) v).1.1)
def boundS (A : List (List Int)) (Y C : List (Int × Int)) (j : Nat) : Bool :=
 match dotL Y (wholeL (colL A j)) with
 | none => false
 | some v => decide (0 ≤ cmpR (C[j]?.getD (0, 0)) v)
def meetB (B : List Int) (C : List (Int × Int)) (r : LpR) : Bool :=
 match dotL C r.X, dotL r.Y (wholeL B) with
 | some x, some y => decide (x = y) && decide (x = r.value)
 | _, _ => false
def proofNo (A : List (List Int)) (B : List Int) (n : Nat) (Y : List (Int × Int)) : Bool :=
 (List.range n).all (fun j => match dotL Y (wholeL (colL A j)) with | none => false | some v => decide (v.1 ≤ 0)) && (match dotL Y (wholeL B) with | none => false | some v => decide (0 < v.1))
def rayB (A : List (List Int)) (B : List Int) (C : List (Int × Int)) (ray : List (Int × Int)) : Bool :=
 decide (ray.length = C.length) && (posV ray && (givesB A ray (List.replicate B.length 0) && (match dotL C ray with | none => false | some v => decide (v.1 < 0))))
def checkG (bound : List (List Int) → List (Int × Int) → List (Int × Int) → Nat → Bool) (A : List (List Int)) (B : List Int) (C : List (Int × Int)) (r : LpR) : Bool :=
 if r.status = 1 then feasB A B C.length r.X && (decide (r.Y.length = B.length) && ((List.range C.length).all (bound A r.Y C) && meetB B C r))
 else if r.status = 2 then decide (r.Y.length = B.length) && proofNo A B C.length r.Y
 else if r.status = 3 then feasB A B C.length r.X && rayB A B C r.ray
 else false
def sgnR (b : Int) (y : Int × Int) : Int × Int := if b < 0 then negR y else y
def dualF (B : List Int) (base : Int × Int) (cs : List (Int × Int)) (n i : Nat) : Option (Int × Int) :=
 if (subR base (cs[n + i]?.getD (0, 0))).2 = true then some (sgnR (B[i]?.getD 0) (subR base (cs[n + i]?.getD (0, 0))).1) else none
def dualO (B : List Int) (cs : List (Int × Int)) (n i : Nat) : Int × Int := sgnR (B[i]?.getD 0) (negR (cs[n + i]?.getD (0, 0)))
def rayN (t : Tb) (n col : Nat) : Nat → List (Int × Int)
 | 0 => (List.range n).map fun j => if j = col then (1, 1) else (0, 1)
 | k + 1 => if t.basis[k]?.getD 0 < n then (rayN t n col k).set (t.basis[k]?.getD 0).toNat (negR (t.at k col)) else rayN t n col k
def costs1 (n m : Nat) : List (Int × Int) := List.replicate n (0, 1) ++ List.replicate m (1, 1)
def costs2 (C : List (Int × Int)) (m : Nat) : List (Int × Int) := C ++ List.replicate m (0, 1)
def rawT (A : List (List Int)) (B : List Int) (C : List (Int × Int)) : Option LpR :=
 (phaseT (costs1 C.length B.length) 1000 (startT A B C.length)).bind fun p1 =>
   if (p1.costs[C.length + B.length]?.getD (0, 0)).1 < 0 then
    (runT (dualF B (1, 1) p1.costs C.length) B.length).map fun Y => ⟨2, [], Y, [], (0, 0), 1000 - p1.left⟩
   else (driveN C.length (p1.t, p1.left) B.length).bind fun s => (phaseT (costs2 C B.length) s.2 s.1).map fun p2 =>
    if 0 ≤ p2.col then ⟨3, (solT p2.t).take C.length, [], rayN p2.t C.length p2.col.toNat B.length, (0, 0), 1000 - p2.left⟩
    else ⟨1, (solT p2.t).take C.length, (List.range B.length).map (dualO B p2.costs C.length), [], negR (p2.costs[C.length + B.length]?.getD (0, 0)), 1000 - p2.left⟩
def solveG (bound : List (List Int) → List (Int × Int) → List (Int × Int) → Nat → Bool) (A : List (List Int)) (B : List Int) (C : List (Int × Int)) : LpR :=
 if okLP A B C = true then
  match rawT A B C with
  | none => lpZero 4
  | some r => if checkG bound A B C r = true then r else lpZero 4
 else lpZero 0
def val (r : Int × Int) : Rat := (r.1 : Rat) / (r.2 : Rat)
theorem ratne {d : Int} (h : d ≠ 0) : (d : Rat) ≠ 0 := by exact_mod_cast h
theorem val_eq {r : Int × Int} {n d : Int} (h : Fr r n d) : val r = (n : Rat) / (d : Rat) := by
 obtain ⟨h1, h2, h3⟩ := h
 have hb := (valR_bd h1).1
 have e : (r.1 : Rat) * (d : Rat) = (n : Rat) * (r.2 : Rat) := by exact_mod_cast h3
 have a := ratne (show d ≠ 0 by omega)
 have b := ratne (show r.2 ≠ 0 by omega)
 unfold val
 grind
theorem val_inj {p q : Int × Int} (hp : valR p = true) (hq : valR q = true) (h : val p = val q) : p = q := by
 have hb := (valR_bd hp).1
 have kb := (valR_bd hq).1
 have a := ratne (show p.2 ≠ 0 by omega)
 have b := ratne (show q.2 ≠ 0 by omega)
 have e : (p.1 : Rat) * (q.2 : Rat) = (q.1 : Rat) * (p.2 : Rat) := by unfold val at h; grind
 have e' : p.1 * q.2 = q.1 * p.2 := by exact_mod_cast e
 have := low_eq (by omega) (by omega) (valR_gcd hp) (valR_gcd hq) e'
 exact Prod.ext this.1 this.2
theorem val_le {p q : Int × Int} (hp : valR p = true) (hq : valR q = true) : 0 ≤ cmpR p q ↔ val q ≤ val p := by
 have hb := (valR_bd hp).1
 have kb := (valR_bd hq).1
 have a : (0 : Rat) < (p.2 : Rat) := by exact_mod_cast (show 0 < p.2 by omega)
 have b : (0 : Rat) < (q.2 : Rat) := by exact_mod_cast (show 0 < q.2 by omega)
 have e : 0 ≤ cmpR p q ↔ q.1 * p.2 ≤ p.1 * q.2 := by
  unfold cmpR
  rw [if_pos (by rw [hp, hq]; rfl)]
  split
  ·omega
  ·split <;> omega
 rw [e]
 have e2 : q.1 * p.2 ≤ p.1 * q.2 ↔ (q.1 : Rat) * p.2 ≤ (p.1 : Rat) * q.2 := by
  constructor
  ·intro h; exact_mod_cast h
  ·intro h; exact_mod_cast h
 rw [e2]
 have x1 : (p.1 : Rat) = val p * p.2 := by unfold val; grind
 have x2 : (q.1 : Rat) = val q * q.2 := by unfold val; grind
 have hab : (0 : Rat) < (p.2 : Rat) * q.2 := Rat.mul_pos a b
 have x3 : (q.1 : Rat) * p.2 = val q * ((p.2 : Rat) * q.2) := by rw [x2]; grind
 have x4 : (p.1 : Rat) * q.2 = val p * ((p.2 : Rat) * q.2) := by rw [x1]; grind
 rw [x3, x4]
 exact ⟨fun h => Rat.le_of_mul_le_mul_right h hab, fun h => Rat.mul_le_mul_of_nonneg_right h (by grind)⟩
theorem val_nonneg {p : Int × Int} (hp : valR p = true) : 0 ≤ p.1 ↔ 0 ≤ val p := by
 have hb := (valR_bd hp).1
 have a : (0 : Rat) < (p.2 : Rat) := by exact_mod_cast (show 0 < p.2 by omega)
 have x1 : (p.1 : Rat) = val p * p.2 := by unfold val; grind
 have e : 0 ≤ p.1 ↔ (0 : Rat) * p.2 ≤ val p * p.2 := by
  rw [← x1]
  constructor
  ·intro h; have : (0 : Rat) ≤ (p.1 : Rat) := by exact_mod_cast h
   grind
  ·intro h; have : (0 : Rat) ≤ (p.1 : Rat) := by grind
   exact_mod_cast this
 rw [e]
 exact ⟨fun h => Rat.le_of_mul_le_mul_right h a, fun h => Rat.mul_le_mul_of_nonneg_right h (by grind)⟩
theorem val_whole (x : Int) : val (x, 1) = (x : Rat) := by unfold val; grind
theorem val_neg (r : Int × Int) : val (negR r) = - val r := by
 unfold val negR
 have : ((-r.1 : Int) : Rat) = - (r.1 : Rat) := by exact_mod_cast rfl
 simp only [this]; grind
theorem valR_negR (r : Int × Int) : valR (negR r) = valR r := valR_neg r.1 r.2
theorem inB_neg (n b : Int) : inB (-n) (-b) b = inB n (-b) b := by
 unfold inB
 rw [Bool.eq_iff_iff]; simp; omega
theorem ratOf_negneg (n d : Int) : ratOf (-n) (-d) = ratOf n d := by
 unfold ratOf
 have h1 := inB_neg n 1000000000000000000
 have h2 := inB_neg d 1000000000000000000
 rw [gI_negl, gI_negr, h1, h2]
 by_cases hd : d = 0
 ·subst hd; simp
 ·have : -d ≠ 0 := by omega
  simp only [hd, this, false_or]
  split
  ·rfl
  ·by_cases hn : d < 0
   ·rw [if_neg (by omega), if_pos hn]; simp [Int.neg_tdiv, Int.tdiv_neg]
   ·rw [if_pos (by omega), if_neg hn]; simp [Int.neg_tdiv, Int.tdiv_neg]
theorem ratOf_neg (n d : Int) : ratOf (-n) d = (negR (ratOf n d).1, (ratOf n d).2) := by
 unfold ratOf
 have h1 := inB_neg n 1000000000000000000
 rw [gI_negl, h1]
 have hc : ∀ a b : Int, cutR (-a, b) = (negR (cutR (a, b)).1, (cutR (a, b)).2) := by
  intro a b
  unfold cutR
  rw [valR_neg]
  split <;> rfl
 split
 ·rfl
 ·split
  ·rw [Int.neg_tdiv, hc]
  ·rw [Int.neg_tdiv, hc]
theorem val_ratOf {n d : Int} (h : (ratOf n d).2 = true) : d ≠ 0 ∧ valR (ratOf n d).1 = true ∧ val (ratOf n d).1 = (n : Rat) / (d : Rat) := by
 have hd : d ≠ 0 := by
  intro h0; subst h0; simp [ratOf] at h
 refine ⟨hd, ratOf_val h, ?_⟩
 rcases Int.lt_or_gt_of_ne hd with hlt | hgt
 ·have e := ratOf_negneg n d
  rw [← e] at h ⊢
  have := val_eq (ratOf_fr (by omega) h)
  rw [this]
  have a := ratne hd
  have e1 : ((-n : Int) : Rat) = - (n : Rat) := by exact_mod_cast rfl
  have e2 : ((-d : Int) : Rat) = - (d : Rat) := by exact_mod_cast rfl
  rw [e1, e2]; grind
 ·exact val_eq (ratOf_fr hgt h)
theorem both {a b : Bool} (h : (a && b) = true) : a = true ∧ b = true := by simpa using h
theorem val_add {a b : Int × Int} (h : (addR a b).2 = true) : valR a = true ∧ valR b = true ∧ valR (addR a b).1 = true ∧ val (addR a b).1 = val a + val b := by
 unfold addR at h ⊢
 split at h
 ·next h1 =>
  rw [if_pos h1]
  obtain ⟨ha, hb⟩ := both h1
  obtain ⟨h2, h3, h4⟩ := val_ratOf h
  refine ⟨ha, hb, h3, ?_⟩
  rw [h4]
  have e1 := ratne (show a.2 ≠ 0 by have := (valR_bd ha).1; omega)
  have e2 := ratne (show b.2 ≠ 0 by have := (valR_bd hb).1; omega)
  unfold val
  simp only [Rat.intCast_add, Rat.intCast_mul]
  grind
 ·simp at h
theorem val_sub {a b : Int × Int} (h : (subR a b).2 = true) : valR a = true ∧ valR b = true ∧ valR (subR a b).1 = true ∧ val (subR a b).1 = val a - val b := by
 rw [← subR_add] at h ⊢
 obtain ⟨h1, h2, h3, h4⟩ := val_add h
 rw [valR_neg] at h2
 refine ⟨h1, h2, h3, ?_⟩
 rw [h4]
 have := val_neg b
 unfold negR at this
 rw [this]; grind
theorem val_mul {a b : Int × Int} (h : (mulR a b).2 = true) : valR a = true ∧ valR b = true ∧ valR (mulR a b).1 = true ∧ val (mulR a b).1 = val a * val b := by
 unfold mulR at h ⊢
 split at h
 ·next h1 =>
  rw [if_pos h1]
  obtain ⟨ha, hb⟩ := both h1
  obtain ⟨h2, h3, h4⟩ := val_ratOf h
  refine ⟨ha, hb, h3, ?_⟩
  rw [h4]
  have e1 := ratne (show a.2 ≠ 0 by have := (valR_bd ha).1; omega)
  have e2 := ratne (show b.2 ≠ 0 by have := (valR_bd hb).1; omega)
  unfold val
  simp only [Rat.intCast_mul]
  grind
 ·simp at h
theorem val_div {a b : Int × Int} (h : (divR a b).2 = true) : valR a = true ∧ valR b = true ∧ valR (divR a b).1 = true ∧ val b ≠ 0 ∧ val (divR a b).1 = val a / val b := by
 unfold divR at h ⊢
 split at h
 ·next h1 =>
  rw [if_pos h1]
  obtain ⟨ha, hb⟩ := both h1
  obtain ⟨h2, h3, h4⟩ := val_ratOf h
  have e1 := ratne (show a.2 ≠ 0 by have := (valR_bd ha).1; omega)
  have e2 := ratne (show b.2 ≠ 0 by have := (valR_bd hb).1; omega)
  have e3 := ratne (show b.1 ≠ 0 by intro h0; rw [h0] at h2; simp at h2)
  refine ⟨ha, hb, h3, ?_, ?_⟩
  ·unfold val; grind
  ·rw [h4]
   unfold val
   simp only [Rat.intCast_mul]
   grind
 ·simp at h
theorem mulR_comm (a b : Int × Int) : mulR a b = mulR b a := by
 unfold mulR; rw [Bool.and_comm, Int.mul_comm a.1, Int.mul_comm a.2]
theorem mulR_neg (a b : Int × Int) : mulR a (negR b) = (negR (mulR a b).1, (mulR a b).2) := by
 unfold mulR
 rw [valR_negR]
 split
 ·have : a.1 * (negR b).1 = -(a.1 * b.1) := by unfold negR; simp only; grind
  rw [this, ratOf_neg]; rfl
 ·rfl
theorem addR_neg (a b : Int × Int) : addR (negR a) (negR b) = (negR (addR a b).1, (addR a b).2) := by
 unfold addR
 rw [valR_negR, valR_negR]
 split
 ·have : (negR a).1 * (negR b).2 + (negR b).1 * (negR a).2 = -(a.1 * b.2 + b.1 * a.2) := by unfold negR; simp only; grind
  rw [this, ratOf_neg]; rfl
 ·rfl
def sumN (f : Nat → Rat) : Nat → Rat
 | 0 => 0
 | k + 1 => sumN f k + f k
theorem sumN_lin (f g : Nat → Rat) (c : Rat) : ∀ m, sumN (fun k => f k + c * g k) m = sumN f m + c * sumN g m
 | 0 => by simp [sumN]; grind
 | m + 1 => by simp only [sumN, sumN_lin f g c m]; grind
theorem sumN_congr {f g : Nat → Rat} : ∀ {m}, (∀ k, k < m → f k = g k) → sumN f m = sumN g m
 | 0, _ => rfl
 | m + 1, h => by simp only [sumN, sumN_congr (m := m) (fun k hk => h k (by omega)), h m (by omega)]
theorem sumN_zero {f : Nat → Rat} : ∀ {m}, (∀ k, k < m → f k = 0) → sumN f m = 0
 | 0, _ => rfl
 | m + 1, h => by simp only [sumN, sumN_zero (m := m) (fun k hk => h k (by omega)), h m (by omega)]; grind
theorem sumN_one {f : Nat → Rat} {i : Nat} : ∀ {m}, i < m → (∀ k, k < m → k ≠ i → f k = 0) → sumN f m = f i
 | 0, hi, _ => absurd hi (by omega)
 | m + 1, hi, h => by
   by_cases him : i = m
   ·subst him
    simp only [sumN]
    rw [sumN_zero (fun k hk => h k (by omega) (by omega))]; grind
   ·simp only [sumN]
    rw [sumN_one (m := m) (by omega) (fun k hk hki => h k (by omega) hki), h m (by omega) (by omega)]; grind
def Rel (n m : Nat) (T0 : Nat → Nat → Rat) (c f : Nat → Rat) : Prop := ∀ j, j < n + m + 1 → f j - c j = sumN (fun k => (f (n + k) - c (n + k)) * T0 k j) m
theorem Rel.add {n m : Nat} {T0 : Nat → Nat → Rat} {c f g h : Nat → Rat} {k : Rat} (hf : Rel n m T0 c f) (hg : Rel n m T0 (fun _ => 0) g) (hh : ∀ j, j < n + m + 1 → h j = f j + k * g j) : Rel n m T0 c h := by
 intro j hj
 have h1 := hf j hj
 have h2 := hg j hj
 rw [hh j hj]
 have e : sumN (fun i => (h (n + i) - c (n + i)) * T0 i j) m = sumN (fun i => (f (n + i) - c (n + i)) * T0 i j + k * ((g (n + i) - 0) * T0 i j)) m :=
  sumN_congr fun i hi => by rw [hh (n + i) (by omega)]; grind
 rw [e, sumN_lin, ← h1, ← h2]; grind
theorem Rel.scale {n m : Nat} {T0 : Nat → Nat → Rat} {g h : Nat → Rat} {k : Rat} (hg : Rel n m T0 (fun _ => 0) g) (hh : ∀ j, j < n + m + 1 → h j = k * g j) : Rel n m T0 (fun _ => 0) h := by
 have h0 : Rel n m T0 (fun _ => 0) (fun _ => 0) := by
  intro j hj
  rw [sumN_zero (fun k hk => by grind)]; grind
 exact Rel.add h0 hg (k := k) (fun j hj => by rw [hh j hj]; grind)
def vrow (r : List (Int × Int)) (j : Nat) : Rat := val (r[j]?.getD (0, 0))
def okRow (N : Nat) (r : List (Int × Int)) : Prop := r.length = N ∧ ∀ j, j < N → valR (r[j]?.getD (0, 0)) = true
theorem sclL_spec {A B r : List (Int × Int)} {k : Int × Int} (h : sclL A k B = some r) : A.length = B.length ∧ r.length = A.length ∧ ∀ j, j < A.length → valR (r[j]?.getD (0, 0)) = true ∧ vrow r j = vrow A j + val k * vrow B j := by
 unfold sclL at h
 split at h
 ·next hl =>
  refine ⟨hl, runT_len h, fun j hj => ?_⟩
  have hs := runT_at h j hj
  unfold sclF at hs
  split at hs
  ·next h2 =>
   simp only [Option.some.injEq] at hs
   obtain ⟨e1, e2⟩ := h2
   obtain ⟨_, _, _, m4⟩ := val_mul e1
   obtain ⟨_, _, a3, a4⟩ := val_add e2
   rw [← hs]
   refine ⟨a3, ?_⟩
   unfold vrow
   rw [← hs, a4, m4]
  ·cases hs
 ·cases h
theorem divL_spec {A r : List (Int × Int)} {p : Int × Int} (h : divL A p = some r) : r.length = A.length ∧ ∀ j, j < A.length → valR (r[j]?.getD (0, 0)) = true ∧ val p ≠ 0 ∧ vrow r j = vrow A j / val p := by
 refine ⟨runT_len h, fun j hj => ?_⟩
 have hs := runT_at h j hj
 unfold divF at hs
 split at hs
 ·next h2 =>
  simp only [Option.some.injEq] at hs
  obtain ⟨_, _, d3, d4, d5⟩ := val_div h2
  rw [← hs]
  refine ⟨d3, d4, ?_⟩
  unfold vrow
  rw [← hs, d5]
 ·cases hs
structure TInv (n m : Nat) (T0 : Nat → Nat → Rat) (t : Tb) : Prop where
 cols : t.cols = n
 len : t.rows.length = m
 blen : t.basis.length = m
 bas : ∀ b ∈ t.basis, 0 ≤ b ∧ b < n + m
 row : ∀ i, i < m → okRow (n + m + 1) (t.row i)
 rel : ∀ i, i < m → Rel n m T0 (fun _ => 0) (vrow (t.row i))
theorem TInv.ok {n m : Nat} {T0 : Nat → Nat → Rat} {t : Tb} (h : TInv n m T0 t) (hn : n ≤ 1000) : tbOk t = true := by
 unfold tbOk
 have hc := h.cols
 have hl := h.len
 simp only [Bool.and_eq_true, inB, decide_eq_true_eq, List.all_eq_true]
 refine ⟨by omega, by rw [h.blen, hl], fun b hb => ?_, fun r hr => ?_⟩
 ·have := h.bas b hb; omega
 ·obtain ⟨i, hi, rfl⟩ := List.mem_iff_getElem.1 hr
  have := (h.row i (by omega)).1
  unfold Tb.row at this
  rw [List.getElem?_eq_getElem hi, Option.getD_some] at this
  omega
theorem row_set {rs : List (List (Int × Int))} {i k : Nat} {r : List (Int × Int)} (hi : i < rs.length) : (rs.set i r)[k]?.getD [] = if k = i then r else rs[k]?.getD [] := by
 by_cases h : k = i
 ·subst h; rw [if_pos rfl]; simp [hi]
 ·rw [if_neg h, List.getElem?_set_ne (fun e => h e.symm)]
theorem pivN_spec {n m : Nat} {T0 : Nat → Nat → Rat} {t : Tb} (h : TInv n m T0 t) {row col : Nat} (hr : row < m) {main : List (Int × Int)} (hm1 : okRow (n + m + 1) main) (hm2 : Rel n m T0 (fun _ => 0) (vrow main)) :
 ∀ {k : Nat} {st : List (List (Int × Int))}, k ≤ m → pivN t row col main k = some st → st.length = m ∧ ∀ i, i < m → okRow (n + m + 1) (st[i]?.getD []) ∧ Rel n m T0 (fun _ => 0) (vrow (st[i]?.getD []))
 | 0, st, hk, e => by
   simp only [pivN, Option.some.injEq] at e
   subst e
   refine ⟨by rw [List.length_set, h.len], fun i hi => ?_⟩
   rw [row_set (by rw [h.len]; exact hr)]
   split
   ·exact ⟨hm1, hm2⟩
   ·exact ⟨h.row i hi, h.rel i hi⟩
 | k + 1, st, hk, e => by
   simp only [pivN] at e
   cases e0 : pivN t row col main k with
   | none => rw [e0] at e; cases e
   | some s0 =>
     rw [e0] at e
     simp only [Option.bind_some] at e
     obtain ⟨hl, hs⟩ := pivN_spec h hr hm1 hm2 (by omega) e0
     unfold pivF at e
     split at e
     ·simp only [Option.some.injEq] at e; subst e; exact ⟨hl, hs⟩
     ·cases e1 : sclL (t.row k) (negR (t.at k col)) main with
      | none => rw [e1] at e; cases e
      | some r =>
        rw [e1] at e
        simp only [Option.map_some, Option.some.injEq] at e
        subst e
        obtain ⟨s1, s2, s3⟩ := sclL_spec e1
        have hlk := (h.row k (by omega)).1
        refine ⟨by rw [List.length_set, hl], fun i hi => ?_⟩
        rw [row_set (by rw [hl]; omega)]
        split
        ·refine ⟨⟨by rw [s2, hlk], fun j hj => (s3 j (by rw [hlk]; exact hj)).1⟩, ?_⟩
         exact Rel.add (h.rel k (by omega)) hm2 (k := val (negR (t.at k col))) (fun j hj => (s3 j (by rw [hlk]; exact hj)).2)
        ·exact hs i hi
theorem pivotT_inv {n m : Nat} {T0 : Nat → Nat → Rat} {t t' : Tb} (h : TInv n m T0 t) {row col : Int} (e : pivotT t row col = some t') : TInv n m T0 t' := by
 unfold pivotT at e
 split at e
 ·next ha =>
  unfold pivArgs at ha
  simp only [Bool.and_eq_true, inB, decide_eq_true_eq] at ha
  have hc := h.cols
  have hl := h.len
  have hrow : row.toNat < m := by omega
  have hcol : col.toNat < n + m := by omega
  unfold pivotG at e
  cases e0 : divL (t.row row.toNat) (t.at row.toNat col.toNat) with
  | none => rw [e0] at e; cases e
  | some main =>
    rw [e0] at e
    simp only [Option.bind_some] at e
    cases e1 : pivN t row.toNat col.toNat main t.rows.length with
    | none => rw [e1] at e; cases e
    | some rs =>
      rw [e1] at e
      simp only [Option.map_some, Option.some.injEq] at e
      subst e
      obtain ⟨d1, d2⟩ := divL_spec e0
      have hlr := (h.row _ hrow).1
      have hm1 : okRow (n + m + 1) main := ⟨by rw [d1, hlr], fun j hj => (d2 j (by rw [hlr]; exact hj)).1⟩
      have hm2 : Rel n m T0 (fun _ => 0) (vrow main) := Rel.scale (h.rel _ hrow) (k := 1 / val (t.at row.toNat col.toNat)) (fun j hj => by
       have := (d2 j (by rw [hlr]; exact hj)).2
       rw [this.2]; have := this.1; grind)
      obtain ⟨p1, p2⟩ := pivN_spec h hrow hm1 hm2 (by omega) e1
      exact ⟨hc, p1, by simp [h.blen], fun b hb => by
       rcases List.mem_or_eq_of_mem_set hb with h1 | h1
       ·exact h.bas b h1
       ·omega, fun i hi => (p2 i hi).1, fun i hi => (p2 i hi).2⟩
 ·cases e
theorem costN_spec {n m : Nat} {T0 : Nat → Nat → Rat} {t : Tb} (h : TInv n m T0 t) {cost : List (Int × Int)} (hl : cost.length = n + m) (hv : ∀ j, j < n + m → valR (cost[j]?.getD (0, 0)) = true) :
 ∀ {k : Nat} {cs : List (Int × Int)}, k ≤ m → costN t cost k = some cs → okRow (n + m + 1) cs ∧ Rel n m T0 (vrow (cost ++ [(0, 1)])) (vrow cs)
 | 0, cs, hk, e => by
   simp only [costN, Option.some.injEq] at e
   subst e
   refine ⟨⟨by simp [hl], fun j hj => ?_⟩, ?_⟩
   ·by_cases hj2 : j < n + m
    ·rw [List.getElem?_append_left (by omega)]; exact hv j hj2
    ·obtain rfl : j = n + m := by omega
     rw [← hl, List.getElem?_concat_length, Option.getD_some]; rfl
   ·intro j hj
    rw [sumN_zero (fun k hk => by grind)]; grind
 | k + 1, cs, hk, e => by
   simp only [costN] at e
   cases e0 : costN t cost k with
   | none => rw [e0] at e; cases e
   | some c0 =>
     rw [e0] at e
     simp only [Option.bind_some] at e
     obtain ⟨⟨h1, h2⟩, h3⟩ := costN_spec h hl hv (by omega) e0
     obtain ⟨s1, s2, s3⟩ := sclL_spec e
     exact ⟨⟨by rw [s2, h1], fun j hj => (s3 j (by rw [h1]; exact hj)).1⟩, Rel.add h3 (h.rel k (by omega)) (fun j hj => (s3 j (by rw [h1]; exact hj)).2)⟩
theorem costT_spec {n m : Nat} {T0 : Nat → Nat → Rat} {t : Tb} (h : TInv n m T0 t) {cost cs : List (Int × Int)} (e : costT t cost = some cs) : okRow (n + m + 1) cs ∧ Rel n m T0 (vrow (cost ++ [(0, 1)])) (vrow cs) := by
 unfold costT at e
 split at e
 ·next ho =>
  unfold costOk allV at ho
  simp only [Bool.and_eq_true, decide_eq_true_eq, List.all_eq_true] at ho
  have hc := h.cols
  have hl := h.len
  have hlen : cost.length = n + m := by omega
  rw [hl] at e
  exact costN_spec h hlen (fun j hj => by rw [List.getElem?_eq_getElem (by omega)]; exact ho.2.2 _ (List.getElem_mem _)) (Nat.le_refl _) e
 ·cases e
theorem phaseT_inv {n m : Nat} {T0 : Nat → Nat → Rat} {cost : List (Int × Int)} : ∀ {f : Nat} {t : Tb} {p : Ph}, TInv n m T0 t → phaseT cost f t = some p → TInv n m T0 p.t ∧ costT p.t cost = some p.costs ∧ p.left ≤ f := by
 intro f
 induction f with
 | zero =>
   intro t p h e
   unfold phaseT at e
   cases e0 : costT t cost with
   | none => rw [e0] at e; cases e
   | some cs =>
     rw [e0] at e
     simp only at e
     split at e
     ·simp only [Option.some.injEq] at e; subst e; exact ⟨h, e0, Nat.le_refl _⟩
     ·split at e
      ·simp only [Option.some.injEq] at e; subst e; exact ⟨h, e0, Nat.le_refl _⟩
      ·cases e
 | succ f ih =>
   intro t p h e
   unfold phaseT at e
   cases e0 : costT t cost with
   | none => rw [e0] at e; cases e
   | some cs =>
     rw [e0] at e
     simp only at e
     split at e
     ·simp only [Option.some.injEq] at e; subst e; exact ⟨h, e0, Nat.le_refl _⟩
     ·split at e
      ·simp only [Option.some.injEq] at e; subst e; exact ⟨h, e0, Nat.le_refl _⟩
      ·cases e1 : pivotT t (leaveT t (enterT cs t.cols)) (enterT cs t.cols) with
       | none => rw [e1] at e; cases e
       | some t' =>
         rw [e1] at e
         obtain ⟨a, b, c⟩ := ih (pivotT_inv h e1) e
         exact ⟨a, b, by omega⟩
theorem driveN_inv {n m : Nat} {T0 : Nat → Nat → Rat} {n' : Nat} {s : Tb × Nat} (h : TInv n m T0 s.1) : ∀ {k : Nat} {s' : Tb × Nat}, driveN n' s k = some s' → TInv n m T0 s'.1 ∧ s'.2 ≤ s.2
 | 0, s', e => by simp only [driveN, Option.some.injEq] at e; subst e; exact ⟨h, Nat.le_refl _⟩
 | k + 1, s', e => by
   simp only [driveN] at e
   cases e0 : driveN n' s k with
   | none => rw [e0] at e; cases e
   | some s1 =>
     rw [e0] at e
     simp only [Option.bind_some] at e
     obtain ⟨h1, h2⟩ := driveN_inv h e0
     unfold driveF at e
     split at e
     ·simp only [Option.some.injEq] at e; subst e; exact ⟨h1, h2⟩
     ·split at e
      ·simp only [Option.some.injEq] at e; subst e; exact ⟨h1, h2⟩
      ·split at e
       ·cases e
       ·next f hf =>
        rw [Option.map_eq_some_iff] at e
        obtain ⟨t', e1, rfl⟩ := e
        exact ⟨pivotT_inv h1 e1, by show f ≤ s.2; omega⟩
end Go.Proofs.YthjjfkeacobikaaGreat
