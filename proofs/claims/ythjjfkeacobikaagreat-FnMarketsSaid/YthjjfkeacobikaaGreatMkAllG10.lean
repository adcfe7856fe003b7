import Derived.Test.YthjjfkeacobikaaGreatMkAllG9
import Derived.Test.YthjjfkeacobikaaGreatMkAllG6
import Derived.Test.YthjjfkeacobikaaGreatMkAllG7
import Derived.Deep.DeepCutAuto
import Derived.Test.YthjjfkeacobikaaGreatMkAllG0
import Derived.Test.YthjjfkeacobikaaGreatMkAllG5
namespace Go.Proofs.YthjjfkeacobikaaGreat
set_option linter.unusedVariables false
set_option linter.unusedSimpArgs false
set_option maxRecDepth 100000
open Go.RowKit
theorem wholeL_snoc {C : List Int} {k : Nat} (h : k < C.length) : wholeL (C.take k) ++ [(C[k]?.getD 0, 1)] = wholeL (C.take (k + 1)) := by
 rw [take_snoc h]; simp [wholeL]
def ratsL (C : List Int) : List (Int × Int) := if fitL C = true then wholeL C else []
set_option maxHeartbeats 4000000 in
theorem i_IntsToRats {w : World} {a : Option Addr} {n cap : Nat} {C : List Int} (h : Ints w a n cap C) (hbig : n ≤ 1048576) :
 Calls Tryz.prog 240 #[.slice a n cap] w fun e w' => (∃ v, e = .returned (.tuple #[v, .bool (fitL C)]) ∧ OwnR w' w.heap.size v (ratsL C)) ∧ Ext w w' := by
 have HL := Lib.hid h.hlen
 have hmax := h.hmax
 have hcap := h.hcap
 have HC := Lib.hid h
 clear h
 have HO := Lib.hid (OwnR.made w w.heap.size (Nat.le_refl _))
 go_enter Tryz.func240, Tryz.ntmps240
 go_wp2_with fail
 go_loopg [4, 10] n (fun gk o i wr => ∃ (k : Nat) (a1 : Option Addr) (n1 p1 : Nat), Hid (gk + k = n) ∧ i = .int .i64 (k : Int) ∧ o = .slice a1 n1 p1 ∧ Hid (fitL (C.take k) = true) ∧ Hid (OwnR wr w.heap.size (.slice a1 n1 p1) (wholeL (C.take k))) ∧ Hid (Ext w wr))
 case atStart => exact ⟨0, _, _, _, Lib.hid (by omega), rfl, rfl, Lib.hid rfl, HO, Lib.hid (Ext.alloc _ _)⟩
 case round =>
  obtain ⟨k, a1, n1, p1, HK, rfl, rfl, HF, HO1, HX1⟩ := hrel
  by_cases hlt : k < n
  ·obtain ⟨b, off, ha, hc⟩ := (HC.out.ext HX1.out).at hlt
   subst ha
   obtain ⟨c, hcc⟩ : ∃ c, c = C[k]?.getD 0 := ⟨_, rfl⟩
   rw [← hcc] at hc
   have HCC := Lib.hid hcc
   have hszr := HX1.out.size
   clear hcc
   have HKL := Lib.hid (show k < C.length by have := HL.out; omega)
   cases hin : inB c (-1000000000) 1000000000
   ·have HN := Lib.hid (show fitL C = false by
     rw [← Bool.not_eq_true]; intro hh
     have := all_get (k := k) hh HKL.out
     rw [← HCC.out, hin] at this; cases this)
    have HI := Lib.hid (i_within c (-1000000000) 1000000000 wr)
    rw [hin] at HI
    clear hin
    go_wp2_with fail
    refine HI.out.mono ?_
    rintro e w2 ⟨rfl, rfl⟩
    go_wp2_with fail
    refine bodyPost_ret (v := .tuple #[.slice none 0 0, .bool false]) (by simp [results, Tryz.results240, go_sem]) rfl ⟨⟨.slice none 0 0, by rw [HN.out], by unfold ratsL; rw [HN.out]; exact OwnR.nil _ _⟩, HX1.out⟩
   ·have HF2 := Lib.hid (show fitL (C.take (k + 1)) = true by
     unfold fitL
     rw [take_snoc HKL.out, List.all_append]
     have := HF.out; unfold fitL at this
     rw [this, ← HCC.out]
     simp only [List.all_cons, List.all_nil, hin, Bool.and_self])
    have HI := Lib.hid (i_within c (-1000000000) 1000000000 wr)
    rw [hin] at HI
    clear hin
    go_wp2_with fail
    refine HI.out.mono ?_
    rintro e w2 ⟨rfl, rfl⟩
    have HLW := Lib.hid (show (wholeL (C.take k)).length = k by rw [wholeL_len, List.length_take]; have := HKL.out; omega)
    go_wp2_with (first
     | (go_at_call 112; refine (i_whole c _).mono ?_; rintro e w3 ⟨rfl, hx3⟩; have HX3 := Lib.hid hx3; have HO3 := Lib.hid (HO1.out.ext hx3); have hsz3 := hx3.size; clear hx3)
     | (at_builtin; refine append_rats rfl _ _ rfl w.heap.size (.slice a1 n1 p1) _ rfl (HO3.out.ext (Ext.alloc _ _)) _ 1 _ [(c, 1)] rfl (Rats.one' _ _ _ _ _ (by simp)) (by rw [HLW.out]; omega) (by simp; omega) ?_; intro v2 w4 ho hg hnear; obtain ⟨a2, n2, c2, rfl, HN2⟩ := ho.var; have HO4 := Lib.hid ho; have X4 := Lib.hid (ext_grown ((HX1.out.trans HX3.out).trans (Ext.alloc _ _)) hg (fun j hj => (HO3.out.lt j hj).1)); clear ho hg hnear))
    go_roundg (gk - 1)
    case measure => have := HK.out; omega
    case rel => exact ⟨k + 1, a2, n2, c2, Lib.hid (by have := HK.out; omega), by go_num, rfl, HF2, Lib.hid (by have := HO4.out; rw [HCC.out, wholeL_snoc HKL.out] at this; exact this), X4⟩
  ·have hkn : k = n := by have := HK.out; omega
   subst hkn
   have HT := Lib.hid (show C.take k = C from List.take_of_length_le (by rw [HL.out]; exact Nat.le_refl _))
   go_wp2_with fail
   refine bodyPost_ret (v := .tuple #[.slice a1 n1 p1, .bool true]) (by simp [results, Tryz.results240, go_sem]) rfl ⟨⟨.slice a1 n1 p1, ?_, ?_⟩, HX1.out⟩
   ·have := HF.out; rw [HT.out] at this; rw [this]
   ·have h1 := HF.out; have h2 := HO1.out; rw [HT.out] at h1 h2; unfold ratsL; rw [if_pos h1]; exact h2
set_option maxHeartbeats 400000 in
theorem i_rats {w : World} {a : Option Addr} {n cap : Nat} {C : List Int} (h : Ints w a n cap C) (hbig : n ≤ 1048576) :
 Calls Tryz.prog 179 #[.slice a n cap] w fun e w' => (∃ v, e = .returned v ∧ OwnR w' w.heap.size v (ratsL C)) ∧ Ext w w' := by
 have HI := Lib.hid (i_IntsToRats h hbig)
 clear h
 go_enter Tryz.func179, Tryz.ntmps179
 go_wp2_with fail
 refine HI.out.mono ?_
 rintro e w1 ⟨⟨v, rfl, ho⟩, hx⟩
 have HO := Lib.hid ho
 have HX := Lib.hid hx
 clear ho hx
 go_wp2_with fail
 go_ret
 exact ⟨⟨v, rfl, HO.out⟩, HX.out⟩
def allV (l : List (Int × Int)) : Bool := l.all valR
theorem all_takeR {p : Int × Int → Bool} {l : List (Int × Int)} {k : Nat} (h : k < l.length) : (l.take (k + 1)).all p = ((l.take k).all p && p (l[k]?.getD (0, 0))) := by
 rw [take_snocR h]; simp
theorem all_falseR {p : Int × Int → Bool} {l : List (Int × Int)} {k : Nat} (h : k < l.length) (hb : p (l[k]?.getD (0, 0)) = false) : l.all p = false := by
 rw [List.all_eq_false]
 exact ⟨l[k], List.getElem_mem h, by rw [List.getElem?_eq_getElem h] at hb; simpa using hb⟩
set_option maxHeartbeats 1000000 in
theorem s_AllValid {w : World} {a : Option Addr} {n cap : Nat} {l : List (Int × Int)} (h : Rats w a n cap l) :
 Calls Tryz.prog 148 #[.slice a n cap] w fun e w' => e = .returned (.bool (allV l)) ∧ Ext w w' := by
 have hcap := h.hcap
 have hmax := h.hmax
 have HL := Lib.hid h.hlen
 have HI := Lib.hid h
 clear h
 go_enter Tryz.func148, Tryz.ntmps148
 go_wp2_with fail
 go_loopg [3] n (fun gk ii wr => ∃ k : Nat, Hid (gk + k = n) ∧ ii = .int .i64 (k : Int) ∧ Hid ((l.take k).all valR = true) ∧ Hid (Ext w wr))
 case atStart => exact ⟨0, Lib.hid (by omega), rfl, Lib.hid rfl, Lib.hid (Ext.refl _)⟩
 case round =>
  obtain ⟨g1, h_g1⟩ : ∃ x, x = gk := ⟨_, rfl⟩
  subst h_g1
  obtain ⟨wr1, h_wr1⟩ : ∃ x, x = wr := ⟨_, rfl⟩
  subst h_wr1
  obtain ⟨k, HK, rfl, HA, HX⟩ := hrel
  by_cases hlt : k < n
  ·obtain ⟨b, off, x, y, rfl, hxy, hc0, hc1⟩ := (HI.out.ext HX.out).at hlt
   have HC := Lib.hid (s_IsValidRat x y wr1)
   cases hb : valR (x, y)
   all_goals
    rw [hb] at HC
   ·have HF := Lib.hid (show allV l = false from all_falseR (by rw [HL.out]; exact hlt) (by rw [hxy]; exact hb))
    clear hxy hb
    go_wp2_with fail
    refine HC.out.mono ?_
    rintro e w2 ⟨rfl, hx2⟩
    go_wp2_with fail
    go_ret
    exact ⟨ret_bool HF.out.symm, HX.out.trans hx2⟩
   ·have HT := Lib.hid (show (l.take (k + 1)).all valR = true by rw [all_takeR (by rw [HL.out]; exact hlt), HA.out, hxy, hb]; rfl)
    clear hxy hb
    go_wp2_with fail
    refine HC.out.mono ?_
    rintro e w2 ⟨rfl, hx2⟩
    go_wp2_with fail
    go_roundg (g1 - 1)
    case measure => have := HK.out; omega
    case rel => exact ⟨k + 1, Lib.hid (by have := HK.out; omega), by go_num, HT, Lib.hid (HX.out.trans hx2)⟩
  ·have HT := Lib.hid (show l.take k = l from List.take_of_length_le (by rw [HL.out]; have := HK.out; omega))
   go_wp2_with fail
   go_ret
   exact ⟨ret_bool (by have := HA.out; rw [HT.out] at this; exact this.symm), HX.out⟩
def negR (r : Int × Int) : Int × Int := (-r.1, r.2)
structure Tb where
 rows : List (List (Int × Int))
 basis : List Int
 cols : Int
def Tb.row (t : Tb) (i : Nat) : List (Int × Int) := t.rows[i]?.getD []
def Tb.at (t : Tb) (i j : Nat) : Int × Int := (t.row i)[j]?.getD (0, 0)
def tbOk (t : Tb) : Bool :=
 inB t.cols 0 1000 && (decide (t.basis.length = t.rows.length) && (t.basis.all (fun b => inB b 0 (t.cols + t.rows.length - 1)) && t.rows.all (fun r => decide ((r.length : Int) = t.cols + t.rows.length + 1))))
def divF (A : List (Int × Int)) (p : Int × Int) (i : Nat) : Option (Int × Int) := if (divR (A[i]?.getD (0, 0)) p).2 = true then some (divR (A[i]?.getD (0, 0)) p).1 else none
def divL (A : List (Int × Int)) (p : Int × Int) : Option (List (Int × Int)) := runT (divF A p) A.length
def pivF (t : Tb) (row col : Nat) (main : List (Int × Int)) (st : List (List (Int × Int))) (i : Nat) : Option (List (List (Int × Int))) :=
 if (i = row ∨ t.at i col = (0, 1)) then some st else (sclL (t.row i) (negR (t.at i col)) main).map fun r => st.set i r
def pivN (t : Tb) (row col : Nat) (main : List (Int × Int)) : Nat → Option (List (List (Int × Int)))
 | 0 => some (t.rows.set row main)
 | k + 1 => (pivN t row col main k).bind fun st => pivF t row col main st k
def pivotG (t : Tb) (row col : Nat) : Option Tb :=
 (divL (t.row row) (t.at row col)).bind fun main => (pivN t row col main t.rows.length).map fun rs => ⟨rs, t.basis.set row (col : Int), t.cols⟩
def pivArgs (t : Tb) (row col : Int) : Bool := tbOk t && (inB row 0 (t.rows.length - 1) && inB col 0 (t.cols + t.rows.length - 1))
def pivotT (t : Tb) (row col : Int) : Option Tb := if pivArgs t row col = true then pivotG t row.toNat col.toNat else none
def costN (t : Tb) (cost : List (Int × Int)) : Nat → Option (List (Int × Int))
 | 0 => some (cost ++ [(0, 1)])
 | k + 1 => (costN t cost k).bind fun out => sclL out (negR (cost[(t.basis[k]?.getD 0).toNat]?.getD (0, 0))) (t.row k)
def costOk (t : Tb) (cost : List (Int × Int)) : Bool := tbOk t && (decide ((cost.length : Int) = t.cols + t.rows.length) && allV cost)
def costT (t : Tb) (cost : List (Int × Int)) : Option (List (Int × Int)) := if costOk t cost = true then costN t cost t.rows.length else none
def solN (t : Tb) : Nat → List (Int × Int)
 | 0 => List.replicate (t.cols.toNat + t.rows.length) (0, 1)
 | k + 1 => (solN t k).set (t.basis[k]?.getD 0).toNat (t.at k (t.cols.toNat + t.rows.length))
def solT (t : Tb) : List (Int × Int) := if tbOk t = true then solN t t.rows.length else []
def belowZ (c : Int × Int) : Bool := decide (cmpR c (0, 1) < 0)
def enterT (costs : List (Int × Int)) (last : Int) : Int := if (costs.length : Int) < last then -1 else indexF belowZ (costs.take last.toNat)
def leaveF (t : Tb) (col : Nat) (st : Int × (Int × Int)) (i : Nat) : Int × (Int × Int) :=
 if cmpR (t.at i col) (0, 1) ≤ 0 then st
 else if (divR (t.at i (t.cols.toNat + t.rows.length)) (t.at i col)).2 = false then st
 else if st.1 < 0 ∨ cmpR (divR (t.at i (t.cols.toNat + t.rows.length)) (t.at i col)).1 st.2 < 0 ∨ (cmpR (divR (t.at i (t.cols.toNat + t.rows.length)) (t.at i col)).1 st.2 = 0 ∧ t.basis[i]?.getD 0 < t.basis[st.1.toNat]?.getD 0)
  then ((i : Int), (divR (t.at i (t.cols.toNat + t.rows.length)) (t.at i col)).1) else st
def leaveN (t : Tb) (col : Nat) : Nat → Int × (Int × Int)
 | 0 => (-1, (0, 0))
 | k + 1 => leaveF t col (leaveN t col k) k
def leaveT (t : Tb) (col : Int) : Int := if (tbOk t && inB col 0 (t.cols + t.rows.length - 1)) = true then (leaveN t col.toNat t.rows.length).1 else -1
structure Ph where
 t : Tb
 left : Nat
 costs : List (Int × Int)
 col : Int
def phaseT (cost : List (Int × Int)) : Nat → Tb → Option Ph
 | f, t => match costT t cost with
   | none => none
   | some cs =>
     if enterT cs t.cols < 0 then some ⟨t, f, cs, -1⟩
     else if leaveT t (enterT cs t.cols) < 0 then some ⟨t, f, cs, enterT cs t.cols⟩
     else match f with
      | 0 => none
      | f + 1 => match pivotT t (leaveT t (enterT cs t.cols)) (enterT cs t.cols) with
        | none => none
        | some t' => phaseT cost f t'
def offZ (c : Int × Int) : Bool := decide (c ≠ (0, 1))
def driveF (n : Nat) (s : Tb × Nat) (k : Nat) : Option (Tb × Nat) :=
 if s.1.basis[k]?.getD 0 < n then some s
 else if indexF offZ ((s.1.row k).take n) < 0 then some s
 else match s.2 with
  | 0 => none
  | f + 1 => (pivotT s.1 k (indexF offZ ((s.1.row k).take n))).map fun t => (t, f)
def driveN (n : Nat) (s : Tb × Nat) : Nat → Option (Tb × Nat)
 | 0 => some s
 | k + 1 => (driveN n s k).bind fun s' => driveF n s' k
def sideI (b : Int) : Int := if b < 0 then -1 else 1
def unitL (m i : Nat) : List (Int × Int) := (List.range m).map fun k => if k = i then (1, 1) else (0, 1)
def startRow (A : List (List Int)) (B : List Int) (i : Nat) : List (Int × Int) :=
 ((A[i]?.getD []).map fun x => (sideI (B[i]?.getD 0) * x, 1)) ++ unitL A.length i ++ [(sideI (B[i]?.getD 0) * B[i]?.getD 0, 1)]
def startT (A : List (List Int)) (B : List Int) (n : Nat) : Tb := ⟨(List.range A.length).map (startRow A B), (List.range A.length).map fun i => ((n + i : Nat) : Int), n⟩
def dotN (A B : List (Int × Int)) : Nat → Option (Int × Int)
 | 0 => some (0, 1)
 | k + 1 => (dotN A B k).bind fun s => if (mulR (A[k]?.getD (0, 0)) (B[k]?.getD (0, 0))).2 = true ∧ (addR s (mulR (A[k]?.getD (0, 0)) (B[k]?.getD (0, 0))).1).2 = true
     then some (addR s (mulR (A[k]?.getD (0, 0)) (B[k]?.getD (0, 0))).1).1 else none
def dotL (A B : List (Int × Int)) : Option (Int × Int) := if A.length = B.length then dotN A B A.length else none
def okLP (A : List (List Int)) (B : List Int) (C : List (Int × Int)) : Bool :=
 decide (C.length ≤ 70) && (decide (A.length ≤ 8) && (decide (B.length = A.length) && (allV C && (A.all (fun r => decide (r.length = C.length) && r.all (inB · (-5000) 5000)) && B.all (inB · (-5000) 5000)))))
def colL (A : List (List Int)) (j : Nat) : List Int := A.map fun r => r[j]?.getD 0
def posV (x : List (Int × Int)) : Bool := x.all fun r => valR r && decide (0 ≤ r.1)
def givesB (A : List (List Int)) (x : List (Int × Int)) (B : List Int) : Bool := (List.range A.length).all fun i => decide (dotL (wholeL (A[i]?.getD [])) x = some (B[i]?.getD 0, 1))
def feasB (A : List (List Int)) (B : List Int) (n : Nat) (x : List (Int × Int)) : Bool := decide (x.length = n) && (posV x && givesB A x B)
structure LpR where
 status : Int
 X : List (Int × Int)
 Y : List (Int × Int)
 ray : List (Int × Int)
 value : Int × Int
 pivots : Int
deriving DecidableEq
def lpZero (s : Int) : LpR := ⟨s, [], [], [], (0, 0), 0⟩
def boundI (A : List (List Int)) (Y C : List (Int × Int)) (j : Nat) : Bool :=
 match dotL Y (wholeL (colL A j)) with
 | none => false
 | some v => (subR (C[j]?.getD (0, 0)) v).2 && decide (0 ≤ (subR (C[j]?.getD (0, 0)) v).1.1)
def boundS (A : List (List Int)) (Y C : List (Int × Int)) (j : Nat) : Bool :=
 match dotL Y (wholeL (colL A j)) with
 | none => false
 | some v => decide (0 ≤ cmpR (C[j]?.getD (0, 0)) v)
def meetB (B : List Int) (C : List (Int × Int)) (r : LpR) : Bool :=
 match dotL C r.X, dotL r.Y (wholeL B) with
 | some x, some y => decide (x = y) && decide (x = r.value)
 | _, _ => false
def proofNo (A : List (List Int)) (B : List Int) (n : Nat) (Y : List (Int × Int)) : Bool :=
 (List.range n).all (fun j => match dotL Y (wholeL (colL A j)) with | none => false | some v => decide (v.1 ≤ 0)) && (match dotL Y (wholeL B) with | none => false | some v => decide (0 < v.1))
def rayB (A : List (List Int)) (B : List Int) (C : List (Int × Int)) (ray : List (Int × Int)) : Bool :=
 decide (ray.length = C.length) && (posV ray && (givesB A ray (List.replicate B.length 0) && (match dotL C ray with | none => false | some v => decide (v.1 < 0))))
def checkG (bound : List (List Int) → List (Int × Int) → List (Int × Int) → Nat → Bool) (A : List (List Int)) (B : List Int) (C : List (Int × Int)) (r : LpR) : Bool :=
 if r.status = 1 then feasB A B C.length r.X && (decide (r.Y.length = B.length) && ((List.range C.length).all (bound A r.Y C) && meetB B C r))
 else if r.status = 2 then decide (r.Y.length = B.length) && proofNo A B C.length r.Y
 else if r.status = 3 then feasB A B C.length r.X && rayB A B C r.ray
 else false
def sgnR (b : Int) (y : Int × Int) : Int × Int := if b < 0 then negR y else y
def dualF (B : List Int) (base : Int × Int) (cs : List (Int × Int)) (n i : Nat) : Option (Int × Int) :=
 if (subR base (cs[n + i]?.getD (0, 0))).2 = true then some (sgnR (B[i]?.getD 0) (subR base (cs[n + i]?.getD (0, 0))).1) else none
def dualO (B : List Int) (cs : List (Int × Int)) (n i : Nat) : Int × Int := sgnR (B[i]?.getD 0) (negR (cs[n + i]?.getD (0, 0)))
def rayN (t : Tb) (n col : Nat) : Nat → List (Int × Int)
 | 0 => (List.range n).map fun j => if j = col then (1, 1) else (0, 1)
 | k + 1 => if t.basis[k]?.getD 0 < n then (rayN t n col k).set (t.basis[k]?.getD 0).toNat (negR (t.at k col)) else rayN t n col k
def costs1 (n m : Nat) : List (Int × Int) := List.replicate n (0, 1) ++ List.replicate m (1, 1)
def costs2 (C : List (Int × Int)) (m : Nat) : List (Int × Int) := C ++ List.replicate m (0, 1)
def rawT (A : List (List Int)) (B : List Int) (C : List (Int × Int)) : Option LpR :=
 (phaseT (costs1 C.length B.length) 1000 (startT A B C.length)).bind fun p1 =>
   if (p1.costs[C.length + B.length]?.getD (0, 0)).1 < 0 then
    (runT (dualF B (1, 1) p1.costs C.length) B.length).map fun Y => ⟨2, [], Y, [], (0, 0), 1000 - p1.left⟩
   else (driveN C.length (p1.t, p1.left) B.length).bind fun s => (phaseT (costs2 C B.length) s.2 s.1).map fun p2 =>
    if 0 ≤ p2.col then ⟨3, (solT p2.t).take C.length, [], rayN p2.t C.length p2.col.toNat B.length, (0, 0), 1000 - p2.left⟩
    else ⟨1, (solT p2.t).take C.length, (List.range B.length).map (dualO B p2.costs C.length), [], negR (p2.costs[C.length + B.length]?.getD (0, 0)), 1000 - p2.left⟩
def solveG (bound : List (List Int) → List (Int × Int) → List (Int × Int) → Nat → Bool) (A : List (List Int)) (B : List Int) (C : List (Int × Int)) : LpR :=
 if okLP A B C = true then
  match rawT A B C with
  | none => lpZero 4
  | some r => if checkG bound A B C r = true then r else lpZero 4
 else lpZero 0
def Fr (p : Int × Int) (x D : Int) : Prop := valR p = true ∧ 0 < D ∧ p.1 * D = x * p.2
theorem valR_gcd {p : Int × Int} (h : valR p = true) : gI p.1 p.2 = 1 := by
 simp only [valR, Bool.and_eq_true, decide_eq_true_eq] at h; exact h.2.2
theorem valR_mk {p : Int × Int} (h1 : 1 ≤ p.2) (h2 : p.2 ≤ 1000000000) (h3 : -1000000000 ≤ p.1) (h4 : p.1 ≤ 1000000000) (h5 : gI p.1 p.2 = 1) : valR p = true := by
 simp only [valR, inB, Bool.and_eq_true, decide_eq_true_eq]; omega
theorem gI_nat (a b : Int) : gI a b = 1 ↔ Nat.Coprime a.natAbs b.natAbs := by unfold gI Int.gcd Nat.Coprime; omega
theorem low_eq {a b c d : Int} (hb : 0 < b) (hd : 0 < d) (h1 : gI a b = 1) (h2 : gI c d = 1) (h : a * d = c * b) : a = c ∧ b = d := by
 rw [gI_nat] at h1 h2
 have hn : a.natAbs * d.natAbs = c.natAbs * b.natAbs := by rw [← Int.natAbs_mul, ← Int.natAbs_mul, h]
 have e1 : b.natAbs ∣ d.natAbs := Nat.Coprime.dvd_of_dvd_mul_left h1.symm ⟨c.natAbs, by rw [hn, Nat.mul_comm]⟩
 have e2 : d.natAbs ∣ b.natAbs := Nat.Coprime.dvd_of_dvd_mul_left h2.symm ⟨a.natAbs, by rw [← hn, Nat.mul_comm]⟩
 have e3 : b = d := by have := Nat.dvd_antisymm e1 e2; omega
 subst e3
 exact ⟨Int.eq_of_mul_eq_mul_right (by omega) h, rfl⟩
theorem Fr.eq {p q : Int × Int} {x D y E : Int} (h : Fr p x D) (k : Fr q y E) (e : x * E = y * D) : p = q := by
 obtain ⟨h1, h2, h3⟩ := h
 obtain ⟨k1, k2, k3⟩ := k
 have hb := (valR_bd h1).1
 have kb := (valR_bd k1).1
 have key : (p.1 * q.2) * (D * E) = (q.1 * p.2) * (D * E) := by grind
 have hDE : D * E ≠ 0 := Int.mul_ne_zero (by omega) (by omega)
 have := low_eq (by omega) (by omega) (valR_gcd h1) (valR_gcd k1) (Int.eq_of_mul_eq_mul_right hDE key)
 exact Prod.ext this.1 this.2
theorem Fr.int (c : Int) (h : -1000000000 ≤ c) (h' : c ≤ 1000000000) : Fr (c, 1) c 1 :=
 ⟨valR_mk (by simp) (by simp) h h' (by rw [gI_nat]; simp), by omega, rfl⟩
theorem Fr.self {p : Int × Int} (h : valR p = true) : Fr p p.1 p.2 := ⟨h, by have := (valR_bd h).1; omega, rfl⟩
theorem gI_split (n d : Int) (hd : 0 < d) : 1 ≤ gI n d ∧ n = gI n d * n.tdiv (gI n d) ∧ d = gI n d * d.tdiv (gI n d) ∧ 0 < d.tdiv (gI n d) := by
 have hg := gI_pos n (show d ≠ 0 by omega)
 obtain ⟨k, hk⟩ := gI_dvdl n d
 obtain ⟨m, hm⟩ := gI_dvdr n d
 have h1 : n.tdiv (gI n d) = k := by conv => lhs; arg 1; rw [hk]
                                     exact Int.mul_tdiv_cancel_left _ (by omega)
 have h2 : d.tdiv (gI n d) = m := by conv => lhs; arg 1; rw [hm]
                                     exact Int.mul_tdiv_cancel_left _ (by omega)
 rw [h1, h2]
 refine ⟨hg, hk, hm, ?_⟩
 rcases Int.lt_or_le 0 m with h | h
 ·exact h
 ·have : gI n d * m ≤ 0 := Int.mul_nonpos_of_nonneg_of_nonpos (by omega) h
  omega
theorem ratOf_cut {n d : Int} (hd : 0 < d) (hn : -1000000000000000000 ≤ n ∧ n ≤ 1000000000000000000) (hd' : d ≤ 1000000000000000000) : ratOf n d = cutR (n.tdiv (gI n d), d.tdiv (gI n d)) := by
 unfold ratOf
 rw [if_neg (by simp [inB]; omega), if_neg (by omega)]
theorem ratOf_same {n d x D : Int} (hd : 0 < d) (hD : 0 < D) (hn : -1000000000000000000 ≤ n ∧ n ≤ 1000000000000000000) (hd' : d ≤ 1000000000000000000) (hx : -1000000000000000000 ≤ x ∧ x ≤ 1000000000000000000) (hD' : D ≤ 1000000000000000000) (e : n * D = x * d) : ratOf n d = ratOf x D := by
 rw [ratOf_cut hd hn hd', ratOf_cut hD hx hD']
 obtain ⟨g1, g2, g3, g4⟩ := gI_split n d hd
 obtain ⟨k1, k2, k3, k4⟩ := gI_split x D hD
 have key : (n.tdiv (gI n d) * D.tdiv (gI x D)) * (gI n d * gI x D) = (x.tdiv (gI x D) * d.tdiv (gI n d)) * (gI n d * gI x D) := by
  have a1 : (n.tdiv (gI n d) * D.tdiv (gI x D)) * (gI n d * gI x D) = (gI n d * n.tdiv (gI n d)) * (gI x D * D.tdiv (gI x D)) := by grind
  have a2 : (x.tdiv (gI x D) * d.tdiv (gI n d)) * (gI n d * gI x D) = (gI x D * x.tdiv (gI x D)) * (gI n d * d.tdiv (gI n d)) := by grind
  rw [a1, a2, ← g2, ← g3, ← k2, ← k3, e]
 have hne : gI n d * gI x D ≠ 0 := Int.mul_ne_zero (by omega) (by omega)
 have := low_eq g4 k4 (gI_cancel n d hd) (gI_cancel x D hD) (Int.eq_of_mul_eq_mul_right hne key)
 rw [this.1, this.2]
theorem ratOf_fr {n d : Int} (hd : 0 < d) (h : (ratOf n d).2 = true) : Fr (ratOf n d).1 n d := by
 refine ⟨ratOf_val h, hd, ?_⟩
 unfold ratOf at h ⊢
 split at h
 ·simp at h
 ·next h0 =>
  rw [if_neg h0]
  split at h
  ·omega
  ·next h1 =>
   rw [if_neg h1]
   unfold cutR at h ⊢
   split at h
   ·next h2 =>
    rw [if_pos h2]
    obtain ⟨g1, g2, g3, g4⟩ := gI_split n d hd
    simp only
    generalize n.tdiv (gI n d) = k at *
    generalize d.tdiv (gI n d) = m at *
    generalize gI n d = g at *
    subst g2; grind
   ·simp at h
theorem ratOf_is {n d x D : Int} (hd : 0 < d) (hn : -1000000000000000000 ≤ n ∧ n ≤ 1000000000000000000) (hd' : d ≤ 1000000000000000000) (hD : 0 < D) (hD' : D ≤ 1000000000) (hx : -1000000000 ≤ x ∧ x ≤ 1000000000) (e : n * D = x * d) :
 ∃ r, ratOf n d = (r, true) ∧ Fr r x D := by
 have h1 := ratOf_same hd hD hn hd' (by omega) (by omega) e
 have h2 := ratOf_ok (n := x) (d := D) (by omega) hD' hx.1 hx.2
 exact ⟨(ratOf x D).1, by rw [h1, ← h2], ratOf_fr hD h2⟩
theorem bd18 {p q : Int} (h : -1000000000 ≤ p ∧ p ≤ 1000000000) (k : -1000000000 ≤ q ∧ q ≤ 1000000000) : -1000000000000000000 ≤ p * q ∧ p * q ≤ 1000000000000000000 := mul_bd h.1 h.2 k.1 k.2
end Go.Proofs.YthjjfkeacobikaaGreat
