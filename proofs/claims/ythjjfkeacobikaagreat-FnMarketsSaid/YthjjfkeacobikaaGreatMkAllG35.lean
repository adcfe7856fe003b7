import Derived.Test.YthjjfkeacobikaaGreatMkAllG5
import Derived.Test.YthjjfkeacobikaaGreatMkAllG3
import Derived.Deep.DeepCutAuto
namespace Go.Proofs.YthjjfkeacobikaaGreat
set_option linter.unusedVariables false
set_option linter.unusedSimpArgs false
set_option maxRecDepth 100000
open Go.RowKit
theorem OwnV.madeS (w : World) (base n : Nat) (hn : n = w.heap.size) (hb : base ≤ w.heap.size) : OwnV (w.alloc (.cells #[] 24)) base (.slice (some ⟨n, 0, none⟩) 0 0) [] := by
 subst hn; exact World.ownsRow_lit w #[] 0 hb (by omega) rfl
theorem seqI_more (k : Int) (m : Nat) : seqI k m ++ [k + (m : Int)] = seqI k (m + 1) := by simp [seqI, List.range_succ]
set_option maxHeartbeats 4000000 in
theorem i_coalitions {w : World} (lo hi : Int) (n : Nat) (h0 : 0 ≤ lo) (h1 : lo ≤ 1000) (hn : hi + 1 - lo = n) (hb : n ≤ 1000) :
 Calls Tryz.prog 201 #[.int .i64 lo, .int .i64 hi] w fun e w' => (∃ v, e = .returned v ∧ OwnI w' w.heap.size v (seqI lo n)) ∧ Ext w w' := by
 have HN := Lib.hid hn
 have hhi : hi = lo + (n : Int) - 1 := by omega
 have hh1 : -1 ≤ hi := by omega
 have hh2 : hi ≤ 2000 := by omega
 have HH := Lib.hid hhi
 have HO := Lib.hid (OwnI.madeS w w.heap.size _ rfl (Nat.le_refl _))
 clear hn hhi
 go_enter Tryz.func201, Tryz.ntmps201
 go_wp2_with fail
 go_loopg [5, 6] n (fun gk oo ii wr => ∃ (k : Nat) (i : Int) (a1 : Option Addr) (n1 p1 : Nat), Hid (gk + k = n) ∧ Hid (i = lo + (k : Int)) ∧ ii = .int .i64 i ∧ oo = .slice a1 n1 p1 ∧ Hid (OwnI wr w.heap.size (.slice a1 n1 p1) (seqI lo k)) ∧ Hid (Ext w wr))
 case atStart => exact ⟨0, lo, _, _, _, Lib.hid (by omega), Lib.hid (by omega), rfl, rfl, HO, Lib.hid (Ext.alloc _ _)⟩
 case round =>
  obtain ⟨g1, h_g1⟩ : ∃ x, x = gk := ⟨_, rfl⟩
  subst h_g1
  obtain ⟨wr1, h_wr1⟩ : ∃ x, x = wr := ⟨_, rfl⟩
  subst h_wr1
  obtain ⟨k, i, a1, n1, p1, HK, HI, rfl, rfl, HO1, HX⟩ := hrel
  have hsz := HX.out.size
  have hi0 : 0 ≤ i := by have := HI.out; omega
  have hi1 : i ≤ 2001 := by have := HI.out; have := HK.out; omega
  by_cases hlt : k < n
  ·have hle : i ≤ hi := by have := HI.out; have := HH.out; omega
   have HL := Lib.hid (seqI_len lo k)
   go_wp2_with (first
    | (at_builtin; refine append_ints rfl _ _ rfl w.heap.size (.slice a1 n1 p1) _ rfl (HO1.out.ext (Ext.alloc _ _)) _ 1 _ [i] rfl (Ints.oneS _ _ _ _ (by simp)) (by rw [HL.out]; have := HK.out; omega) (by simp; omega) ?_; intro v5 w5 ho hg hnear; obtain ⟨a5, n5, p5, rfl, HN5⟩ := ho.var; have HO5 := Lib.hid ho; have X5 := Lib.hid (ext_grown (HX.out.trans (Ext.alloc _ _)) hg (fun j hj => (HO1.out.lt j hj).1)); clear ho hg hnear))
   go_roundg (g1 - 1)
   case measure => have := HK.out; omega
   case rel => exact ⟨k + 1, i + 1, a5, n5, p5, Lib.hid (by have := HK.out; omega), Lib.hid (by have := HI.out; omega), rfl, rfl, Lib.hid (by have := HO5.out; rw [HI.out, seqI_more] at this; exact this), X5⟩
  ·have hkn : k = n := by have := HK.out; omega
   have hnle : ¬ i ≤ hi := by have := HI.out; have := HH.out; omega
   subst hkn
   go_wp2_with fail
   go_ret
   exact ⟨⟨_, rfl, HO1.out⟩, HX.out⟩
theorem repl_set (n : Nat) (x : Int) {k : Nat} (h : k < n) : (List.replicate k x ++ List.replicate (n - k) 0).set k x = List.replicate (k + 1) x ++ List.replicate (n - (k + 1)) 0 := by
 rw [List.set_append_right _ _ (by simp)]
 simp only [List.length_replicate, Nat.sub_self]
 obtain ⟨d, hd⟩ : ∃ d, n - k = d + 1 := ⟨n - k - 1, by omega⟩
 rw [hd, List.replicate_succ, List.set_cons_zero, show n - (k + 1) = d by omega, List.replicate_succ', List.append_assoc]
 rfl
set_option maxHeartbeats 4000000 in
theorem i_times {w : World} (n : Nat) (x : Int) (hb : n ≤ 8000000) :
 Calls Tryz.prog 196 #[.int .i64 (n : Int), .int .i64 x] w fun e w' => (∃ v, e = .returned v ∧ OwnI w' w.heap.size v (List.replicate n x)) ∧ Ext w w' := by
 have hmk := mk_ints n (by omega)
 have HR := Lib.hid (show Row (w.alloc (.cells (intCells (List.replicate n 0)) 3)) w.heap.size 3 (List.replicate n 0) from heap_alloc_new _ _)
 go_enter Tryz.func196, Tryz.ntmps196
 go_wp2_with fail
 go_loopg [11] n (fun gk ii wr => ∃ k : Nat, Hid (gk + k = n) ∧ ii = .int .i64 (k : Int) ∧ Hid (Row wr w.heap.size 3 (List.replicate k x ++ List.replicate (n - k) 0)) ∧ Hid (Ext w wr))
 case atStart => exact ⟨0, Lib.hid (by omega), rfl, Lib.hid (by simpa using HR.out), Lib.hid (Ext.alloc _ _)⟩
 case round =>
  obtain ⟨g1, h_g1⟩ : ∃ x, x = gk := ⟨_, rfl⟩
  subst h_g1
  obtain ⟨wr1, h_wr1⟩ : ∃ x, x = wr := ⟨_, rfl⟩
  subst h_wr1
  obtain ⟨k, HK, rfl, HRW, HX⟩ := hrel
  by_cases hlt : k < n
  ·have hc := HRW.out.cell (k := k) (by simp; omega)
   have hf := HRW.out.free k
   have HN := Lib.hid (show Row (wr1.setCell ⟨w.heap.size, k, none⟩ (.int .i64 x)) w.heap.size 3 (List.replicate (k + 1) x ++ List.replicate (n - (k + 1)) 0) by rw [← repl_set n x hlt]; exact HRW.out.set k x)
   have HX2 := Lib.hid (HX.out.setCell (p := ⟨w.heap.size, k, none⟩) (Nat.le_refl _) (.int .i64 x))
   go_wp2_with fail
   go_roundg (g1 - 1)
   case measure => have := HK.out; omega
   case rel => exact ⟨k + 1, Lib.hid (by have := HK.out; omega), by go_num, HN, HX2⟩
  ·have hkn : k = n := by have := HK.out; omega
   subst hkn
   have HRF := Lib.hid (show Row wr1 w.heap.size 3 (List.replicate k x) by have := HRW.out; simpa using this)
   go_wp2_with fail
   go_ret
   exact ⟨⟨_, rfl, HRF.out.own (Nat.le_refl _) (by simp) (by omega)⟩, HX.out⟩
def memR (l : List Int) (k : Nat) : List Int := l.map fun s => bitI (hasP s (k : Int))
def memM (n : Nat) (l : List Int) : List (List Int) := (List.range n).map (memR l)
theorem memM_succ (k : Nat) (l : List Int) : memM k l ++ [memR l k] = memM (k + 1) l := by simp [memM, List.range_succ]
theorem memR_snoc {l : List Int} {j k : Nat} {b : Bool} (h : j < l.length) (hb : hasP (l[j]?.getD 0) (k : Int) = b) : memR (l.take j) k ++ [bitI b] = memR (l.take (j + 1)) k := by
 rw [take_snoc h, ← hb]; simp [memR]
set_option maxHeartbeats 8000000 in
theorem i_members {w : World} (n : Nat) (hn : n ≤ 5) {a : Option Addr} {m cap : Nat} {l : List Int} (h : Ints w a m cap l) (hl : ∀ k : Nat, l[k]?.getD 0 ≤ 9223372036854775807) (hm : m ≤ 8000000) :
 Calls Tryz.prog 195 #[.int .i64 (n : Int), .slice a m cap] w fun e w' => (∃ v, e = .returned v ∧ OwnSS w' w.heap.size v (memM n l)) ∧ Ext w w' := by
 have hcapN := h.hcap
 have hcapM := h.hmax
 have HL := Lib.hid h.hlen
 have HI := Lib.hid h
 have HLB := Lib.hid hl
 have HO := Lib.hid (OwnV.madeS w w.heap.size _ rfl (Nat.le_refl _))
 clear h hl
 go_enter Tryz.func195, Tryz.ntmps195
 go_wp2_with fail
 go_loopg [5, 13] n (fun gk out ii wr => ∃ (k : Nat) (a1 : Option Addr) (n1 p1 : Nat) (vs : List Value), Hid (gk + k = n) ∧ ii = .int .i64 (k : Int) ∧ out = .slice a1 n1 p1 ∧ Hid (OwnV wr w.heap.size (.slice a1 n1 p1) vs) ∧ Hid (RowsI wr w.heap.size vs (memM k l)) ∧ Hid (Ext w wr))
 case atStart => exact ⟨0, _, _, _, [], Lib.hid (by omega), rfl, rfl, HO, Lib.hid (RowsI.nil _ _), Lib.hid (Ext.alloc _ _)⟩
 case round =>
  obtain ⟨g1, h_g1⟩ : ∃ x, x = gk := ⟨_, rfl⟩
  subst h_g1
  obtain ⟨wr1, h_wr1⟩ : ∃ x, x = wr := ⟨_, rfl⟩
  subst h_wr1
  obtain ⟨k, a1, n1, p1, vs, HK, rfl, rfl, HV, HR, HX⟩ := hrel
  have hsz := HX.out.size
  by_cases hlt : k < n
  ·have HO2 := Lib.hid (OwnI.madeS wr1 wr1.heap.size _ rfl (Nat.le_refl _))
   have HLV := Lib.hid (show vs.length = k by rw [HR.out.len]; simp [memM])
   go_wp2_with fail
   go_loopg [7, 19] m (fun gk row ii wr => ∃ (j : Nat) (a2 : Option Addr) (n2 p2 : Nat), Hid (gk + j = m) ∧ ii = .int .i64 (j : Int) ∧ row = .slice a2 n2 p2 ∧ Hid (OwnI wr wr1.heap.size (.slice a2 n2 p2) (memR (l.take j) k)) ∧ Hid (Ext wr1 wr))
   case atStart => exact ⟨0, _, _, _, Lib.hid (by omega), rfl, rfl, HO2, Lib.hid (Ext.alloc _ _)⟩
   case round =>
    obtain ⟨g2, h_g2⟩ : ∃ x, x = gk := ⟨_, rfl⟩
    subst h_g2
    obtain ⟨wr2, h_wr2⟩ : ∃ x, x = wr := ⟨_, rfl⟩
    subst h_wr2
    obtain ⟨j, a2, n2, p2, HJ, rfl, rfl, HO3, HX3⟩ := hrel
    have hsz3 := HX3.out.size
    by_cases hjn : j < m
    ·obtain ⟨b, off, ha, hs0⟩ := (HI.out.ext (HX.out.trans HX3.out)).at hjn
     subst ha
     obtain ⟨s, hs⟩ : ∃ s, s = l[j]?.getD 0 := ⟨_, rfl⟩
     rw [← hs] at hs0
     have hsb : s ≤ 9223372036854775807 := by rw [hs]; exact HLB.out j
     have HLJ := Lib.hid (show (memR (l.take j) k).length = j by simp [memR]; have := HL.out; omega)
     have HHP := Lib.hid (i_HasPlayer s (k : Int) wr2 hsb)
     cases hhp : hasP s (k : Int)
     case' true =>
      rw [hhp] at HHP
      have HDS := Lib.hid (show memR (l.take j) k ++ [(1 : Int)] = memR (l.take (j + 1)) k from memR_snoc (l := l) (j := j) (k := k) (b := true) (by have := HL.out; omega) (by rw [hs] at hhp; exact hhp))
      clear hhp
     case' false =>
      rw [hhp] at HHP
      have HDS := Lib.hid (show memR (l.take j) k ++ [(0 : Int)] = memR (l.take (j + 1)) k from memR_snoc (l := l) (j := j) (k := k) (b := false) (by have := HL.out; omega) (by rw [hs] at hhp; exact hhp))
      clear hhp
     all_goals
      clear hs
      go_wp2_with fail
      refine HHP.out.mono ?_
      rintro e w' ⟨rfl, rfl⟩
     ·go_wp2_with (first
       | (at_builtin; refine append_ints rfl _ _ rfl wr1.heap.size (.slice a2 n2 p2) _ rfl (HO3.out.ext (Ext.alloc _ _)) _ 1 _ [_] rfl (Ints.oneS _ _ _ _ (by simp)) (by rw [HLJ.out]; omega) (by simp; omega) ?_; intro v5 w5 ho hg hnear; obtain ⟨a5, n5, p5, rfl, HN5⟩ := ho.var; have HO5 := Lib.hid ho; have X5 := Lib.hid (ext_grown (HX3.out.trans (Ext.alloc _ _)) hg (fun j hj => (HO3.out.lt j hj).1)); clear ho hg hnear))
      go_roundg (g2 - 1)
      case measure => have := HJ.out; omega
      case rel => exact ⟨j + 1, a5, n5, p5, Lib.hid (by have := HJ.out; omega), by go_num, rfl, Lib.hid (by rw [← HDS.out]; exact HO5.out), X5⟩
     ·go_wp2_with (first
       | (at_builtin; refine append_ints rfl _ _ rfl wr1.heap.size (.slice a2 n2 p2) _ rfl (HO3.out.ext (Ext.alloc _ _)) _ 1 _ [_] rfl (Ints.oneS _ _ _ _ (by simp)) (by rw [HLJ.out]; omega) (by simp; omega) ?_; intro v5 w5 ho hg hnear; obtain ⟨a5, n5, p5, rfl, HN5⟩ := ho.var; have HO5 := Lib.hid ho; have X5 := Lib.hid (ext_grown (HX3.out.trans (Ext.alloc _ _)) hg (fun j hj => (HO3.out.lt j hj).1)); clear ho hg hnear))
      go_roundg (g2 - 1)
      case measure => have := HJ.out; omega
      case rel => exact ⟨j + 1, a5, n5, p5, Lib.hid (by have := HJ.out; omega), by go_num, rfl, Lib.hid (by rw [← HDS.out]; exact HO5.out), X5⟩
    ·have hjm : j = m := by have := HJ.out; omega
     subst hjm
     have HT := Lib.hid (show l.take j = l from List.take_of_length_le (by rw [HL.out]; exact Nat.le_refl _))
     rw [HT.out] at HO3
     go_wp2_with (first
      | (at_builtin; refine append_slice rfl _ _ rfl w.heap.size (.slice a1 n1 p1) vs rfl ((HV.out.ext HX3.out).ext (Ext.alloc _ _)) _ _ 1 rfl (by simp; rfl) rfl (by have := HLV.out; omega) (by simp; omega) ?_; intro v6 w6 ho hg hnear; obtain ⟨a6, n6, p6, rfl, HN6⟩ := ho.var; have HO6 := Lib.hid ho; have HR6 := Lib.hid (((HR.out.snoc HX3.out HO3.out hsz).ext (Ext.alloc _ _)).grownV ((HV.out.ext HX3.out).ext (Ext.alloc _ _)) hg); have X6 := Lib.hid (ext_grown ((HX.out.trans HX3.out).trans (Ext.alloc _ _)) hg (fun j hj => (HV.out.lt j hj).1)); clear ho hg hnear))
     go_roundg (g1 - 1)
     case measure => have := HK.out; omega
     case rel => exact ⟨k + 1, a6, n6, p6, _, Lib.hid (by have := HK.out; omega), by go_num, rfl, HO6, Lib.hid (by rw [← memM_succ]; exact HR6.out), X6⟩
  ·have hkn : k = n := by have := HK.out; omega
   subst hkn
   go_wp2_with fail
   go_ret
   exact ⟨⟨_, rfl, vs, HV.out, HR.out⟩, HX.out⟩
end Go.Proofs.YthjjfkeacobikaaGreat
