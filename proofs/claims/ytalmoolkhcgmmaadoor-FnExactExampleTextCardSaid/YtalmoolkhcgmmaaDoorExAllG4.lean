import Derived.Test.YtalmoolkhcgmmaaDoorExAllG2
import Derived.Test.YtalmoolkhcgmmaaDoorExAllG3
import Derived.Test.YtalmoolkhcgmmaaDoorExAllG1
import Derived.Deep.Slices
import Derived.ProofKit
import Derived.OpenShut
import Derived.ShutString
import Derived.ChangeOld
import Derived.Lib.SmallJoins
namespace Go.Proofs.YtalmoolkhcgmmaaDoor
set_option linter.unusedVariables false
set_option linter.unusedSimpArgs false
set_option maxRecDepth 100000
open Go.RowKit
def asgF (S B : Nat) (G : List (List Int)) (s : Nat) : Int := (bestF S B G s S []).2
def asgP (x y : Int) (G : List (List Int)) : Nat := if validM x y G = true then (x + y).toNat else 0
def asgL (x y : Int) (G : List (List Int)) : List Int := if validM x y G = true then rowF (asgF x.toNat y.toNat G) (cN (x + y).toNat) else []
theorem bestF_zero (S B : Nat) (G : List (List Int)) : ∀ (r : Nat) (taken : List Int), (bestF S B G 0 r taken).2 = 0
 | 0, _ => rfl
 | r + 1, taken => by
   rw [bestF_succ]
   have hno : ∀ k, bestTo S B G 0 r taken k = (-1 :: (bestF S B G 0 r taken).1, (bestF S B G 0 r taken).2) := by
    intro k
    induction k with
    | zero => rfl
    | succ k ih => rw [bestTo_succ, if_neg (by simp [freeJ, bit]), ih]
   rw [hno]
   exact bestF_zero S B G r taken
theorem asgF_bd {S B : Nat} {G : List (List Int)} (hM : GoodM S B G) (s : Nat) : -500 ≤ asgF S B G s ∧ asgF S B G s ≤ 500 := by
 have := bestF_bd S B G s hM.bd S []
 have := hM.sb
 unfold asgF
 omega
theorem trade_ok {S B s : Nat} {G : List (List Int)} (hv : validM (S : Int) (B : Int) G = true) (hsb : S + B ≤ 5) (hs : s < cN (S + B)) : tradeOk (S : Int) (B : Int) G (s : Int) = true := by
 have hcn := cntC_nat (S + B) hsb
 have hcn' : cntC ((S : Int) + (B : Int)) = (cN (S + B) : Int) := by rw [← hcn]; simp
 unfold tradeOk inB
 rw [hv, hcn']
 simp
 omega
theorem go_AssignmentGame1 : IsGo Tryd.prog 42 := isGo Tryd.func42 (by kernel_rfl) (by kernel_rfl)
set_option maxHeartbeats 1000000 in
theorem i_AssignmentGame1 {w : World} {S B s bm : Nat} {a : Option Addr} {n cap : Nat} {G : List (List Int)} (h : IntSS w a n cap G) (hm : w.heap[bm]? = some (.cells #[.int .i64 (S : Int), .int .i64 (B : Int), .slice a n cap] 36 (0, 0)))
 (hv : validM (S : Int) (B : Int) G = true) (hsb : S + B ≤ 5) (hs : s < cN (S + B)) :
 Calls Tryd.prog 42 #[.int .i64 (s : Int), .pointer (some ⟨bm, 0, none⟩)] w fun e w' => e = .returned (.int .i64 (asgF S B G s)) ∧ Ext w w' := by
 have HB := Lib.hid (i_BestTrades (x := (S : Int)) (y := (B : Int)) (s := (s : Int)) h)
 have HR := Lib.hid (show (tradeR (S : Int) (B : Int) G (s : Int)).2 = asgF S B G s by rw [tradeR_ok (trade_ok hv hsb hs)]; rfl)
 have c0 : w.cell? ⟨bm, 0, none⟩ = some (.int .i64 (S : Int)) := by rw [cell_of_row _ _ _ _ _ _ hm]; rfl
 have c1 : w.cell? ⟨bm, 1, none⟩ = some (.int .i64 (B : Int)) := by rw [cell_of_row _ _ _ _ _ _ hm]; rfl
 have c2 : w.cell? ⟨bm, 2, none⟩ = some (.slice a n cap) := by rw [cell_of_row _ _ _ _ _ _ hm]; rfl
 clear h hm hv hs
 go_enter Tryd.func42, Tryd.ntmps42
 go_wp2_with fail
 refine HB.out.mono ?_
 rw [HR.out]
 rintro e w1 ⟨⟨v, rfl, ho⟩, hx⟩
 go_wp2
 go_ret
 exact ⟨rfl, hx⟩
set_option maxHeartbeats 4000000 in
theorem i_AssignmentGame {w : World} {x y : Int} {a : Option Addr} {n cap : Nat} {G : List (List Int)} (h : IntSS w a n cap G) :
 Calls Tryd.prog 20 #[triple x y a n cap] w fun e w' => GameV w' w.heap.size e (asgP x y G) (asgL x y G) (validM x y G) ∧ Ext w w' := by
 have HX := Lib.hid ((Ext.alloc w (.cells #[.int .i64 x, .int .i64 y, .slice a n cap] 36)).trans (Ext.alloc _ (.cells #[.int .i64 0, .slice none 0 0] 27)))
 have HV := Lib.hid (i_IsValidMarket (x := x) (y := y) (h.ext HX.out))
 have HI := Lib.hid (h.ext HX.out)
 clear h
 cases hv : validM x y G
 ·rw [hv] at HV
  have HVV := Lib.hid hv
  clear hv
  go_enter Tryd.func20, Tryd.ntmps20
  go_wp2_with fail
  refine HV.out.mono ?_
  rintro e w1 ⟨rfl, hx⟩
  have r0 : w1.cell? ⟨w.heap.size + 1, 0, none⟩ = some (.int .i64 0) := hx.cellSome (by simp)
  have r1 : w1.cell? ⟨w.heap.size + 1, 1, none⟩ = some (.slice none 0 0) := hx.cellSome (by simp)
  have f0 : w1.frozen? ⟨w.heap.size + 1, 0, none⟩ = false := (hx.frozens _ _ (by simp)).trans (by simp)
  have f1 : w1.frozen? ⟨w.heap.size + 1, 1, none⟩ = false := (hx.frozens _ _ (by simp)).trans (by simp)
  have HX1 := Lib.hid (HX.out.trans hx)
  clear hx
  go_wp2
  refine bodyPost_ret (v := .tuple #[.agg #[.int .i64 0, .slice none 0 0], .bool false]) (by simp [results, Tryd.results20, go_sem, r0, r1]) rfl ⟨⟨.slice none 0 0, ?_, ?_⟩, ?_⟩
  ·unfold asgP; rw [HVV.out]; rfl
  ·unfold asgL; rw [HVV.out]; exact ⟨rfl, .inl ⟨rfl, rfl⟩⟩
  ·exact (HX1.out.setCell (by simp) _).setCell (by simp) _
 ·rw [hv] at HV
  obtain ⟨S, B, rfl, rfl, hM⟩ := validM_good hv
  have hsb := hM.sb
  have hN := cN_le (S + B) hsb
  have h1 : 1 ≤ S + B := by have := hM.s1; omega
  have HVV := Lib.hid hv
  have HM := Lib.hid hM
  have hSB : (S : Int) + (B : Int) = ((S + B : Nat) : Int) := by simp
  have HSB := Lib.hid hSB
  clear hv hM hSB
  go_enter Tryd.func20, Tryd.ntmps20
  go_wp2_with fail
  refine HV.out.mono ?_
  rintro e w1 ⟨rfl, hx⟩
  have c0 : w1.cell? ⟨w.heap.size, 0, none⟩ = some (.int .i64 (S : Int)) := hx.cellSome (by simp)
  have c1 : w1.cell? ⟨w.heap.size, 1, none⟩ = some (.int .i64 (B : Int)) := hx.cellSome (by simp)
  have HB := Lib.hid (show w1.heap[w.heap.size]? = some (.cells #[.int .i64 (S : Int), .int .i64 (B : Int), .slice a n cap] 36 (0, 0)) from (hx.block _ (by simp; omega)).trans (by rw [heapA_old _ _ _ (by simp)]; exact heapA_new _ _ _ rfl))
  have HX1 := Lib.hid hx
  have HI1 := Lib.hid (HI.out.ext hx)
  clear hx
  have hs1 : w.heap.size < w1.heap.size := World.block_lt_of_cell? _ _ c0
  have HT : Hid (Tells Tryd.prog w1 42 #[.pointer (some ⟨w.heap.size, 0, none⟩)] (cN (S + B)) (asgF S B G)) := Lib.hid fun s w2 hs k =>
   i_AssignmentGame1 (HI1.out.ext k) ((k.block _ (lt_of_block HB.out)).trans HB.out) HVV.out hsb hs
  have HMA := Lib.hid (i_made h1 hsb go_AssignmentGame1 HT.out (bestF_zero S B G S []) (fun s _ => asgF_bd HM.out s))
  rw [← HSB.out] at HMA
  go_wp2_with fail
  refine HMA.out.mono ?_
  rintro e w2 ⟨⟨v, rfl, ho⟩, hx⟩
  obtain ⟨a2, n2, c2, rfl, HN2⟩ := ho.var
  have HX2 := Lib.hid (HX1.out.trans hx)
  have r0 : w2.cell? ⟨w.heap.size + 1, 0, none⟩ = some (.int .i64 0) := HX2.out.cellSome (by simp)
  have r1 : w2.cell? ⟨w.heap.size + 1, 1, none⟩ = some (.slice none 0 0) := HX2.out.cellSome (by simp)
  have f0 : w2.frozen? ⟨w.heap.size + 1, 0, none⟩ = false := (HX2.out.frozens _ _ (by simp)).trans (by simp)
  have f1 : w2.frozen? ⟨w.heap.size + 1, 1, none⟩ = false := (HX2.out.frozens _ _ (by simp)).trans (by simp)
  have HO := Lib.hid ho
  have hsz1 := HX1.out.size
  simp at hsz1
  clear ho hx
  go_wp2
  have hp : asgP (S : Int) (B : Int) G = S + B := by unfold asgP; rw [HVV.out, if_pos rfl]; omega
  have hl : asgL (S : Int) (B : Int) G = rowF (asgF S B G) (cN (S + B)) := by
   unfold asgL; rw [HVV.out, if_pos rfl]
   have e : ((S : Int) + (B : Int)).toNat = S + B := by omega
   rw [e]; rfl
  rw [hp, hl]
  refine bodyPost_ret (v := .tuple #[.agg #[.int .i64 ((S + B : Nat) : Int), .slice a2 n2 c2], .bool true]) (by simp [results, Tryd.results20, go_sem, r0, r1]) rfl ⟨⟨.slice a2 n2 c2, rfl, ?_⟩, ?_⟩
  ·refine HO.out.mono (by omega) |>.keep fun j hj => ?_
   have := (HO.out.lt j hj).1
   rw [heap_setCell_other _ _ _ _ (by simp; omega), heap_setCell_other _ _ _ _ (by simp; omega)]
  ·exact ((HX.out.trans HX2.out).setCell (by simp) _).setCell (by simp) _
set_option maxHeartbeats 4000000 in
theorem s_AssignmentGame {w : World} {x y : Int} {a : Option Addr} {n cap : Nat} {G : List (List Int)} (h : IntSS w a n cap G) :
 Calls Tryd.prog 14 #[triple x y a n cap] w fun e w' => GameV w' w.heap.size e (asgP x y G) (asgL x y G) (validM x y G) ∧ Ext w w' := by
 have HX := Lib.hid ((Ext.alloc w (.cells #[.int .i64 x, .int .i64 y, .slice a n cap] 36)).trans (Ext.alloc _ (.cells #[.int .i64 0, .slice none 0 0] 27)))
 have HV := Lib.hid (s_IsValidMarket (x := x) (y := y) (h.ext HX.out))
 have HI := Lib.hid (h.ext HX.out)
 clear h
 cases hv : validM x y G
 ·rw [hv] at HV
  have HVV := Lib.hid hv
  clear hv
  go_enter Tryd.func14, Tryd.ntmps14
  go_wp2_with fail
  refine HV.out.mono ?_
  rintro e w1 ⟨rfl, hx⟩
  have r0 : w1.cell? ⟨w.heap.size + 1, 0, none⟩ = some (.int .i64 0) := hx.cellSome (by simp)
  have r1 : w1.cell? ⟨w.heap.size + 1, 1, none⟩ = some (.slice none 0 0) := hx.cellSome (by simp)
  have f0 : w1.frozen? ⟨w.heap.size + 1, 0, none⟩ = false := (hx.frozens _ _ (by simp)).trans (by simp)
  have f1 : w1.frozen? ⟨w.heap.size + 1, 1, none⟩ = false := (hx.frozens _ _ (by simp)).trans (by simp)
  have HX1 := Lib.hid (HX.out.trans hx)
  clear hx
  go_wp2
  refine bodyPost_ret (v := .tuple #[.agg #[.int .i64 0, .slice none 0 0], .bool false]) (by simp [results, Tryd.results14, go_sem, r0, r1]) rfl ⟨⟨.slice none 0 0, ?_, ?_⟩, ?_⟩
  ·unfold asgP; rw [HVV.out]; rfl
  ·unfold asgL; rw [HVV.out]; exact ⟨rfl, .inl ⟨rfl, rfl⟩⟩
  ·exact (HX1.out.setCell (by simp) _).setCell (by simp) _
 ·rw [hv] at HV
  obtain ⟨S, B, rfl, rfl, hM⟩ := validM_good hv
  have hsb := hM.sb
  have hN := cN_le (S + B) hsb
  have HVV := Lib.hid hv
  have HM := Lib.hid hM
  have hcn := cntC_nat (S + B) hsb
  have HC := Lib.hid (show cntC ((S : Int) + (B : Int)) = (cN (S + B) : Int) by rw [← hcn]; simp)
  clear hv hM hcn
  go_enter Tryd.func14, Tryd.ntmps14
  go_wp2_with fail
  refine HV.out.mono ?_
  rintro e w1 ⟨rfl, hx⟩
  have c0 : w1.cell? ⟨w.heap.size, 0, none⟩ = some (.int .i64 (S : Int)) := hx.cellSome (by simp)
  have c1 : w1.cell? ⟨w.heap.size, 1, none⟩ = some (.int .i64 (B : Int)) := hx.cellSome (by simp)
  have hs1 : w.heap.size < w1.heap.size := World.block_lt_of_cell? _ _ c0
  have hs2 : w.heap.size + 1 < w1.heap.size := by have := hx.size; simp at this; omega
  have HX1 := Lib.hid hx
  have HI1 := Lib.hid (HI.out.ext hx)
  clear hx
  go_wp2_with (first | (go_at_call 28; refine (s_CountCoalitions _ _).mono ?_; rw [HC.out]; rintro e w' ⟨rfl, rfl⟩))
  go_loopw [6] (fun i wr => ∃ (k : Nat) (a1 : Option Addr) (n1 c1 : Nat), k ≤ cN (S + B) ∧ i = .int .i64 (k : Int) ∧ Hid (OwnI wr (w1.heap.size + 1) (.slice a1 n1 c1) (rowF (asgF S B G) k)) ∧ Hid (wr.heap[w1.heap.size]? = some (.cells #[.int .i64 ((S : Int) + (B : Int)), .slice a1 n1 c1] 27 (0, 0))) ∧ Hid (Ext w1 wr)) (fun i _ => cN (S + B) - (intOf i).toNat)
  case atStart =>
   refine ⟨0, none, 0, 0, Nat.zero_le _, rfl, Lib.hid (by unfold rowF; exact ⟨rfl, .inl ⟨rfl, rfl⟩⟩), Lib.hid ?_, Lib.hid ?_⟩
   ·exact heapA_new _ _ _ (by simp)
   ·exact Ext.alloc _ _
  case round =>
   obtain ⟨k, a1, n1, p1, hk, rfl, HO, HB, HX2⟩ := hrel
   have hsz := lt_of_block HB.out
   have c0 : wr.cell? ⟨w.heap.size, 0, none⟩ = some (.int .i64 (S : Int)) := (HX1.out.trans HX2.out).cellSome (by simp)
   have c1' : wr.cell? ⟨w.heap.size, 1, none⟩ = some (.int .i64 (B : Int)) := (HX1.out.trans HX2.out).cellSome (by simp)
   have c2' : wr.cell? ⟨w.heap.size, 2, none⟩ = some (.slice a n cap) := (HX1.out.trans HX2.out).cellSome (by simp)
   have hwr : w.heap.size < wr.heap.size := by omega
   by_cases hlt : k < cN (S + B)
   ·have HIr := Lib.hid ((HI1.out.ext HX2.out).ext (Ext.alloc _ (.cells #[] 3)))
    have HF := Lib.hid (show (bestF S B G k S []).2 = asgF S B G k from rfl)
    go_wp2_with (first
     | (go_at_call 33; refine (s_l19Best HM.out (show k < 32 by omega) S 0 0 rfl (by omega) _ a n cap _ 0 0 [] HIr.out (OwnI.made' wr 0 _ rfl (by omega)).ints (by simp)).mono ?_; rw [HF.out]; rintro e w4 ⟨⟨v4, rfl, ho4⟩, hx4⟩; have X4 := Lib.hid ((Ext.alloc wr (.cells #[] 3)).trans hx4); have HO4 := Lib.hid (HO.out.ext X4.out); have HB4 := Lib.hid ((X4.out.block _ hsz).trans HB.out); have hg1 := two_cell1 HB4.out; have hsz4 := lt_of_block HB4.out; clear ho4 hx4)
     | (at_builtin; refine append_ints rfl _ _ rfl (w1.heap.size + 1) (.slice a1 n1 p1) _ rfl (HO4.out.ext (Ext.alloc _ _)) _ 1 _ [asgF S B G k] rfl (Ints.one' _ _ _ _ rfl) (by rw [rowF_len]; omega) (by simp; omega) ?_; intro v3 w5 ho3 hg3 hn3; obtain ⟨a3, n3, c3, rfl, HN3⟩ := ho3.var; have HO3 := Lib.hid ho3; have HX3 := Lib.hid (ext_grown ((HX2.out.trans X4.out).trans (Ext.alloc _ _)) hg3 (fun j hj => by have := (HO4.out.lt j hj).1; omega)); have HB3 := Lib.hid ((hg3.block _ (by simp; omega) (fun e => by have := (HO4.out.lt _ e.symm).1; omega)).trans (((Ext.alloc w4 _).block _ hsz4).trans HB4.out)); have cg3 := two_cell1 HB3.out; have fg3 := frozen_of_row w5 w1.heap.size 1 _ _ HB3.out; clear ho3 hg3 hn3))
    go_roundw
    case rel =>
     refine ⟨k + 1, a3, n3, c3, by omega, by go_num, Lib.hid ?_, Lib.hid (two_set HB3.out), Lib.hid (HX3.out.setCell (by simp) _)⟩
     rw [rowF_succ]
     exact HO3.out.keep fun j hj => heap_setCell_other _ _ _ _ (by have := (HO3.out.lt j hj).1; simp; omega)
    case measure => simp [intOf]; omega
   ·have hkn : k = cN (S + B) := by omega
    subst hkn
    have hg0 := two_cell0 HB.out
    have hg1 := two_cell1 HB.out
    have r0 : wr.cell? ⟨w.heap.size + 1, 0, none⟩ = some (.int .i64 0) := (HX1.out.trans HX2.out).cellSome (by simp)
    have r1 : wr.cell? ⟨w.heap.size + 1, 1, none⟩ = some (.slice none 0 0) := (HX1.out.trans HX2.out).cellSome (by simp)
    have f0 : wr.frozen? ⟨w.heap.size + 1, 0, none⟩ = false := ((HX1.out.trans HX2.out).frozens _ _ (by simp)).trans (by simp)
    have f1 : wr.frozen? ⟨w.heap.size + 1, 1, none⟩ = false := ((HX1.out.trans HX2.out).frozens _ _ (by simp)).trans (by simp)
    go_wp2
    have hp : asgP (S : Int) (B : Int) G = S + B := by unfold asgP; rw [HVV.out, if_pos rfl]; omega
    have hl : asgL (S : Int) (B : Int) G = rowF (asgF S B G) (cN (S + B)) := by
     unfold asgL; rw [HVV.out, if_pos rfl]
     have e : ((S : Int) + (B : Int)).toNat = S + B := by omega
     rw [e]; rfl
    rw [hp, hl]
    refine bodyPost_ret (v := .tuple #[.agg #[.int .i64 ((S : Int) + (B : Int)), .slice a1 n1 p1], .bool true]) (by simp [results, Tryd.results14, go_sem, r0, r1]) rfl ⟨⟨.slice a1 n1 p1, by simp, ?_⟩, ?_⟩
    ·refine HO.out.mono (by omega) |>.keep fun j hj => ?_
     have := (HO.out.lt j hj).1
     rw [heap_setCell_other _ _ _ _ (by simp; omega), heap_setCell_other _ _ _ _ (by simp; omega)]
    ·exact ((HX.out.trans (HX1.out.trans HX2.out)).setCell (by simp) _).setCell (by simp) _
def popE (s : Nat) (k : Nat) : Nat := (List.range k).countP fun j => bit (s : Int) j
theorem popE_succ (s k : Nat) : popE s (k + 1) = popE s k + if bit (s : Int) k then 1 else 0 := by
 unfold popE
 rw [List.range_succ, List.countP_append]
 simp [List.countP_cons]
theorem popE_le (s k : Nat) : popE s k ≤ k := by unfold popE; exact Nat.le_trans List.countP_le_length (by simp)
set_option maxHeartbeats 4000000 in
theorem s_SizeOfE (s : Nat) (hs : s < 4294967296) (w : World) : Calls Tryd.prog 31 #[.int .i64 (s : Int)] w fun e w' => e = .returned (.int .i64 (popE s 5 : Int)) ∧ w = w' := by
 go_enter Tryd.func31, Tryd.ntmps31
 go_wp2_with fail
 go_loop [3, 4] (fun nn kk => ∃ k : Nat, k ≤ 5 ∧ kk = .int .i64 (k : Int) ∧ nn = .int .i64 (popE s k : Int)) (fun _ kk => 5 - (intOf kk).toNat)
 case atStart => exact ⟨0, by omega, rfl, rfl⟩
 case round =>
  obtain ⟨k, hk, rfl, rfl⟩ := hrel
  have hple := popE_le s k
  by_cases hlt : k < 5
  ·have HP := Lib.hid (s_HasPlayer (s : Int) (k : Int) w (by omega))
   have HB := Lib.hid (hasP_bit (s : Int) k (by omega) (by omega))
   have HS := Lib.hid (popE_succ s k)
   cases hb : bit (s : Int) k
   all_goals
    rw [HB.out, hb] at HP
    rw [hb] at HS
    clear hb
    go_wp2_with fail
    refine HP.out.mono ?_
    rintro e w' ⟨rfl, rfl⟩
    go_wp2_with fail
    go_round
    case rel => exact ⟨k + 1, by omega, by go_num, by rw [HS.out]; go_num⟩
    case measure => simp [intOf]; omega
  ·have hk5 : k = 5 := by omega
   subst hk5
   go_wp2_with fail
   go_ret
   exact ⟨rfl, rfl⟩
set_option maxHeartbeats 4000000 in
theorem i_SizeOfE (s : Nat) (hs : s < 4294967296) (w : World) : Calls Tryd.prog 19 #[.int .i64 (s : Int)] w fun e w' => e = .returned (.int .i64 (popE s 5 : Int)) ∧ w = w' := by
 go_enter Tryd.func19, Tryd.ntmps19
 go_wp2_with fail
 go_loop [3, 5] (fun nn kk => ∃ k : Nat, k ≤ 5 ∧ kk = .int .i64 (k : Int) ∧ nn = .int .i64 (popE s k : Int)) (fun _ kk => 5 - (intOf kk).toNat)
 case atStart => exact ⟨0, by omega, rfl, rfl⟩
 case round =>
  obtain ⟨k, hk, rfl, rfl⟩ := hrel
  have hple := popE_le s k
  by_cases hlt : k < 5
  ·have HP := Lib.hid (i_HasPlayer (s : Int) (k : Int) w (by omega))
   have HB := Lib.hid (hasP_bit (s : Int) k (by omega) (by omega))
   have HS := Lib.hid (popE_succ s k)
   cases hb : bit (s : Int) k
   all_goals
    rw [HB.out, hb] at HP
    rw [hb] at HS
    clear hb
    go_wp2_with fail
    refine HP.out.mono ?_
    rintro e w' ⟨rfl, rfl⟩
    go_wp2_with fail
    go_round
    case rel => exact ⟨k + 1, by omega, by go_num, by rw [HS.out]; go_num⟩
    case measure => simp [intOf]; omega
  ·have hk5 : k = 5 := by omega
   subst hk5
   go_wp2_with fail
   go_ret
   exact ⟨rfl, rfl⟩
theorem Ints.oneE (w : World) (x : Int) (t : TypeId) (n : Nat) (hn : n = w.heap.size) : Ints (w.alloc (.cells #[.int .i64 x] t)) (some ⟨n, 0, none⟩) 1 1 [x] := by subst hn; exact Ints.one _ _ _
theorem blkE {w w' : World} {g : Nat} {o : Obj} (hx : Ext w w') (h : w.heap[g]? = some o) : w'.heap[g]? = some o := (hx.block _ (lt_of_block h)).trans h
def sizeF (l : List Int) (s : Nat) : Int := l[popE s 5]?.getD 0
set_option maxHeartbeats 8000000 in
theorem s_l21Sizes {w : World} {n : Nat} {a : Option Addr} {m cap : Nat} {l : List Int} (h : Ints w a m cap l) (hn : n ≤ 5) (hm : ∀ s, s < cN n → popE s 5 < m) :
 Calls Tryd.prog 13 #[.int .i64 (n : Int), .slice a m cap] w fun e w' => (∃ v, e = .returned (.agg #[.int .i64 (n : Int), v]) ∧ OwnI w' w.heap.size v (rowF (sizeF l) (cN n))) ∧ Ext w w' := by
 obtain ⟨W, hW⟩ : ∃ W, W = (w.alloc (.cells #[.int .i64 0, .slice none 0 0] 27)).alloc (.cells #[.int .i64 (n : Int), .slice none 0 0] 27) := ⟨_, rfl⟩
 have hws : W.heap.size = w.heap.size + 2 := by rw [hW]; simp
 have HX0 := Lib.hid (show Ext w W by rw [hW]; exact (Ext.alloc _ _).trans (Ext.alloc _ _))
 have HGB := Lib.hid (show W.heap[w.heap.size + 1]? = some (.cells #[.int .i64 (n : Int), .slice none 0 0] 27 (0, 0)) by rw [hW]; exact heapA_new _ _ _ (by simp))
 have HRB := Lib.hid (show W.heap[w.heap.size]? = some (.cells #[.int .i64 0, .slice none 0 0] 27 (0, 0)) by rw [hW, heapA_old _ _ _ (by simp)]; exact heapA_new _ _ _ rfl)
 have HI := Lib.hid h
 have hcap := h.hcap
 have hmax := h.hmax
 have HM := Lib.hid hm
 have HCC := Lib.hid (fun w' => s_CountCoalitions (n : Int) w')
 rw [cntC_nat n hn] at HCC
 have hcN := cN_le n hn
 obtain ⟨N, hN⟩ : ∃ N, N = cN n := ⟨_, rfl⟩
 rw [← hN] at HCC hcN HM
 rw [← hN]
 clear h hm hN
 go_enter Tryd.func13, Tryd.ntmps13
 go_upto_region 2 with fail
 rw [← hW]
 clear hW
 go_wp2_with fail
 go_loopg [6] N (fun gk ss wr => ∃ (k : Nat) (a1 : Option Addr) (n1 c1 : Nat), Hid (gk + k = N) ∧ ss = .int .i64 (k : Int) ∧ Hid (wr.heap[w.heap.size + 1]? = some (.cells #[.int .i64 (n : Int), .slice a1 n1 c1] 27 (0, 0))) ∧ Hid (wr.heap[w.heap.size]? = some (.cells #[.int .i64 0, .slice none 0 0] 27 (0, 0))) ∧ Hid (OwnI wr (w.heap.size + 2) (.slice a1 n1 c1) (rowF (sizeF l) k)) ∧ Hid (Ext w wr) ∧ Hid (w.heap.size + 2 ≤ wr.heap.size))
 case atStart => exact ⟨0, _, _, _, Lib.hid (by omega), rfl, HGB, HRB, Lib.hid (OwnI.nil _ _), HX0, Lib.hid (by omega)⟩
 clear HGB HRB HX0
 case round =>
  obtain ⟨g1, h_g1⟩ : ∃ x, x = gk := ⟨_, rfl⟩
  subst h_g1
  obtain ⟨wr, h_wr⟩ : ∃ x, x = wr := ⟨_, rfl⟩
  subst h_wr
  obtain ⟨k, a1, n1, c1, HK, rfl, HG, HR, HO, HX, HZ⟩ := hrel
  have hz := HZ.out
  have c0 := two_cell0 HG.out
  have c1' := two_cell1 HG.out
  go_wp2_with fail
  refine (HCC.out _).mono ?_
  rintro e w1 ⟨rfl, rfl⟩
  by_cases hlt : k < N
  ·have hpm := HM.out k hlt
   obtain ⟨b, off, rfl, hc⟩ := (HI.out.ext HX.out).at hpm
   obtain ⟨pk, hpk⟩ : ∃ p, p = popE k 5 := ⟨_, rfl⟩
   have HS := Lib.hid (fun w' => s_SizeOfE k (by omega) w')
   have HF := Lib.hid (show rowF (sizeF l) (k + 1) = rowF (sizeF l) k ++ [l[pk]?.getD 0] by rw [rowF_succ, hpk]; rfl)
   simp only [← hpk] at HS
   rw [← hpk] at hc hpm
   obtain ⟨y, hy⟩ : ∃ y, y = l[pk]?.getD 0 := ⟨_, rfl⟩
   rw [← hy] at hc HF
   have HLN := Lib.hid (rowF_len (sizeF l) k)
   have hpi : (pk : Int) < (m : Int) := by omega
   have hp0 : (0 : Int) ≤ (pk : Int) := by omega
   have HD := Lib.hid (show l[pk]?.getD 0 = y from hy.symm)
   have HCW := Lib.hid (fun (w' : World) (hx : Ext w w') => (show w'.cell? ⟨b, off + pk, none⟩ = some (.int .i64 y) by
    obtain ⟨b', off', he, hc'⟩ := (HI.out.ext hx).at hpm
    simp only [Option.some.injEq, Addr.mk.injEq, and_true] at he
    obtain ⟨rfl, rfl⟩ := he
    rw [hc', HD.out]))
   have hk2 : Ext wr wr.drew := Ext.drew wr
   have HOd := Lib.hid (HO.out.ext hk2)
   have HGd := Lib.hid (blkE hk2 HG.out)
   have HRd := Lib.hid (blkE hk2 HR.out)
   have HXd := Lib.hid (HX.out.trans hk2)
   clear hpk hy hc c0
   go_wp2_with fail
   refine late_begin (M := [10]) (S := fun w' => w'.cell? ⟨w.heap.size + 1, 1, none⟩ = some (.slice a1 n1 c1) ∧ w'.cell? ⟨b, off + pk, none⟩ = some (.int .i64 y)) (by kernel_rfl) ?_
   have hHeld := And.intro (two_cell1 HGd.out) (HCW.out _ HXd.out)
   obtain ⟨wd, hwd⟩ : ∃ y, y = wr.drew := ⟨_, rfl⟩
   have hzd : w.heap.size + 2 ≤ wd.heap.size := by rw [hwd]; exact hz
   rw [← hwd] at hHeld HOd HGd HRd HXd
   rw [← hwd]
   clear hwd hk2
   refine lp 0 ?_
   refine ll 1 ?_
   refine lp 2 ?_
   refine lp 3 ?_
   refine late_step (i := 4) (oi := ?_) ?_ ?_ ?_ (fun K hK => ?_)
   rotate_left
   ·simp only [gA, gB, gC]; rfl
   ·kernel_rfl
   ·kernel_rfl
   go_simp
   go_at_call 31
   refine (HS.out _).mono ?_
   rintro e w8 ⟨rfl, rfl⟩
   go_wp2_with fail
   refine hK.out _ _ (fun _ => And.intro (two_cell1 HGd.out) (HCW.out _ HXd.out)) ?_
   have hHeld := And.intro (two_cell1 HGd.out) (HCW.out _ HXd.out)
   clear hK K
   try simp only [Act.put, sA, sB, sC]
   refine lp 5 ?_
   refine ll 6 ?_
   refine late_step (i := 7) (oi := ?_) ?_ ?_ ?_ (fun K hK => ?_)
   rotate_left
   ·simp only [gA, gB, gC]; rfl
   ·kernel_rfl
   ·kernel_rfl
   go_simp
   refine hK.out _ _ (fun _ => And.intro (two_cell1 (blkE (Ext.alloc _ _) HGd.out)) (HCW.out _ (HXd.out.trans (Ext.alloc _ _)))) ?_
   clear hK K
   try simp only [Act.put, sA, sB, sC]
   refine late_step (i := 8) (oi := ?_) ?_ ?_ ?_ (fun K hK => ?_)
   rotate_left
   ·simp only [gA, gB, gC]; rfl
   ·kernel_rfl
   ·kernel_rfl
   refine wp_append_ints _ _ (by rfl) (w.heap.size + 2) (.slice a1 n1 c1) _ (by rfl) (HOd.out.ext (Ext.alloc _ _)) _ 1 _ [y] (by rfl) (Ints.oneE _ _ _ _ (by simp)) (by rw [HLN.out]; omega) (by simp; omega) ?_
   intro v9 w9 ho hg9 hnear
   obtain ⟨a9, n9, c9, rfl, HN9⟩ := ho.var
   have HO9 := Lib.hid ho
   have HG9 := Lib.hid ((hg9.block (w.heap.size + 1) (lt_of_block (blkE (Ext.alloc _ _) HGd.out)) (fun e => by have := (HOd.out.lt _ e.symm).1; omega)).trans (blkE (Ext.alloc _ _) HGd.out))
   have HR9 := Lib.hid ((hg9.block w.heap.size (lt_of_block (blkE (Ext.alloc _ _) HRd.out)) (fun e => by have := (HOd.out.lt _ e.symm).1; omega)).trans (blkE (Ext.alloc _ _) HRd.out))
   have HX9 := Lib.hid (ext_grown (HXd.out.trans (Ext.alloc _ _)) hg9 (fun j hj => by have := (HOd.out.lt j hj).1; omega))
   have hz9 := hg9.size
   rw [World.size_alloc] at hz9
   have cf9 := frozen_of_row w9 (w.heap.size + 1) 1 _ _ HG9.out
   have c19 := two_cell1 HG9.out
   clear ho hg9 hnear
   refine hK.out _ _ (fun _ => And.intro c19 (HCW.out _ HX9.out)) ?_
   have hHeld := And.intro c19 (HCW.out _ HX9.out)
   clear hK K
   try simp only [Act.put, sA, sB, sC]
   refine lp 9 ?_
   refine late_one (i := 10) (oi := ?_) (w' := ?_) ?_ ?_ ?_ ?_ ?_ ?_ ?_
   rotate_left 2
   ·simp only [gA, gB, gC]; rfl
   ·kernel_rfl
   ·kernel_rfl
   ·exact of_decide_eq_true (by kernel_rfl)
   ·rfl
   ·go_simp; (try with_reducible rfl)
   try simp only [Act.put, sA, sB, sC]
   refine late_done (by kernel_rfl) ?_ _
   obtain ⟨wz, hwz⟩ : ∃ x, x = w9.setCell ⟨w.heap.size + 1, 1, none⟩ (.slice a9 n9 c9) := ⟨_, rfl⟩
   have HG10 := Lib.hid (show wz.heap[w.heap.size + 1]? = some (.cells #[.int .i64 (n : Int), .slice a9 n9 c9] 27 (0, 0)) by rw [hwz]; exact heap_setCell_same w9 _ 1 _ _ _ HG9.out)
   have HR10 := Lib.hid (show wz.heap[w.heap.size]? = some (.cells #[.int .i64 0, .slice none 0 0] 27 (0, 0)) by rw [hwz]; exact (heap_setCell_other _ _ _ _ (by show w.heap.size ≠ w.heap.size + 1; omega)).trans HR9.out)
   have HO10 := Lib.hid (show OwnI wz (w.heap.size + 2) (.slice a9 n9 c9) (rowF (sizeF l) (k + 1)) by
    rw [hwz, HF.out]; exact HO9.out.keep fun j hj => heap_setCell_other _ _ _ _ (by have := (HO9.out.lt j hj).1; show j ≠ w.heap.size + 1; omega))
   have HX10 := Lib.hid (show Ext w wz by rw [hwz]; exact HX9.out.setCell (p := ⟨w.heap.size + 1, 1, none⟩) (Nat.le_succ _) _)
   have hz10 : w.heap.size + 2 ≤ wz.heap.size := by rw [hwz]; simp; omega
   rw [← hwz]
   clear hwz cf9 c19 hHeld
   go_wp2_with fail
   go_roundg (g1 - 1)
   case measure => have := HK.out; omega
   case rel => exact ⟨k + 1, _, _, _, Lib.hid (by have := HK.out; omega), by go_num, HG10, HR10, HO10, HX10, Lib.hid hz10⟩
  ·have hkN : N = k := by have := HK.out; omega
   subst hkN
   have r0 := two_cell0 HR.out
   have r1 := two_cell1 HR.out
   have rf := fun j => frozen_of_row wr w.heap.size j _ _ HR.out
   obtain ⟨wz, hwz⟩ : ∃ x, x = (wr.setCell ⟨w.heap.size, 0, none⟩ (.int .i64 (n : Int))).setCell ⟨w.heap.size, 1, none⟩ (.slice a1 n1 c1) := ⟨_, rfl⟩
   have HO10 := Lib.hid (show OwnI wz (w.heap.size + 2) (.slice a1 n1 c1) (rowF (sizeF l) N) by
    rw [hwz]; exact HO.out.keep fun j hj => (heap_setCell_other _ _ _ _ (by have := (HO.out.lt j hj).1; show j ≠ w.heap.size; omega)).trans (heap_setCell_other _ _ _ _ (by have := (HO.out.lt j hj).1; show j ≠ w.heap.size; omega)))
   have HX10 := Lib.hid (show Ext w wz by rw [hwz]; exact (HX.out.setCell (p := ⟨w.heap.size, 0, none⟩) (Nat.le_refl _) _).setCell (p := ⟨w.heap.size, 1, none⟩) (Nat.le_refl _) _)
   have HR10 := Lib.hid (show wz.heap[w.heap.size]? = some (.cells #[.int .i64 (n : Int), .slice a1 n1 c1] 27 (0, 0)) by rw [hwz]; exact heap_setCell_same _ _ 1 _ _ _ (heap_setCell_same wr _ 0 _ _ _ HR.out))
   have z0 := two_cell0 HR10.out
   have z1 := two_cell1 HR10.out
   rw [hwz] at z0 z1
   go_wp2_with fail
   rw [hwz] at HO10 HX10
   refine bodyPost_ret (v := .agg #[.int .i64 (n : Int), .slice a1 n1 c1]) (by simp [results, Tryd.results13, go_sem, z0, z1]) rfl ⟨⟨_, rfl, HO10.out.mono (by omega)⟩, HX10.out⟩
def ex1F (s : Nat) : Int := if 2 ≤ popE s 5 then 6 else 0
def ex5F (s : Nat) : Int := 10 * (popE s 5 : Int) * (popE s 5 : Int)
theorem go_example1 : IsGo Tryd.prog 18 := isGo Tryd.func18 (by kernel_rfl) (by kernel_rfl)
theorem go_example2 : IsGo Tryd.prog 23 := isGo Tryd.func23 (by kernel_rfl) (by kernel_rfl)
theorem i_example1 (s : Nat) (hs : s < 32) (w : World) : Calls Tryd.prog 18 #[.int .i64 (s : Int)] w fun e w' => e = .returned (.int .i64 (ex1F s)) ∧ Ext w w' := by
 have HS := Lib.hid (i_SizeOfE s (by omega) w)
 obtain ⟨p, hp⟩ : ∃ p, p = popE s 5 := ⟨_, rfl⟩
 rw [← hp] at HS
 by_cases h2 : 2 ≤ p
 ·have HF := Lib.hid (show ex1F s = 6 by unfold ex1F; rw [← hp, if_pos h2])
  have hi : (2 : Int) ≤ (p : Int) := by omega
  clear hp h2
  go_enter Tryd.func18, Tryd.ntmps18
  go_wp2_with fail
  refine HS.out.mono ?_
  rintro e w' ⟨rfl, rfl⟩
  go_wp2_with fail
  go_ret
  exact ⟨ret_int HF.out.symm, Ext.refl _⟩
 ·have HF := Lib.hid (show ex1F s = 0 by unfold ex1F; rw [← hp, if_neg h2])
  have hi : ¬ (2 : Int) ≤ (p : Int) := by omega
  clear hp h2
  go_enter Tryd.func18, Tryd.ntmps18
  go_wp2_with fail
  refine HS.out.mono ?_
  rintro e w' ⟨rfl, rfl⟩
  go_wp2_with fail
  go_ret
  exact ⟨ret_int HF.out.symm, Ext.refl _⟩
theorem i_example2 (s : Nat) (hs : s < 32) (w : World) : Calls Tryd.prog 23 #[.int .i64 (s : Int)] w fun e w' => e = .returned (.int .i64 (ex5F s)) ∧ Ext w w' := by
 have HS := Lib.hid (fun w => i_SizeOfE s (by omega) w)
 have hpl := popE_le s 5
 have HF := Lib.hid (show ex5F s = 10 * (popE s 5 : Int) * (popE s 5 : Int) from rfl)
 obtain ⟨p, hp⟩ : ∃ p, p = popE s 5 := ⟨_, rfl⟩
 simp only [← hp] at HS HF hpl
 clear hp
 have hb : 10 * (p : Int) * (p : Int) ≤ 250 := by
  have : p * p ≤ 5 * 5 := Nat.mul_le_mul hpl hpl
  have h2 : ((p * p : Nat) : Int) ≤ 25 := by omega
  rw [Int.mul_assoc, ← Int.natCast_mul]; omega
 have hb0 : 0 ≤ 10 * (p : Int) * (p : Int) := by
  rw [Int.mul_assoc, ← Int.natCast_mul]; omega
 have hw1 : IntKind.i64.wrap (10 * (p : Int)) = 10 * (p : Int) := by rw [IntKind.wrap_i64]; omega
 have hw2 : IntKind.i64.wrap (10 * (p : Int) * (p : Int)) = 10 * (p : Int) * (p : Int) := by rw [IntKind.wrap_i64]; omega
 go_enter Tryd.func23, Tryd.ntmps23
 go_wp2_with fail
 refine (HS.out _).mono ?_
 rintro e w' ⟨rfl, rfl⟩
 go_wp2_with fail
 refine (HS.out _).mono ?_
 rintro e w' ⟨rfl, rfl⟩
 go_wp2_with fail
 go_ret
 exact ⟨ret_int HF.out.symm, Ext.refl _⟩
def exP (k : Int) : Nat := if k = 1 then 3 else if k = 2 then asgP 2 2 [[5, 8], [3, 5]] else if k = 3 then bankP 200 [100, 100, 100] else if k = 4 then voteP 4 [3, 2, 1, 1] else if k = 5 then 4 else 0
def exL (k : Int) : List Int := if k = 1 then rowF ex1F (cN 3) else if k = 2 then asgL 2 2 [[5, 8], [3, 5]] else if k = 3 then bankL 200 [100, 100, 100] else if k = 4 then voteL 4 [3, 2, 1, 1] else if k = 5 then rowF ex5F (cN 4) else []
theorem ex1_same : rowF (sizeF [0, 0, 6, 6]) (cN 3) = rowF ex1F (cN 3) := by decide
theorem ex5_same : rowF (sizeF [0, 10, 40, 90, 160]) (cN 4) = rowF ex5F (cN 4) := by decide
theorem ex_small : ∀ k : Int, ∀ x ∈ exL k, 0 ≤ x ∧ x ≤ 1000000 := by
 have h1 : ∀ x ∈ rowF ex1F (cN 3), 0 ≤ x ∧ x ≤ 1000000 := by decide
 have h2 : ∀ x ∈ asgL 2 2 [[5, 8], [3, 5]], 0 ≤ x ∧ x ≤ 1000000 := by decide
 have h3 : ∀ x ∈ bankL 200 [100, 100, 100], 0 ≤ x ∧ x ≤ 1000000 := fun x hx => by
  have h : (bankL 200 [100, 100, 100]).all (fun x => decide (0 ≤ x ∧ x ≤ 1000000)) = true := by kernel_rfl
  simpa using List.all_eq_true.1 h x hx
 have h4 : ∀ x ∈ voteL 4 [3, 2, 1, 1], 0 ≤ x ∧ x ≤ 1000000 := fun x hx => by
  have h : (voteL 4 [3, 2, 1, 1]).all (fun x => decide (0 ≤ x ∧ x ≤ 1000000)) = true := by kernel_rfl
  simpa using List.all_eq_true.1 h x hx
 have h5 : ∀ x ∈ rowF ex5F (cN 4), 0 ≤ x ∧ x ≤ 1000000 := by decide
 intro k
 unfold exL
 split
 ·exact h1
 ·split
  ·exact h2
  ·split
   ·exact h3
   ·split
    ·exact h4
    ·split
     ·exact h5
     ·intro x hx; cases hx
theorem ex_at (k : Int) (j : Nat) : 0 ≤ (exL k)[j]?.getD 0 ∧ (exL k)[j]?.getD 0 ≤ 1000000 := by
 by_cases hj : j < (exL k).length
 ·rw [List.getElem?_eq_getElem hj, Option.getD_some]; exact ex_small k _ (List.getElem_mem hj)
 ·rw [List.getElem?_eq_none (by omega)]; decide
theorem Ints.litE (w : World) (l : List Int) (t : TypeId) (hl : l.length ≤ 100) (c : Array Value) (hc : c = (l.map (Value.int .i64)).toArray) : Ints (w.alloc (.cells c t)) (some ⟨w.heap.size, 0, none⟩) l.length l.length l := by
 subst hc
 refine ⟨rfl, Nat.le_refl _, by omega, fun k hk => ⟨_, 0, rfl, fun k hk => ?_⟩⟩
 rw [cell_of_row _ w.heap.size _ _ _ _ (heap_alloc_new w _)]
 simp [hk]
theorem ssLit {w : World} {t t' : TypeId} : IntSS (((w.alloc (.cells #[.int .i64 5, .int .i64 8] t)).alloc (.cells #[.int .i64 3, .int .i64 5] t)).alloc (.cells #[.slice (some ⟨w.heap.size, 0, none⟩) 2 2, .slice (some ⟨w.heap.size + 1, 0, none⟩) 2 2] t')) (some ⟨w.heap.size + 1 + 1, 0, none⟩) 2 2 [[5, 8], [3, 5]] := by
 have h1 : Ints (w.alloc (.cells #[.int .i64 5, .int .i64 8] t)) (some ⟨w.heap.size, 0, none⟩) 2 2 [5, 8] := Ints.litE w [5, 8] t (by decide) _ rfl
 have h2 : Ints ((w.alloc (.cells #[.int .i64 5, .int .i64 8] t)).alloc (.cells #[.int .i64 3, .int .i64 5] t)) (some ⟨w.heap.size + 1, 0, none⟩) 2 2 [3, 5] := by
  have := Ints.litE (w.alloc (.cells #[.int .i64 5, .int .i64 8] t)) [3, 5] t (by decide) _ rfl
  rw [World.size_alloc] at this
  exact this
 refine ⟨rfl, Nat.le_refl _, by omega, fun k hk => ⟨_, 0, rfl, fun k hk => ?_⟩⟩
 have hk2 : k = 0 ∨ k = 1 := by omega
 rcases hk2 with rfl | rfl
 ·exact ⟨_, _, _, by rw [cell_of_row _ (w.heap.size + 1 + 1) _ _ _ _ (heapA_new _ _ _ (by simp))]; rfl, (h1.ext (Ext.alloc _ _)).ext (Ext.alloc _ _)⟩
 ·exact ⟨_, _, _, by rw [cell_of_row _ (w.heap.size + 1 + 1) _ _ _ _ (heapA_new _ _ _ (by simp))]; rfl, h2.ext (Ext.alloc _ _)⟩
def ExR (w : World) (base : Nat) (e : Ending) (k : Int) : Prop := ∃ v ok, e = .returned (.tuple #[.agg #[.int .i64 (exP k : Int), v], .bool ok]) ∧ OwnI w base v (exL k)
theorem ExR.of {w : World} {base : Nat} {k : Int} {a : Option Addr} {n c p : Nat} {ok : Bool} {L : List Int} (hp : exP k = p) (hl : exL k = L) (ho : OwnI w base (.slice a n c) L) : ExR w base (.returned (.tuple #[.agg #[.int .i64 (p : Int), .slice a n c], .bool ok])) k := by
 subst hp
 subst hl
 exact ⟨_, _, rfl, ho⟩
theorem fill2 {w W : World} {b : Nat} {x : Int} {a : Option Addr} {n c : Nat} {L : List Int} {x0 x1 : Value} {t : TypeId} (hb : W.heap[b]? = some (.cells #[x0, x1] t (0, 0))) (hX : Ext w W) (hbw : w.heap.size ≤ b) (ho : OwnI W (b + 1) (.slice a n c) L) :
 ((W.setCell ⟨b, 0, none⟩ (.int .i64 x)).setCell ⟨b, 1, none⟩ (.slice a n c)).cell? ⟨b, 0, none⟩ = some (.int .i64 x) ∧ ((W.setCell ⟨b, 0, none⟩ (.int .i64 x)).setCell ⟨b, 1, none⟩ (.slice a n c)).cell? ⟨b, 1, none⟩ = some (.slice a n c) ∧
   Ext w ((W.setCell ⟨b, 0, none⟩ (.int .i64 x)).setCell ⟨b, 1, none⟩ (.slice a n c)) ∧ OwnI ((W.setCell ⟨b, 0, none⟩ (.int .i64 x)).setCell ⟨b, 1, none⟩ (.slice a n c)) (b + 1) (.slice a n c) L := by
 have h1 := heap_setCell_same _ _ 1 _ _ (.slice a n c) (heap_setCell_same W b 0 _ _ (.int .i64 x) hb)
 exact ⟨two_cell0 h1, two_cell1 h1, (hX.setCell (p := ⟨b, 0, none⟩) hbw _).setCell (p := ⟨b, 1, none⟩) hbw _, ho.keep fun j hj => (heap_setCell_other _ _ _ _ (by have := (ho.lt j hj).1; show j ≠ b; omega)).trans (heap_setCell_other _ _ _ _ (by have := (ho.lt j hj).1; show j ≠ b; omega))⟩
set_option maxHeartbeats 8000000 in
theorem i_example {w : World} (k : Int) : Calls Tryd.prog 8 #[.int .i64 k] w fun e w' => ExR w' w.heap.size e k ∧ Ext w w' := by
 obtain ⟨W, hW⟩ : ∃ W, W = w.alloc (.cells #[.int .i64 0, .slice none 0 0] 27) := ⟨_, rfl⟩
 have HWS := Lib.hid (show W.heap.size = w.heap.size + 1 by rw [hW]; simp)
 have HX0 := Lib.hid (show Ext w W by rw [hW]; exact Ext.alloc _ _)
 have HRB := Lib.hid (show W.heap[w.heap.size]? = some (.cells #[.int .i64 0, .slice none 0 0] 27 (0, 0)) by rw [hW]; exact heapA_new _ _ _ rfl)
 by_cases h1 : k = 1
 ·subst h1
  have HM := Lib.hid (show Calls Tryd.prog 17 #[.int .i64 3, .func (.func 18) #[] #[]] W fun e w' => GameV w' W.heap.size e 3 (rowF ex1F (cN 3)) true ∧ Ext W w' from
   i_made (n := 3) (by omega) (by omega) go_example1 (fun s w1 hs hx => by simpa using i_example1 s (by have := (cN_le 3 (by omega)).2; omega) w1) (by decide) (by decide))
  have HF := Lib.hid (show exP 1 = 3 ∧ exL 1 = rowF ex1F (cN 3) from ⟨rfl, rfl⟩)
  have HC := Lib.hid (show Ext W W from Ext.refl W)
  go_enter Tryd.func8, Tryd.ntmps8
  go_upto_region 1 with fail
  rw [← hW]
  clear hW
  go_wp2_with fail
  refine HM.out.mono ?_
  rintro e w1 ⟨⟨v, rfl, ho⟩, hx⟩
  obtain ⟨a1, n1, c1, rfl, HN⟩ := ho.var
  have hXc := HC.out.trans hx
  have hrb := blkE hXc HRB.out
  have hsc := HC.out.size
  have hws := HWS.out
  have HFL := Lib.hid (fill2 (x := 3) hrb (HX0.out.trans hXc) (Nat.le_refl _) (ho.mono (by omega)))
  have r0 := two_cell0 hrb
  have r1 := two_cell1 hrb
  have rf := fun j => frozen_of_row w1 w.heap.size j _ _ hrb
  obtain ⟨f0, f1, fx, fo⟩ := HFL.out
  have FX := Lib.hid fx
  have FO := Lib.hid (fo.mono (Nat.le_succ _))
  clear HFL fx fo hx hXc hrb ho hws
  go_wp2_with fail
  refine bodyPost_ret (v := .tuple #[.agg #[.int .i64 3, .slice a1 n1 c1], .bool true]) (by simp [results, Tryd.results8, go_sem, f0, f1]) rfl ⟨ExR.of (p := 3) HF.out.1 HF.out.2 FO.out, FX.out⟩
 by_cases h2 : k = 2
 ·subst h2
  have HM := Lib.hid (show Calls Tryd.prog 20 #[triple 2 2 (some ⟨W.heap.size + 1 + 1, 0, none⟩) 2 2] (((W.alloc (.cells #[.int .i64 5, .int .i64 8] 3)).alloc (.cells #[.int .i64 3, .int .i64 5] 3)).alloc (.cells #[.slice (some ⟨W.heap.size, 0, none⟩) 2 2, .slice (some ⟨W.heap.size + 1, 0, none⟩) 2 2] 25)) fun e w' => GameV w' (((W.alloc (.cells #[.int .i64 5, .int .i64 8] 3)).alloc (.cells #[.int .i64 3, .int .i64 5] 3)).alloc (.cells #[.slice (some ⟨W.heap.size, 0, none⟩) 2 2, .slice (some ⟨W.heap.size + 1, 0, none⟩) 2 2] 25)).heap.size e (asgP 2 2 [[5, 8], [3, 5]]) (asgL 2 2 [[5, 8], [3, 5]]) (validM 2 2 [[5, 8], [3, 5]]) ∧ Ext (((W.alloc (.cells #[.int .i64 5, .int .i64 8] 3)).alloc (.cells #[.int .i64 3, .int .i64 5] 3)).alloc (.cells #[.slice (some ⟨W.heap.size, 0, none⟩) 2 2, .slice (some ⟨W.heap.size + 1, 0, none⟩) 2 2] 25)) w' from i_AssignmentGame ssLit)
  obtain ⟨pp, hpp⟩ : ∃ p, p = asgP 2 2 [[5, 8], [3, 5]] := ⟨_, rfl⟩
  obtain ⟨LL, hLL⟩ : ∃ p, p = asgL 2 2 [[5, 8], [3, 5]] := ⟨_, rfl⟩
  obtain ⟨ok, hok⟩ : ∃ p, p = validM 2 2 [[5, 8], [3, 5]] := ⟨_, rfl⟩
  rw [← hpp, ← hLL, ← hok] at HM
  have HF := Lib.hid (show exP 2 = pp ∧ exL 2 = LL from ⟨hpp.symm, hLL.symm⟩)
  clear hpp hLL hok
  have HC := Lib.hid (show Ext W (((W.alloc (.cells #[.int .i64 5, .int .i64 8] 3)).alloc (.cells #[.int .i64 3, .int .i64 5] 3)).alloc (.cells #[.slice (some ⟨W.heap.size, 0, none⟩) 2 2, .slice (some ⟨W.heap.size + 1, 0, none⟩) 2 2] 25)) from ((((((Ext.refl W).trans (Ext.alloc _ _))).trans (Ext.alloc _ _))).trans (Ext.alloc _ _)))
  go_enter Tryd.func8, Tryd.ntmps8
  go_upto_region 1 with fail
  rw [← hW]
  clear hW
  go_wp2_with fail
  refine HM.out.mono ?_
  rintro e w1 ⟨⟨v, rfl, ho⟩, hx⟩
  obtain ⟨a1, n1, c1, rfl, HN⟩ := ho.var
  have hXc := HC.out.trans hx
  have hrb := blkE hXc HRB.out
  have hsc := HC.out.size
  have hws := HWS.out
  have HFL := Lib.hid (fill2 (x := (pp : Int)) hrb (HX0.out.trans hXc) (Nat.le_refl _) (ho.mono (by omega)))
  have r0 := two_cell0 hrb
  have r1 := two_cell1 hrb
  have rf := fun j => frozen_of_row w1 w.heap.size j _ _ hrb
  obtain ⟨f0, f1, fx, fo⟩ := HFL.out
  have FX := Lib.hid fx
  have FO := Lib.hid (fo.mono (Nat.le_succ _))
  clear HFL fx fo hx hXc hrb ho hws
  go_wp2_with fail
  refine bodyPost_ret (v := .tuple #[.agg #[.int .i64 (pp : Int), .slice a1 n1 c1], .bool ok]) (by simp [results, Tryd.results8, go_sem, f0, f1]) rfl ⟨ExR.of (p := pp) HF.out.1 HF.out.2 FO.out, FX.out⟩
 by_cases h3 : k = 3
 ·subst h3
  have HM := Lib.hid (show Calls Tryd.prog 21 #[pair 200 (some ⟨W.heap.size, 0, none⟩) 3 3] (W.alloc (.cells #[.int .i64 100, .int .i64 100, .int .i64 100] 3)) fun e w' => GameV w' (W.alloc (.cells #[.int .i64 100, .int .i64 100, .int .i64 100] 3)).heap.size e (bankP 200 [100, 100, 100]) (bankL 200 [100, 100, 100]) (validPair 0 200 [100, 100, 100]) ∧ Ext (W.alloc (.cells #[.int .i64 100, .int .i64 100, .int .i64 100] 3)) w' from i_BankruptcyGame (show Ints (W.alloc (.cells #[.int .i64 100, .int .i64 100, .int .i64 100] 3)) (some ⟨W.heap.size, 0, none⟩) 3 3 [100, 100, 100] from Ints.litE W [100, 100, 100] 3 (by decide) _ rfl))
  obtain ⟨pp, hpp⟩ : ∃ p, p = bankP 200 [100, 100, 100] := ⟨_, rfl⟩
  obtain ⟨LL, hLL⟩ : ∃ p, p = bankL 200 [100, 100, 100] := ⟨_, rfl⟩
  obtain ⟨ok, hok⟩ : ∃ p, p = validPair 0 200 [100, 100, 100] := ⟨_, rfl⟩
  rw [← hpp, ← hLL, ← hok] at HM
  have HF := Lib.hid (show exP 3 = pp ∧ exL 3 = LL from ⟨hpp.symm, hLL.symm⟩)
  clear hpp hLL hok
  have HC := Lib.hid (show Ext W (W.alloc (.cells #[.int .i64 100, .int .i64 100, .int .i64 100] 3)) from ((Ext.refl W).trans (Ext.alloc _ _)))
  go_enter Tryd.func8, Tryd.ntmps8
  go_upto_region 1 with fail
  rw [← hW]
  clear hW
  go_wp2_with fail
  refine HM.out.mono ?_
  rintro e w1 ⟨⟨v, rfl, ho⟩, hx⟩
  obtain ⟨a1, n1, c1, rfl, HN⟩ := ho.var
  have hXc := HC.out.trans hx
  have hrb := blkE hXc HRB.out
  have hsc := HC.out.size
  have hws := HWS.out
  have HFL := Lib.hid (fill2 (x := (pp : Int)) hrb (HX0.out.trans hXc) (Nat.le_refl _) (ho.mono (by omega)))
  have r0 := two_cell0 hrb
  have r1 := two_cell1 hrb
  have rf := fun j => frozen_of_row w1 w.heap.size j _ _ hrb
  obtain ⟨f0, f1, fx, fo⟩ := HFL.out
  have FX := Lib.hid fx
  have FO := Lib.hid (fo.mono (Nat.le_succ _))
  clear HFL fx fo hx hXc hrb ho hws
  go_wp2_with fail
  refine bodyPost_ret (v := .tuple #[.agg #[.int .i64 (pp : Int), .slice a1 n1 c1], .bool ok]) (by simp [results, Tryd.results8, go_sem, f0, f1]) rfl ⟨ExR.of (p := pp) HF.out.1 HF.out.2 FO.out, FX.out⟩
 by_cases h4 : k = 4
 ·subst h4
  have HM := Lib.hid (show Calls Tryd.prog 22 #[pair 4 (some ⟨W.heap.size, 0, none⟩) 4 4] (W.alloc (.cells #[.int .i64 3, .int .i64 2, .int .i64 1, .int .i64 1] 3)) fun e w' => GameV w' (W.alloc (.cells #[.int .i64 3, .int .i64 2, .int .i64 1, .int .i64 1] 3)).heap.size e (voteP 4 [3, 2, 1, 1]) (voteL 4 [3, 2, 1, 1]) (validPair 1 4 [3, 2, 1, 1]) ∧ Ext (W.alloc (.cells #[.int .i64 3, .int .i64 2, .int .i64 1, .int .i64 1] 3)) w' from i_VotingGame (show Ints (W.alloc (.cells #[.int .i64 3, .int .i64 2, .int .i64 1, .int .i64 1] 3)) (some ⟨W.heap.size, 0, none⟩) 4 4 [3, 2, 1, 1] from Ints.litE W [3, 2, 1, 1] 3 (by decide) _ rfl))
  obtain ⟨pp, hpp⟩ : ∃ p, p = voteP 4 [3, 2, 1, 1] := ⟨_, rfl⟩
  obtain ⟨LL, hLL⟩ : ∃ p, p = voteL 4 [3, 2, 1, 1] := ⟨_, rfl⟩
  obtain ⟨ok, hok⟩ : ∃ p, p = validPair 1 4 [3, 2, 1, 1] := ⟨_, rfl⟩
  rw [← hpp, ← hLL, ← hok] at HM
  have HF := Lib.hid (show exP 4 = pp ∧ exL 4 = LL from ⟨hpp.symm, hLL.symm⟩)
  clear hpp hLL hok
  have HC := Lib.hid (show Ext W (W.alloc (.cells #[.int .i64 3, .int .i64 2, .int .i64 1, .int .i64 1] 3)) from ((Ext.refl W).trans (Ext.alloc _ _)))
  go_enter Tryd.func8, Tryd.ntmps8
  go_upto_region 1 with fail
  rw [← hW]
  clear hW
  go_wp2_with fail
  refine HM.out.mono ?_
  rintro e w1 ⟨⟨v, rfl, ho⟩, hx⟩
  obtain ⟨a1, n1, c1, rfl, HN⟩ := ho.var
  have hXc := HC.out.trans hx
  have hrb := blkE hXc HRB.out
  have hsc := HC.out.size
  have hws := HWS.out
  have HFL := Lib.hid (fill2 (x := (pp : Int)) hrb (HX0.out.trans hXc) (Nat.le_refl _) (ho.mono (by omega)))
  have r0 := two_cell0 hrb
  have r1 := two_cell1 hrb
  have rf := fun j => frozen_of_row w1 w.heap.size j _ _ hrb
  obtain ⟨f0, f1, fx, fo⟩ := HFL.out
  have FX := Lib.hid fx
  have FO := Lib.hid (fo.mono (Nat.le_succ _))
  clear HFL fx fo hx hXc hrb ho hws
  go_wp2_with fail
  refine bodyPost_ret (v := .tuple #[.agg #[.int .i64 (pp : Int), .slice a1 n1 c1], .bool ok]) (by simp [results, Tryd.results8, go_sem, f0, f1]) rfl ⟨ExR.of (p := pp) HF.out.1 HF.out.2 FO.out, FX.out⟩
 by_cases h5 : k = 5
 ·subst h5
  have HM := Lib.hid (show Calls Tryd.prog 17 #[.int .i64 4, .func (.func 23) #[] #[]] W fun e w' => GameV w' W.heap.size e 4 (rowF ex5F (cN 4)) true ∧ Ext W w' from
   i_made (n := 4) (by omega) (by omega) go_example2 (fun s w1 hs hx => by simpa using i_example2 s (by have := (cN_le 4 (by omega)).2; omega) w1) (by decide) (by decide))
  have HF := Lib.hid (show exP 5 = 4 ∧ exL 5 = rowF ex5F (cN 4) from ⟨rfl, rfl⟩)
  have HC := Lib.hid (show Ext W W from Ext.refl W)
  go_enter Tryd.func8, Tryd.ntmps8
  go_upto_region 1 with fail
  rw [← hW]
  clear hW
  go_wp2_with fail
  refine HM.out.mono ?_
  rintro e w1 ⟨⟨v, rfl, ho⟩, hx⟩
  obtain ⟨a1, n1, c1, rfl, HN⟩ := ho.var
  have hXc := HC.out.trans hx
  have hrb := blkE hXc HRB.out
  have hsc := HC.out.size
  have hws := HWS.out
  have HFL := Lib.hid (fill2 (x := 4) hrb (HX0.out.trans hXc) (Nat.le_refl _) (ho.mono (by omega)))
  have r0 := two_cell0 hrb
  have r1 := two_cell1 hrb
  have rf := fun j => frozen_of_row w1 w.heap.size j _ _ hrb
  obtain ⟨f0, f1, fx, fo⟩ := HFL.out
  have FX := Lib.hid fx
  have FO := Lib.hid (fo.mono (Nat.le_succ _))
  clear HFL fx fo hx hXc hrb ho hws
  go_wp2_with fail
  refine bodyPost_ret (v := .tuple #[.agg #[.int .i64 4, .slice a1 n1 c1], .bool true]) (by simp [results, Tryd.results8, go_sem, f0, f1]) rfl ⟨ExR.of (p := 4) HF.out.1 HF.out.2 FO.out, FX.out⟩
 have e1 : (k == 1) = false := by simpa using h1
 have e2 : (k == 2) = false := by simpa using h2
 have e3 : (k == 3) = false := by simpa using h3
 have e4 : (k == 4) = false := by simpa using h4
 have e5 : (k == 5) = false := by simpa using h5
 have HF := Lib.hid (show exP k = 0 ∧ exL k = [] by unfold exP exL; simp [h1, h2, h3, h4, h5])
 have r0 := two_cell0 HRB.out
 have r1 := two_cell1 HRB.out
 have rf := fun j => frozen_of_row W w.heap.size j _ _ HRB.out
 obtain ⟨f0, f1, fx, fo⟩ := fill2 (x := 0) (a := none) (n := 0) (c := 0) (L := []) HRB.out HX0.out (Nat.le_refl _) (OwnI.nil _ _)
 have FX := Lib.hid fx
 have FO := Lib.hid (fo.mono (Nat.le_succ _))
 clear fx fo h1 h2 h3 h4 h5
 go_enter Tryd.func8, Tryd.ntmps8
 go_upto_region 1 with fail
 rw [← hW]
 clear hW
 go_wp2_with fail
 refine bodyPost_ret (v := .tuple #[.agg #[.int .i64 0, .slice none 0 0], .bool false]) (by simp [results, Tryd.results8, go_sem, f0, f1]) rfl ⟨ExR.of (p := 0) HF.out.1 HF.out.2 FO.out, FX.out⟩
set_option maxHeartbeats 8000000 in
theorem s_l21Game {w : World} (k : Int) : Calls Tryd.prog 7 #[.int .i64 k] w fun e w' => (∃ v, e = .returned (.agg #[.int .i64 (exP k : Int), v]) ∧ OwnI w' w.heap.size v (exL k)) ∧ Ext w w' := by
 obtain ⟨W, hW⟩ : ∃ W, W = (w.alloc (.cells #[.int .i64 0, .slice none 0 0] 27)).alloc (.cells #[.int .i64 0, .slice none 0 0] 27) := ⟨_, rfl⟩
 have HWS := Lib.hid (show W.heap.size = w.heap.size + 2 by rw [hW]; simp)
 have HX0 := Lib.hid (show Ext w W by rw [hW]; exact (Ext.alloc _ _).trans (Ext.alloc _ _))
 have HRB := Lib.hid (show W.heap[w.heap.size]? = some (.cells #[.int .i64 0, .slice none 0 0] 27 (0, 0)) by rw [hW, heapA_old _ _ _ (by simp)]; exact heapA_new _ _ _ rfl)
 have HGB := Lib.hid (show W.heap[w.heap.size + 1]? = some (.cells #[.int .i64 0, .slice none 0 0] 27 (0, 0)) by rw [hW]; exact heapA_new _ _ _ (by simp))
 by_cases h1 : k = 1
 ·subst h1
  have HM := Lib.hid (show Calls Tryd.prog 13 #[.int .i64 3, .slice (some ⟨W.heap.size, 0, none⟩) 4 4] (W.alloc (.cells #[.int .i64 0, .int .i64 0, .int .i64 6, .int .i64 6] 3)) fun e w' => (∃ v, e = .returned (.agg #[.int .i64 3, v]) ∧ OwnI w' (W.alloc (.cells #[.int .i64 0, .int .i64 0, .int .i64 6, .int .i64 6] 3)).heap.size v (rowF ex1F (cN 3))) ∧ Ext (W.alloc (.cells #[.int .i64 0, .int .i64 0, .int .i64 6, .int .i64 6] 3)) w' from by
   have h := s_l21Sizes (n := 3) (show Ints (W.alloc (.cells #[.int .i64 0, .int .i64 0, .int .i64 6, .int .i64 6] 3)) (some ⟨W.heap.size, 0, none⟩) 4 4 [0, 0, 6, 6] from Ints.litE W [0, 0, 6, 6] 3 (by decide) _ rfl) (by omega) (by decide)
   rw [ex1_same] at h
   exact h)
  have HF := Lib.hid (show exP 1 = 3 ∧ exL 1 = rowF ex1F (cN 3) from ⟨rfl, rfl⟩)
  have HC := Lib.hid (show Ext W (W.alloc (.cells #[.int .i64 0, .int .i64 0, .int .i64 6, .int .i64 6] 3)) from ((Ext.refl W).trans (Ext.alloc _ _)))
  go_enter Tryd.func7, Tryd.ntmps7
  go_upto_region 2 with fail
  rw [← hW]
  clear hW
  go_wp2_with fail
  refine HM.out.mono ?_
  rintro e w1 ⟨⟨v, rfl, ho⟩, hx⟩
  obtain ⟨a1, n1, c1, rfl, HN⟩ := ho.var
  have hXc := HC.out.trans hx
  have hrb := blkE hXc HRB.out
  have hgb := blkE hXc HGB.out
  have hsc := HC.out.size
  have hws := HWS.out
  have r0 := two_cell0 hrb
  have r1 := two_cell1 hrb
  have rf := fun j => frozen_of_row w1 w.heap.size j _ _ hrb
  have g0 := two_cell0 hgb
  have g1 := two_cell1 hgb
  have gf := fun j => frozen_of_row w1 (w.heap.size + 1) j _ _ hgb
  have HFG := Lib.hid (fill2 (x := 3) hgb (HX0.out.trans hXc) (Nat.le_succ _) (ho.mono (by omega)))
  have HFL := Lib.hid (fill2 (x := 3) (W := (w1.setCell ⟨w.heap.size + 1, 0, none⟩ (.int .i64 3)).setCell ⟨w.heap.size + 1, 1, none⟩ (.slice a1 n1 c1)) (b := w.heap.size) ((heap_setCell_other _ _ _ _ (by show w.heap.size ≠ w.heap.size + 1; omega)).trans ((heap_setCell_other _ _ _ _ (by show w.heap.size ≠ w.heap.size + 1; omega)).trans hrb)) HFG.out.2.2.1 (Nat.le_refl _) (HFG.out.2.2.2.mono (Nat.le_succ _)))
  obtain ⟨f0, f1, fx, fo⟩ := HFL.out
  have FX := Lib.hid fx
  have FO := Lib.hid (fo.mono (Nat.le_succ _))
  clear HFL HFG fx fo hx hXc hrb hgb ho hws
  go_wp2_with fail
  refine bodyPost_ret (v := .agg #[.int .i64 3, .slice a1 n1 c1]) (by simp [results, Tryd.results7, go_sem, f0, f1]) rfl ⟨⟨_, by rw [HF.out.1]; rfl, by rw [HF.out.2]; exact FO.out⟩, FX.out⟩
 by_cases h2 : k = 2
 ·subst h2
  have HM := Lib.hid (show Calls Tryd.prog 14 #[triple 2 2 (some ⟨W.heap.size + 1 + 1, 0, none⟩) 2 2] (((W.alloc (.cells #[.int .i64 5, .int .i64 8] 3)).alloc (.cells #[.int .i64 3, .int .i64 5] 3)).alloc (.cells #[.slice (some ⟨W.heap.size, 0, none⟩) 2 2, .slice (some ⟨W.heap.size + 1, 0, none⟩) 2 2] 25)) fun e w' => GameV w' (((W.alloc (.cells #[.int .i64 5, .int .i64 8] 3)).alloc (.cells #[.int .i64 3, .int .i64 5] 3)).alloc (.cells #[.slice (some ⟨W.heap.size, 0, none⟩) 2 2, .slice (some ⟨W.heap.size + 1, 0, none⟩) 2 2] 25)).heap.size e (asgP 2 2 [[5, 8], [3, 5]]) (asgL 2 2 [[5, 8], [3, 5]]) (validM 2 2 [[5, 8], [3, 5]]) ∧ Ext (((W.alloc (.cells #[.int .i64 5, .int .i64 8] 3)).alloc (.cells #[.int .i64 3, .int .i64 5] 3)).alloc (.cells #[.slice (some ⟨W.heap.size, 0, none⟩) 2 2, .slice (some ⟨W.heap.size + 1, 0, none⟩) 2 2] 25)) w' from s_AssignmentGame ssLit)
  obtain ⟨pp, hpp⟩ : ∃ p, p = asgP 2 2 [[5, 8], [3, 5]] := ⟨_, rfl⟩
  obtain ⟨LL, hLL⟩ : ∃ p, p = asgL 2 2 [[5, 8], [3, 5]] := ⟨_, rfl⟩
  obtain ⟨ok, hok⟩ : ∃ p, p = validM 2 2 [[5, 8], [3, 5]] := ⟨_, rfl⟩
  rw [← hpp, ← hLL, ← hok] at HM
  have HF := Lib.hid (show exP 2 = pp ∧ exL 2 = LL from ⟨hpp.symm, hLL.symm⟩)
  clear hpp hLL hok
  have HC := Lib.hid (show Ext W (((W.alloc (.cells #[.int .i64 5, .int .i64 8] 3)).alloc (.cells #[.int .i64 3, .int .i64 5] 3)).alloc (.cells #[.slice (some ⟨W.heap.size, 0, none⟩) 2 2, .slice (some ⟨W.heap.size + 1, 0, none⟩) 2 2] 25)) from ((((((Ext.refl W).trans (Ext.alloc _ _))).trans (Ext.alloc _ _))).trans (Ext.alloc _ _)))
  go_enter Tryd.func7, Tryd.ntmps7
  go_upto_region 2 with fail
  rw [← hW]
  clear hW
  go_wp2_with fail
  refine HM.out.mono ?_
  rintro e w1 ⟨⟨v, rfl, ho⟩, hx⟩
  obtain ⟨a1, n1, c1, rfl, HN⟩ := ho.var
  have hXc := HC.out.trans hx
  have hrb := blkE hXc HRB.out
  have hgb := blkE hXc HGB.out
  have hsc := HC.out.size
  have hws := HWS.out
  have r0 := two_cell0 hrb
  have r1 := two_cell1 hrb
  have rf := fun j => frozen_of_row w1 w.heap.size j _ _ hrb
  have g0 := two_cell0 hgb
  have g1 := two_cell1 hgb
  have gf := fun j => frozen_of_row w1 (w.heap.size + 1) j _ _ hgb
  have HFG := Lib.hid (fill2 (x := (pp : Int)) hgb (HX0.out.trans hXc) (Nat.le_succ _) (ho.mono (by omega)))
  have HFL := Lib.hid (fill2 (x := (pp : Int)) (W := (w1.setCell ⟨w.heap.size + 1, 0, none⟩ (.int .i64 (pp : Int))).setCell ⟨w.heap.size + 1, 1, none⟩ (.slice a1 n1 c1)) (b := w.heap.size) ((heap_setCell_other _ _ _ _ (by show w.heap.size ≠ w.heap.size + 1; omega)).trans ((heap_setCell_other _ _ _ _ (by show w.heap.size ≠ w.heap.size + 1; omega)).trans hrb)) HFG.out.2.2.1 (Nat.le_refl _) (HFG.out.2.2.2.mono (Nat.le_succ _)))
  obtain ⟨f0, f1, fx, fo⟩ := HFL.out
  have FX := Lib.hid fx
  have FO := Lib.hid (fo.mono (Nat.le_succ _))
  clear HFL HFG fx fo hx hXc hrb hgb ho hws
  go_wp2_with fail
  refine bodyPost_ret (v := .agg #[.int .i64 (pp : Int), .slice a1 n1 c1]) (by simp [results, Tryd.results7, go_sem, f0, f1]) rfl ⟨⟨_, by rw [HF.out.1], by rw [HF.out.2]; exact FO.out⟩, FX.out⟩
 by_cases h3 : k = 3
 ·subst h3
  have HM := Lib.hid (show Calls Tryd.prog 15 #[pair 200 (some ⟨W.heap.size, 0, none⟩) 3 3] (W.alloc (.cells #[.int .i64 100, .int .i64 100, .int .i64 100] 3)) fun e w' => GameV w' (W.alloc (.cells #[.int .i64 100, .int .i64 100, .int .i64 100] 3)).heap.size e (bankP 200 [100, 100, 100]) (bankL 200 [100, 100, 100]) (validPair 0 200 [100, 100, 100]) ∧ Ext (W.alloc (.cells #[.int .i64 100, .int .i64 100, .int .i64 100] 3)) w' from s_BankruptcyGame (show Ints (W.alloc (.cells #[.int .i64 100, .int .i64 100, .int .i64 100] 3)) (some ⟨W.heap.size, 0, none⟩) 3 3 [100, 100, 100] from Ints.litE W [100, 100, 100] 3 (by decide) _ rfl))
  obtain ⟨pp, hpp⟩ : ∃ p, p = bankP 200 [100, 100, 100] := ⟨_, rfl⟩
  obtain ⟨LL, hLL⟩ : ∃ p, p = bankL 200 [100, 100, 100] := ⟨_, rfl⟩
  obtain ⟨ok, hok⟩ : ∃ p, p = validPair 0 200 [100, 100, 100] := ⟨_, rfl⟩
  rw [← hpp, ← hLL, ← hok] at HM
  have HF := Lib.hid (show exP 3 = pp ∧ exL 3 = LL from ⟨hpp.symm, hLL.symm⟩)
  clear hpp hLL hok
  have HC := Lib.hid (show Ext W (W.alloc (.cells #[.int .i64 100, .int .i64 100, .int .i64 100] 3)) from ((Ext.refl W).trans (Ext.alloc _ _)))
  go_enter Tryd.func7, Tryd.ntmps7
  go_upto_region 2 with fail
  rw [← hW]
  clear hW
  go_wp2_with fail
  refine HM.out.mono ?_
  rintro e w1 ⟨⟨v, rfl, ho⟩, hx⟩
  obtain ⟨a1, n1, c1, rfl, HN⟩ := ho.var
  have hXc := HC.out.trans hx
  have hrb := blkE hXc HRB.out
  have hgb := blkE hXc HGB.out
  have hsc := HC.out.size
  have hws := HWS.out
  have r0 := two_cell0 hrb
  have r1 := two_cell1 hrb
  have rf := fun j => frozen_of_row w1 w.heap.size j _ _ hrb
  have g0 := two_cell0 hgb
  have g1 := two_cell1 hgb
  have gf := fun j => frozen_of_row w1 (w.heap.size + 1) j _ _ hgb
  have HFG := Lib.hid (fill2 (x := (pp : Int)) hgb (HX0.out.trans hXc) (Nat.le_succ _) (ho.mono (by omega)))
  have HFL := Lib.hid (fill2 (x := (pp : Int)) (W := (w1.setCell ⟨w.heap.size + 1, 0, none⟩ (.int .i64 (pp : Int))).setCell ⟨w.heap.size + 1, 1, none⟩ (.slice a1 n1 c1)) (b := w.heap.size) ((heap_setCell_other _ _ _ _ (by show w.heap.size ≠ w.heap.size + 1; omega)).trans ((heap_setCell_other _ _ _ _ (by show w.heap.size ≠ w.heap.size + 1; omega)).trans hrb)) HFG.out.2.2.1 (Nat.le_refl _) (HFG.out.2.2.2.mono (Nat.le_succ _)))
  obtain ⟨f0, f1, fx, fo⟩ := HFL.out
  have FX := Lib.hid fx
  have FO := Lib.hid (fo.mono (Nat.le_succ _))
  clear HFL HFG fx fo hx hXc hrb hgb ho hws
  go_wp2_with fail
  refine bodyPost_ret (v := .agg #[.int .i64 (pp : Int), .slice a1 n1 c1]) (by simp [results, Tryd.results7, go_sem, f0, f1]) rfl ⟨⟨_, by rw [HF.out.1], by rw [HF.out.2]; exact FO.out⟩, FX.out⟩
 by_cases h4 : k = 4
 ·subst h4
  have HM := Lib.hid (show Calls Tryd.prog 16 #[pair 4 (some ⟨W.heap.size, 0, none⟩) 4 4] (W.alloc (.cells #[.int .i64 3, .int .i64 2, .int .i64 1, .int .i64 1] 3)) fun e w' => GameV w' (W.alloc (.cells #[.int .i64 3, .int .i64 2, .int .i64 1, .int .i64 1] 3)).heap.size e (voteP 4 [3, 2, 1, 1]) (voteL 4 [3, 2, 1, 1]) (validPair 1 4 [3, 2, 1, 1]) ∧ Ext (W.alloc (.cells #[.int .i64 3, .int .i64 2, .int .i64 1, .int .i64 1] 3)) w' from s_VotingGame (show Ints (W.alloc (.cells #[.int .i64 3, .int .i64 2, .int .i64 1, .int .i64 1] 3)) (some ⟨W.heap.size, 0, none⟩) 4 4 [3, 2, 1, 1] from Ints.litE W [3, 2, 1, 1] 3 (by decide) _ rfl))
  obtain ⟨pp, hpp⟩ : ∃ p, p = voteP 4 [3, 2, 1, 1] := ⟨_, rfl⟩
  obtain ⟨LL, hLL⟩ : ∃ p, p = voteL 4 [3, 2, 1, 1] := ⟨_, rfl⟩
  obtain ⟨ok, hok⟩ : ∃ p, p = validPair 1 4 [3, 2, 1, 1] := ⟨_, rfl⟩
  rw [← hpp, ← hLL, ← hok] at HM
  have HF := Lib.hid (show exP 4 = pp ∧ exL 4 = LL from ⟨hpp.symm, hLL.symm⟩)
  clear hpp hLL hok
  have HC := Lib.hid (show Ext W (W.alloc (.cells #[.int .i64 3, .int .i64 2, .int .i64 1, .int .i64 1] 3)) from ((Ext.refl W).trans (Ext.alloc _ _)))
  go_enter Tryd.func7, Tryd.ntmps7
  go_upto_region 2 with fail
  rw [← hW]
  clear hW
  go_wp2_with fail
  refine HM.out.mono ?_
  rintro e w1 ⟨⟨v, rfl, ho⟩, hx⟩
  obtain ⟨a1, n1, c1, rfl, HN⟩ := ho.var
  have hXc := HC.out.trans hx
  have hrb := blkE hXc HRB.out
  have hgb := blkE hXc HGB.out
  have hsc := HC.out.size
  have hws := HWS.out
  have r0 := two_cell0 hrb
  have r1 := two_cell1 hrb
  have rf := fun j => frozen_of_row w1 w.heap.size j _ _ hrb
  have g0 := two_cell0 hgb
  have g1 := two_cell1 hgb
  have gf := fun j => frozen_of_row w1 (w.heap.size + 1) j _ _ hgb
  have HFG := Lib.hid (fill2 (x := (pp : Int)) hgb (HX0.out.trans hXc) (Nat.le_succ _) (ho.mono (by omega)))
  have HFL := Lib.hid (fill2 (x := (pp : Int)) (W := (w1.setCell ⟨w.heap.size + 1, 0, none⟩ (.int .i64 (pp : Int))).setCell ⟨w.heap.size + 1, 1, none⟩ (.slice a1 n1 c1)) (b := w.heap.size) ((heap_setCell_other _ _ _ _ (by show w.heap.size ≠ w.heap.size + 1; omega)).trans ((heap_setCell_other _ _ _ _ (by show w.heap.size ≠ w.heap.size + 1; omega)).trans hrb)) HFG.out.2.2.1 (Nat.le_refl _) (HFG.out.2.2.2.mono (Nat.le_succ _)))
  obtain ⟨f0, f1, fx, fo⟩ := HFL.out
  have FX := Lib.hid fx
  have FO := Lib.hid (fo.mono (Nat.le_succ _))
  clear HFL HFG fx fo hx hXc hrb hgb ho hws
  go_wp2_with fail
  refine bodyPost_ret (v := .agg #[.int .i64 (pp : Int), .slice a1 n1 c1]) (by simp [results, Tryd.results7, go_sem, f0, f1]) rfl ⟨⟨_, by rw [HF.out.1], by rw [HF.out.2]; exact FO.out⟩, FX.out⟩
 by_cases h5 : k = 5
 ·subst h5
  have HM := Lib.hid (show Calls Tryd.prog 13 #[.int .i64 4, .slice (some ⟨W.heap.size, 0, none⟩) 5 5] (W.alloc (.cells #[.int .i64 0, .int .i64 10, .int .i64 40, .int .i64 90, .int .i64 160] 3)) fun e w' => (∃ v, e = .returned (.agg #[.int .i64 4, v]) ∧ OwnI w' (W.alloc (.cells #[.int .i64 0, .int .i64 10, .int .i64 40, .int .i64 90, .int .i64 160] 3)).heap.size v (rowF ex5F (cN 4))) ∧ Ext (W.alloc (.cells #[.int .i64 0, .int .i64 10, .int .i64 40, .int .i64 90, .int .i64 160] 3)) w' from by
   have h := s_l21Sizes (n := 4) (show Ints (W.alloc (.cells #[.int .i64 0, .int .i64 10, .int .i64 40, .int .i64 90, .int .i64 160] 3)) (some ⟨W.heap.size, 0, none⟩) 5 5 [0, 10, 40, 90, 160] from Ints.litE W [0, 10, 40, 90, 160] 3 (by decide) _ rfl) (by omega) (by decide)
   rw [ex5_same] at h
   exact h)
  have HF := Lib.hid (show exP 5 = 4 ∧ exL 5 = rowF ex5F (cN 4) from ⟨rfl, rfl⟩)
  have HC := Lib.hid (show Ext W (W.alloc (.cells #[.int .i64 0, .int .i64 10, .int .i64 40, .int .i64 90, .int .i64 160] 3)) from ((Ext.refl W).trans (Ext.alloc _ _)))
  go_enter Tryd.func7, Tryd.ntmps7
  go_upto_region 2 with fail
  rw [← hW]
  clear hW
  go_wp2_with fail
  refine HM.out.mono ?_
  rintro e w1 ⟨⟨v, rfl, ho⟩, hx⟩
  obtain ⟨a1, n1, c1, rfl, HN⟩ := ho.var
  have hXc := HC.out.trans hx
  have hrb := blkE hXc HRB.out
  have hgb := blkE hXc HGB.out
  have hsc := HC.out.size
  have hws := HWS.out
  have r0 := two_cell0 hrb
  have r1 := two_cell1 hrb
  have rf := fun j => frozen_of_row w1 w.heap.size j _ _ hrb
  have g0 := two_cell0 hgb
  have g1 := two_cell1 hgb
  have gf := fun j => frozen_of_row w1 (w.heap.size + 1) j _ _ hgb
  have HFG := Lib.hid (fill2 (x := 4) hgb (HX0.out.trans hXc) (Nat.le_succ _) (ho.mono (by omega)))
  have HFL := Lib.hid (fill2 (x := 4) (W := (w1.setCell ⟨w.heap.size + 1, 0, none⟩ (.int .i64 4)).setCell ⟨w.heap.size + 1, 1, none⟩ (.slice a1 n1 c1)) (b := w.heap.size) ((heap_setCell_other _ _ _ _ (by show w.heap.size ≠ w.heap.size + 1; omega)).trans ((heap_setCell_other _ _ _ _ (by show w.heap.size ≠ w.heap.size + 1; omega)).trans hrb)) HFG.out.2.2.1 (Nat.le_refl _) (HFG.out.2.2.2.mono (Nat.le_succ _)))
  obtain ⟨f0, f1, fx, fo⟩ := HFL.out
  have FX := Lib.hid fx
  have FO := Lib.hid (fo.mono (Nat.le_succ _))
  clear HFL HFG fx fo hx hXc hrb hgb ho hws
  go_wp2_with fail
  refine bodyPost_ret (v := .agg #[.int .i64 4, .slice a1 n1 c1]) (by simp [results, Tryd.results7, go_sem, f0, f1]) rfl ⟨⟨_, by rw [HF.out.1]; rfl, by rw [HF.out.2]; exact FO.out⟩, FX.out⟩
 have e1 : (k == 1) = false := by simpa using h1
 have e2 : (k == 2) = false := by simpa using h2
 have e3 : (k == 3) = false := by simpa using h3
 have e4 : (k == 4) = false := by simpa using h4
 have e5 : (k == 5) = false := by simpa using h5
 have HF := Lib.hid (show exP k = 0 ∧ exL k = [] by unfold exP exL; simp [h1, h2, h3, h4, h5])
 have r0 := two_cell0 HRB.out
 have r1 := two_cell1 HRB.out
 have rf := fun j => frozen_of_row W w.heap.size j _ _ HRB.out
 have g0 := two_cell0 HGB.out
 have g1 := two_cell1 HGB.out
 obtain ⟨f0, f1, fx, fo⟩ := fill2 (x := 0) (a := none) (n := 0) (c := 0) (L := []) HRB.out HX0.out (Nat.le_refl _) (OwnI.nil _ _)
 have FX := Lib.hid fx
 have FO := Lib.hid (fo.mono (Nat.le_succ _))
 clear fx fo h1 h2 h3 h4 h5
 go_enter Tryd.func7, Tryd.ntmps7
 go_upto_region 2 with fail
 rw [← hW]
 clear hW
 go_wp2_with fail
 refine bodyPost_ret (v := .agg #[.int .i64 0, .slice none 0 0]) (by simp [results, Tryd.results7, go_sem, f0, f1]) rfl ⟨⟨_, by rw [HF.out.1]; rfl, by rw [HF.out.2]; exact FO.out⟩, FX.out⟩
def exT (k : Int) : List UInt8 := gameT (exP k) (exL k)
set_option maxHeartbeats 4000000 in
theorem i_ExampleText {w : World} (k : Int) (ht : Lib.TabIs Tryd.prog w "internal/strconv.uint64pow10" .u64 Lib.pow10Tab) :
 Calls Tryd.prog 5 #[.int .i64 k] w fun e w' => e = .returned (.string (bs (exT k))) ∧ Ext w w' := by
 have HA := Lib.hid (i_example (w := w) k)
 have HT := Lib.hid ht
 have HE := Lib.hid (show exT k = gameT (exP k) (exL k) from rfl)
 have HV := Lib.hid (ex_at k)
 obtain ⟨T, hT⟩ : ∃ T, T = exT k := ⟨_, rfl⟩
 rw [← hT] at HE
 rw [← hT]
 clear ht hT
 go_enter Tryd.func5, Tryd.ntmps5
 go_wp2_with fail
 refine HA.out.mono ?_
 rintro e w1 ⟨⟨v, ok, rfl, ho⟩, hx⟩
 obtain ⟨a1, n1, p1, rfl, HN1⟩ := ho.var
 obtain ⟨P, hP⟩ : ∃ P, P = exP k := ⟨_, rfl⟩
 obtain ⟨V, hV⟩ : ∃ V, V = exL k := ⟨_, rfl⟩
 rw [← hV] at ho HE HV
 rw [← hP] at HE
 rw [← hP]
 obtain ⟨w2, hw2⟩ : ∃ E, E = w1.alloc (.cells #[.int .i64 (P : Int), .slice a1 n1 p1] 27) := ⟨_, rfl⟩
 have hx2 : Ext w1 w2 := by rw [hw2]; exact Ext.alloc _ _
 have X2 := Lib.hid (hx.trans hx2)
 have c0 : w2.cell? ⟨w1.heap.size, 0, none⟩ = some (.int .i64 (P : Int)) := by rw [hw2]; simp
 have c1 : w2.cell? ⟨w1.heap.size, 1, none⟩ = some (.slice a1 n1 p1) := by rw [hw2]; simp
 have HF := Lib.hid (i_FormatGame (p := P) (ho.ext hx2).ints HV.out (tab_ext HT.out X2.out))
 rw [← HE.out] at HF
 clear hx hx2 ho hP hV HN1
 go_upto_region 2 with fail
 rw [← hw2]
 clear hw2
 go_wp2_with fail
 refine HF.out.mono ?_
 rintro e w3 ⟨rfl, hx⟩
 have X3 := Lib.hid (X2.out.trans hx)
 clear hx
 go_wp2_with fail
 go_ret
 exact ⟨rfl, X3.out⟩
set_option maxHeartbeats 4000000 in
theorem s_ExampleText {w : World} (k : Int) : Calls Tryd.prog 4 #[.int .i64 k] w fun e w' => e = .returned (.string (bs (exT k))) ∧ Ext w w' := by
 have HA := Lib.hid (s_l21Game (w := w) k)
 have HE := Lib.hid (show exT k = gameT (exP k) (exL k) from rfl)
 have HV := Lib.hid (ex_at k)
 obtain ⟨T, hT⟩ : ∃ T, T = exT k := ⟨_, rfl⟩
 rw [← hT] at HE
 rw [← hT]
 clear hT
 go_enter Tryd.func4, Tryd.ntmps4
 go_wp2_with fail
 refine HA.out.mono ?_
 rintro e w1 ⟨⟨v, rfl, ho⟩, hx⟩
 obtain ⟨a1, n1, p1, rfl, HN1⟩ := ho.var
 have HF := Lib.hid (s_FormatGame (p := exP k) ho.ints HV.out)
 rw [← HE.out] at HF
 have X2 := Lib.hid hx
 clear hx ho HN1
 go_wp2_with fail
 refine HF.out.mono ?_
 rintro e w3 ⟨rfl, hx⟩
 have X3 := Lib.hid (X2.out.trans hx)
 clear hx
 go_wp2_with fail
 go_ret
 exact ⟨rfl, X3.out⟩
set_option maxHeartbeats 4000000 in
theorem l_FnExactExampleText {w : World} (k : Int) (ht : Lib.TabIs Tryd.prog w "internal/strconv.uint64pow10" .u64 Lib.pow10Tab) :
 Calls Tryd.prog 3 #[.int .i64 k] w fun e w' => e = .returned (.bool true) ∧ Ext w w' := by
 have HT := Lib.hid ht
 have HS := Lib.hid (s_ExampleText (w := w) k)
 obtain ⟨T, hT⟩ : ∃ T, T = bs (exT k) := ⟨_, rfl⟩
 have HI := Lib.hid (fun (w' : World) (hx : Ext w w') => i_ExampleText (w := w') k (tab_ext HT.out hx))
 simp only [← hT] at HS HI
 clear ht hT
 go_enter Tryd.func3, Tryd.ntmps3
 go_wp2_with fail
 refine HS.out.mono ?_
 rintro e w1 ⟨rfl, hx⟩
 have X1 := Lib.hid hx
 clear hx
 go_wp2_with fail
 refine (HI.out _ X1.out).mono ?_
 rintro e w2 ⟨rfl, hx⟩
 have X2 := Lib.hid (X1.out.trans hx)
 clear hx
 go_wp2_with fail
 go_ret
 exact ⟨rfl, X2.out⟩
end Go.Proofs.YtalmoolkhcgmmaaDoor
