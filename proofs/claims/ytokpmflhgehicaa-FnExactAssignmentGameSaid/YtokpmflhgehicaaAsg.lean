/- AssignmentGame on both sides. -/
import Derived.Test.YtokpmflhgehicaaMade
import Derived.Test.YtokpmflhgehicaaTradesB
namespace Go.Proofs.Ytokpmflhgehicaa
set_option linter.unusedVariables false
set_option linter.unusedSimpArgs false
set_option maxRecDepth 100000
open Go.RowKit

def asgF (S B : Nat) (G : List (List Int)) (s : Nat) : Int := (bestF S B G s S []).2
def asgP (x y : Int) (G : List (List Int)) : Nat := if validM x y G = true then (x + y).toNat else 0
def asgL (x y : Int) (G : List (List Int)) : List Int := if validM x y G = true then rowF (asgF x.toNat y.toNat G) (cN (x + y).toNat) else []
theorem asgL_len (x y : Int) (G : List (List Int)) : (asgL x y G).length ≤ 1048576 := by
  unfold asgL
  split
  · next h =>
    obtain ⟨S, B, rfl, rfl, hM⟩ := validM_good h
    rw [rowF_len]
    have e : ((S : Int) + (B : Int)).toNat = S + B := by omega
    rw [e]
    have := cN_le (S + B) hM.sb
    omega
  · simp
theorem bestF_zero (S B : Nat) (G : List (List Int)) : ∀ (r : Nat) (taken : List Int), (bestF S B G 0 r taken).2 = 0
  | 0, _ => rfl
  | r + 1, taken => by
    rw [bestF_succ]
    have hno : ∀ k, bestTo S B G 0 r taken k = (-1 :: (bestF S B G 0 r taken).1, (bestF S B G 0 r taken).2) := by
      intro k
      induction k with
      | zero => rfl
      | succ k ih => rw [bestTo_succ, if_neg (by simp [freeJ, bit]), ih]
    rw [hno]
    exact bestF_zero S B G r taken
theorem asgF_bd {S B : Nat} {G : List (List Int)} (hM : GoodM S B G) (s : Nat) : -500 ≤ asgF S B G s ∧ asgF S B G s ≤ 500 := by
  have := bestF_bd S B G s hM.bd S []
  have := hM.sb
  unfold asgF
  omega
theorem trade_ok {S B s : Nat} {G : List (List Int)} (hv : validM (S : Int) (B : Int) G = true) (hsb : S + B ≤ 5) (hs : s < cN (S + B)) : tradeOk (S : Int) (B : Int) G (s : Int) = true := by
  have hcn := cntC_nat (S + B) hsb
  have hcn' : cntC ((S : Int) + (B : Int)) = (cN (S + B) : Int) := by rw [← hcn]; simp
  unfold tradeOk inB
  rw [hv, hcn']
  simp
  omega

theorem go_AssignmentGame1 : IsGo Try.prog 110 := isGo Try.func110 (by kernel_rfl) (by kernel_rfl)
set_option maxHeartbeats 1000000 in
theorem i_AssignmentGame1 {w : World} {S B s bm : Nat} {a : Option Addr} {n cap : Nat} {G : List (List Int)} (h : IntSS w a n cap G) (hm : w.heap[bm]? = some (.cells #[.int .i64 (S : Int), .int .i64 (B : Int), .slice a n cap] 53 (0, 0)))
    (hv : validM (S : Int) (B : Int) G = true) (hsb : S + B ≤ 5) (hs : s < cN (S + B)) :
    Calls Try.prog 110 #[.int .i64 (s : Int), .pointer (some ⟨bm, 0, none⟩)] w fun e w' => e = .returned (.int .i64 (asgF S B G s)) ∧ Ext w w' := by
  have HB := Lib.hid (i_BestTrades (x := (S : Int)) (y := (B : Int)) (s := (s : Int)) h)
  have HR := Lib.hid (show (tradeR (S : Int) (B : Int) G (s : Int)).2 = asgF S B G s by rw [tradeR_ok (trade_ok hv hsb hs)]; rfl)
  have c0 : w.cell? ⟨bm, 0, none⟩ = some (.int .i64 (S : Int)) := by rw [cell_of_row _ _ _ _ _ _ hm]; rfl
  have c1 : w.cell? ⟨bm, 1, none⟩ = some (.int .i64 (B : Int)) := by rw [cell_of_row _ _ _ _ _ _ hm]; rfl
  have c2 : w.cell? ⟨bm, 2, none⟩ = some (.slice a n cap) := by rw [cell_of_row _ _ _ _ _ _ hm]; rfl
  clear h hm hv hs
  go_enter Try.func110, Try.ntmps110
  go_wp2_with fail
  refine HB.out.mono ?_
  rw [HR.out]
  rintro e w1 ⟨⟨v, rfl, ho⟩, hx⟩
  go_wp2
  go_ret
  exact ⟨rfl, hx⟩

set_option maxHeartbeats 4000000 in
theorem i_AssignmentGame {w : World} {x y : Int} {a : Option Addr} {n cap : Nat} {G : List (List Int)} (h : IntSS w a n cap G) :
    Calls Try.prog 44 #[triple x y a n cap] w fun e w' => GameV w' w.heap.size e (asgP x y G) (asgL x y G) (validM x y G) ∧ Ext w w' := by
  have HX := Lib.hid ((Ext.alloc w (.cells #[.int .i64 x, .int .i64 y, .slice a n cap] 53)).trans (Ext.alloc _ (.cells #[.int .i64 0, .slice none 0 0] 64)))
  have HV := Lib.hid (i_IsValidMarket (x := x) (y := y) (h.ext HX.out))
  have HI := Lib.hid (h.ext HX.out)
  clear h
  cases hv : validM x y G
  · rw [hv] at HV
    have HVV := Lib.hid hv
    clear hv
    go_enter Try.func44, Try.ntmps44
    go_wp2_with fail
    refine HV.out.mono ?_
    rintro e w1 ⟨rfl, hx⟩
    have r0 : w1.cell? ⟨w.heap.size + 1, 0, none⟩ = some (.int .i64 0) := hx.cellSome (by simp)
    have r1 : w1.cell? ⟨w.heap.size + 1, 1, none⟩ = some (.slice none 0 0) := hx.cellSome (by simp)
    have f0 : w1.frozen? ⟨w.heap.size + 1, 0, none⟩ = false := (hx.frozens _ _ (by simp)).trans (by simp)
    have f1 : w1.frozen? ⟨w.heap.size + 1, 1, none⟩ = false := (hx.frozens _ _ (by simp)).trans (by simp)
    have HX1 := Lib.hid (HX.out.trans hx)
    clear hx
    go_wp2
    refine bodyPost_ret (v := .tuple #[.agg #[.int .i64 0, .slice none 0 0], .bool false]) (by simp [results, Try.results44, go_sem, r0, r1]) rfl ⟨⟨.slice none 0 0, ?_, ?_⟩, ?_⟩
    · unfold asgP; rw [HVV.out]; rfl
    · unfold asgL; rw [HVV.out]; exact ⟨rfl, .inl ⟨rfl, rfl⟩⟩
    · exact (HX1.out.setCell (by simp) _).setCell (by simp) _
  · rw [hv] at HV
    obtain ⟨S, B, rfl, rfl, hM⟩ := validM_good hv
    have hsb := hM.sb
    have hN := cN_le (S + B) hsb
    have h1 : 1 ≤ S + B := by have := hM.s1; omega
    have HVV := Lib.hid hv
    have HM := Lib.hid hM
    have hSB : (S : Int) + (B : Int) = ((S + B : Nat) : Int) := by simp
    have HSB := Lib.hid hSB
    clear hv hM hSB
    go_enter Try.func44, Try.ntmps44
    go_wp2_with fail
    refine HV.out.mono ?_
    rintro e w1 ⟨rfl, hx⟩
    have c0 : w1.cell? ⟨w.heap.size, 0, none⟩ = some (.int .i64 (S : Int)) := hx.cellSome (by simp)
    have c1 : w1.cell? ⟨w.heap.size, 1, none⟩ = some (.int .i64 (B : Int)) := hx.cellSome (by simp)
    have HB := Lib.hid (show w1.heap[w.heap.size]? = some (.cells #[.int .i64 (S : Int), .int .i64 (B : Int), .slice a n cap] 53 (0, 0)) from (hx.block _ (by simp; omega)).trans (by rw [heapA_old _ _ _ (by simp)]; exact heapA_new _ _ _ rfl))
    have HX1 := Lib.hid hx
    have HI1 := Lib.hid (HI.out.ext hx)
    clear hx
    have hs1 : w.heap.size < w1.heap.size := World.block_lt_of_cell? _ _ c0
    have HT : Hid (Tells Try.prog w1 110 #[.pointer (some ⟨w.heap.size, 0, none⟩)] (cN (S + B)) (asgF S B G)) := Lib.hid fun s w2 hs k =>
      i_AssignmentGame1 (HI1.out.ext k) ((k.block _ (lt_of_block HB.out)).trans HB.out) HVV.out hsb hs
    have HMA := Lib.hid (i_made h1 hsb go_AssignmentGame1 HT.out (bestF_zero S B G S []) (fun s _ => asgF_bd HM.out s))
    rw [← HSB.out] at HMA
    go_wp2_with fail
    refine HMA.out.mono ?_
    rintro e w2 ⟨⟨v, rfl, ho⟩, hx⟩
    obtain ⟨a2, n2, c2, rfl, HN2⟩ := ho.var
    have HX2 := Lib.hid (HX1.out.trans hx)
    have r0 : w2.cell? ⟨w.heap.size + 1, 0, none⟩ = some (.int .i64 0) := HX2.out.cellSome (by simp)
    have r1 : w2.cell? ⟨w.heap.size + 1, 1, none⟩ = some (.slice none 0 0) := HX2.out.cellSome (by simp)
    have f0 : w2.frozen? ⟨w.heap.size + 1, 0, none⟩ = false := (HX2.out.frozens _ _ (by simp)).trans (by simp)
    have f1 : w2.frozen? ⟨w.heap.size + 1, 1, none⟩ = false := (HX2.out.frozens _ _ (by simp)).trans (by simp)
    have HO := Lib.hid ho
    have hsz1 := HX1.out.size
    simp at hsz1
    clear ho hx
    go_wp2
    have hp : asgP (S : Int) (B : Int) G = S + B := by unfold asgP; rw [HVV.out, if_pos rfl]; omega
    have hl : asgL (S : Int) (B : Int) G = rowF (asgF S B G) (cN (S + B)) := by
      unfold asgL; rw [HVV.out, if_pos rfl]
      have e : ((S : Int) + (B : Int)).toNat = S + B := by omega
      rw [e]; rfl
    rw [hp, hl]
    refine bodyPost_ret (v := .tuple #[.agg #[.int .i64 ((S + B : Nat) : Int), .slice a2 n2 c2], .bool true]) (by simp [results, Try.results44, go_sem, r0, r1]) rfl ⟨⟨.slice a2 n2 c2, rfl, ?_⟩, ?_⟩
    · refine HO.out.mono (by omega) |>.keep fun j hj => ?_
      have := (HO.out.lt j hj).1
      rw [heap_setCell_other _ _ _ _ (by simp; omega), heap_setCell_other _ _ _ _ (by simp; omega)]
    · exact ((HX.out.trans HX2.out).setCell (by simp) _).setCell (by simp) _

set_option maxHeartbeats 4000000 in
theorem s_AssignmentGame {w : World} {x y : Int} {a : Option Addr} {n cap : Nat} {G : List (List Int)} (h : IntSS w a n cap G) :
    Calls Try.prog 43 #[triple x y a n cap] w fun e w' => GameV w' w.heap.size e (asgP x y G) (asgL x y G) (validM x y G) ∧ Ext w w' := by
  have HX := Lib.hid ((Ext.alloc w (.cells #[.int .i64 x, .int .i64 y, .slice a n cap] 53)).trans (Ext.alloc _ (.cells #[.int .i64 0, .slice none 0 0] 64)))
  have HV := Lib.hid (s_IsValidMarket (x := x) (y := y) (h.ext HX.out))
  have HI := Lib.hid (h.ext HX.out)
  clear h
  cases hv : validM x y G
  · rw [hv] at HV
    have HVV := Lib.hid hv
    clear hv
    go_enter Try.func43, Try.ntmps43
    go_wp2_with fail
    refine HV.out.mono ?_
    rintro e w1 ⟨rfl, hx⟩
    have r0 : w1.cell? ⟨w.heap.size + 1, 0, none⟩ = some (.int .i64 0) := hx.cellSome (by simp)
    have r1 : w1.cell? ⟨w.heap.size + 1, 1, none⟩ = some (.slice none 0 0) := hx.cellSome (by simp)
    have f0 : w1.frozen? ⟨w.heap.size + 1, 0, none⟩ = false := (hx.frozens _ _ (by simp)).trans (by simp)
    have f1 : w1.frozen? ⟨w.heap.size + 1, 1, none⟩ = false := (hx.frozens _ _ (by simp)).trans (by simp)
    have HX1 := Lib.hid (HX.out.trans hx)
    clear hx
    go_wp2
    refine bodyPost_ret (v := .tuple #[.agg #[.int .i64 0, .slice none 0 0], .bool false]) (by simp [results, Try.results43, go_sem, r0, r1]) rfl ⟨⟨.slice none 0 0, ?_, ?_⟩, ?_⟩
    · unfold asgP; rw [HVV.out]; rfl
    · unfold asgL; rw [HVV.out]; exact ⟨rfl, .inl ⟨rfl, rfl⟩⟩
    · exact (HX1.out.setCell (by simp) _).setCell (by simp) _
  · rw [hv] at HV
    obtain ⟨S, B, rfl, rfl, hM⟩ := validM_good hv
    have hsb := hM.sb
    have hN := cN_le (S + B) hsb
    have HVV := Lib.hid hv
    have HM := Lib.hid hM
    have hcn := cntC_nat (S + B) hsb
    have HC := Lib.hid (show cntC ((S : Int) + (B : Int)) = (cN (S + B) : Int) by rw [← hcn]; simp)
    clear hv hM hcn
    go_enter Try.func43, Try.ntmps43
    go_wp2_with fail
    refine HV.out.mono ?_
    rintro e w1 ⟨rfl, hx⟩
    have c0 : w1.cell? ⟨w.heap.size, 0, none⟩ = some (.int .i64 (S : Int)) := hx.cellSome (by simp)
    have c1 : w1.cell? ⟨w.heap.size, 1, none⟩ = some (.int .i64 (B : Int)) := hx.cellSome (by simp)
    have hs1 : w.heap.size < w1.heap.size := World.block_lt_of_cell? _ _ c0
    have hs2 : w.heap.size + 1 < w1.heap.size := by have := hx.size; simp at this; omega
    have HX1 := Lib.hid hx
    have HI1 := Lib.hid (HI.out.ext hx)
    clear hx
    go_wp2_with (first | (go_at_call 93; refine (s_CountCoalitions _ _).mono ?_; rw [HC.out]; rintro e w' ⟨rfl, rfl⟩))
    go_loopw [6] (fun i wr => ∃ (k : Nat) (a1 : Option Addr) (n1 c1 : Nat), k ≤ cN (S + B) ∧ i = .int .i64 (k : Int) ∧ Hid (OwnI wr (w1.heap.size + 1) (.slice a1 n1 c1) (rowF (asgF S B G) k)) ∧ Hid (wr.heap[w1.heap.size]? = some (.cells #[.int .i64 ((S : Int) + (B : Int)), .slice a1 n1 c1] 64 (0, 0))) ∧ Hid (Ext w1 wr)) (fun i _ => cN (S + B) - (intOf i).toNat)
    case atStart =>
      refine ⟨0, none, 0, 0, Nat.zero_le _, rfl, Lib.hid (by unfold rowF; exact ⟨rfl, .inl ⟨rfl, rfl⟩⟩), Lib.hid ?_, Lib.hid ?_⟩
      · exact heapA_new _ _ _ (by simp)
      · exact Ext.alloc _ _
    case round =>
      obtain ⟨k, a1, n1, p1, hk, rfl, HO, HB, HX2⟩ := hrel
      have hsz := lt_of_block HB.out
      have c0 : wr.cell? ⟨w.heap.size, 0, none⟩ = some (.int .i64 (S : Int)) := (HX1.out.trans HX2.out).cellSome (by simp)
      have c1' : wr.cell? ⟨w.heap.size, 1, none⟩ = some (.int .i64 (B : Int)) := (HX1.out.trans HX2.out).cellSome (by simp)
      have c2' : wr.cell? ⟨w.heap.size, 2, none⟩ = some (.slice a n cap) := (HX1.out.trans HX2.out).cellSome (by simp)
      have hwr : w.heap.size < wr.heap.size := by omega
      by_cases hlt : k < cN (S + B)
      · have HIr := Lib.hid ((HI1.out.ext HX2.out).ext (Ext.alloc _ (.cells #[] 3)))
        have HF := Lib.hid (show (bestF S B G k S []).2 = asgF S B G k from rfl)
        go_wp2_with (first
          | (go_at_call 94; refine (s_l19Best HM.out (show k < 32 by omega) S 0 0 rfl (by omega) _ a n cap _ 0 0 [] HIr.out (OwnI.made' wr 0 _ rfl (by omega)).ints (by simp)).mono ?_; rw [HF.out]; rintro e w4 ⟨⟨v4, rfl, ho4⟩, hx4⟩; have X4 := Lib.hid ((Ext.alloc wr (.cells #[] 3)).trans hx4); have HO4 := Lib.hid (HO.out.ext X4.out); have HB4 := Lib.hid ((X4.out.block _ hsz).trans HB.out); have hg1 := two_cell1 HB4.out; have hsz4 := lt_of_block HB4.out; clear ho4 hx4)
          | (at_builtin; refine append_ints rfl _ _ rfl (w1.heap.size + 1) (.slice a1 n1 p1) _ rfl (HO4.out.ext (Ext.alloc _ _)) _ 1 _ [asgF S B G k] rfl (Ints.one' _ _ _ _ rfl) (by rw [rowF_len]; omega) (by simp; omega) ?_; intro v3 w5 ho3 hg3 hn3; obtain ⟨a3, n3, c3, rfl, HN3⟩ := ho3.var; have HO3 := Lib.hid ho3; have HX3 := Lib.hid (ext_grown ((HX2.out.trans X4.out).trans (Ext.alloc _ _)) hg3 (fun j hj => by have := (HO4.out.lt j hj).1; omega)); have HB3 := Lib.hid ((hg3.block _ (by simp; omega) (fun e => by have := (HO4.out.lt _ e.symm).1; omega)).trans (((Ext.alloc w4 _).block _ hsz4).trans HB4.out)); have cg3 := two_cell1 HB3.out; have fg3 := frozen_of_row w5 w1.heap.size 1 _ _ HB3.out; clear ho3 hg3 hn3))
        go_roundw
        case rel =>
          refine ⟨k + 1, a3, n3, c3, by omega, by go_num, Lib.hid ?_, Lib.hid (two_set HB3.out), Lib.hid (HX3.out.setCell (by simp) _)⟩
          rw [rowF_succ]
          exact HO3.out.keep fun j hj => heap_setCell_other _ _ _ _ (by have := (HO3.out.lt j hj).1; simp; omega)
        case measure => simp [intOf]; omega
      · have hkn : k = cN (S + B) := by omega
        subst hkn
        have hg0 := two_cell0 HB.out
        have hg1 := two_cell1 HB.out
        have r0 : wr.cell? ⟨w.heap.size + 1, 0, none⟩ = some (.int .i64 0) := (HX1.out.trans HX2.out).cellSome (by simp)
        have r1 : wr.cell? ⟨w.heap.size + 1, 1, none⟩ = some (.slice none 0 0) := (HX1.out.trans HX2.out).cellSome (by simp)
        have f0 : wr.frozen? ⟨w.heap.size + 1, 0, none⟩ = false := ((HX1.out.trans HX2.out).frozens _ _ (by simp)).trans (by simp)
        have f1 : wr.frozen? ⟨w.heap.size + 1, 1, none⟩ = false := ((HX1.out.trans HX2.out).frozens _ _ (by simp)).trans (by simp)
        go_wp2
        have hp : asgP (S : Int) (B : Int) G = S + B := by unfold asgP; rw [HVV.out, if_pos rfl]; omega
        have hl : asgL (S : Int) (B : Int) G = rowF (asgF S B G) (cN (S + B)) := by
          unfold asgL; rw [HVV.out, if_pos rfl]
          have e : ((S : Int) + (B : Int)).toNat = S + B := by omega
          rw [e]; rfl
        rw [hp, hl]
        refine bodyPost_ret (v := .tuple #[.agg #[.int .i64 ((S : Int) + (B : Int)), .slice a1 n1 p1], .bool true]) (by simp [results, Try.results43, go_sem, r0, r1]) rfl ⟨⟨.slice a1 n1 p1, by simp, ?_⟩, ?_⟩
        · refine HO.out.mono (by omega) |>.keep fun j hj => ?_
          have := (HO.out.lt j hj).1
          rw [heap_setCell_other _ _ _ _ (by simp; omega), heap_setCell_other _ _ _ _ (by simp; omega)]
        · exact ((HX.out.trans (HX1.out.trans HX2.out)).setCell (by simp) _).setCell (by simp) _

end Go.Proofs.Ytokpmflhgehicaa
