import Derived.Test.YtalmoolkhcgmmaaDoorExAllG2
import Derived.Test.YtalmoolkhcgmmaaDoorExAllG1
import Derived.Test.YtalmoolkhcgmmaaDoorExAllG0
import Derived.Deep.RegionLaw
import Derived.Deep.RegionHeld3
import Derived.Laws.EntriesVeiled
namespace Go.Proofs.YtalmoolkhcgmmaaDoor
set_option linter.unusedVariables false
set_option linter.unusedSimpArgs false
open Go.RowKit
theorem rest_nat : ∀ n : Fin 6, ∀ s : Fin 32, s.val < cN n.val → bits .andNot .i64 ((cN n.val : Int) - 1) ((s.val : Nat) : Int) = (cN n.val : Int) - 1 - ((s.val : Nat) : Int) := by decide +kernel
theorem rest_bits (n s : Nat) (hn : n ≤ 5) (hs : s < cN n) : bits .andNot .i64 ((cN n : Int) - 1) (s : Int) = (cN n : Int) - 1 - (s : Int) := rest_nat ⟨n, by omega⟩ ⟨s, by have := cN_le n hn; omega⟩ hs
theorem rest_bit_nat : ∀ n : Fin 6, ∀ s : Fin 32, ∀ k : Fin 5, s.val < cN n.val → k.val < n.val → bit ((cN n.val : Int) - 1 - ((s.val : Nat) : Int)) k.val = !bit ((s.val : Nat) : Int) k.val := by decide +kernel
theorem rest_bit (n s k : Nat) (hn : n ≤ 5) (hs : s < cN n) (hk : k < n) : bit ((cN n : Int) - 1 - (s : Int)) k = !bit (s : Int) k := rest_bit_nat ⟨n, by omega⟩ ⟨s, by have := cN_le n hn; omega⟩ ⟨k, by omega⟩ hs hk
theorem sumTo_le {l : List Int} (h : ∀ i : Nat, 0 ≤ l[i]?.getD 0 ∧ l[i]?.getD 0 ≤ 100) (c : Int) : ∀ k, k ≤ 1000 → 0 ≤ sumTo c l k ∧ sumTo c l k ≤ 100 * k
 | 0, _ => by simp [sumTo]
 | k + 1, hk => by
   have ih := sumTo_le h c k (by omega)
   have hx := h k
   unfold sumTo
   split
   ·unfold wrap64; omega
   ·omega
theorem sumTo_step {l : List Int} (h : ∀ i : Nat, 0 ≤ l[i]?.getD 0 ∧ l[i]?.getD 0 ≤ 100) (c : Int) (k : Nat) (hk : k ≤ 1000) : sumTo c l (k + 1) = (if bit c k then sumTo c l k + l[k]?.getD 0 else sumTo c l k) := by
 have := sumTo_le h c k hk
 have hx := h k
 rw [sumTo]
 split
 ·unfold wrap64; omega
 ·rfl
theorem sumW_le : ∀ (l : List Int) (acc A : Int), (∀ x ∈ l, 0 ≤ x ∧ x ≤ 100) → 0 ≤ acc → acc ≤ A → A + 100 * l.length ≤ 1000000 → l.foldl (fun a x => wrap64 (a + x)) acc ≤ A + 100 * l.length
 | [], acc, A, _, _, h, _ => by simpa using h
 | x :: l, acc, A, hx, h0, h, hA => by
   have h1 := hx x List.mem_cons_self
   simp only [List.foldl_cons, List.length_cons] at *
   have hw : wrap64 (acc + x) = acc + x := by unfold wrap64; omega
   rw [hw]
   have := sumW_le l (acc + x) (A + 100) (fun y hy => hx y (List.mem_cons_of_mem _ hy)) (by omega) (by omega) (by omega)
   omega
theorem valid_all {lo x : Int} {l : List Int} (h : validPair lo x l = true) : (∀ i : Nat, 0 ≤ l[i]?.getD 0 ∧ l[i]?.getD 0 ≤ 100) ∧ lo ≤ x ∧ x ≤ 500 := by
 have hlen := valid_len h
 unfold validPair small at h
 simp only [Bool.and_eq_true] at h
 have hall : ∀ y ∈ l, 0 ≤ y ∧ y ≤ 100 := fun y hy => by
  have := List.all_eq_true.1 h.1.1 y hy
  unfold inB at this
  simpa using this
 refine ⟨fun i => ?_, ?_⟩
 ·by_cases hi : i < l.length
  ·have := hall _ (List.getElem_mem hi)
   simpa [hi] using this
  ·simp [List.getElem?_eq_none (by omega : l.length ≤ i)]
 ·have hb : lo ≤ x ∧ x ≤ sumW l := by have := h.2; unfold inB at this; simpa using this
  have := sumW_le l 0 0 hall (by omega) (by omega) (by omega)
  unfold sumW at hb
  omega
def maxI (a b : Int) : Int := if a > b then a else b
def bankF (q : Int) (l : List Int) (s : Nat) : Int := maxI 0 (q - sumTo ((cN l.length : Int) - 1 - (s : Int)) l l.length) * bitI (decide (0 < s))
def bankP (q : Int) (l : List Int) : Nat := if validPair 0 q l then l.length else 0
def bankL (q : Int) (l : List Int) : List Int := if validPair 0 q l then rowF (bankF q l) (cN l.length) else []
theorem bankF_le {q : Int} {l : List Int} (h : validPair 0 q l = true) (s : Nat) : 0 ≤ bankF q l s ∧ bankF q l s ≤ 500 := by
 have hv := valid_all h
 have hl := valid_len h
 have hs := sumTo_le hv.1 ((cN l.length : Int) - 1 - (s : Int)) l.length (by omega)
 unfold bankF maxI
 cases decide (0 < s) <;> simp [bitI] <;> split <;> omega
theorem bankF_wrap {q : Int} {l : List Int} (h : validPair 0 q l = true) (s : Nat) : IntKind.i64.wrap (maxI 0 (q - sumTo ((cN l.length : Int) - 1 - (s : Int)) l l.length) * bitI (decide (0 < s))) = bankF q l s := by
 have := bankF_le h s
 have he : maxI 0 (q - sumTo ((cN l.length : Int) - 1 - (s : Int)) l l.length) * bitI (decide (0 < s)) = bankF q l s := rfl
 rw [he, IntKind.wrap_i64]; omega
theorem go_BankruptcyGame1 : IsGo Tryd.prog 45 := isGo Tryd.func45 (by kernel_rfl) (by kernel_rfl)
set_option maxHeartbeats 1000000 in
theorem i_BankruptcyGame1 {w : World} {q : Int} {a : Option Addr} {n cap b b' : Nat} {l : List Int} (s : Nat) (h : Ints w a n cap l) (hb : w.heap[b]? = some (.cells #[.int .i64 q, .slice a n cap] 39 (0, 0))) (hb' : w.cell? ⟨b', 0, none⟩ = some (.int .i64 ((cN n : Int) - 1))) (hv : validPair 0 q l = true) (hs : s < cN n) (h5 : n ≤ 5) :
 Calls Tryd.prog 45 #[.int .i64 (s : Int), .pointer (some ⟨b, 0, none⟩), .pointer (some ⟨b', 0, none⟩)] w fun e w' => e = .returned (.int .i64 (bankF q l s)) ∧ Ext w w' := by
 have c0 := two_cell0 hb
 have c1 := two_cell1 hb
 have HI := Lib.hid h
 have HL := Lib.hid h.hlen
 have HC := Lib.hid (rest_bits n s h5 hs)
 have hN := cN_le n h5
 have hall := valid_all hv
 have hst := sumTo_le hall.1 ((cN n : Int) - 1 - (s : Int)) n (by omega)
 have hq := hall.2
 have HF := Lib.hid (bankF_wrap hv s)
 have HFL := Lib.hid (bankF_le hv s)
 by_cases h0 : s = 0
 ·subst h0
  clear h hb hv hall hst
  go_enter Tryd.func45, Tryd.ntmps45
  go_wp2_with fail
  go_ret
  exact ⟨ret_int (by unfold bankF; simp [bitI]), Ext.refl _⟩
 ·have hsp : decide (0 < s) = true := by simp; omega
  have HSP := Lib.hid hsp
  clear h hb hv hall hsp
  go_enter Tryd.func45, Tryd.ntmps45
  go_wp2
  go_quiet ((go_at_call 46; rw [HC.out]; exact quiet_same (i_sumOver _ (HI.out.drewN _) (by omega) (by omega) (by omega))))
  go_wp2
  all_goals
   go_ret
   refine ⟨ret_int ?_, below_drewN (Ext.refl _) _⟩
   unfold bankF maxI
   rw [HL.out, HSP.out]
   simp only [bitI, if_true, Int.mul_one]
   split <;> omega
set_option maxHeartbeats 4000000 in
theorem i_BankruptcyGame {w : World} {q : Int} {a : Option Addr} {n cap : Nat} {l : List Int} (h : Ints w a n cap l) :
 Calls Tryd.prog 21 #[pair q a n cap] w fun e w' => GameV w' w.heap.size e (bankP q l) (bankL q l) (validPair 0 q l) ∧ Ext w w' := by
 have hi := h.alloc (.cells #[.int .i64 q, .slice a n cap] 39)
 have HL := Lib.hid h.hlen
 have HV := Lib.hid (i_IsValidClaims (x := q) (hi.ext (Ext.alloc _ (.cells #[.int .i64 0, .slice none 0 0] 27))))
 have HX := Lib.hid ((Ext.alloc w (.cells #[.int .i64 q, .slice a n cap] 39)).trans (Ext.alloc _ (.cells #[.int .i64 0, .slice none 0 0] 27)))
 have hmax := h.hmax
 have hcap := h.hcap
 cases hv : validPair 0 q l
 ·rw [hv] at HV
  have HVV := Lib.hid hv
  clear hv
  go_enter Tryd.func21, Tryd.ntmps21
  go_wp2_with fail
  refine HV.out.mono ?_
  rintro e w1 ⟨rfl, hx⟩
  have r0 : w1.cell? ⟨w.heap.size + 1, 0, none⟩ = some (.int .i64 0) := hx.cellSome (by simp)
  have r1 : w1.cell? ⟨w.heap.size + 1, 1, none⟩ = some (.slice none 0 0) := hx.cellSome (by simp)
  have f0 : w1.frozen? ⟨w.heap.size + 1, 0, none⟩ = false := (hx.frozens _ _ (by simp)).trans (by simp)
  have f1 : w1.frozen? ⟨w.heap.size + 1, 1, none⟩ = false := (hx.frozens _ _ (by simp)).trans (by simp)
  have HX1 := Lib.hid (HX.out.trans hx)
  clear hx
  go_wp2
  refine bodyPost_ret (v := .tuple #[.agg #[.int .i64 0, .slice none 0 0], .bool false]) (by simp [results, Tryd.results21, go_sem, r0, r1]) rfl ⟨⟨.slice none 0 0, ?_, ?_⟩, ?_⟩
  ·unfold bankP; rw [HVV.out]; rfl
  ·unfold bankL; rw [HVV.out]; exact ⟨rfl, .inl ⟨rfl, rfl⟩⟩
  ·exact (HX1.out.setCell (by simp) _).setCell (by simp) _
 ·rw [hv] at HV
  have HVV := Lib.hid hv
  have hn5 : 1 ≤ n ∧ n ≤ 5 := by have := valid_len hv; have := HL.out; omega
  obtain ⟨hn1, hn5⟩ := hn5
  have hN := cN_le n hn5
  have HI := Lib.hid hi
  have HVB := Lib.hid hv
  have hint : IntKind.i64.wrap ((cN n : Int) - 1) = (cN n : Int) - 1 := by rw [IntKind.wrap_i64]; omega
  clear hv
  go_enter Tryd.func21, Tryd.ntmps21
  go_wp2_with fail
  refine HV.out.mono ?_
  rintro e w1 ⟨rfl, hx⟩
  have c1 : w1.cell? ⟨w.heap.size, 1, none⟩ = some (.slice a n cap) := hx.cellSome (by simp)
  have HB := Lib.hid (show w1.heap[w.heap.size]? = some (.cells #[.int .i64 q, .slice a n cap] 39 (0, 0)) from (hx.block _ (by simp; omega)).trans (by rw [heapA_old _ _ _ (by simp)]; exact heapA_new _ _ _ rfl))
  have HX1 := Lib.hid hx
  have HI1 := Lib.hid ((HI.out.ext (Ext.alloc _ _)).ext hx)
  clear hx
  have hs1 : w.heap.size < w1.heap.size := World.block_lt_of_cell? _ _ c1
  have HXB := Lib.hid (Ext.alloc w1 (.cells #[.int .i64 ((cN n : Int) - 1)] 3))
  have HT : Hid (Tells Tryd.prog (w1.alloc (.cells #[.int .i64 ((cN n : Int) - 1)] 3)) 45 #[.pointer (some ⟨w.heap.size, 0, none⟩), .pointer (some ⟨w1.heap.size, 0, none⟩)] (cN n) (bankF q l)) := Lib.hid fun s w2 hs k =>
   i_BankruptcyGame1 s ((HI1.out.ext HXB.out).ext k) (((HXB.out.trans k).block _ (lt_of_block HB.out)).trans HB.out) (k.cellSome (by simp)) HVB.out hs hn5
  have HM := Lib.hid (i_made hn1 hn5 go_BankruptcyGame1 HT.out (by unfold bankF; simp [bitI]) (fun s _ => by have := bankF_le HVB.out s; omega))
  go_wp2_with (first | (go_at_call 39; refine (i_CountC n hn5 _).mono ?_; rintro e w' ⟨rfl, rfl⟩))
  refine HM.out.mono ?_
  rintro e w2 ⟨⟨v, rfl, ho⟩, hx⟩
  obtain ⟨a2, n2, c2, rfl, HN2⟩ := ho.var
  have HX2 := Lib.hid ((HX1.out.trans HXB.out).trans hx)
  have r0 : w2.cell? ⟨w.heap.size + 1, 0, none⟩ = some (.int .i64 0) := HX2.out.cellSome (by simp)
  have r1 : w2.cell? ⟨w.heap.size + 1, 1, none⟩ = some (.slice none 0 0) := HX2.out.cellSome (by simp)
  have f0 : w2.frozen? ⟨w.heap.size + 1, 0, none⟩ = false := (HX2.out.frozens _ _ (by simp)).trans (by simp)
  have f1 : w2.frozen? ⟨w.heap.size + 1, 1, none⟩ = false := (HX2.out.frozens _ _ (by simp)).trans (by simp)
  have HO := Lib.hid ho
  have hsz1 := HX1.out.size
  simp at hsz1
  clear ho hx
  go_wp2
  refine bodyPost_ret (v := .tuple #[.agg #[.int .i64 (n : Int), .slice a2 n2 c2], .bool true]) (by simp [results, Tryd.results21, go_sem, r0, r1]) rfl ⟨⟨.slice a2 n2 c2, ?_, ?_⟩, ?_⟩
  ·unfold bankP; rw [HVV.out, if_pos rfl, HL.out]
  ·unfold bankL; rw [HVV.out, if_pos rfl, HL.out]
   refine HO.out.mono (by simp; omega) |>.keep fun j hj => ?_
   have := (HO.out.lt j hj).1
   simp at this
   rw [heap_setCell_other _ _ _ _ (by simp; omega), heap_setCell_other _ _ _ _ (by simp; omega)]
  ·exact ((HX.out.trans HX2.out).setCell (by simp) _).setCell (by simp) _
theorem s_l1Max (x y : Int) (w : World) : Calls Tryd.prog 35 #[.int .i64 x, .int .i64 y] w fun e w' => e = .returned (.int .i64 (maxI x y)) ∧ w = w' := by
 by_cases h : x > y
 all_goals
  have H := Lib.hid h
  go_enter Tryd.func35, Tryd.ntmps35
  go_wp2_with fail
  go_ret
  exact ⟨ret_int (by unfold maxI; first | (rw [if_pos H.out]) | (rw [if_neg (by have := H.out; omega)])), rfl⟩
set_option maxRecDepth 100000 in
set_option maxHeartbeats 8000000 in
theorem s_BankruptcyGame {w : World} {q : Int} {a : Option Addr} {n cap : Nat} {l : List Int} (h : Ints w a n cap l) :
 Calls Tryd.prog 15 #[pair q a n cap] w fun e w' => GameV w' w.heap.size e (bankP q l) (bankL q l) (validPair 0 q l) ∧ Ext w w' := by
 have hi := h.alloc (.cells #[.int .i64 q, .slice a n cap] 39)
 have HL := Lib.hid h.hlen
 have HV := Lib.hid (s_IsValidClaims (x := q) (hi.ext (Ext.alloc _ (.cells #[.int .i64 0, .slice none 0 0] 27))))
 have HX := Lib.hid ((Ext.alloc w (.cells #[.int .i64 q, .slice a n cap] 39)).trans (Ext.alloc _ (.cells #[.int .i64 0, .slice none 0 0] 27)))
 have hmax := h.hmax
 have hcap := h.hcap
 cases hv : validPair 0 q l
 ·rw [hv] at HV
  have HVV := Lib.hid hv
  clear hv
  go_enter Tryd.func15, Tryd.ntmps15
  go_wp2_with fail
  refine HV.out.mono ?_
  rintro e w1 ⟨rfl, hx⟩
  have r0 : w1.cell? ⟨w.heap.size + 1, 0, none⟩ = some (.int .i64 0) := hx.cellSome (by simp)
  have r1 : w1.cell? ⟨w.heap.size + 1, 1, none⟩ = some (.slice none 0 0) := hx.cellSome (by simp)
  have f0 : w1.frozen? ⟨w.heap.size + 1, 0, none⟩ = false := (hx.frozens _ _ (by simp)).trans (by simp)
  have f1 : w1.frozen? ⟨w.heap.size + 1, 1, none⟩ = false := (hx.frozens _ _ (by simp)).trans (by simp)
  have HX1 := Lib.hid (HX.out.trans hx)
  clear hx
  go_wp2
  refine bodyPost_ret (v := .tuple #[.agg #[.int .i64 0, .slice none 0 0], .bool false]) (by simp [results, Tryd.results15, go_sem, r0, r1]) rfl ⟨⟨.slice none 0 0, ?_, ?_⟩, ?_⟩
  ·unfold bankP; rw [HVV.out]; rfl
  ·unfold bankL; rw [HVV.out]; exact ⟨rfl, .inl ⟨rfl, rfl⟩⟩
  ·exact (HX1.out.setCell (by simp) _).setCell (by simp) _
 ·rw [hv] at HV
  have HVV := Lib.hid hv
  have hn5 : 1 ≤ n ∧ n ≤ 5 := by have := valid_len hv; have := HL.out; omega
  obtain ⟨hn1, hn5⟩ := hn5
  have hN := cN_le n hn5
  have HI := Lib.hid hi
  have HVB := Lib.hid hv
  have hall := valid_all hv
  have HALL := Lib.hid hall.1
  have hq := hall.2
  clear hv h hi hall
  go_enter Tryd.func15, Tryd.ntmps15
  go_wp2_with fail
  refine HV.out.mono ?_
  rintro e w1 ⟨rfl, hx⟩
  have c1 : w1.cell? ⟨w.heap.size, 1, none⟩ = some (.slice a n cap) := hx.cellSome (by simp)
  have hs1 : w.heap.size < w1.heap.size := World.block_lt_of_cell? _ _ c1
  have hs2 : w.heap.size + 1 < w1.heap.size := by have := hx.size; simp at this; omega
  have HX1 := Lib.hid hx
  have HI1 := Lib.hid ((HI.out.ext (Ext.alloc _ _)).ext hx)
  clear hx
  go_wp2_with (first | (go_at_call 28; refine (s_CountC n hn5 _).mono ?_; rintro e w' ⟨rfl, rfl⟩))
  go_loopw [6] (fun i wr => ∃ (k : Nat) (a1 : Option Addr) (n1 c1 : Nat), k ≤ cN n ∧ i = .int .i64 (k : Int) ∧ Hid (OwnI wr (w1.heap.size + 1) (.slice a1 n1 c1) (rowF (bankF q l) k)) ∧ Hid (wr.heap[w1.heap.size]? = some (.cells #[.int .i64 (n : Int), .slice a1 n1 c1] 27 (0, 0))) ∧ Hid (Ext w1 wr)) (fun i _ => cN n - (intOf i).toNat)
  case atStart =>
   refine ⟨0, none, 0, 0, Nat.zero_le _, rfl, Lib.hid (by unfold rowF; exact ⟨rfl, .inl ⟨rfl, rfl⟩⟩), Lib.hid ?_, Lib.hid ?_⟩
   ·exact heapA_new _ _ _ (by simp)
   ·exact Ext.alloc _ _
  case round =>
   obtain ⟨k, a1, n1, c1, hk, rfl, HO, HB, HX2⟩ := hrel
   have hg0 := two_cell0 HB.out
   have hg1 := two_cell1 HB.out
   have hsz := lt_of_block HB.out
   have c0 : wr.cell? ⟨w.heap.size, 0, none⟩ = some (.int .i64 q) := (HX1.out.trans HX2.out).cellSome (by simp)
   have c1' : wr.cell? ⟨w.heap.size, 1, none⟩ = some (.slice a n cap) := (HX1.out.trans HX2.out).cellSome (by simp)
   by_cases hlt : k < cN n
   ·have HF := Lib.hid (bankF_wrap HVB.out k)
    go_wp2_with fail
    go_loopw [7, 8] (fun t i ws => ∃ j : Nat, j ≤ n ∧ i = .int .i64 (j : Int) ∧ t = .int .i64 (q - sumTo ((cN n : Int) - 1 - (k : Int)) l j) ∧ ws = wr) (fun _ i _ => n - (intOf i).toNat)
    case atStart => exact ⟨0, Nat.zero_le _, rfl, by simp [sumTo], rfl⟩
    case round =>
     obtain ⟨j, hj, rfl, rfl, rfl⟩ := hrel
     have hst := sumTo_le HALL.out ((cN n : Int) - 1 - (k : Int)) j (by omega)
     by_cases hjl : j < n
     ·have HP := Lib.hid (hasP_bit (k : Int) j (by omega) (by omega))
      have HS := Lib.hid (sumTo_step HALL.out ((cN n : Int) - 1 - (k : Int)) j (by omega))
      have HR := Lib.hid (rest_bit n k j hn5 hlt hjl)
      obtain ⟨bb, off, rfl, hc⟩ := (HI1.out.ext HX2.out).at hjl
      have hx1 := HALL.out j
      cases hbit : bit (k : Int) j
      all_goals
       have HBT := Lib.hid hbit
       clear hbit
       go_wp2_with (first | (go_at_call 30; refine (s_HasPlayer _ _ _ (by omega)).mono ?_; rw [HP.out, HBT.out]; rintro e w' ⟨rfl, rfl⟩))
       go_roundw
       case rel => exact ⟨j + 1, by omega, by go_num, by rw [HS.out, HR.out, HBT.out]; simp <;> omega, by simp⟩
       case measure => simp [intOf]; omega
     ·have hje : j = n := by omega
      subst hje
      go_wp2
      go_region_law (first
       | (refine step_of_wp _ rfl (wp_append_ints _ _ rfl (w1.heap.size + 1) _ _ rfl ((HO.out.ext (Ext.alloc _ _)).ext (Ext.drew _)) _ 1 _ [IntKind.i64.wrap (maxI 0 (q - sumTo ((cN j : Int) - 1 - (k : Int)) l j) * bitI (decide (0 < k)))] rfl ((Ints.one _ _ _).ext (Ext.drew _)) (by rw [rowF_len]; omega) (by simp; omega) ?_); intro v3 w3 ho3 hg3 hn3; obtain ⟨a3, n3, c3, rfl, HN3⟩ := ho3.var; have HO3 := Lib.hid ho3; have HX3 := Lib.hid (ext_grown ((HX2.out.trans (Ext.alloc _ _)).trans (Ext.drew _)) hg3 (fun j hj => by have := (HO.out.lt j hj).1; omega)); have HB3 := Lib.hid ((hg3.block _ (by simp; omega) (fun e => by have := (HO.out.lt _ e.symm).1; omega)).trans (((Ext.alloc wr _).trans (Ext.drew _)).block _ hsz |>.trans HB.out)); have cg3 := two_cell1 HB3.out; have fg3 := frozen_of_row w3 w1.heap.size 1 _ _ HB3.out; clear ho3 hg3 hn3)
       | (go_simp; go_at_call 35; refine (s_l1Max _ _ _).mono ?_; rintro e w' ⟨rfl, rfl⟩)
       | (go_simp; go_at_call 36; refine (s_l1Bit _ _).mono ?_; rintro e w' ⟨rfl, rfl⟩))
      all_goals
       go_wp2
       go_roundw
       case rel =>
        refine ⟨k + 1, a3, n3, c3, by omega, by go_num, Lib.hid ?_, Lib.hid (two_set HB3.out), Lib.hid (HX3.out.setCell (by simp) _)⟩
        rw [rowF_succ]
        have hf := HF.out
        rw [HL.out] at hf
        rw [← hf]
        exact HO3.out.keep fun j hj => heap_setCell_other _ _ _ _ (by have := (HO3.out.lt j hj).1; simp; omega)
       case measure => simp [intOf]; omega
   ·have hkn : k = cN n := by omega
    subst hkn
    have r0 : wr.cell? ⟨w.heap.size + 1, 0, none⟩ = some (.int .i64 0) := (HX1.out.trans HX2.out).cellSome (by simp)
    have r1 : wr.cell? ⟨w.heap.size + 1, 1, none⟩ = some (.slice none 0 0) := (HX1.out.trans HX2.out).cellSome (by simp)
    have f0 : wr.frozen? ⟨w.heap.size + 1, 0, none⟩ = false := ((HX1.out.trans HX2.out).frozens _ _ (by simp)).trans (by simp)
    have f1 : wr.frozen? ⟨w.heap.size + 1, 1, none⟩ = false := ((HX1.out.trans HX2.out).frozens _ _ (by simp)).trans (by simp)
    go_wp2
    refine bodyPost_ret (v := .tuple #[.agg #[.int .i64 (n : Int), .slice a1 n1 c1], .bool true]) (by simp [results, Tryd.results15, go_sem, r0, r1]) rfl ⟨⟨.slice a1 n1 c1, ?_, ?_⟩, ?_⟩
    ·unfold bankP; rw [HVV.out, if_pos rfl, HL.out]
    ·unfold bankL; rw [HVV.out, if_pos rfl, HL.out]
     refine HO.out.mono (by omega) |>.keep fun j hj => ?_
     have := (HO.out.lt j hj).1
     rw [heap_setCell_other _ _ _ _ (by simp; omega), heap_setCell_other _ _ _ _ (by simp; omega)]
    ·exact ((HX.out.trans (HX1.out.trans HX2.out)).setCell (by simp) _).setCell (by simp) _
abbrev triple (x y : Int) (a : Option Addr) (n cap : Nat) : Value := .agg #[.int .i64 x, .int .i64 y, .slice a n cap]
def validM (s b : Int) (L : List (List Int)) : Bool :=
 (decide (1 ≤ s) && decide (s ≤ 5) && decide (1 ≤ b) && decide (b ≤ 5 - s) && decide ((L.length : Int) = s)) && L.all (fun r => r.all (inB · 0 100) && decide ((r.length : Int) = b))
theorem go_IsValidMarket11 : IsGo Tryd.prog 61 := isGo Tryd.func61 (by kernel_rfl) (by kernel_rfl)
theorem go_IsValidMarket1 : IsGo Tryd.prog 60 := isGo Tryd.func60 (by kernel_rfl) (by kernel_rfl)
set_option maxHeartbeats 400000 in
theorem i_IsValidMarket11 (x : Int) (w : World) : Calls Tryd.prog 61 #[.int .i64 x] w fun e w' => e = .returned (.bool (!inB x 0 100)) ∧ w = w' := by
 go_enter Tryd.func61, Tryd.ntmps61
 go_wp2_with (first | (go_at_call 50; refine (i_within _ _ _ _).mono ?_; rintro e w' ⟨rfl, rfl⟩))
 go_ret
 exact ⟨rfl, rfl⟩
theorem asks_IsValidMarket11 (w : World) : Asks Tryd.prog w 61 #[] (fun x => !inB x 0 100) :=
 fun x w1 _ => (i_IsValidMarket11 x w1).mono fun e w' ⟨he, hw⟩ => ⟨he, hw ▸ Ext.refl _⟩
def badRow (b : Int) (r : List Int) : Bool := !decide ((r.length : Int) = b) || r.any (fun x => !inB x 0 100)
set_option maxHeartbeats 400000 in
theorem i_IsValidMarket1 {w : World} {m : Nat} {b : Int} {a : Option Addr} {n cap : Nat} {l : List Int} (hb : w.cell? ⟨m, 1, none⟩ = some (.int .i64 b)) (h : Ints w a n cap l) :
 Calls Tryd.prog 60 #[.slice a n cap, .pointer (some ⟨m, 0, none⟩)] w fun e w' => e = .returned (.bool (badRow b l)) ∧ Ext w w' := by
 have hne : ((n : Int) != b) = !decide ((n : Int) = b) := by by_cases h : (n : Int) = b <;> simp [h]
 have HC := Lib.hid (containsFunc_ints h go_IsValidMarket11 (asks_IsValidMarket11 _))
 have HL := Lib.hid h.hlen
 cases hd : decide ((n : Int) = b)
 ·rw [hd] at hne
  have HD := Lib.hid hd
  clear hd
  go_enter Tryd.func60, Tryd.ntmps60
  go_wp2_with fail
  go_ret
  refine ⟨ret_bool ?_, Ext.refl _⟩
  unfold badRow
  rw [HL.out, HD.out]; simp
 ·rw [hd] at hne
  have HD := Lib.hid hd
  clear hd
  go_enter Tryd.func60, Tryd.ntmps60
  go_wp2_with fail
  refine HC.out.mono ?_
  rintro e w1 ⟨rfl, hx⟩
  go_wp2
  go_ret
  refine ⟨ret_bool ?_, hx⟩
  unfold badRow
  rw [HL.out, HD.out]; simp
theorem validM_any (s b : Int) (L : List (List Int)) : validM s b L = ((decide (1 ≤ s) && decide (s ≤ 5) && decide (1 ≤ b) && decide (b ≤ 5 - s) && decide ((L.length : Int) = s)) && !L.any (badRow b)) := by
 unfold validM badRow
 congr 1
 rw [List.not_any_eq_all_not]
 congr 1
 funext r
 rw [Bool.not_or, Bool.not_not, List.not_any_eq_all_not, Bool.and_comm]
 simp
set_option maxHeartbeats 1000000 in
theorem i_IsValidMarket {w : World} {x y : Int} {a : Option Addr} {n cap : Nat} {L : List (List Int)} (h : IntSS w a n cap L) :
 Calls Tryd.prog 41 #[triple x y a n cap] w fun e w' => e = .returned (.bool (validM x y L)) ∧ Ext w w' := by
 have h1 := h.alloc (.cells #[.int .i64 x, .int .i64 y, .slice a n cap] 36)
 have HX := Lib.hid (Ext.alloc w (.cells #[.int .i64 x, .int .i64 y, .slice a n cap] 36))
 have HL := Lib.hid h.hlen
 have HC := Lib.hid (containsFunc_intss (ca := #[.pointer (some ⟨w.heap.size, 0, none⟩)]) (p := badRow y) h1 go_IsValidMarket1 (fun l a n c w1 hx hi => i_IsValidMarket1 (hx.cellSome (by simp)) hi))
 clear h h1
 by_cases hall : 1 ≤ x ∧ x ≤ 5 ∧ 1 ≤ y ∧ y ≤ 5 - x ∧ (n : Int) = x
 ·obtain ⟨p1, p2, p3, p4, p5⟩ := hall
  have hne : ((n : Int) != x) = false := by simp [p5]
  have HP := Lib.hid p5
  clear p5
  go_enter Tryd.func41, Tryd.ntmps41
  go_wp2_with fail
  refine HC.out.mono ?_
  rintro e w1 ⟨rfl, hx⟩
  go_wp2
  go_ret
  refine ⟨ret_bool ?_, HX.out.trans hx⟩
  rw [validM_any, HL.out]
  have := HP.out
  simp [p1, p2, p3, p4, this]
 ·have HN := Lib.hid (show validM x y L = false by unfold validM; rw [HL.out]; simp only [Bool.and_eq_false_iff, decide_eq_false_iff_not]; omega)
  have hx5 : x < 1 ∨ y < 1 ∨ 5 < x ∨ 5 - x < y ∨ ((n : Int) ≠ x) := by omega
  have hgo : Calls Tryd.prog 41 #[triple x y a n cap] w fun e w' => e = .returned (.bool false) ∧ Ext w w' := by
   by_cases q1 : x < 1
   ·go_enter Tryd.func41, Tryd.ntmps41
    go_wp2_with fail
    go_ret
    exact ⟨rfl, HX.out⟩
   by_cases q2 : y < 1
   ·go_enter Tryd.func41, Tryd.ntmps41
    go_wp2_with fail
    go_ret
    exact ⟨rfl, HX.out⟩
   by_cases q3 : 5 < x
   ·go_enter Tryd.func41, Tryd.ntmps41
    go_wp2_with fail
    go_ret
    exact ⟨rfl, HX.out⟩
   by_cases q4 : 5 - x < y
   ·go_enter Tryd.func41, Tryd.ntmps41
    go_wp2_with fail
    go_ret
    exact ⟨rfl, HX.out⟩
   have hne : ((n : Int) != x) = true := by simp; omega
   clear hx5 hall
   go_enter Tryd.func41, Tryd.ntmps41
   go_wp2_with fail
   go_ret
   exact ⟨rfl, HX.out⟩
  rw [HN.out]
  exact hgo
def goodRow (b : Int) (r : List Int) : Bool := small r 100 && decide ((r.length : Int) = b)
theorem goodRow_bad {b : Int} (h1 : 1 ≤ b) (h5 : b ≤ 5) (r : List Int) : goodRow b r = !badRow b r := by
 unfold goodRow badRow
 rw [small_any]
 by_cases h : (r.length : Int) = b
 ·have hi : inB r.length 1 5 = true := by unfold inB; simp; omega
  rw [hi, decide_eq_true h]; simp
 ·rw [decide_eq_false h]; simp
set_option maxHeartbeats 1000000 in
theorem s_IsValidMarket {w : World} {x y : Int} {a : Option Addr} {n cap : Nat} {L : List (List Int)} (h : IntSS w a n cap L) :
 Calls Tryd.prog 32 #[triple x y a n cap] w fun e w' => e = .returned (.bool (validM x y L)) ∧ Ext w w' := by
 have h1 := h.alloc (.cells #[.int .i64 x, .int .i64 y, .slice a n cap] 36)
 have HX := Lib.hid (Ext.alloc w (.cells #[.int .i64 x, .int .i64 y, .slice a n cap] 36))
 have HL := Lib.hid h.hlen
 have hcap := h.hcap
 have hmax := h.hmax
 clear h
 cases q1 : inB x 1 5
 ·have HN := Lib.hid (show validM x y L = false by unfold validM inB at *; simp only [Bool.and_eq_false_iff, decide_eq_false_iff_not] at q1 ⊢; omega)
  rw [HN.out]
  go_enter Tryd.func32, Tryd.ntmps32
  go_wp2_with (first | (go_at_call 27; refine (s_l1In _ _ _ _).mono ?_; rintro e w' ⟨rfl, rfl⟩))
  go_ret
  exact ⟨rfl, HX.out⟩
 have p1 : 1 ≤ x ∧ x ≤ 5 := by unfold inB at q1; simpa using q1
 obtain ⟨p1, p2⟩ := p1
 cases q2 : inB y 1 (5 - x)
 ·have HN := Lib.hid (show validM x y L = false by unfold validM inB at *; simp only [Bool.and_eq_false_iff, decide_eq_false_iff_not] at q2 ⊢; omega)
  rw [HN.out]
  go_enter Tryd.func32, Tryd.ntmps32
  go_wp2_with (first | (go_at_call 27; refine (s_l1In _ _ _ _).mono ?_; rintro e w' ⟨rfl, rfl⟩))
  go_ret
  exact ⟨rfl, HX.out⟩
 have p3 : 1 ≤ y ∧ y ≤ 5 - x := by unfold inB at q2; simpa using q2
 obtain ⟨p3, p4⟩ := p3
 by_cases q3 : (n : Int) = x
 ·have hne : ((n : Int) != x) = false := by simp [q3]
  have HP := Lib.hid q3
  clear q3
  go_enter Tryd.func32, Tryd.ntmps32
  go_wp2_with (first | (go_at_call 27; refine (s_l1In _ _ _ _).mono ?_; rintro e w' ⟨rfl, rfl⟩))
  go_loopw [3] (fun i wr => ∃ k : Nat, k ≤ n ∧ i = .int .i64 k ∧ Hid ((L.take k).all (goodRow y) = true) ∧ Drew (w.alloc (.cells #[.int .i64 x, .int .i64 y, .slice a n cap] 36)) wr) (fun i _ => n - (intOf i).toNat)
  case atStart => exact ⟨0, Nat.zero_le _, rfl, Lib.hid rfl, Drew.refl _⟩
  case round =>
   obtain ⟨k, hk, rfl, HA, hx⟩ := hrel
   have c1 : wr.cell? ⟨w.heap.size, 1, none⟩ = some (.int .i64 y) := hx.ext.cellSome (by simp)
   have c2 : wr.cell? ⟨w.heap.size, 2, none⟩ = some (.slice a n cap) := hx.ext.cellSome (by simp)
   have HX2 := Lib.hid (HX.out.trans hx.ext)
   have HX3 := Lib.hid hx
   by_cases hlt : k < n
   ·obtain ⟨b, off, a', n', c', rfl, hc, hr⟩ := (h1.ext hx.ext).at hlt
    have hq := fun j => quiet_same (s_l18Small 100 (hr.drewN j))
    have HR := Lib.hid hr.hlen
    clear hr hx
    have HQ := Lib.hid hq
    clear hq
    cases hs : small (L[k]?.getD []) 100
    ·have HS := Lib.hid hs
     rw [hs] at HQ
     clear hs
     go_wp2
     go_quiet ((go_at_call 56; exact HQ.out _))
     go_wp2
     go_ret
     refine ⟨ret_bool ?_, below_drewN HX2.out _⟩
     symm
     rw [validM_any]
     have hkl : k < L.length := by have := HL.out; omega
     have : L.any (badRow y) = true := by
      rw [List.any_eq_true]
      refine ⟨L[k], List.getElem_mem hkl, ?_⟩
      have h2 := goodRow_bad p3 (by omega) L[k]
      have h3 : goodRow y L[k] = false := by unfold goodRow; have := HS.out; simp only [hkl, List.getElem?_eq_getElem, Option.getD_some] at this; rw [this]; rfl
      rw [h3] at h2
      simpa using h2.symm
     rw [this]; simp
    ·have HS := Lib.hid hs
     rw [hs] at HQ
     clear hs
     by_cases hb : (n' : Int) = y
     ·have hne : ((n' : Int) != y) = false := by simp [hb]
      have HB := Lib.hid hb
      clear hb
      go_wp2
      go_quiet ((go_at_call 56; exact HQ.out _))
      go_wp2
      go_roundw
      case rel => exact ⟨k + 1, by omega, by go_num, Lib.hid (by rw [takeL_snoc (by have := HL.out; omega), List.all_append, HA.out]; simp [goodRow, HS.out, HR.out, HB.out]), HX3.out.trans ⟨_, rfl⟩⟩
      case measure => simp [intOf]; omega
     ·have hne : ((n' : Int) != y) = true := by simp [hb]
      have HB := Lib.hid hb
      clear hb
      go_wp2
      go_quiet ((go_at_call 56; exact HQ.out _))
      go_wp2
      go_ret
      refine ⟨ret_bool ?_, below_drewN HX2.out _⟩
      symm
      rw [validM_any]
      have hkl : k < L.length := by have := HL.out; omega
      have : L.any (badRow y) = true := by
       rw [List.any_eq_true]
       refine ⟨L[k], List.getElem_mem hkl, ?_⟩
       have := HR.out
       simp only [hkl, List.getElem?_eq_getElem, Option.getD_some] at this
       unfold badRow
       rw [this, decide_eq_false HB.out]; rfl
      rw [this]; simp
   ·clear hx
    go_wp2
    go_ret
    refine ⟨ret_bool ?_, HX2.out⟩
    symm
    have := HA.out
    rw [List.take_of_length_le (by have := HL.out; omega)] at this
    rw [validM_any, HL.out]
    have h2 : L.any (badRow y) = false := by
     rw [List.any_eq_false]
     intro r hr
     have h3 := List.all_eq_true.1 this r hr
     rw [goodRow_bad p3 (by omega)] at h3
     simpa using h3
    rw [h2]
    have hp := HP.out
    simp [p1, p2, p3, p4, hp]
 ·have hne : ((n : Int) != x) = true := by simp [q3]
  have HN := Lib.hid (show validM x y L = false by unfold validM; rw [HL.out]; simp only [Bool.and_eq_false_iff, decide_eq_false_iff_not]; omega)
  rw [HN.out]
  clear q3
  go_enter Tryd.func32, Tryd.ntmps32
  go_wp2_with (first | (go_at_call 27; refine (s_l1In _ _ _ _).mono ?_; rintro e w' ⟨rfl, rfl⟩))
  go_ret
  exact ⟨rfl, HX.out⟩
theorem tcut_nat : ∀ s : Fin 32, ∀ k : Fin 5, bits .andNot .i64 ((s.val : Nat) : Int) (2 ^ k.val) = (if bit ((s.val : Nat) : Int) k.val then ((s.val - 2 ^ k.val : Nat) : Int) else ((s.val : Nat) : Int)) := by decide +kernel
theorem tcut {s k : Nat} (hs : s < 32) (hk : k < 5) (h : bit (s : Int) k = true) : bits .andNot .i64 (s : Int) (2 ^ k) = ((s - 2 ^ k : Nat) : Int) := by
 have := tcut_nat ⟨s, hs⟩ ⟨k, hk⟩
 simp only [h, if_true] at this
 exact this
theorem tcut_bit_nat : ∀ s : Fin 32, ∀ k : Fin 5, ∀ j : Fin 5, bit ((s.val : Nat) : Int) k.val = true → bit ((s.val - 2 ^ k.val : Nat) : Int) j.val = (bit ((s.val : Nat) : Int) j.val && !decide (j.val = k.val)) := by decide +kernel
theorem tcut_bit {s k j : Nat} (hs : s < 32) (hk : k < 5) (hj : j < 5) (h : bit (s : Int) k = true) : bit ((s - 2 ^ k : Nat) : Int) j = (bit (s : Int) j && !decide (j = k)) := tcut_bit_nat ⟨s, hs⟩ ⟨k, hk⟩ ⟨j, hj⟩ h
section
variable (S B : Nat) (G : List (List Int)) (s : Nat)
def gain (i j : Nat) : Int := (G[i]?.getD [])[j]?.getD 0
def freeJ (taken : List Int) (i j : Nat) : Bool := bit (s : Int) i && (bit (s : Int) (S + j) && !hasI taken (j : Int))
def bestF : Nat → List Int → List Int × Int
 | 0, _ => ([], 0)
 | r + 1, taken => (List.range B).foldl (fun acc j => if freeJ S s taken (S - (r + 1)) j = true then (if (bestF r (taken ++ [(j : Int)])).2 + gain G (S - (r + 1)) j > acc.2 then ((j : Int) :: (bestF r (taken ++ [(j : Int)])).1, (bestF r (taken ++ [(j : Int)])).2 + gain G (S - (r + 1)) j) else acc) else acc)
     (-1 :: (bestF r taken).1, (bestF r taken).2)
def bestTo (r : Nat) (taken : List Int) (k : Nat) : List Int × Int :=
 (List.range k).foldl (fun acc j => if freeJ S s taken (S - (r + 1)) j = true then (if (bestF S B G s r (taken ++ [(j : Int)])).2 + gain G (S - (r + 1)) j > acc.2 then ((j : Int) :: (bestF S B G s r (taken ++ [(j : Int)])).1, (bestF S B G s r (taken ++ [(j : Int)])).2 + gain G (S - (r + 1)) j) else acc) else acc)
   (-1 :: (bestF S B G s r taken).1, (bestF S B G s r taken).2)
theorem bestF_succ (r : Nat) (taken : List Int) : bestF S B G s (r + 1) taken = bestTo S B G s r taken B := rfl
theorem bestTo_zero (r : Nat) (taken : List Int) : bestTo S B G s r taken 0 = (-1 :: (bestF S B G s r taken).1, (bestF S B G s r taken).2) := rfl
theorem bestTo_succ (r : Nat) (taken : List Int) (k : Nat) : bestTo S B G s r taken (k + 1) = if freeJ S s taken (S - (r + 1)) k = true then (if (bestF S B G s r (taken ++ [(k : Int)])).2 + gain G (S - (r + 1)) k > (bestTo S B G s r taken k).2 then ((k : Int) :: (bestF S B G s r (taken ++ [(k : Int)])).1, (bestF S B G s r (taken ++ [(k : Int)])).2 + gain G (S - (r + 1)) k) else bestTo S B G s r taken k) else bestTo S B G s r taken k := by
 unfold bestTo
 rw [List.range_succ, List.foldl_append]
 rfl
theorem bestF_bd (hG : ∀ i j, 0 ≤ gain G i j ∧ gain G i j ≤ 100) : ∀ (r : Nat) (taken : List Int), (bestF S B G s r taken).1.length = r ∧ 0 ≤ (bestF S B G s r taken).2 ∧ (bestF S B G s r taken).2 ≤ 100 * r
 | 0, _ => by simp [bestF]
 | r + 1, taken => by
   rw [bestF_succ]
   have hb : ∀ k, (bestTo S B G s r taken k).1.length = r + 1 ∧ 0 ≤ (bestTo S B G s r taken k).2 ∧ (bestTo S B G s r taken k).2 ≤ 100 * (r + 1 : Nat) := by
    intro k
    induction k with
    | zero =>
      have := bestF_bd hG r taken
      rw [bestTo_zero]
      simp only [List.length_cons]
      omega
    | succ k ih =>
      rw [bestTo_succ]
      have h1 := bestF_bd hG r (taken ++ [(k : Int)])
      have h2 := hG (S - (r + 1)) k
      split
      ·split
       ·simp only [List.length_cons]; omega
       ·exact ih
      ·exact ih
   exact hb B
theorem bestTo_bd (hG : ∀ i j, 0 ≤ gain G i j ∧ gain G i j ≤ 100) (r : Nat) (taken : List Int) (k : Nat) : (bestTo S B G s r taken k).1.length = r + 1 ∧ 0 ≤ (bestTo S B G s r taken k).2 ∧ (bestTo S B G s r taken k).2 ≤ 100 * (r + 1 : Nat) := by
 induction k with
 | zero =>
   have := bestF_bd S B G s hG r taken
   rw [bestTo_zero]
   simp only [List.length_cons]
   omega
 | succ k ih =>
   rw [bestTo_succ]
   have h1 := bestF_bd S B G s hG r (taken ++ [(k : Int)])
   have h2 := hG (S - (r + 1)) k
   split
   ·split
    ·simp only [List.length_cons]; omega
    ·exact ih
   ·exact ih
structure Srch where
 now : List Int
 best : List Int
 most : Int
def walkF : Nat → Nat → Int → Srch → Srch
 | 0, left, sum, st => if sum > st.most then ⟨st.now, st.now, sum⟩ else st
 | r + 1, left, sum, st =>
   if bit (s : Int) (S - (r + 1)) = false then walkF r left sum ⟨st.now.set (S - (r + 1)) (-1), st.best, st.most⟩
   else (List.range B).foldl (fun st j => if bit (left : Int) (S + j) = true then walkF r (left - 2 ^ (S + j)) (sum + gain G (S - (r + 1)) j) ⟨st.now.set (S - (r + 1)) (j : Int), st.best, st.most⟩ else st)
    (walkF r left sum ⟨st.now.set (S - (r + 1)) (-1), st.best, st.most⟩)
def walkTo (r left : Nat) (sum : Int) (st : Srch) (k : Nat) : Srch :=
 (List.range k).foldl (fun st j => if bit (left : Int) (S + j) = true then walkF S B G s r (left - 2 ^ (S + j)) (sum + gain G (S - (r + 1)) j) ⟨st.now.set (S - (r + 1)) (j : Int), st.best, st.most⟩ else st)
   (walkF S B G s r left sum ⟨st.now.set (S - (r + 1)) (-1), st.best, st.most⟩)
theorem walkF_not {r left : Nat} {sum : Int} {st : Srch} (h : bit (s : Int) (S - (r + 1)) = false) : walkF S B G s (r + 1) left sum st = walkF S B G s r left sum ⟨st.now.set (S - (r + 1)) (-1), st.best, st.most⟩ := by
 rw [walkF, if_pos h]
theorem walkF_to {r left : Nat} {sum : Int} {st : Srch} (h : bit (s : Int) (S - (r + 1)) = true) : walkF S B G s (r + 1) left sum st = walkTo S B G s r left sum st B := by
 rw [walkF, if_neg (by simp [h])]; rfl
theorem walkTo_zero (r left : Nat) (sum : Int) (st : Srch) : walkTo S B G s r left sum st 0 = walkF S B G s r left sum ⟨st.now.set (S - (r + 1)) (-1), st.best, st.most⟩ := rfl
theorem walkTo_succ (r left : Nat) (sum : Int) (st : Srch) (k : Nat) : walkTo S B G s r left sum st (k + 1) = if bit (left : Int) (S + k) = true then walkF S B G s r (left - 2 ^ (S + k)) (sum + gain G (S - (r + 1)) k) ⟨(walkTo S B G s r left sum st k).now.set (S - (r + 1)) (k : Int), (walkTo S B G s r left sum st k).best, (walkTo S B G s r left sum st k).most⟩ else walkTo S B G s r left sum st k := by
 simp only [walkTo, List.range_succ, List.foldl_append, List.foldl_cons, List.foldl_nil]
def Found (i : Nat) (now : List Int) (sum : Int) (st0 : Srch) (b : List Int × Int) (out : Srch) : Prop :=
 out.now.length = S ∧ out.now.take i = now.take i ∧ ((st0.most < sum + b.2 ∧ out.best = now.take i ++ b.1 ∧ out.most = sum + b.2) ∨ (¬ st0.most < sum + b.2 ∧ out.best = st0.best ∧ out.most = st0.most))
theorem take_set_self {l : List Int} {i : Nat} (x : Int) (h : i < l.length) : (l.set i x).take (i + 1) = l.take i ++ [x] := by
 rw [List.take_set, List.take_succ_eq_append_getElem h, List.set_append_right _ _ (by simp; omega)]
 congr 1
 have : i - (l.take i).length = 0 := by simp; omega
 rw [this]; rfl
theorem walkF_best (hS : S + B ≤ 5) : ∀ (r left : Nat) (taken : List Int) (sum : Int) (st : Srch), r ≤ S → st.now.length = S → left < 32 →
 (∀ j, j < B → bit (left : Int) (S + j) = (bit (s : Int) (S + j) && !hasI taken (j : Int))) →
 Found S (S - r) st.now sum st (bestF S B G s r taken) (walkF S B G s r left sum st)
 | 0, left, taken, sum, st, hr, hl, hlt, hbit => by
   have ht : st.now.take S = st.now := List.take_of_length_le (by omega)
   unfold Found
   simp only [bestF, walkF, Nat.sub_zero, ht, List.append_nil, Int.add_zero]
   by_cases h : sum > st.most
   ·rw [if_pos h]; exact ⟨hl, ht, .inl ⟨h, rfl, rfl⟩⟩
   ·rw [if_neg h]; exact ⟨hl, ht, .inr ⟨h, rfl, rfl⟩⟩
 | r + 1, left, taken, sum, st, hr, hl, hlt, hbit => by
   have hi : S - r = S - (r + 1) + 1 := by omega
   obtain ⟨i, hI⟩ : ∃ i, i = S - (r + 1) := ⟨_, rfl⟩
   have hiS : i < S := by omega
   have hiS' : S - r = i + 1 := by omega
   have h0 : Found S i st.now sum st (-1 :: (bestF S B G s r taken).1, (bestF S B G s r taken).2) (walkF S B G s r left sum ⟨st.now.set i (-1), st.best, st.most⟩) := by
    have ih := walkF_best hS r left taken sum ⟨st.now.set i (-1), st.best, st.most⟩ (by omega) (by simpa using hl) hlt hbit
    unfold Found at ih ⊢
    rw [hiS'] at ih
    simp only [take_set_self _ (show i < st.now.length by omega)] at ih
    obtain ⟨g1, g2, g3⟩ := ih
    refine ⟨g1, ?_, ?_⟩
    ·have := congrArg (List.take i) g2
     rw [List.take_take, Nat.min_eq_left (by omega), List.take_left' (by simp; omega)] at this
     exact this
    ·simpa [List.append_assoc] using g3
   cases hb : bit (s : Int) (S - (r + 1))
   ·rw [walkF_not _ _ _ _ hb, bestF_succ, ← hI]
    have hno : ∀ k, bestTo S B G s r taken k = (-1 :: (bestF S B G s r taken).1, (bestF S B G s r taken).2) := by
     intro k
     induction k with
     | zero => rfl
     | succ k ih => rw [bestTo_succ, if_neg (by simp [freeJ, hb]), ih]
    rw [hno]
    exact h0
   ·rw [walkF_to _ _ _ _ hb, bestF_succ]
    have hall : ∀ k, k ≤ B → Found S i st.now sum st (bestTo S B G s r taken k) (walkTo S B G s r left sum st k) := by
     intro k
     induction k with
     | zero => intro _; rw [walkTo_zero, bestTo_zero, ← hI]; exact h0
     | succ k ihk =>
       intro hk
       have ihk := ihk (by omega)
       rw [walkTo_succ, bestTo_succ]
       have hf : freeJ S s taken (S - (r + 1)) k = bit (left : Int) (S + k) := by unfold freeJ; rw [hb, hbit k (by omega)]; simp
       rw [hf]
       by_cases hk2 : bit (left : Int) (S + k) = true
       ·rw [if_pos hk2, if_pos hk2, ← hI]
        generalize hst : walkTo S B G s r left sum st k = w1 at ihk ⊢
        generalize hbt : bestTo S B G s r taken k = b1 at ihk ⊢
        obtain ⟨l1, l2, l3⟩ := ihk
        have ih := walkF_best hS r (left - 2 ^ (S + k)) (taken ++ [(k : Int)]) (sum + gain G i k) ⟨w1.now.set i (k : Int), w1.best, w1.most⟩ (by omega) (by simpa using l1) (Nat.lt_of_le_of_lt (Nat.sub_le _ _) hlt) (by
         intro j hj
         rw [tcut_bit hlt (by omega) (by omega) hk2, hbit j hj]
         unfold hasI
         rw [List.contains_append]
         by_cases hjk : j = k
         ·subst hjk; simp
         ·have h1 : decide (S + j = S + k) = false := by simp; omega
          have h2 : [(k : Int)].contains (j : Int) = false := by simp; omega
          rw [h1, h2]; simp)
        generalize bestF S B G s r (taken ++ [(k : Int)]) = b2 at ih ⊢
        generalize walkF S B G s r (left - 2 ^ (S + k)) (sum + gain G i k) ⟨w1.now.set i (k : Int), w1.best, w1.most⟩ = w2 at ih ⊢
        unfold Found at ih
        rw [hiS'] at ih
        simp only [take_set_self _ (show i < w1.now.length by omega), l2] at ih
        obtain ⟨g1, g2, g3⟩ := ih
        have gt : w2.now.take i = st.now.take i := by
         have := congrArg (List.take i) g2
         rw [List.take_take, Nat.min_eq_left (by omega), List.take_left' (by simp; omega)] at this
         exact this
        unfold Found
        refine ⟨g1, gt, ?_⟩
        by_cases hgt : b2.2 + gain G i k > b1.2
        ·rw [if_pos hgt]
         rcases g3 with ⟨p1, p2, p3⟩ | ⟨p1, p2, p3⟩
         ·refine .inl ⟨?_, by rw [p2]; simp, by simp only; omega⟩
          try simp only
          rcases l3 with ⟨q1, q2, q3⟩ | ⟨q1, q2, q3⟩ <;> omega
         ·try simp only at p1 p2 p3 ⊢
          rcases l3 with ⟨q1, q2, q3⟩ | ⟨q1, q2, q3⟩
          ·omega
          ·exact .inr ⟨by omega, by rw [p2, q2], by omega⟩
        ·rw [if_neg hgt]
         rcases g3 with ⟨p1, p2, p3⟩ | ⟨p1, p2, p3⟩
         ·try simp only at p1 p2 p3
          rcases l3 with ⟨q1, q2, q3⟩ | ⟨q1, q2, q3⟩ <;> omega
         ·try simp only at p1 p2 p3
          rcases l3 with ⟨q1, q2, q3⟩ | ⟨q1, q2, q3⟩
          ·exact .inl ⟨q1, by rw [p2, q2], by omega⟩
          ·exact .inr ⟨q1, by rw [p2, q2], by omega⟩
       ·rw [if_neg hk2, if_neg hk2]
        exact ihk
    have := hall B (Nat.le_refl _)
    rwa [← hI]
end
end Go.Proofs.YtalmoolkhcgmmaaDoor
namespace Go.Proofs.YtalmoolkhcgmmaaDoor
set_option linter.unusedVariables false
set_option linter.unusedSimpArgs false
set_option maxRecDepth 100000
open Go.RowKit
theorem OwnI.lit1 (w : World) (base : Nat) (x : Int) (hb : base ≤ w.heap.size) : OwnI (w.alloc (.cells #[.int .i64 x] 3)) base (.slice (some ⟨w.heap.size, 0, none⟩) 1 1) [x] :=
 World.ownsRow_lit w #[.int .i64 x] 1 hb (by simp [maxLen]) rfl
theorem Ints.one' (w : World) (x : Int) (t : TypeId) (n : Nat) (hn : n = w.heap.size) : Ints (w.alloc (.cells #[.int .i64 x] t)) (some ⟨n, 0, none⟩) 1 1 [x] := by
 subst hn
 exact Ints.one w x t
theorem OwnI.made' (w : World) (base n : Nat) (hn : n = w.heap.size) (hb : base ≤ w.heap.size) : OwnI (w.alloc (.cells #[] 3)) base (.slice (some ⟨n, 0, none⟩) 0 0) [] := by
 subst hn
 exact OwnI.made w base hb
structure GoodM (S B : Nat) (G : List (List Int)) : Prop where
 s1 : 1 ≤ S
 b1 : 1 ≤ B
 sb : S + B ≤ 5
 rows : G.length = S
 row : ∀ i, i < S → (G[i]?.getD []).length = B
 bd : ∀ i j, 0 ≤ gain G i j ∧ gain G i j ≤ 100
theorem validM_good {x y : Int} {G : List (List Int)} (h : validM x y G = true) : ∃ S B : Nat, x = S ∧ y = B ∧ GoodM S B G := by
 simp only [validM, Bool.and_eq_true, decide_eq_true_eq, List.all_eq_true] at h
 obtain ⟨⟨⟨⟨⟨h1, h2⟩, h3⟩, h4⟩, h5⟩, h6⟩ := h
 refine ⟨x.toNat, y.toNat, by omega, by omega, by omega, by omega, by omega, by omega, fun i hi => ?_, fun i j => ?_⟩
 ·have hl : i < G.length := by omega
  have := (h6 _ (List.getElem_mem hl)).2
  simp [hl]; omega
 ·unfold gain
  by_cases hl : i < G.length
  ·have := (h6 _ (List.getElem_mem hl)).1
   simp only [List.getElem?_eq_getElem hl, Option.getD_some]
   by_cases hj : j < G[i].length
   ·have := this _ (List.getElem_mem hj)
    simp only [inB, Bool.and_eq_true, decide_eq_true_eq] at this
    simpa [hj] using this
   ·simp [List.getElem?_eq_none (by omega : G[i].length ≤ j)]
  ·simp [List.getElem?_eq_none (by omega : G.length ≤ i)]
theorem Ints.grown1 {w w' : World} {row : Option Nat} {b : Nat} {x : Int} (h : Ints w (some ⟨b, 0, none⟩) 1 1 [x]) (hg : w.grownBy w' row) (hne : row ≠ some b) : Ints w' (some ⟨b, 0, none⟩) 1 1 [x] := by
 obtain ⟨b', off, e, hc⟩ := h.at (k := 0) (by omega)
 simp only [Option.some.injEq, Addr.mk.injEq, and_true] at e
 obtain ⟨rfl, rfl⟩ := e
 have hb := hg.block b (World.block_lt_of_cell? w _ hc) (fun e => hne e.symm)
 refine ⟨rfl, Nat.le_refl _, by omega, fun k hk => ⟨b, 0, rfl, fun k hk => ?_⟩⟩
 obtain rfl : k = 0 := by omega
 rw [← hc]
 simp [World.cell?, hb]
set_option maxHeartbeats 8000000 in
theorem s_l19Best {S B s : Nat} {G : List (List Int)} (hM : GoodM S B G) (hs : s < 32) : ∀ (r i : Nat) (ii : Int), ii = (i : Int) → i + r = S → ∀ (w : World) (a : Option Addr) (n cap : Nat) (ta : Option Addr) (tn tc : Nat) (taken : List Int),
 IntSS w a n cap G → Ints w ta tn tc taken → taken.length ≤ i →
 Calls Tryd.prog 33 #[triple S B a n cap, .int .i64 (s : Int), .int .i64 ii, .slice ta tn tc] w fun e w' =>
  (∃ v, e = .returned (.tuple #[v, .int .i64 (bestF S B G s r taken).2]) ∧ OwnI w' w.heap.size v (bestF S B G s r taken).1) ∧ Ext w w' := by
 have hsb := hM.sb
 intro r
 induction r with
 | zero =>
   intro i ii hii hi w a n cap ta tn tc taken hG hT hl
   subst hii
   have heq : ((i : Int) == (S : Int)) = true := by simp; omega
   have HX := Lib.hid (Ext.alloc w (.cells #[.int .i64 (S : Int), .int .i64 (B : Int), .slice a n cap] 36))
   have HZ := Lib.hid (show bestF S B G s 0 taken = ([], 0) from rfl)
   clear hG hT hl hi
   go_enter Tryd.func33, Tryd.ntmps33
   go_wp2
   rw [HZ.out]
   refine bodyPost_ret (v := .tuple #[.slice (some ⟨w.heap.size + 1, 0, none⟩) 0 0, .int .i64 0]) (by simp [results, Tryd.results33, go_sem]) rfl ⟨⟨_, rfl, OwnI.made' _ _ _ (by simp) (by simp)⟩, HX.out.trans (Ext.alloc _ _)⟩
 | succ r ih =>
   intro i ii hii hi w a n cap ta tn tc taken hG hT hl
   subst hii
   have heq : ((i : Int) == (S : Int)) = false := by simp; omega
   have hiS : i < S := by omega
   have hi' : S - (r + 1) = i := by omega
   have HX := Lib.hid (Ext.alloc w (.cells #[.int .i64 (S : Int), .int .i64 (B : Int), .slice a n cap] 36))
   have HG := Lib.hid (hG.ext HX.out)
   have HT := Lib.hid (hT.ext HX.out)
   have HTL := Lib.hid hT.hlen
   have htl : tn ≤ 5 := by have := hT.hlen; omega
   have HNS := Lib.hid (show n = S by have := hG.hlen; have := hM.rows; omega)
   have HI := Lib.hid hi'
   have HSUM := Lib.hid hi
   have HL := Lib.hid hl
   have HIH := Lib.hid ih
   have HM := Lib.hid hM
   have hn := hG.hcap
   have hm := hG.hmax
   clear hG hT hl hi ih hi' hM
   go_enter Tryd.func33, Tryd.ntmps33
   go_wp2_with fail
   refine (HIH.out (i + 1) ((i : Int) + 1) (by simp) (by have := HSUM.out; omega) _ a n cap ta tn tc taken HG.out HT.out (by have := HL.out; omega)).mono ?_
   rintro e w1 ⟨⟨v0, rfl, ho⟩, hx⟩
   obtain ⟨a0, n0, p0, rfl, N0⟩ := ho.var
   have hbd0 := bestF_bd S B G s HM.out.bd r taken
   have hn0 : n0 = r := by have := N0.out; omega
   have X1 := Lib.hid hx
   have O0 := Lib.hid ho
   have hsz1 := hx.size
   simp at hsz1
   clear hx ho
   obtain ⟨b0, hb0⟩ : ∃ b, b = (bestF S B G s r taken).2 := ⟨_, rfl⟩
   obtain ⟨l0, hl0⟩ : ∃ l, l = (bestF S B G s r taken).1 := ⟨_, rfl⟩
   rw [← hb0, ← hl0] at hbd0
   rw [← hl0] at O0
   have HB0 := Lib.hid hb0
   have HL0 := Lib.hid hl0
   obtain ⟨hll, hb1, hb2⟩ := hbd0
   have HN0 := Lib.hid hn0
   have HLL := Lib.hid hll
   rw [← hb0]
   clear hb0 hl0 hn0 hll
   go_wp2_with (first
    | (at_builtin; refine append_ints rfl _ _ rfl (w.heap.size + 1) _ [(-1 : Int)] rfl (OwnI.lit1 _ _ _ (by omega)) _ n0 _ l0 rfl (O0.out.ext (Ext.alloc _ _)).ints (by have := HN0.out; have := HSUM.out; simp; omega) (by simp; omega) ?_; intro v2 w2 ho hg hnear; obtain ⟨a2, n2, c2, rfl, HN2⟩ := ho.var; have HO2 := Lib.hid ho; have X2 := Lib.hid (ext_grown (X1.out.trans (Ext.alloc _ _)) hg (fun j hj => by have := Option.some.inj (show some w1.heap.size = some j from hj); simp; omega)); clear ho hg hnear))
   have HBB := Lib.hid (fun k => bestTo_bd S B G s HM.out.bd r taken k)
   go_loopw [11, 12, 13] (fun t o j wr => ∃ (k : Nat) (a1 : Option Addr) (n1 p1 : Nat), k ≤ B ∧ j = .int .i64 (k : Int) ∧ t = .int .i64 (bestTo S B G s r taken k).2 ∧ o = .slice a1 n1 p1 ∧ Hid (OwnI wr (w.heap.size + 1) (.slice a1 n1 p1) (bestTo S B G s r taken k).1) ∧ Hid (Ext (w.alloc (.cells #[.int .i64 (S : Int), .int .i64 (B : Int), .slice a n cap] 36)) wr)) (fun _ _ j _ => B - (intOf j).toNat)
   case atStart => exact ⟨0, a2, n2, c2, Nat.zero_le _, rfl, by rw [bestTo_zero, ← HB0.out], rfl, Lib.hid (by rw [bestTo_zero, ← HL0.out]; exact HO2.out), Lib.hid X2.out⟩
   case round =>
    obtain ⟨k, a1, n1, p1, hk, rfl, rfl, rfl, HO3, HX3⟩ := hrel
    have hbb := HBB.out k
    obtain ⟨T, hT⟩ : ∃ T, T = (bestTo S B G s r taken k).2 := ⟨_, rfl⟩
    obtain ⟨Q, hQ⟩ : ∃ Q, Q = (bestTo S B G s r taken k).1 := ⟨_, rfl⟩
    rw [← hT]
    rw [← hT, ← hQ] at hbb
    rw [← hQ] at HO3
    obtain ⟨hql, ht1, ht2⟩ := hbb
    have HT1 := Lib.hid hT
    have HQ1 := Lib.hid hQ
    have HQL := Lib.hid hql
    clear hT hQ hql
    have c0 : wr.cell? ⟨w.heap.size, 0, none⟩ = some (.int .i64 (S : Int)) := HX3.out.cellSome (by simp)
    have c1 : wr.cell? ⟨w.heap.size, 1, none⟩ = some (.int .i64 (B : Int)) := HX3.out.cellSome (by simp)
    have c2' : wr.cell? ⟨w.heap.size, 2, none⟩ = some (.slice a n cap) := HX3.out.cellSome (by simp)
    have hr5 : r < 5 := by have := HSUM.out; omega
    by_cases hlt : k < B
    ·have HP1 := Lib.hid (hasP_bit (s : Int) i (by omega) (by omega))
     have HP2 := Lib.hid (show hasP (s : Int) ((S : Int) + (k : Int)) = bit (s : Int) (S + k) by have := hasP_bit (s : Int) (S + k) (by omega) (by omega); simpa using this)
     have HTw := Lib.hid (HT.out.ext HX3.out)
     have HGw := Lib.hid (HG.out.ext HX3.out)
     cases hbi : bit (s : Int) i
     ·have HF := Lib.hid (show freeJ S s taken (S - (r + 1)) k = false by unfold freeJ; rw [HI.out, hbi]; rfl)
      rw [hbi] at HP1
      clear hbi
      go_wp2_with (first | (go_at_call 30; refine (s_HasPlayer _ _ _ (by omega)).mono ?_; rw [HP1.out]; rintro e w' ⟨rfl, rfl⟩))
      go_roundw
      case rel => exact ⟨k + 1, a1, n1, p1, by omega, by go_num, by rw [bestTo_succ, HF.out, if_neg (by simp), ← HT1.out], rfl, Lib.hid (by rw [bestTo_succ, HF.out, if_neg (by simp), ← HQ1.out]; exact HO3.out), HX3⟩
      case measure => simp [intOf]; omega
     ·cases hbj : bit (s : Int) (S + k)
      ·have HF := Lib.hid (show freeJ S s taken (S - (r + 1)) k = false by unfold freeJ; rw [HI.out, hbi, hbj]; rfl)
       rw [hbi] at HP1
       rw [hbj] at HP2
       clear hbi hbj
       go_wp2_with (first | (go_at_call 30; refine (s_HasPlayer _ _ _ (by omega)).mono ?_; (first | rw [HP1.out] | rw [HP2.out]); rintro e w' ⟨rfl, rfl⟩))
       go_roundw
       case rel => exact ⟨k + 1, a1, n1, p1, by omega, by go_num, by rw [bestTo_succ, HF.out, if_neg (by simp), ← HT1.out], rfl, Lib.hid (by rw [bestTo_succ, HF.out, if_neg (by simp), ← HQ1.out]; exact HO3.out), HX3⟩
       case measure => simp [intOf]; omega
      ·have HH := Lib.hid (s_l1HasInt (k : Int) HTw.out)
       cases hhas : hasI taken (k : Int)
       ·have HF := Lib.hid (show freeJ S s taken (S - (r + 1)) k = true by unfold freeJ; rw [HI.out, hbi, hbj, hhas]; rfl)
        rw [hbi] at HP1
        rw [hbj] at HP2
        rw [hhas] at HH
        have hiG : i < n := by have := HNS.out; omega
        obtain ⟨gb, goff, ga, gn, gc, hga, hgc, hgr⟩ := HGw.out.at hiG
        have hgn : k < gn := by have h1 := hgr.hlen; have h2 := HM.out.row i hiS; omega
        obtain ⟨rb, roff, hra, hrc⟩ := hgr.at hgn
        have hgk := HM.out.bd i k
        obtain ⟨y, hy⟩ : ∃ y, y = gain G i k := ⟨_, rfl⟩
        have hrc : wr.cell? ⟨rb, roff + k, none⟩ = some (.int .i64 y) := by rw [hy]; exact hrc
        rw [← hy] at hgk
        have HY := Lib.hid hy
        have hgcap := hgr.hcap
        have hgmax := hgr.hmax
        clear hbi hbj hhas hgr hy
        subst hga hra
        have hbm := bestF_bd S B G s HM.out.bd r (taken ++ [(k : Int)])
        obtain ⟨sm, hsm⟩ : ∃ b, b = (bestF S B G s r (taken ++ [(k : Int)])).2 := ⟨_, rfl⟩
        obtain ⟨lm, hlm⟩ : ∃ l, l = (bestF S B G s r (taken ++ [(k : Int)])).1 := ⟨_, rfl⟩
        rw [← hsm, ← hlm] at hbm
        obtain ⟨hlml, hsm1, hsm2⟩ := hbm
        have HSM := Lib.hid hsm
        have HLM := Lib.hid hlm
        have HLML := Lib.hid hlml
        clear hsm hlm hlml
        go_wp2_with (first
         | (go_at_call 30; refine (s_HasPlayer _ _ _ (by omega)).mono ?_; (first | rw [HP1.out] | rw [HP2.out]); rintro e w' ⟨rfl, rfl⟩)
         | (go_at_call 57; refine HH.out.mono ?_; rintro e w' ⟨rfl, rfl⟩))
        have HKEEP := Lib.hid (fun (w' : World) (h : Ext wr w') => (⟨h.cellSome c0, h.cellSome c1, h.cellSome c2', h⟩ : w'.cell? ⟨w.heap.size, 0, none⟩ = some (.int .i64 (S : Int)) ∧ w'.cell? ⟨w.heap.size, 1, none⟩ = some (.int .i64 (B : Int)) ∧ w'.cell? ⟨w.heap.size, 2, none⟩ = some (.slice (some ⟨gb, goff, none⟩) n cap) ∧ Ext wr w'))
        have HW1 := Lib.hid (show IntKind.i64.wrap ((i : Int) + 1) = (i : Int) + 1 by rw [IntKind.wrap_i64]; omega)
        have hk2 : Ext wr wr.drew := Ext.drew wr
        have hka : Ext wr (wr.alloc (.cells #[] 3)).drew := (Ext.alloc _ _).trans (Ext.drew _)
        have hkb : Ext wr (wr.alloc (.cells #[.int .i64 (k : Int)] 3)).drew := (Ext.alloc _ _).trans (Ext.drew _)
        have hkab : Ext wr ((wr.alloc (.cells #[] 3)).alloc (.cells #[.int .i64 (k : Int)] 3)).drew := ((Ext.alloc _ _).trans (Ext.alloc _ _)).trans (Ext.drew _)
        have hkba : Ext wr ((wr.alloc (.cells #[.int .i64 (k : Int)] 3)).alloc (.cells #[] 3)).drew := ((Ext.alloc _ _).trans (Ext.alloc _ _)).trans (Ext.drew _)
        have HOA := Lib.hid (show OwnI (wr.alloc (.cells #[] 3)).drew wr.heap.size (.slice (some ⟨wr.heap.size, 0, none⟩) 0 0) [] from (OwnI.made' wr _ _ rfl (Nat.le_refl _)).ext (Ext.drew _))
        have HOAB := Lib.hid (show OwnI ((wr.alloc (.cells #[] 3)).alloc (.cells #[.int .i64 (k : Int)] 3)).drew wr.heap.size (.slice (some ⟨wr.heap.size, 0, none⟩) 0 0) [] from ((OwnI.made' wr _ _ rfl (Nat.le_refl _)).ext (Ext.alloc _ _)).ext (Ext.drew _))
        have HOBA := Lib.hid (show OwnI ((wr.alloc (.cells #[.int .i64 (k : Int)] 3)).alloc (.cells #[] 3)).drew wr.heap.size (.slice (some ⟨wr.heap.size + 1, 0, none⟩) 0 0) [] from (OwnI.made' (wr.alloc (.cells #[.int .i64 (k : Int)] 3)) wr.heap.size _ (by simp) (by simp)).ext (Ext.drew _))
        have HJAB := Lib.hid (show Ints ((wr.alloc (.cells #[] 3)).alloc (.cells #[.int .i64 (k : Int)] 3)).drew (some ⟨wr.heap.size + 1, 0, none⟩) 1 1 [(k : Int)] from (Ints.one' (wr.alloc (.cells #[] 3)) (k : Int) 3 (wr.heap.size + 1) (by simp)).ext (Ext.drew _))
        have HJBA := Lib.hid (show Ints ((wr.alloc (.cells #[.int .i64 (k : Int)] 3)).alloc (.cells #[] 3)).drew (some ⟨wr.heap.size, 0, none⟩) 1 1 [(k : Int)] from ((Ints.one' wr (k : Int) 3 wr.heap.size rfl).ext (Ext.alloc _ _)).ext (Ext.drew _))
        go_region_held3 (fun w' => w'.cell? ⟨w.heap.size, 0, none⟩ = some (.int .i64 (S : Int)) ∧ w'.cell? ⟨w.heap.size, 1, none⟩ = some (.int .i64 (B : Int)) ∧ w'.cell? ⟨w.heap.size, 2, none⟩ = some (.slice (some ⟨gb, goff, none⟩) n cap) ∧ Ext wr w')
         (first
           | with_reducible exact HKEEP.out _ hk2
           | with_reducible exact HKEEP.out _ hka
           | with_reducible exact HKEEP.out _ hkb
           | with_reducible exact HKEEP.out _ hkab
           | with_reducible exact HKEEP.out _ hkba
           | with_reducible exact HKEEP.out _ (hk2.trans (Ext.alloc _ _)))
         (first
           | (refine step_of_wp _ (by rfl) ?_
              refine wp_append_ints _ _ (by rfl) wr.heap.size (.slice (some ⟨wr.heap.size, 0, none⟩) 0 0) [] (by rfl) (by with_reducible exact HOA.out) ta tn tc taken (by rfl) (HTw.out.ext hka) (by simp; omega) (by simp) ?_
              intro v2 w3 ho hg hnear
              have hk2 : Ext wr w3 := ext_grown hka hg (fun j hj => by have := Option.some.inj (show some wr.heap.size = some j from hj); omega)
              rw [List.nil_append] at ho
              obtain ⟨A2, N2, C2, rfl, HN2'⟩ := ho.var
              have HO4 := Lib.hid (ho.ext (Ext.alloc _ (.cells #[.int .i64 (k : Int)] 3)))
              have HJ := Lib.hid (Ints.one' w3 (k : Int) 3 w3.heap.size rfl)
              have HB4 := Lib.hid (hk2.trans (Ext.alloc _ (.cells #[.int .i64 (k : Int)] 3)))
              clear ho hg hnear)
           | (refine step_of_wp _ (by rfl) ?_
              refine wp_append_ints _ _ (by rfl) wr.heap.size (.slice (some ⟨wr.heap.size, 0, none⟩) 0 0) [] (by rfl) (by with_reducible exact HOAB.out) ta tn tc taken (by rfl) (HTw.out.ext hkab) (by simp; omega) (by simp; omega) ?_
              intro v2 w3 ho hg hnear
              have hk2 : Ext wr w3 := ext_grown hkab hg (fun j hj => by have := Option.some.inj (show some wr.heap.size = some j from hj); omega)
              rw [List.nil_append] at ho
              obtain ⟨A2, N2, C2, rfl, HN2'⟩ := ho.var
              have HO4 := Lib.hid ho
              have HJ := Lib.hid (HJAB.out.grown1 hg (by simp [Value.ownBlock]))
              have HB4 := Lib.hid hk2
              clear ho hg hnear)
           | (refine step_of_wp _ (by rfl) ?_
              refine wp_append_ints _ _ (by rfl) wr.heap.size (.slice (some ⟨wr.heap.size + 1, 0, none⟩) 0 0) [] (by rfl) (by with_reducible exact HOBA.out) ta tn tc taken (by rfl) (HTw.out.ext hkba) (by simp; omega) (by simp; omega) ?_
              intro v2 w3 ho hg hnear
              have hk2 : Ext wr w3 := ext_grown hkba hg (fun j hj => by have := Option.some.inj (show some (wr.heap.size + 1) = some j from hj); omega)
              rw [List.nil_append] at ho
              obtain ⟨A2, N2, C2, rfl, HN2'⟩ := ho.var
              have HO4 := Lib.hid ho
              have HJ := Lib.hid (HJBA.out.grown1 hg (by simp [Value.ownBlock]))
              have HB4 := Lib.hid hk2
              clear ho hg hnear)
           | (refine step_of_wp _ (by rfl) ?_
              refine wp_append_ints _ _ (by rfl) wr.heap.size (.slice A2 N2 C2) taken (by rfl) (by with_reducible exact HO4.out) _ 1 1 [(k : Int)] (by rfl) HJ.out (by have := HTL.out; omega) (by have := HB4.out.size; simp at this ⊢; omega) ?_
              intro v3 w4 ho hg hnear
              have hk2 : Ext wr w4 := ext_grown HB4.out hg (fun j hj => (HO4.out.lt j hj).1)
              obtain ⟨A3, N3, C3, rfl, HN3'⟩ := ho.var
              have HO5 := Lib.hid ho
              clear ho hg hnear)
           | (go_at_call 33; rw [HW1.out]; refine (HIH.out (i + 1) ((i : Int) + 1) (by simp) (by have := HSUM.out; omega) _ (some ⟨gb, goff, none⟩) n cap A3 N3 C3 (taken ++ [(k : Int)]) (HGw.out.ext hk2) HO5.out.ints (by have := HL.out; simp; omega)).mono ?_; rw [← HSM.out, ← HLM.out]; rintro e w5 ⟨⟨v5, rfl, ho⟩, hx⟩; obtain ⟨a5, n5, c5, rfl, N5⟩ := ho.var; have HO6 := Lib.hid ho; have hk2 := hk2.trans hx; have hsz6 := hx.size; clear ho hx))
        all_goals
         have X5 := Lib.hid (HX3.out.trans hk2)
         have O3 := Lib.hid (HO3.out.ext hk2)
         replace c0 := hk2.cellSome c0
         replace c1 := hk2.cellSome c1
         replace c2' := hk2.cellSome c2'
         replace hgc := hk2.cellSome hgc
         replace hrc := hk2.cellSome hrc
         have hszw : w.heap.size + 1 ≤ w5.heap.size := by have := X5.out.size; simpa using this
         clear hk2 hka hkb hkab hkba HOA HOAB HOBA HJAB HJBA HKEEP
         by_cases hgt : T < sm + y
         ·have HGT := Lib.hid hgt
          go_wp2_with (first
           | (at_builtin; refine append_ints rfl _ _ rfl (w.heap.size + 1) _ [(k : Int)] rfl (OwnI.lit1 _ _ _ (by omega)) _ n5 _ lm rfl (HO6.out.ext (Ext.alloc _ _)).ints (by have := N5.out; have := HLML.out; simp; omega) (by simp; omega) ?_; intro v6 w6 ho hg hnear; obtain ⟨a6, n6, c6, rfl, HN6⟩ := ho.var; have HO7 := Lib.hid ho; have X6 := Lib.hid (ext_grown (X5.out.trans (Ext.alloc _ _)) hg (fun j hj => by have := Option.some.inj (show some w5.heap.size = some j from hj); simp; omega)); clear ho hg hnear))
          go_roundw
          case rel =>
           have hb : bestTo S B G s r taken (k + 1) = ((k : Int) :: lm, sm + y) := by rw [bestTo_succ, HF.out, if_pos rfl, ← HSM.out, ← HLM.out, HI.out, ← HY.out, ← HT1.out, if_pos (by have := HGT.out; omega)]
           exact ⟨k + 1, a6, n6, c6, by omega, by go_num, by rw [hb], rfl, Lib.hid (by rw [hb]; simpa using HO7.out), X6⟩
          case measure => simp [intOf]; omega
         ·have HGT := Lib.hid hgt
          go_wp2
          go_roundw
          case rel =>
           have hb : bestTo S B G s r taken (k + 1) = bestTo S B G s r taken k := by rw [bestTo_succ, HF.out, if_pos rfl, ← HSM.out, ← HLM.out, HI.out, ← HY.out, ← HT1.out, if_neg (by have := HGT.out; omega)]
           exact ⟨k + 1, a1, n1, p1, by omega, by go_num, by rw [hb, ← HT1.out], rfl, Lib.hid (by rw [hb, ← HQ1.out]; exact O3.out), X5⟩
          case measure => simp [intOf]; omega
       ·have HF := Lib.hid (show freeJ S s taken (S - (r + 1)) k = false by unfold freeJ; rw [HI.out, hbi, hbj, hhas]; rfl)
        rw [hbi] at HP1
        rw [hbj] at HP2
        rw [hhas] at HH
        clear hbi hbj hhas
        go_wp2_with (first
         | (go_at_call 30; refine (s_HasPlayer _ _ _ (by omega)).mono ?_; (first | rw [HP1.out] | rw [HP2.out]); rintro e w' ⟨rfl, rfl⟩)
         | (go_at_call 57; refine HH.out.mono ?_; rintro e w' ⟨rfl, rfl⟩))
        go_roundw
        case rel => exact ⟨k + 1, a1, n1, p1, by omega, by go_num, by rw [bestTo_succ, HF.out, if_neg (by simp), ← HT1.out], rfl, Lib.hid (by rw [bestTo_succ, HF.out, if_neg (by simp), ← HQ1.out]; exact HO3.out), HX3⟩
        case measure => simp [intOf]; omega
    ·go_wp2
     have hkB : k = B := by omega
     subst hkB
     refine bodyPost_ret (v := .tuple #[.slice a1 n1 p1, .int .i64 T]) (by simp [results, Tryd.results33, go_sem]) rfl ⟨⟨_, by rw [bestF_succ, HT1.out], ?_⟩, HX.out.trans HX3.out⟩
     rw [bestF_succ, ← HQ1.out]
     exact HO3.out.mono (by omega)
def tradeOk (x y : Int) (G : List (List Int)) (s : Int) : Bool := validM x y G && inB s 0 (cntC (x + y) - 1)
def tradeR (x y : Int) (G : List (List Int)) (s : Int) : List Int × Int := if tradeOk x y G s = true then bestF x.toNat y.toNat G s.toNat x.toNat [] else ([], 0)
theorem tradeR_not {x y : Int} {G : List (List Int)} {s : Int} (h : tradeOk x y G s = false) : tradeR x y G s = ([], 0) := by simp [tradeR, h]
theorem tradeR_ok {S B s : Nat} {G : List (List Int)} (h : tradeOk (S : Int) (B : Int) G (s : Int) = true) : tradeR (S : Int) (B : Int) G (s : Int) = bestF S B G s S [] := by simp [tradeR, h]
theorem heap_setCell_one {w : World} {b : Nat} {v u : Value} {t : TypeId} (h : w.heap[b]? = some (.cells #[v] t (0, 0))) : (w.setCell ⟨b, 0, none⟩ u).heap[b]? = some (.cells #[u] t (0, 0)) := one_setCell h
section
variable {w w' : World} {base bn bN bo bw n m c m' c' : Nat} {p : List Int} {L : List (List Int)} {a a' : Option Addr} {vs : List Value}
end
end Go.Proofs.YtalmoolkhcgmmaaDoor
namespace Go.Proofs.YtalmoolkhcgmmaaDoor
set_option linter.unusedVariables false
set_option linter.unusedSimpArgs false
set_option maxRecDepth 100000
open Go.RowKit
theorem bit_test0t (s : Int) (k : Nat) (h : 0 ≤ s) (h' : s ≤ 9223372036854775807) : (bits BinOp.and IntKind.i64 (s / 2 ^ k) 1 == 0) = !bit s k := by
 have h1 := div_pow s k h
 rw [and_one _ h1.1 (by omega)]
 unfold bit
 have : s / 2 ^ k % 2 = 0 ∨ s / 2 ^ k % 2 = 1 := by omega
 rcases this with h | h <;> simp [h]
theorem kwrap_powt (k : Nat) (h : k ≤ 5) : IntKind.i64.wrap ((2 : Int) ^ k) = 2 ^ k := by
 have := pow_pos k
 have := pow_le5 k h
 rw [IntKind.wrap_i64]; omega
abbrev capsT (bm bs bb bo bx bw : Nat) : Array Value := #[.pointer (some ⟨bm, 0, none⟩), .pointer (some ⟨bo, 0, none⟩), .pointer (some ⟨bx, 0, none⟩), .pointer (some ⟨bb, 0, none⟩), .pointer (some ⟨bw, 0, none⟩), .pointer (some ⟨bs, 0, none⟩)]
structure StT (w0 w : World) (S B s : Nat) (a : Option Addr) (n cap bm bs bb bo br bx bw base : Nat) (a1 : Option Addr) (n1 c1 : Nat) (st : Srch) : Prop where
 ord : w0.heap.size ≤ bm ∧ bm < bs ∧ bs < bb ∧ bb < bo ∧ bo < br ∧ br < bx ∧ bx < bw ∧ bw < base ∧ base ≤ w.heap.size
 hm : w.heap[bm]? = some (.cells #[.int .i64 (S : Int), .int .i64 (B : Int), .slice a n cap] 36 (0, 0))
 hs : w.heap[bs]? = some (.cells #[.int .i64 (s : Int)] 3 (0, 0))
 hb : w.heap[bb]? = some (.cells #[.slice a1 n1 c1] 25 (0, 0))
 ho : w.heap[bo]? = some (.cells #[.int .i64 st.most] 3 (0, 0))
 hr : Row w br 3 st.now
 hx : w.heap[bx]? = some (.cells #[.slice (some ⟨br, 0, none⟩) S S] 25 (0, 0))
 hw : w.heap[bw]? = some (.cells #[.func (.func 62) #[] (capsT bm bs bb bo bx bw)] 65 (0, 0))
 own : OwnI w base (.slice a1 n1 c1) st.best
 len : st.now.length = S
 bel : Ext w0 w
section
variable {w0 w w1 : World} {S B s : Nat} {a : Option Addr} {n cap bm bs bb bo br bx bw base : Nat} {a1 : Option Addr} {n1 c1 : Nat} {st : Srch}
theorem StT.ext (h : StT w0 w S B s a n cap bm bs bb bo br bx bw base a1 n1 c1 st) (hx : Ext w w1) : StT w0 w1 S B s a n cap bm bs bb bo br bx bw base a1 n1 c1 st :=
 ⟨by have := h.ord; have := hx.size; omega, (hx.block _ (lt_of_block h.hm)).trans h.hm, (hx.block _ (lt_of_block h.hs)).trans h.hs, (hx.block _ (lt_of_block h.hb)).trans h.hb, (hx.block _ (lt_of_block h.ho)).trans h.ho, h.hr.ext hx, (hx.block _ (lt_of_block h.hx)).trans h.hx, (hx.block _ (lt_of_block h.hw)).trans h.hw, h.own.ext hx, h.len, h.bel.trans hx⟩
theorem StT.setNow (h : StT w0 w S B s a n cap bm bs bb bo br bx bw base a1 n1 c1 st) (i : Nat) (x : Int) : StT w0 (w.setCell ⟨br, i, none⟩ (.int .i64 x)) S B s a n cap bm bs bb bo br bx bw base a1 n1 c1 ⟨st.now.set i x, st.best, st.most⟩ := by
 have ho := h.ord
 have hne : ∀ k, k ≠ br → (w.setCell ⟨br, i, none⟩ (.int .i64 x)).heap[k]? = w.heap[k]? := fun k hk => heap_setCell_other w _ k _ hk
 refine ⟨by simp; omega, ?_, ?_, ?_, ?_, h.hr.set i x, ?_, ?_, h.own.keep fun k hk => hne k (by have := (h.own.lt k hk).1; omega), by simpa using h.len, h.bel.setCell (by simp; omega) _⟩
 ·rw [hne _ (by omega)]; exact h.hm
 ·rw [hne _ (by omega)]; exact h.hs
 ·rw [hne _ (by omega)]; exact h.hb
 ·rw [hne _ (by omega)]; exact h.ho
 ·rw [hne _ (by omega)]; exact h.hx
 ·rw [hne _ (by omega)]; exact h.hw
theorem StT.setBest (h0 : StT w0 w S B s a n cap bm bs bb bo br bx bw base a1 n1 c1 st) (hx : Ext w w1) {a2 : Option Addr} {n2 c2 : Nat} {l : List Int} (hl : OwnI w1 w.heap.size (.slice a2 n2 c2) l) (x : Int) :
 StT w0 ((w1.setCell ⟨bb, 0, none⟩ (.slice a2 n2 c2)).setCell ⟨bo, 0, none⟩ (.int .i64 x)) S B s a n cap bm bs bb bo br bx bw base a2 n2 c2 ⟨st.now, l, x⟩ := by
 have h := h0.ext hx
 have ho := h.ord
 have ho0 := h0.ord
 have hne : ∀ k, k ≠ bb → k ≠ bo → ((w1.setCell ⟨bb, 0, none⟩ (.slice a2 n2 c2)).setCell ⟨bo, 0, none⟩ (.int .i64 x)).heap[k]? = w1.heap[k]? := fun k hk hk2 => (heap_setCell_other _ _ k _ hk2).trans (heap_setCell_other _ _ k _ hk)
 refine ⟨by simp; omega, ?_, ?_, ?_, ?_, ?_, ?_, ?_, (hl.mono (by omega)).keep fun k hk => hne k ?_ ?_, h.len, (h.bel.setCell (by simp; omega) _).setCell (by simp; omega) _⟩
 ·rw [hne _ (by omega) (by omega)]; exact h.hm
 ·rw [hne _ (by omega) (by omega)]; exact h.hs
 ·rw [heap_setCell_other _ _ _ _ (by simp; omega)]; exact heap_setCell_one h.hb
 ·exact heap_setCell_one ((heap_setCell_other _ _ _ _ (by simp; omega)).trans h.ho)
 ·exact (h.hr.other (by simp; omega) _).other (by simp; omega) _
 ·rw [hne _ (by omega) (by omega)]; exact h.hx
 ·rw [hne _ (by omega) (by omega)]; exact h.hw
 ·have := (hl.lt k hk).1; omega
 ·have := (hl.lt k hk).1; omega
end
def StF (w0 : World) (S B s : Nat) (a : Option Addr) (n cap bm bs bb bo br bx bw base : Nat) (st : Srch) (w : World) : Prop := ∃ a1 n1 c1, StT w0 w S B s a n cap bm bs bb bo br bx bw base a1 n1 c1 st
theorem go_BestTrades1 : IsGo Tryd.prog 62 := isGo Tryd.func62 (by kernel_rfl) (by kernel_rfl)
set_option maxHeartbeats 8000000 in
theorem i_walk {w0 : World} {S B s : Nat} {G : List (List Int)} {a : Option Addr} {n cap : Nat} (hM : GoodM S B G) (hs : s < 32) (hG : IntSS w0 a n cap G) (bm bs bb bo br bx bw base : Nat) :
 ∀ (r i : Nat) (ii li sum : Int) (left : Nat) (w : World) (a1 : Option Addr) (n1 c1 : Nat) (st : Srch), ii = (i : Int) → li = (left : Int) → i + r = S → left < 32 → 0 ≤ sum → sum ≤ 100 * i →
 StT w0 w S B s a n cap bm bs bb bo br bx bw base a1 n1 c1 st →
 Calls Tryd.prog 62 #[.int .i64 ii, .int .i64 li, .int .i64 sum, .pointer (some ⟨bm, 0, none⟩), .pointer (some ⟨bo, 0, none⟩), .pointer (some ⟨bx, 0, none⟩), .pointer (some ⟨bb, 0, none⟩), .pointer (some ⟨bw, 0, none⟩), .pointer (some ⟨bs, 0, none⟩)] w fun e w' =>
  e = .returned (.tuple #[]) ∧ StF w0 S B s a n cap bm bs bb bo br bx bw base (walkF S B G s r left sum st) w' := by
 have hsb := hM.sb
 have hcf : ∀ (args : Array Value) (w : World), (callFunc 62 args).run Tryd.prog w = .ok (.enter 62 args) w := go_BestTrades1
 intro r
 induction r with
 | zero =>
   intro i ii li sum left w a1 n1 c1 st hii hli hi hleft hs0 hs1 hS
   subst hii hli
   have heq : ((i : Int) == (S : Int)) = true := by simp; omega
   have cm : w.cell? ⟨bm, 0, none⟩ = some (.int .i64 (S : Int)) := by rw [cell_of_row _ _ _ _ _ _ hS.hm]; rfl
   have co := cell_of_one hS.ho
   have fo := free_of_one hS.ho
   have cb := cell_of_one hS.hb
   have fb := free_of_one hS.hb
   have cx := cell_of_one hS.hx
   have hne1 : bb ≠ bo := by have := hS.ord; omega
   have hne2 : bo ≠ bb := by have := hS.ord; omega
   have HS := Lib.hid hS
   have HI := Lib.hid hi
   by_cases hgt : st.most < sum
   ·have HZ := Lib.hid (show walkF S B G s 0 left sum st = ⟨st.now, st.now, sum⟩ by simp [walkF, hgt])
    have HN := Lib.hid (hS.hr.ints (n := S) (cap := S) hS.len (Nat.le_refl _) (by omega))
    clear hS hi
    go_enter Tryd.func62, Tryd.ntmps62
    go_wp2_with fail
    refine (clone_ints HN.out (by omega)).mono ?_
    rintro e w1 ⟨v, rfl, ho, hx⟩
    obtain ⟨a2, n2, c2, rfl, HN2⟩ := ho.var
    have hS1 := HS.out.ext hx
    have co := cell_of_one hS1.ho
    have fo := free_of_one hS1.ho
    have cb := cell_of_one hS1.hb
    have fb := free_of_one hS1.hb
    have HX := Lib.hid hx
    have HO := Lib.hid ho
    clear hx ho hS1
    go_wp2
    refine bodyPost_ret (results_none rfl _ _ _) rfl ?_
    rw [HZ.out]
    exact ⟨rfl, a2, n2, c2, HS.out.setBest HX.out HO.out sum⟩
   ·have HZ := Lib.hid (show walkF S B G s 0 left sum st = st by simp [walkF, hgt])
    clear hS hi
    go_enter Tryd.func62, Tryd.ntmps62
    go_wp2
    refine bodyPost_ret (results_none rfl _ _ _) rfl ?_
    rw [HZ.out]
    exact ⟨rfl, a1, n1, c1, HS.out⟩
 | succ r ih =>
   intro i ii li sum left w a1 n1 c1 st hii hli hi hleft hs0 hs1 hS
   subst hii hli
   have heq : ((i : Int) == (S : Int)) = false := by simp; omega
   have hiS : i < S := by omega
   have hi' : S - (r + 1) = i := by omega
   have hord := hS.ord
   have cm0 : w.cell? ⟨bm, 0, none⟩ = some (.int .i64 (S : Int)) := by rw [cell_of_row _ _ _ _ _ _ hS.hm]; rfl
   have cx := cell_of_one hS.hx
   have hn := hS.hr.cell (k := i) (by rw [hS.len]; exact hiS)
   obtain ⟨y0, hy0⟩ : ∃ y, y = st.now[i]?.getD 0 := ⟨_, rfl⟩
   rw [← hy0] at hn
   have fn := hS.hr.free i
   have HS1 := Lib.hid (hS.setNow i (-1))
   have cw1 := cell_of_one HS1.out.hw
   have HI := Lib.hid hi'
   have HSUM := Lib.hid hi
   have HIH := Lib.hid ih
   have HMM := Lib.hid hM
   have hb0 := bit_test0t (s : Int) i (by omega) (by omega)
   have hn5 : S ≤ 5 := by omega
   clear hS hi hi' ih hy0
   go_enter Tryd.func62, Tryd.ntmps62
   go_wp2_with fail
   refine (HIH.out (i + 1) ((i : Int) + 1) (left : Int) sum left _ a1 n1 c1 _ (by simp) rfl (by have := HSUM.out; omega) hleft hs0 (by simp; omega) HS1.out).mono ?_
   rintro e w2 ⟨rfl, a2, n2, c2, hS2⟩
   have HS2 := Lib.hid hS2
   have cs2 := cell_of_one hS2.hs
   clear hS2 hn fn cx cm0 cw1
   cases hbi : bit (s : Int) i
   ·rw [hbi] at hb0
    have HBI := Lib.hid hbi
    clear hbi
    go_wp2
    refine bodyPost_ret (results_none rfl _ _ _) rfl ?_
    rw [walkF_not _ _ _ _ (by rw [HI.out]; exact HBI.out), HI.out]
    exact ⟨rfl, a2, n2, c2, HS2.out⟩
   ·rw [hbi] at hb0
    have HBI := Lib.hid hbi
    have cm1 : w2.cell? ⟨bm, 1, none⟩ = some (.int .i64 (B : Int)) := by rw [cell_of_row _ _ _ _ _ _ HS2.out.hm]; rfl
    have HZ := Lib.hid (walkF_to S B G s (r := r) (left := left) (sum := sum) (st := st) (by rw [HI.out]; exact HBI.out))
    clear hbi
    go_wp2
    go_loopw [39] (fun j wr => ∃ (k : Nat), k ≤ B ∧ j = .int .i64 (k : Int) ∧ StF w0 S B s a n cap bm bs bb bo br bx bw base (walkTo S B G s r left sum st k) wr) (fun j _ => B - (intOf j).toNat)
    case atStart => exact ⟨0, Nat.zero_le _, rfl, a2, n2, c2, by rw [walkTo_zero, HI.out]; exact HS2.out⟩
    case round =>
     obtain ⟨k, hk, rfl, a3, n3, c3, hS3⟩ := hrel
     have HS3 := Lib.hid hS3
     have cm0 : wr.cell? ⟨bm, 0, none⟩ = some (.int .i64 (S : Int)) := by rw [cell_of_row _ _ _ _ _ _ hS3.hm]; rfl
     have cx := cell_of_one hS3.hx
     by_cases hlt : k < B
     ·have hbt := bit_test (left : Int) (S + k) (by omega) (by omega)
      cases hbl : bit (left : Int) (S + k)
      ·rw [hbl] at hbt
       have HBL := Lib.hid hbl
       clear hbl hS3
       go_wp2
       go_roundw
       case rel => exact ⟨k + 1, by omega, by go_num, a3, n3, c3, by rw [walkTo_succ, HBL.out, if_neg (by simp)]; exact HS3.out⟩
       case measure => simp [intOf]; omega
      ·rw [hbl] at hbt
       have HBL := Lib.hid hbl
       have hord3 := hS3.ord
       have hn3 := hS3.hr.cell (k := i) (by rw [hS3.len]; exact hiS)
       obtain ⟨y3, hy3⟩ : ∃ y, y = (walkTo S B G s r left sum st k).now[i]?.getD 0 := ⟨_, rfl⟩
       rw [← hy3] at hn3
       have fn3 := hS3.hr.free i
       have hS4 := hS3.setNow i (k : Int)
       have HS4 := Lib.hid hS4
       have hiG : i < n := by have := hG.hlen; have := HMM.out.rows; omega
       have hncap := hG.hcap
       have hnmax := hG.hmax
       obtain ⟨gb, goff, ga, gn, gc, hga, hgc0, hgr⟩ := hG.at hiG
       have hgn : k < gn := by have h1 := hgr.hlen; have h2 := HMM.out.row i hiS; omega
       obtain ⟨rb, roff, hra, hrc0⟩ := hgr.at hgn
       have hgk := HMM.out.bd i k
       obtain ⟨y, hy⟩ : ∃ y, y = gain G i k := ⟨_, rfl⟩
       have hrc0 : w0.cell? ⟨rb, roff + k, none⟩ = some (.int .i64 y) := by rw [hy]; exact hrc0
       have hgc := hS4.bel.cellSome hgc0
       have hrc := hS4.bel.cellSome hrc0
       have HGC := Lib.hid hgc0
       have HRC := Lib.hid hrc0
       rw [← hy] at hgk
       have HY := Lib.hid hy
       have hgcap := hgr.hcap
       have hgmax := hgr.hmax
       have cw4 := cell_of_one hS4.hw
       have cm40 : (wr.setCell ⟨br, i, none⟩ (.int .i64 (k : Int))).cell? ⟨bm, 0, none⟩ = some (.int .i64 (S : Int)) := by rw [cell_of_row _ _ _ _ _ _ hS4.hm]; rfl
       have cm42 : (wr.setCell ⟨br, i, none⟩ (.int .i64 (k : Int))).cell? ⟨bm, 2, none⟩ = some (.slice a n cap) := by rw [cell_of_row _ _ _ _ _ _ hS4.hm]; rfl
       subst hga hra
       obtain ⟨w4, hw4⟩ : ∃ w4, w4 = wr.setCell ⟨br, i, none⟩ (.int .i64 (k : Int)) := ⟨_, rfl⟩
       have HW4 := Lib.hid hw4
       rw [← hw4] at hgc hrc cw4 cm40 cm42 HS4
       clear hbl hS3 hS4 hgr hy hy3 hw4 hord3 hgc0 hrc0
       have hk2 : Ext w4 w4.drew := Ext.drew w4
       have ecut := tcut hleft (show S + k < 5 by omega) HBL.out
       obtain ⟨u, hu⟩ : ∃ u : Nat, u = left - 2 ^ (S + k) := ⟨_, rfl⟩
       have hu32 : u < 32 := by rw [hu]; exact Nat.lt_of_le_of_lt (Nat.sub_le _ _) hleft
       rw [← hu] at ecut
       have HU := Lib.hid hu
       have eSk : IntKind.i64.wrap ((S : Int) + (k : Int)) = (S : Int) + (k : Int) := by rw [IntKind.wrap_i64]; omega
       have eI : IntKind.i64.wrap ((i : Int) + 1) = (i : Int) + 1 := by rw [IntKind.wrap_i64]; omega
       have eSum : IntKind.i64.wrap (sum + y) = sum + y := by rw [IntKind.wrap_i64]; omega
       have HPow := Lib.hid (kwrap_powt (S + k) (by omega))
       have HTN := Lib.hid (show ((S : Int) + (k : Int)).toNat = S + k by omega)
       have HCut := Lib.hid ecut
       clear hu ecut
       go_wp2
       rw [← HW4.out]
       go_region_held3 (fun w' => w'.cell? ⟨bw, 0, none⟩ = some (.func (.func 62) #[] (capsT bm bs bb bo bx bw)) ∧ w'.cell? ⟨bm, 0, none⟩ = some (.int .i64 (S : Int)) ∧ w'.cell? ⟨bm, 2, none⟩ = some (.slice (some ⟨gb, goff, none⟩) n cap) ∧ w'.cell? ⟨gb, goff + i, none⟩ = some (.slice (some ⟨rb, roff, none⟩) gn gc) ∧ w'.cell? ⟨rb, roff + k, none⟩ = some (.int .i64 y))
        (first
          | exact ⟨hk2.cellSome cw4, hk2.cellSome cm40, hk2.cellSome cm42, hk2.cellSome hgc, hk2.cellSome hrc⟩
          | exact ⟨cell_of_one HS5.out.hw, by rw [cell_of_row _ _ _ _ _ _ HS5.out.hm]; rfl, by rw [cell_of_row _ _ _ _ _ _ HS5.out.hm]; rfl, HS5.out.bel.cellSome HGC.out, HS5.out.bel.cellSome HRC.out⟩)
        (first
          | (rw [HTN.out, HPow.out, HCut.out]
             have T1 := HIH.out (i + 1) ((i : Int) + 1) (u : Int) (sum + y) u _ a3 n3 c3 _ (by simp) rfl (by have := HSUM.out; omega) hu32 (by omega) (by simp; omega) (HS4.out.ext hk2)
             with_reducible refine T1.mono ?_
             rintro e w5 ⟨rfl, a5, n5, c5, hS5⟩
             have HS5 := Lib.hid hS5
             clear hS5 T1))
       go_wp2
       go_roundw
       case rel => exact ⟨k + 1, by omega, by go_num, a5, n5, c5, by rw [walkTo_succ, HBL.out, if_pos rfl, HI.out, ← HY.out, ← HU.out]; exact HS5.out⟩
       case measure => simp [intOf]; omega
     ·have hkB : k = B := by omega
      subst hkB
      clear hS3
      go_wp2
      go_end0
      rw [HZ.out]
      exact ⟨rfl, a3, n3, c3, HS3.out⟩
end Go.Proofs.YtalmoolkhcgmmaaDoor
namespace Go.Proofs.YtalmoolkhcgmmaaDoor
set_option linter.unusedVariables false
set_option linter.unusedSimpArgs false
set_option maxRecDepth 100000
open Go.RowKit
set_option maxHeartbeats 4000000 in
theorem i_BestTrades {w : World} {x y s : Int} {a : Option Addr} {n cap : Nat} {G : List (List Int)} (h : IntSS w a n cap G) :
 Calls Tryd.prog 43 #[triple x y a n cap, .int .i64 s] w fun e w' => (∃ v, e = .returned (.tuple #[v, .int .i64 (tradeR x y G s).2, .bool (tradeOk x y G s)]) ∧ OwnI w' w.heap.size v (tradeR x y G s).1) ∧ Ext w w' := by
 obtain ⟨W, hW⟩ : ∃ W, W = (w.alloc (.cells #[.int .i64 x, .int .i64 y, .slice a n cap] 36)).alloc (.cells #[.int .i64 s] 3) := ⟨_, rfl⟩
 have hX : Ext w W := by rw [hW]; exact (Ext.alloc _ _).trans (Ext.alloc _ _)
 have HX := Lib.hid hX
 have HG := Lib.hid h
 have HV := Lib.hid (i_IsValidMarket (x := x) (y := y) ((h.ext hX).ext (Ext.drew W)))
 have hsz : W.heap.size = w.heap.size + 1 + 1 := by rw [hW]; simp
 have hbm : W.heap[w.heap.size]? = some (.cells #[.int .i64 x, .int .i64 y, .slice a n cap] 36 (0, 0)) := by rw [hW, heapA_old _ _ _ (by simp)]; exact heapA_new _ _ _ rfl
 have hbs : W.heap[w.heap.size + 1]? = some (.cells #[.int .i64 s] 3 (0, 0)) := by rw [hW]; exact heapA_new _ _ _ (by simp)
 have c0 : W.cell? ⟨w.heap.size, 0, none⟩ = some (.int .i64 x) := by rw [cell_of_row _ _ _ _ _ _ hbm]; rfl
 have c1 : W.cell? ⟨w.heap.size, 1, none⟩ = some (.int .i64 y) := by rw [cell_of_row _ _ _ _ _ _ hbm]; rfl
 have c2 : W.cell? ⟨w.heap.size, 2, none⟩ = some (.slice a n cap) := by rw [cell_of_row _ _ _ _ _ _ hbm]; rfl
 have cs := cell_of_one hbs
 have HBM := Lib.hid hbm
 have HBS := Lib.hid hbs
 have HSZ := Lib.hid hsz
 have HW := Lib.hid hW
 have hk2 : Ext W W.drew := Ext.drew W
 clear h hX hbm hbs hsz hW
 cases hv : validM x y G
 ·have HN := Lib.hid (show tradeOk x y G s = false by simp [tradeOk, hv])
  rw [hv] at HV
  clear hv
  go_enter Tryd.func43, Tryd.ntmps43
  go_wp2
  rw [← HW.out]
  refine wp_region_held_drew (S := (fun w' => w'.cell? ⟨w.heap.size, 0, none⟩ = some (.int .i64 x) ∧ w'.cell? ⟨w.heap.size, 1, none⟩ = some (.int .i64 y) ∧ w'.cell? ⟨w.heap.size, 2, none⟩ = some (.slice a n cap) ∧ Ext W w')) (by kernel_rfl) ?_ (fun hHeld => ?_)
  ·exact ⟨hk2.cellSome c0, hk2.cellSome c1, hk2.cellSome c2, hk2⟩
  refine tk 0 ?_
  refine rd (i := 1) (h := fun K hK => ?_)
  go_simp
  (go_at_call 41; refine HV.out.mono ?_; rintro e w3 ⟨rfl, hx3⟩; have hk2 := hk2.trans hx3)
  go_wp2_with fail
  refine hK.out _ _ ?_ (fun hHeld => ?_)
  ·exact ⟨hk2.cellSome c0, hk2.cellSome c1, hk2.cellSome c2, hk2⟩
  clear hK K
  try simp only [Act.put, sA, sB, sC]
  refine tk 2 ?_
  refine tk 3 ?_
  refine sk 4 ?_
  refine sk 5 ?_
  refine sk 6 ?_
  refine sk 7 ?_
  refine sk 8 ?_
  refine sk 9 ?_
  refine sk 10 ?_
  refine sk 11 ?_
  refine sk 12 ?_
  refine sk 13 ?_
  refine tk 14 ?_
  refine wpAnyH_done (by kernel_rfl) ?_ _
  go_wp2
  rw [tradeR_not HN.out, HN.out]
  refine bodyPost_ret (v := .tuple #[.slice none 0 0, .int .i64 0, .bool false]) (by simp [results, Tryd.results43, go_sem]) rfl ⟨⟨_, rfl, OwnI.nil _ _⟩, HX.out.trans hk2⟩
 rw [hv] at HV
 obtain ⟨S, B, rfl, rfl, hM⟩ := validM_good hv
 have hsb := hM.sb
 have hcn := cntC_nat (S + B) hsb
 have hN := cN_le (S + B) hsb
 have hcn' : cntC ((S : Int) + (B : Int)) = (cN (S + B) : Int) := by rw [← hcn]; simp
 have HC := Lib.hid hcn'
 have HM := Lib.hid hM
 have eSB : IntKind.i64.wrap ((S : Int) + (B : Int)) = (S : Int) + (B : Int) := by rw [IntKind.wrap_i64]; omega
 have eN : IntKind.i64.wrap ((cN (S + B) : Int) - 1) = (cN (S + B) : Int) - 1 := by rw [IntKind.wrap_i64]; omega
 cases hin : inB s 0 ((cN (S + B) : Int) - 1)
 ·have HIN := Lib.hid hin
  have HN := Lib.hid (show tradeOk (S : Int) (B : Int) G s = false by simp [tradeOk, hv, hcn', hin])
  clear hv hin hcn' hcn hM
  go_enter Tryd.func43, Tryd.ntmps43
  go_wp2
  rw [← HW.out]
  go_region_held3 (fun w' => w'.cell? ⟨w.heap.size, 0, none⟩ = some (.int .i64 (S : Int)) ∧ w'.cell? ⟨w.heap.size, 1, none⟩ = some (.int .i64 (B : Int)) ∧ w'.cell? ⟨w.heap.size, 2, none⟩ = some (.slice a n cap) ∧ w'.cell? ⟨w.heap.size + 1, 0, none⟩ = some (.int .i64 s) ∧ Ext W w')
   (exact ⟨hk2.cellSome c0, hk2.cellSome c1, hk2.cellSome c2, hk2.cellSome cs, hk2⟩)
   (first
     | (go_at_call 41; refine HV.out.mono ?_; rintro e w3 ⟨rfl, hx3⟩; have hk2 := hk2.trans hx3)
     | (go_at_call 39; refine (i_CountCoalitions _ _).mono ?_; rw [HC.out]; rintro e w' ⟨rfl, rfl⟩)
     | (go_at_call 50; refine (i_within _ _ _ _).mono ?_; rw [HIN.out]; rintro e w' ⟨rfl, rfl⟩))
  go_wp2
  rw [tradeR_not HN.out, HN.out]
  refine bodyPost_ret (v := .tuple #[.slice none 0 0, .int .i64 0, .bool false]) (by simp [results, Tryd.results43, go_sem]) rfl ⟨⟨_, rfl, OwnI.nil _ _⟩, HX.out.trans hk2⟩
 ·have HIN := Lib.hid hin
  have HOK := Lib.hid (show tradeOk (S : Int) (B : Int) G s = true by simp [tradeOk, hv, hcn', hin])
  obtain ⟨t, rfl⟩ : ∃ t : Nat, s = t := ⟨s.toNat, by unfold inB at hin; simp at hin; omega⟩
  have ht : t < 32 := by unfold inB at hin; simp at hin; omega
  have hmk := mk_ints S (by omega)
  clear hv hin hcn' hcn hM hN
  go_enter Tryd.func43, Tryd.ntmps43
  go_wp2
  rw [← HW.out]
  go_region_held3 (fun w' => w'.cell? ⟨w.heap.size, 0, none⟩ = some (.int .i64 (S : Int)) ∧ w'.cell? ⟨w.heap.size, 1, none⟩ = some (.int .i64 (B : Int)) ∧ w'.cell? ⟨w.heap.size, 2, none⟩ = some (.slice a n cap) ∧ w'.cell? ⟨w.heap.size + 1, 0, none⟩ = some (.int .i64 (t : Int)) ∧ Ext W w')
   (exact ⟨hk2.cellSome c0, hk2.cellSome c1, hk2.cellSome c2, hk2.cellSome cs, hk2⟩)
   (first
     | (go_at_call 41; refine HV.out.mono ?_; rintro e w3 ⟨rfl, hx3⟩; have hk2 := hk2.trans hx3)
     | (go_at_call 39; refine (i_CountCoalitions _ _).mono ?_; rw [HC.out]; rintro e w' ⟨rfl, rfl⟩)
     | (go_at_call 50; refine (i_within _ _ _ _).mono ?_; rw [HIN.out]; rintro e w' ⟨rfl, rfl⟩))
  have d0 := hk2.cellSome c0
  have ds := hk2.cellSome cs
  have hlt3 : w.heap.size + 1 < w3.heap.size := World.block_lt_of_cell? _ _ ds
  have hltm : w.heap.size < w3.heap.size := by omega
  have X3 := Lib.hid (HX.out.trans hk2)
  have HM3 := Lib.hid ((hk2.block _ (by have := HSZ.out; omega)).trans HBM.out)
  have HS3 := Lib.hid ((hk2.block _ (by have := HSZ.out; omega)).trans HBS.out)
  clear hk2 c0 c1 c2 cs
  have hS : StT w (((((w3.alloc (.cells #[.slice none 0 0] 25)).alloc (.cells #[.int .i64 (-1)] 3)).alloc (.cells (intCells (List.replicate S 0)) 3)).alloc (.cells #[.slice (some ⟨w3.heap.size + 1 + 1, 0, none⟩) S S] 25)).alloc
   (.cells #[.func (.func 62) #[] (capsT w.heap.size (w.heap.size + 1) w3.heap.size (w3.heap.size + 1) (w3.heap.size + 1 + 1 + 1) (w3.heap.size + 1 + 1 + 1 + 1))] 65))
   S B t a n cap w.heap.size (w.heap.size + 1) w3.heap.size (w3.heap.size + 1) (w3.heap.size + 1 + 1) (w3.heap.size + 1 + 1 + 1) (w3.heap.size + 1 + 1 + 1 + 1) (w3.heap.size + 1 + 1 + 1 + 1 + 1) none 0 0 ⟨List.replicate S 0, [], -1⟩ := by
   have hx : Ext w3 (((((w3.alloc (.cells #[.slice none 0 0] 25)).alloc (.cells #[.int .i64 (-1)] 3)).alloc (.cells (intCells (List.replicate S 0)) 3)).alloc (.cells #[.slice (some ⟨w3.heap.size + 1 + 1, 0, none⟩) S S] 25)).alloc
    (.cells #[.func (.func 62) #[] (capsT w.heap.size (w.heap.size + 1) w3.heap.size (w3.heap.size + 1) (w3.heap.size + 1 + 1 + 1) (w3.heap.size + 1 + 1 + 1 + 1))] 65)) :=
    (((((Ext.alloc _ _).trans (Ext.alloc _ _)).trans (Ext.alloc _ _)).trans (Ext.alloc _ _)).trans (Ext.alloc _ _))
   refine ⟨by simp; omega, ?_, ?_, ?_, ?_, ?_, ?_, ?_, OwnI.nil _ _, by simp, X3.out.trans hx⟩
   ·exact (hx.block _ (by omega)).trans HM3.out
   ·exact (hx.block _ (by omega)).trans HS3.out
   ·repeat (first | exact heapA_new _ _ _ (by simp) | rw [heapA_old _ _ _ (by simp; omega)] | rw [heapA_old _ _ _ (by simp)])
   ·repeat (first | exact heapA_new _ _ _ (by simp) | rw [heapA_old _ _ _ (by simp; omega)] | rw [heapA_old _ _ _ (by simp)])
   ·unfold Row
    repeat (first | exact heapA_new _ _ _ (by simp) | rw [heapA_old _ _ _ (by simp; omega)] | rw [heapA_old _ _ _ (by simp)])
   ·repeat (first | exact heapA_new _ _ _ (by simp) | rw [heapA_old _ _ _ (by simp; omega)] | rw [heapA_old _ _ _ (by simp)])
   ·repeat (first | exact heapA_new _ _ _ (by simp) | rw [heapA_old _ _ _ (by simp; omega)] | rw [heapA_old _ _ _ (by simp)])
  have T1 := Lib.hid (i_walk HM.out ht HG.out _ _ _ _ _ _ _ _ S 0 0 (t : Int) 0 t _ _ _ _ _ rfl rfl (by omega) ht (by omega) (by simp) hS)
  have hcf : ∀ (args : Array Value) (w : World), (callFunc 62 args).run Tryd.prog w = .ok (.enter 62 args) w := go_BestTrades1
  have csW := cell_of_one hS.hs
  have hq1 : w.heap.size ≠ w3.heap.size := by omega
  have hq2 : w.heap.size ≠ w3.heap.size + 1 := by omega
  have hq3 : w.heap.size ≠ w3.heap.size + 1 + 1 := by omega
  have hq4 : w.heap.size ≠ w3.heap.size + 1 + 1 + 1 := by omega
  have hq5 : w.heap.size + 1 ≠ w3.heap.size := by omega
  have hq6 : w.heap.size < w3.heap.size + 1 + 1 + 1 := by omega
  have hq7 : w.heap.size < w3.heap.size + 1 + 1 := by omega
  have hq8 : w.heap.size < w3.heap.size + 1 := by omega
  clear hS
  go_wp2_with fail
  refine T1.out.mono ?_
  rintro e w7 ⟨rfl, a5, n5, c5, hS7⟩
  have HS7 := Lib.hid hS7
  have cb := cell_of_one hS7.hb
  have co := cell_of_one hS7.ho
  have hF := walkF_best S B G t hsb S t [] 0 ⟨List.replicate S 0, [], -1⟩ (Nat.le_refl _) (by simp) ht (fun j _ => by simp [hasI])
  have hbd := bestF_bd S B G t HM.out.bd S []
  unfold Found at hF
  obtain ⟨f1, f2, f3⟩ := hF
  simp only [Nat.sub_self, List.take_zero, List.nil_append, Int.zero_add] at f3
  have f4 : (walkF S B G t S t 0 ⟨List.replicate S 0, [], -1⟩).best = (bestF S B G t S []).1 ∧ (walkF S B G t S t 0 ⟨List.replicate S 0, [], -1⟩).most = (bestF S B G t S []).2 := by
   rcases f3 with ⟨_, g2, g3⟩ | ⟨g1, _⟩
   ·exact ⟨g2, g3⟩
   ·omega
  have HF := Lib.hid f4
  obtain ⟨mo, hmo⟩ : ∃ m, m = (walkF S B G t S t 0 ⟨List.replicate S 0, [], -1⟩).most := ⟨_, rfl⟩
  rw [← hmo] at co
  have HMO := Lib.hid hmo
  clear hS7 f1 f2 f3 f4 hbd hmo hmk hcf
  go_wp2
  go_quiet (fail)
  go_wp2
  rw [HOK.out, tradeR_ok HOK.out]
  refine bodyPost_ret (v := .tuple #[.slice a5 n5 c5, .int .i64 mo, .bool true]) (by simp [results, Tryd.results43, go_sem]) rfl ⟨⟨_, by rw [← HF.out.2, ← HMO.out], ?_⟩, HS7.out.bel.trans (Drew.ext ⟨_, rfl⟩)⟩
  rw [← HF.out.1]
  exact (HS7.out.own.ext (Drew.ext ⟨_, rfl⟩)).mono (by omega)
end Go.Proofs.YtalmoolkhcgmmaaDoor
