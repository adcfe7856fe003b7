import Derived.Test.YthjjfkeacobikaaGreatTaAllG2
import Derived.Test.YthjjfkeacobikaaGreatTaAllG0
import Derived.Deep.DeepCutAuto
import Derived.Deep.RegionHeld3
import Derived.Deep.RegionLaw
import Derived.StillTailTactics
set_option linter.unusedVariables false
set_option linter.unusedSimpArgs false
namespace Go.Proofs.YthjjfkeacobikaaGreat
set_option maxRecDepth 100000
open Go.RowKit
def Tiny (V : List Int) : Prop := ∀ k : Nat, -100 ≤ V[k]?.getD 0 ∧ V[k]?.getD 0 ≤ 100
theorem grown_block {w w' : World} {cb b : Nat} (hg : w.grownBy w' (some cb)) (hb : b < w.heap.size) (hne : b ≠ cb) : w'.heap[b]? = w.heap[b]? := hg.block b hb fun e => hne (Option.some.inj e)
structure Dealt (w w' : World) (cb most n vb : Nat) (V : List Int) : Prop where
 lo : 1 ≤ n
 hi : n ≤ most
 len : V.length = cN n
 tiny : Tiny V
 zero : V[0]?.getD 0 = 0
 row : Row w' vb 3 V
 new : w.heap.size ≤ vb
 ne : vb ≠ cb
structure DS (w wr : World) (cb vb gb rb n : Nat) (V : List Int) : Prop where
 row : Row wr vb 3 V
 cur : Cur wr cb
 gbk : wr.heap[gb]? = some (.cells #[.int .i64 (n : Int), .slice (some ⟨vb, 0, none⟩) (cN n) (cN n)] 29 (0, 0))
 rbk : wr.heap[rb]? = some (.cells #[.int .i64 0, .slice none 0 0] 29 (0, 0))
 grown : w.grownBy wr (some cb)
 apart : vb ≠ cb ∧ gb ≠ cb ∧ rb ≠ cb ∧ gb ≠ vb ∧ rb ≠ vb ∧ rb ≠ gb ∧ w.heap.size ≤ vb ∧ w.heap.size ≤ gb ∧ w.heap.size ≤ rb
theorem Cur.put' {w : World} {cb b : Nat} (h : Cur w cb) (hne : b ≠ cb) (hno : ∀ j x, w.cell? ⟨b, j, none⟩ ≠ some (.int .u8 x)) (k : Nat) (v : Value) : Cur (w.setCell ⟨b, k, none⟩ v) cb := by
 obtain ⟨ba, bn, bc, i, x, h1, h2, h3, h4, h5⟩ := h
 refine ⟨ba, bn, bc, i, x, (heap_setCell_other _ _ _ _ (Ne.symm hne)).trans h1, ⟨h2.hcap, h2.hmax, fun j hj => ?_⟩, h3, h4, h5⟩
 obtain ⟨b', off, e, hc⟩ := h2.cell j hj
 refine ⟨b', off, e, fun j hj => ?_⟩
 obtain ⟨y, hy, hy1⟩ := hc j hj
 refine ⟨y, (cell_same (heap_setCell_other _ _ _ _ ?_) _).trans hy, hy1⟩
 intro e2
 subst e2
 exact hno _ _ hy
theorem Ints.lit (w : World) (l : List Int) (t : TypeId) (hl : l.length ≤ 9223372036854775807) : Ints (w.alloc (.cells (intCells l) t)) (some ⟨w.heap.size, 0, none⟩) l.length l.length l :=
 Row.ints (heap_alloc_new w _) rfl (Nat.le_refl _) hl
theorem OwnI.made (w : World) (base : Nat) (hb : base ≤ w.heap.size) : OwnI (w.alloc (.cells #[] 3)) base (.slice (some ⟨w.heap.size, 0, none⟩) 0 0) [] :=
 World.ownsRow_lit w #[] 0 hb (by omega) rfl
section
variable (C : List Int)
def keyC (z : Int) : Int := C[z.toNat]?.getD 0
def posR (x : Int) (l : List Int) : Nat → Nat
 | 0 => 0
 | m + 1 => if keyC C x < keyC C (l[m]?.getD 0) then posR x l m else m + 1
def insR (x : Int) (l : List Int) : List Int := l.take (posR C x l l.length) ++ x :: l.drop (posR C x l l.length)
def srt : Nat → List Int
 | 0 => []
 | k + 1 => insR C (k : Int) (srt k)
theorem posR_le (x : Int) (l : List Int) : ∀ m, posR C x l m ≤ m
 | 0 => Nat.le_refl _
 | m + 1 => by unfold posR; split; · have := posR_le x l m; omega
               ·omega
theorem srt_len : ∀ k, (srt C k).length = k
 | 0 => rfl
 | k + 1 => by
   have h1 := srt_len k
   have h2 := posR_le C (k : Int) (srt C k) (srt C k).length
   simp only [srt, insR, List.length_append, List.length_cons, List.length_take, List.length_drop]
   omega
theorem srt_mem : ∀ k, ∀ z ∈ srt C k, 0 ≤ z ∧ z < k
 | 0, z, h => by simp [srt] at h
 | k + 1, z, h => by
   have ih := srt_mem k
   simp only [srt, insR, List.mem_append, List.mem_cons] at h
   rcases h with h | h | h
   ·have := ih z (List.mem_of_mem_take h); omega
   ·omega
   ·have := ih z (List.mem_of_mem_drop h); omega
theorem srt_at {k j : Nat} (h : j < k) : ∃ m : Nat, (srt C k)[j]?.getD 0 = (m : Int) ∧ m < k := by
 have hl := srt_len C k
 have hj : j < (srt C k).length := by omega
 have := srt_mem C k _ (List.getElem_mem hj)
 refine ⟨((srt C k)[j]?.getD 0).toNat, ?_, ?_⟩
 ·simp [hj]; omega
 ·simp [hj]; omega
def movR (n i j : Nat) : List Int := (srt C i).take j ++ (i : Int) :: ((srt C i).drop j ++ seqI ((i : Int) + 1) (n - (i + 1)))
theorem movR_len {n i j : Nat} (hj : j ≤ i) (hi : i < n) : (movR C n i j).length = n := by
 have := srt_len C i
 simp only [movR, List.length_append, List.length_cons, List.length_take, List.length_drop, seqI_len]
 omega
theorem seqI_cons (k : Int) (m : Nat) : k :: seqI (k + 1) m = seqI k (m + 1) := by
 unfold seqI
 rw [List.range_succ_eq_map]
 simp only [List.map_cons, List.map_map]
 congr 1
 ·omega
 ·apply List.map_congr_left; intro a _; simp only [Function.comp]; omega
theorem movR_top {n i : Nat} (hi : i < n) : movR C n i i = srt C i ++ seqI (i : Int) (n - i) := by
 have hl := srt_len C i
 have e : n - i = (n - (i + 1)) + 1 := by omega
 unfold movR
 rw [List.take_of_length_le (by omega), List.drop_of_length_le (by omega), e]
 rw [List.nil_append, seqI_cons]
theorem movR_at {n i j : Nat} (hj : j ≤ i) : (movR C n i j)[j]?.getD 0 = (i : Int) := by
 have hl := srt_len C i
 unfold movR
 rw [List.getElem?_append_right (by simp; omega)]
 have : j - ((srt C i).take j).length = 0 := by simp; omega
 rw [this]; rfl
theorem movR_below {n i j : Nat} (hj : j < i) : (movR C n i (j + 1))[j]?.getD 0 = (srt C i)[j]?.getD 0 := by
 have hl := srt_len C i
 unfold movR
 rw [List.getElem?_append_left (by simp; omega), List.getElem?_take, if_pos (by omega)]
theorem movR_swap {n i j : Nat} (hj : j < i) (hi : i < n) : ((movR C n i (j + 1)).set (j + 1) ((srt C i)[j]?.getD 0)).set j (i : Int) = movR C n i j := by
 have hl := srt_len C i
 unfold movR
 rw [List.set_append_right _ _ (by simp; omega)]
 have e1 : j + 1 - ((srt C i).take (j + 1)).length = 0 := by simp; omega
 rw [e1, List.set_cons_zero, List.set_append_left _ _ (by simp; omega)]
 have hjl : j < (srt C i).length := by omega
 rw [List.take_succ_eq_append_getElem hjl, List.set_append_right _ _ (by simp; omega)]
 have e2 : j - ((srt C i).take j).length = 0 := by simp; omega
 rw [e2, List.set_cons_zero]
 rw [List.drop_eq_getElem_cons hjl]
 simp only [List.getElem?_eq_getElem hjl, Option.getD_some, List.append_assoc, List.cons_append, List.nil_append]
theorem movR_done {n i j : Nat} (hi : i < n) (hp : posR C (i : Int) (srt C i) i = j) : movR C n i j = srt C (i + 1) ++ seqI ((i : Int) + 1) (n - (i + 1)) := by
 have hl := srt_len C i
 simp only [movR, srt, insR, hl, hp, List.append_assoc, List.cons_append]
theorem posR_stop {x : Int} {l : List Int} {m : Nat} (h : ¬ keyC C x < keyC C (l[m]?.getD 0)) : posR C x l (m + 1) = m + 1 := by rw [posR, if_neg h]
theorem posR_go {x : Int} {l : List Int} {m : Nat} (h : keyC C x < keyC C (l[m]?.getD 0)) : posR C x l (m + 1) = posR C x l m := by rw [posR, if_pos h]
end
set_option maxHeartbeats 1000000 in
theorem i_cmp {w : World} {cb : Nat} {a : Option Addr} {n cap : Nat} {C : List Int} (hb : w.cell? ⟨cb, 0, none⟩ = some (.slice a n cap)) (h : Ints w a n cap C) (bd : ∀ k : Nat, 0 ≤ C[k]?.getD 0 ∧ C[k]?.getD 0 ≤ 100000) (i j : Nat) (hi : i < n) (hj : j < n) :
 Calls Tryz.prog 176 #[.int .i64 (i : Int), .int .i64 (j : Int), .pointer (some ⟨cb, 0, none⟩)] w fun e w' => e = .returned (.int .i64 (keyC C (i : Int) - keyC C (j : Int))) ∧ Drew w w' := by
 have hn := h.hcap
 have hm := h.hmax
 obtain ⟨b, off, he, hc⟩ := h.at hi
 obtain ⟨b2, off2, he2, hc2⟩ := h.at hj
 subst he
 simp only [Option.some.injEq, Addr.mk.injEq, and_true] at he2
 obtain ⟨rfl, rfl⟩ := he2
 have h1 := bd i
 have h2 := bd j
 obtain ⟨x, hx⟩ : ∃ x, x = C[i]?.getD 0 := ⟨_, rfl⟩
 obtain ⟨y, hy⟩ : ∃ y, y = C[j]?.getD 0 := ⟨_, rfl⟩
 rw [← hx] at hc h1
 rw [← hy] at hc2 h2
 have HR := Lib.hid (show keyC C (i : Int) - keyC C (j : Int) = x - y by simp [keyC, hx, hy])
 clear hx hy bd h
 go_enter Tryz.func176, Tryz.ntmps176
 go_wp2
 go_quiet (fail)
 go_wp2
 go_ret
 exact ⟨ret_int HR.out.symm, ⟨_, rfl⟩⟩
theorem go_EqualAwards1 : IsGo Tryz.prog 176 := isGo Tryz.func176 (by kernel_rfl) (by kernel_rfl)
set_option maxHeartbeats 4000000 in
theorem i_isort {w0 w : World} {cb : Nat} {a' : Option Addr} {n' c' : Nat} {C : List Int} {base : Nat} {a : Option Addr} {n cap : Nat} (hb : w0.cell? ⟨cb, 0, none⟩ = some (.slice a' n' c')) (hC : Ints w0 a' n' c' C) (bd : ∀ k : Nat, 0 ≤ C[k]?.getD 0 ∧ C[k]?.getD 0 ≤ 100000)
 (hn : n = n') (h1 : 1 ≤ n) (h5 : n ≤ 5) (hx0 : Ext w0 w) (hbase : w0.heap.size ≤ base) (h : OwnI w base (.slice a n cap) (seqI 0 n)) :
 Calls Tryz.prog 273 #[.slice a n cap, .int .i64 0, .int .i64 (n : Int), .func (.func 176) #[] #[.pointer (some ⟨cb, 0, none⟩)]] w fun e w' => e = .returned (.tuple #[]) ∧ OwnI w' base (.slice a n cap) (srt C n) ∧ Ext w0 w' := by
 have hcf : ∀ (args : Array Value) (w : World), (callFunc 176 args).run Tryz.prog w = .ok (.enter 176 args) w := go_EqualAwards1
 obtain ⟨g, rfl, hbg, _, _⟩ := h.block (k := 0) (by omega)
 have hcap := h.ints.hcap
 have hmax := h.ints.hmax
 have HB := Lib.hid hb
 have HC := Lib.hid hC
 have HN := Lib.hid hn
 have HBD := Lib.hid bd
 have HX0 := Lib.hid hx0
 have HO := Lib.hid h
 clear hb hC hn bd hx0 h
 go_enter Tryz.func273, Tryz.ntmps273
 go_wp2
 go_loopw [8] (fun t wr => ∃ i : Nat, 1 ≤ i ∧ i ≤ n ∧ t = .int .i64 (i : Int) ∧ Hid (OwnI wr base (.slice (some ⟨g, 0, none⟩) n cap) (srt C i ++ seqI (i : Int) (n - i))) ∧ Hid (Ext w0 wr)) (fun t _ => n - (intOf t).toNat)
 case atStart =>
  refine ⟨1, Nat.le_refl _, h1, rfl, Lib.hid ?_, HX0⟩
  have e : srt C 1 ++ seqI ((1 : Nat) : Int) (n - 1) = seqI 0 n := by
   have e1 : srt C 1 = [0] := rfl
   have e2 : n = (n - 1) + 1 := by omega
   rw [e1]
   conv => rhs; rw [e2, ← seqI_cons]
   rfl
  rw [e]
  exact HO.out
 case round =>
  obtain ⟨i, hi1, hin, rfl, HO1, HX1⟩ := hrel
  by_cases hlt : i < n
  ·go_wp2
   go_loopw [9] (fun t wr2 => ∃ j : Nat, j ≤ i ∧ t = .int .i64 (j : Int) ∧ Hid (OwnI wr2 base (.slice (some ⟨g, 0, none⟩) n cap) (movR C n i j)) ∧ Hid (Ext w0 wr2) ∧ Hid (posR C (i : Int) (srt C i) i = posR C (i : Int) (srt C i) j)) (fun t _ => (intOf t).toNat)
   case atStart => exact ⟨i, Nat.le_refl _, rfl, Lib.hid (by rw [movR_top C hlt]; exact HO1.out), HX1, Lib.hid rfl⟩
   case round =>
    obtain ⟨j, hj, rfl, HO2, HX2, HP⟩ := hrel
    have hk2 : Ext wr wr.drew := Ext.drew wr
    by_cases hj0 : j = 0
    ·subst hj0
     go_wp2
     refine wp_region_held_drew (S := (fun w' => Ext wr w')) (by kernel_rfl) ?_ (fun hHeld => ?_)
     ·exact hk2
     refine tk 0 ?_
     refine tk 1 ?_
     refine tk 2 ?_
     refine tk 3 ?_
     refine sk 4 ?_
     refine sk 5 ?_
     refine sk 6 ?_
     refine sk 7 ?_
     refine sk 8 ?_
     refine sk 9 ?_
     refine sk 10 ?_
     refine sk 11 ?_
     refine sk 12 ?_
     refine sk 13 ?_
     refine sk 14 ?_
     refine sk 15 ?_
     refine tk 16 ?_
     refine wpAnyH_done (by kernel_rfl) ?_ _
     go_wp2
     go_roundw
     case rel => exact ⟨i + 1, by omega, by omega, by go_num, Lib.hid (by have := HO2.out.ext hk2; rwa [movR_done C hlt (by rw [HP.out]; rfl)] at this), Lib.hid (HX2.out.trans hk2)⟩
     case measure => simp [intOf]; omega
    ·obtain ⟨m, hjm⟩ : ∃ m, j = m + 1 := ⟨j - 1, by omega⟩
     have HJM := Lib.hid hjm
     have hL := movR_len C hj hlt
     obtain ⟨b1, o1, he1, hd1⟩ := HO2.out.ints.at (k := j) (by omega)
     obtain ⟨b2, o2, he2, hd2⟩ := HO2.out.ints.at (k := m) (by omega)
     simp only [Option.some.injEq, Addr.mk.injEq, and_true] at he1 he2
     obtain ⟨rfl, rfl⟩ := he1
     obtain ⟨hz1, hz2⟩ := he2
     subst hz1 hz2
     rw [Nat.zero_add, movR_at C hj] at hd1
     rw [Nat.zero_add, hjm, movR_below C (by omega)] at hd2
     obtain ⟨z, hz, hzi⟩ := srt_at C (k := i) (j := m) (by omega)
     rw [hz] at hd2
     have HZ := Lib.hid hz
     have hmn : m < n := by omega
     have hjn : j < n := by omega
     have hj1 : 0 < j := by omega
     have hw1 : IntKind.i64.wrap ((j : Int) - 1) = (m : Int) := by rw [IntKind.wrap_i64]; omega
     have hw2 : wrap64 ((j : Int) - 1) = (m : Int) := by unfold wrap64; omega
     have hw3 : (j : Int) - 1 = (m : Int) := by omega
     have hw4 : IntKind.i64.wrap (m : Int) = (m : Int) := by rw [IntKind.wrap_i64]; omega
     have hw5 : wrap64 (m : Int) = (m : Int) := by unfold wrap64; omega
     obtain ⟨K, hK⟩ : ∃ K, K = keyC C (i : Int) - keyC C (z : Int) := ⟨_, rfl⟩
     have HK := Lib.hid hK
     clear hz hL hK hjm
     by_cases hneg : K < 0
     ·have HKEY := Lib.hid (show keyC C (i : Int) < keyC C ((srt C i)[m]?.getD 0) by rw [HZ.out]; have := HK.out; omega)
      go_wp2
      go_region_held3 (fun w' => w'.cell? ⟨g, j, none⟩ = some (.int .i64 (i : Int)) ∧ w'.cell? ⟨g, m, none⟩ = some (.int .i64 (z : Int)) ∧ Ext wr w')
       (exact ⟨hk2.cellSome hd1, hk2.cellSome hd2, hk2⟩)
       (first
         | (refine (i_cmp ((HX2.out.trans hk2).cellSome HB.out) (HC.out.ext (HX2.out.trans hk2)) HBD.out i z (by have := HN.out; omega) (by have := HN.out; omega)).mono ?_; rw [← HK.out]; rintro e w3 ⟨rfl, hd⟩; have hk2 := hk2.trans hd.ext))
      replace hd1 := hk2.cellSome hd1
      replace hd2 := hk2.cellSome hd2
      have X3 := Lib.hid (HX2.out.trans hk2)
      have HO3 := Lib.hid (HO2.out.ext hk2)
      obtain ⟨g', hg', _, hfz, _⟩ := HO3.out.block (k := 0) (by omega)
      simp only [Option.some.injEq, Addr.mk.injEq, and_true] at hg'
      subst hg'
      have hf1 := hfz j
      have hf2 := hfz m
      clear hfz
      go_wp2
      go_region_law (fail)
      all_goals
       go_wp2
       clear hw1 hw2 hw3 hw4 hw5
       go_roundw
       case rel =>
        have hjm := HJM.out
        have hz1 : Ext w0 (w3.setCell ⟨g, j, none⟩ (.int .i64 (z : Int))) := X3.out.setCell (show w0.heap.size ≤ g by omega) _
        have hz2 : Ext w0 ((w3.setCell ⟨g, j, none⟩ (.int .i64 (z : Int))).setCell ⟨g, m, none⟩ (.int .i64 (i : Int))) := hz1.setCell (show w0.heap.size ≤ g by omega) _
        refine ⟨m, by omega, by go_num, Lib.hid ?_, Lib.hid (Ext.trans hz2 (Ext.drew _)), Lib.hid ?_⟩
        ·have h2 := ((HO3.out.set j (z : Int)).set m (i : Int)).ext (Ext.drew _)
         rw [HJM.out, ← HZ.out, movR_swap C (by have := HJM.out; omega) hlt] at h2
         rw [HJM.out, ← HZ.out]
         exact h2
        ·rw [HP.out, HJM.out, posR_go C HKEY.out]
       case measure => have hjm := HJM.out; simp [intOf]; omega
     ·have HKEY := Lib.hid (show ¬ keyC C (i : Int) < keyC C ((srt C i)[m]?.getD 0) by rw [HZ.out]; have := HK.out; omega)
      go_wp2
      go_region_held3 (fun w' => w'.cell? ⟨g, j, none⟩ = some (.int .i64 (i : Int)) ∧ w'.cell? ⟨g, m, none⟩ = some (.int .i64 (z : Int)) ∧ Ext wr w')
       (exact ⟨hk2.cellSome hd1, hk2.cellSome hd2, hk2⟩)
       (first
         | (refine (i_cmp ((HX2.out.trans hk2).cellSome HB.out) (HC.out.ext (HX2.out.trans hk2)) HBD.out i z (by have := HN.out; omega) (by have := HN.out; omega)).mono ?_; rw [← HK.out]; rintro e w3 ⟨rfl, hd⟩; have hk2 := hk2.trans hd.ext))
      have X3 := Lib.hid (HX2.out.trans hk2)
      have HO3 := Lib.hid (HO2.out.ext hk2)
      go_wp2
      clear hw1 hw2 hw3 hw4 hw5
      go_roundw
      case rel => exact ⟨i + 1, by omega, by omega, by go_num, Lib.hid (by have := HO3.out; rwa [movR_done C hlt (by rw [HP.out, HJM.out, posR_stop C (by have := HKEY.out; omega)])] at this), X3⟩
      case measure => simp [intOf]; omega
  ·have hin' : i = n := by omega
   subst hin'
   go_wp2
   go_end0
   refine ⟨rfl, ?_, HX1.out⟩
   have := HO1.out
   simpa [seqI] using this
end Go.Proofs.YthjjfkeacobikaaGreat
namespace Go.Proofs.YthjjfkeacobikaaGreat
set_option maxRecDepth 100000
open Go.RowKit
section
variable {w0 w : World} {cb : Nat} {a' : Option Addr} {n' c' : Nat} {C : List Int} {base : Nat} {a : Option Addr} {n cap : Nat}
set_option maxHeartbeats 1000000 in
theorem i_stable (hb : w0.cell? ⟨cb, 0, none⟩ = some (.slice a' n' c')) (hC : Ints w0 a' n' c' C) (bd : ∀ k : Nat, 0 ≤ C[k]?.getD 0 ∧ C[k]?.getD 0 ≤ 100000)
 (hn : n = n') (h1 : 1 ≤ n) (h5 : n ≤ 5) (hx0 : Ext w0 w) (hbase : w0.heap.size ≤ base) (h : OwnI w base (.slice a n cap) (seqI 0 n)) :
 Calls Tryz.prog 239 #[.slice a n cap, .int .i64 (n : Int), .func (.func 176) #[] #[.pointer (some ⟨cb, 0, none⟩)]] w fun e w' => e = .returned (.tuple #[]) ∧ OwnI w' base (.slice a n cap) (srt C n) ∧ Ext w0 w' := by
 have HS := Lib.hid (i_isort hb hC bd hn h1 h5 hx0 hbase h)
 clear hb hC bd hn hx0 h
 go_enter Tryz.func239, Tryz.ntmps239
 go_wp2
 go_loopw [7, 8] (fun x y wr => x = .int .i64 0 ∧ y = .int .i64 20 ∧ wr = w) (fun _ _ _ => 0)
 case atStart => exact ⟨rfl, rfl, rfl⟩
 case round =>
  obtain ⟨rfl, rfl, rfl⟩ := hrel
  go_wp2_with fail
  refine HS.out.mono ?_
  rintro e w1 ⟨rfl, ho, hx⟩
  have HO := Lib.hid ho
  have HX := Lib.hid hx
  clear ho hx
  go_wp2
  go_loopw [6] (fun x wr2 => x = .int .i64 20 ∧ Hid (OwnI wr2 base (.slice a n cap) (srt C n)) ∧ Hid (Ext w0 wr2)) (fun _ _ => 0)
  case atStart => exact ⟨rfl, HO, HX⟩
  case round =>
   obtain ⟨rfl, HO2, HX2⟩ := hrel
   go_wp2
   go_end0
   exact ⟨rfl, HO2.out, HX2.out⟩
set_option maxHeartbeats 1000000 in
theorem i_sortS (hb : w0.cell? ⟨cb, 0, none⟩ = some (.slice a' n' c')) (hC : Ints w0 a' n' c' C) (bd : ∀ k : Nat, 0 ≤ C[k]?.getD 0 ∧ C[k]?.getD 0 ≤ 100000)
 (hn : n = n') (h1 : 1 ≤ n) (h5 : n ≤ 5) (hx0 : Ext w0 w) (hbase : w0.heap.size ≤ base) (h : OwnI w base (.slice a n cap) (seqI 0 n)) :
 Calls Tryz.prog 175 #[.slice a n cap, .func (.func 176) #[] #[.pointer (some ⟨cb, 0, none⟩)]] w fun e w' => e = .returned (.tuple #[]) ∧ OwnI w' base (.slice a n cap) (srt C n) ∧ Ext w0 w' := by
 have HS := Lib.hid (i_stable hb hC bd hn h1 h5 hx0 hbase h)
 clear hb hC bd hn hx0 h
 go_enter Tryz.func175, Tryz.ntmps175
 go_wp2_with fail
 refine HS.out.mono ?_
 rintro e w1 ⟨rfl, ho, hx⟩
 go_wp2
 go_end0
 exact ⟨rfl, ho, hx⟩
end
theorem Ints.oneS (w : World) (x : Int) (t : TypeId) (n : Nat) (hn : n = w.heap.size) : Ints (w.alloc (.cells #[.int .i64 x] t)) (some ⟨n, 0, none⟩) 1 1 [x] := by
 subst hn
 exact Ints.one w x t
theorem OwnI.madeS (w : World) (base n : Nat) (hn : n = w.heap.size) (hb : base ≤ w.heap.size) : OwnI (w.alloc (.cells #[] 3)) base (.slice (some ⟨n, 0, none⟩) 0 0) [] := by
 subst hn
 exact OwnI.made w base hb
theorem Ints.take' {w : World} {a : Option Addr} {n cap : Nat} {l : List Int} (h : Ints w a n cap l) {k : Nat} (hk : k ≤ n) : Ints w a k cap (l.take k) :=
 ⟨by have := h.hlen; simp; omega, by have := h.hcap; omega, h.hmax, fun j hj => by
  obtain ⟨b, off, e, hc⟩ := h.cell j (by omega)
  refine ⟨b, off, e, fun i hi => ?_⟩
  rw [hc i (by omega), List.getElem?_take, if_pos hi]⟩
theorem Ints.drop' {w : World} {b off n cap : Nat} {l : List Int} (h : Ints w (some ⟨b, off, none⟩) n cap l) {k : Nat} (hk : k ≤ n) : Ints w (some ⟨b, off + k, none⟩) (n - k) (cap - k) (l.drop k) :=
 ⟨by have := h.hlen; simp; omega, by have := h.hcap; omega, by have := h.hmax; omega, fun j hj => by
  obtain ⟨b', off', e, hc⟩ := h.cell (j + k) (by omega)
  simp only [Option.some.injEq, Addr.mk.injEq, and_true] at e
  obtain ⟨rfl, rfl⟩ := e
  refine ⟨b, off + k, rfl, fun i hi => ?_⟩
  have := hc (i + k) (by omega)
  rw [show off + k + i = off + (i + k) by omega, this, List.getElem?_drop, Nat.add_comm k i]⟩
theorem Ints.dropIf {w : World} {b n cap : Nat} {l : List Int} (h : Ints w (some ⟨b, 0, none⟩) n cap l) {k : Nat} (hk : k ≤ n) : Ints w (if cap = k then some ⟨b, 0, none⟩ else some ⟨b, k, none⟩) (n - k) (cap - k) (l.drop k) := by
 have hc := h.hcap
 split
 ·exact ⟨by have := h.hlen; simp; omega, by omega, by have := h.hmax; omega, fun j hj => absurd hj (by omega)⟩
 ·have := h.drop' hk
  rwa [Nat.zero_add] at this
set_option maxHeartbeats 4000000 in
theorem s_l18Order {w : World} {a : Option Addr} {n cap : Nat} {C : List Int} (h : Ints w a n cap C) (h5 : n ≤ 5) :
 Calls Tryz.prog 182 #[.slice a n cap] w fun e w' => (∃ v, e = .returned v ∧ OwnI w' w.heap.size v (srt C n)) ∧ Ext w w' := by
 have HI := Lib.hid h
 have hmax := h.hmax
 have hcap := h.hcap
 have HL := Lib.hid h.hlen
 have HO := Lib.hid (OwnI.made w w.heap.size (Nat.le_refl _))
 clear h
 go_enter Tryz.func182, Tryz.ntmps182
 go_wp2
 go_loopw [3, 4] (fun o i wr => ∃ (k : Nat) (g p1 : Nat), k ≤ n ∧ i = .int .i64 (k : Int) ∧ o = .slice (some ⟨g, 0, none⟩) k p1 ∧ Hid (OwnI wr w.heap.size (.slice (some ⟨g, 0, none⟩) k p1) (srt C k)) ∧ Hid (Ext w wr)) (fun _ i _ => n - (intOf i).toNat)
 case atStart => exact ⟨0, _, _, Nat.zero_le _, rfl, rfl, HO, Lib.hid (Ext.alloc _ _)⟩
 case round =>
  obtain ⟨k, g, p1, hk, rfl, rfl, HO1, HX1⟩ := hrel
  have hpc := HO1.out.ints.hcap
  have hpm := HO1.out.ints.hmax
  by_cases hlt : k < n
  ·go_wp2
   go_loopw [5] (fun t wr2 => ∃ j : Nat, j ≤ k ∧ t = .int .i64 (j : Int) ∧ Hid (OwnI wr2 w.heap.size (.slice (some ⟨g, 0, none⟩) k p1) (srt C k)) ∧ Hid (Ext w wr2) ∧ Hid (posR C (k : Int) (srt C k) k = posR C (k : Int) (srt C k) j)) (fun t _ => (intOf t).toNat)
   case atStart => exact ⟨k, Nat.le_refl _, rfl, HO1, HX1, Lib.hid rfl⟩
   case round =>
    obtain ⟨j, hj, rfl, HO2, HX2, HP⟩ := hrel
    have hk2 : Ext wr wr.drew := Ext.drew wr
    by_cases hj0 : j = 0
    ·subst hj0
     have HP0 := Lib.hid (show posR C (k : Int) (srt C k) k = 0 by rw [HP.out]; rfl)
     have hjk : 0 ≤ k := Nat.zero_le _
     go_wp2
     refine wp_region_held_drew (S := (fun w' => Ext wr w')) (by kernel_rfl) ?_ (fun hHeld => ?_)
     ·exact hk2
     refine tk 0 ?_
     refine tk 1 ?_
     refine tk 2 ?_
     refine sk 3 ?_
     refine sk 4 ?_
     refine sk 5 ?_
     refine sk 6 ?_
     refine sk 7 ?_
     refine sk 8 ?_
     refine sk 9 ?_
     refine sk 10 ?_
     refine sk 11 ?_
     refine sk 12 ?_
     refine sk 13 ?_
     refine sk 14 ?_
     refine sk 15 ?_
     refine tk 16 ?_
     refine wpAnyH_done (by kernel_rfl) ?_ _
     have hOd := HO2.out.ext hk2
     obtain ⟨g', hg', hbg, _, hgl⟩ : ∃ g', (some ⟨g, 0, none⟩ : Option Addr) = some ⟨g', 0, none⟩ ∧ w.heap.size ≤ g' ∧ True ∧ g' < wr.heap.size := by
      have h1 := hOd.lt g rfl
      exact ⟨g, rfl, h1.1, trivial, by simpa using h1.2⟩
     simp only [Option.some.injEq, Addr.mk.injEq, and_true] at hg'
     subst hg'
     have HOd := Lib.hid hOd
     have Xd := Lib.hid (HX2.out.trans hk2)
     have hws : w.heap.size ≤ wr.heap.size := by have := HX2.out.size; omega
     clear hOd hk2
     go_wp2_with (first
      | (at_builtin
         (refine append_ints rfl _ _ rfl wr.heap.size (.slice (some ⟨wr.heap.size, 0, none⟩) 0 0) [] rfl (OwnI.madeS wr.drew wr.heap.size _ (by simp) (by simp)) _ 0 p1 _ rfl ((HOd.out.ext (Ext.alloc _ _)).ints.take' hjk) (by first | omega | (simp; done) | (simp; omega)) (by first | omega | (simp; done) | (simp; omega)) ?_
          intro v2 w4 ho hg hnear
          rw [List.nil_append] at ho
          obtain ⟨a2, n2, c2, rfl, HN2⟩ := ho.var
          have HA := Lib.hid ho
          have HOe := Lib.hid ((HOd.out.ext (Ext.alloc _ (.cells #[] 3))).keep fun q hq => hg.block q ((HOd.out.ext (Ext.alloc _ (.cells #[] 3))).lt q hq).2 fun e => by have h1 := Option.some.inj (show some wr.heap.size = some q from e.symm); have h2 := Option.some.inj (show some g = some q from hq); omega)
          have X4 := Lib.hid (ext_grown (Xd.out.trans (Ext.alloc _ (.cells #[] 3))) hg (fun q hq => by have := Option.some.inj (show some wr.heap.size = some q from hq); omega))
          have hs4 : wr.heap.size ≤ w4.heap.size := Nat.le_trans (by first | omega | (simp; done) | (simp; omega)) hg.size
          clear ho hg hnear))
      | (at_builtin
         (refine append_ints rfl _ _ rfl wr.heap.size (.slice a2 n2 c2) ((srt C k).take 0) rfl (HA.out.ext (Ext.alloc _ _)) _ 1 1 [(k : Int)] rfl (Ints.oneS _ _ _ _ rfl) (by first | omega | (simp; done) | (simp; omega)) (by first | omega | (simp; done) | (simp; omega)) ?_
          intro v3 w5 ho hg hnear
          obtain ⟨a3, n3, c3, rfl, HN3⟩ := ho.var
          have HB := Lib.hid ho
          have HOf := Lib.hid ((HOe.out.ext (Ext.alloc _ (.cells #[.int .i64 (k : Int)] 3))).keep fun q hq => hg.block q ((HOe.out.ext (Ext.alloc _ (.cells #[.int .i64 (k : Int)] 3))).lt q hq).2 fun e => by have h1 := (HA.out.lt q e.symm).1; have h2 := Option.some.inj (show some g = some q from hq); omega)
          have X5 := Lib.hid (ext_grown (X4.out.trans (Ext.alloc _ (.cells #[.int .i64 (k : Int)] 3))) hg (fun q hq => by have := (HA.out.lt q hq).1; omega))
          have hs5 : wr.heap.size ≤ w5.heap.size := Nat.le_trans (by first | omega | (simp; done) | (simp; omega)) hg.size
          clear ho hg hnear))
      | (at_builtin
         (refine append_ints rfl _ _ rfl wr.heap.size (.slice a3 n3 c3) ((srt C k).take 0 ++ [(k : Int)]) rfl HB.out _ (k - 0) (p1 - 0) _ rfl (HOf.out.ints.drop' hjk) (by first | omega | (simp; done) | (simp; omega)) hs5 ?_
          intro v4 w6 ho hg hnear
          obtain ⟨a4, n4, c4, rfl, HN4⟩ := ho.var
          have HD := Lib.hid ho
          have X6 := Lib.hid (ext_grown X5.out hg (fun q hq => by have := (HB.out.lt q hq).1; omega))
          clear ho hg hnear)))
     have hlist : (srt C k).take 0 ++ [(k : Int)] ++ (srt C k).drop 0 = srt C (k + 1) := by
      have hl := srt_len C k
      simp only [srt, insR, hl, HP0.out, List.append_assoc, List.cons_append, List.nil_append]
     have HD' := Lib.hid (show OwnI w6 wr.heap.size (.slice a4 n4 c4) (srt C (k + 1)) by have := HD.out; rwa [hlist] at this)
     have hn4 : n4 = k + 1 := by have := HD'.out.ints.hlen; rw [srt_len] at this; omega
     obtain ⟨g4, hg4, _, _, _⟩ := HD'.out.block (k := 0) (by omega)
     subst hg4 hn4
     go_roundw
     case rel => exact ⟨k + 1, g4, c4, by omega, by go_num, rfl, Lib.hid (HD'.out.mono hws), X6⟩
     case measure => simp [intOf]; omega
    ·obtain ⟨m, hjm⟩ : ∃ m, j = m + 1 := ⟨j - 1, by omega⟩
     have HJM := Lib.hid hjm
     have hjk : j ≤ k := hj
     obtain ⟨z, hz, hzi⟩ := srt_at C (k := k) (j := m) (by omega)
     obtain ⟨b2, o2, he2, hd2⟩ := HO2.out.ints.at (k := m) (by omega)
     simp only [Option.some.injEq, Addr.mk.injEq, and_true] at he2
     obtain ⟨hz1, hz2⟩ := he2
     subst hz1 hz2
     rw [Nat.zero_add, hz] at hd2
     have HZ := Lib.hid hz
     have HIr := Lib.hid (HI.out.ext HX2.out)
     obtain ⟨b, off, he, hcz⟩ := HIr.out.at (k := z) (by omega)
     obtain ⟨b3, off3, he3, hck⟩ := HIr.out.at (k := k) hlt
     subst he
     simp only [Option.some.injEq, Addr.mk.injEq, and_true] at he3
     obtain ⟨hz3, hz4⟩ := he3
     subst hz3 hz4
     obtain ⟨K1, hK1⟩ : ∃ K, K = C[z]?.getD 0 := ⟨_, rfl⟩
     obtain ⟨K2, hK2⟩ : ∃ K, K = C[k]?.getD 0 := ⟨_, rfl⟩
     rw [← hK1] at hcz
     rw [← hK2] at hck
     have HKZ := Lib.hid (show keyC C ((srt C k)[m]?.getD 0) = K1 by rw [HZ.out, hK1]; simp [keyC])
     have HKK := Lib.hid (show keyC C (k : Int) = K2 by rw [hK2]; simp [keyC])
     have hmk : m < k := by omega
     have hzn : z < n := by omega
     have hj1 : 0 < j := by omega
     have hw1 : IntKind.i64.wrap ((j : Int) - 1) = (m : Int) := by rw [IntKind.wrap_i64]; omega
     have hw2 : wrap64 ((j : Int) - 1) = (m : Int) := by unfold wrap64; omega
     have hw3 : (j : Int) - 1 = (m : Int) := by omega
     have hw4 : IntKind.i64.wrap (m : Int) = (m : Int) := by rw [IntKind.wrap_i64]; omega
     have hw5 : wrap64 (m : Int) = (m : Int) := by unfold wrap64; omega
     clear hz hjm hK1 hK2
     by_cases hgt : K2 < K1
     ·go_wp2
      go_region_held3 (fun w' => w'.cell? ⟨g, m, none⟩ = some (.int .i64 (z : Int)) ∧ w'.cell? ⟨b, off + z, none⟩ = some (.int .i64 K1) ∧ w'.cell? ⟨b, off + k, none⟩ = some (.int .i64 K2) ∧ Ext wr w')
       (exact ⟨hk2.cellSome hd2, hk2.cellSome hcz, hk2.cellSome hck, hk2⟩)
       (fail)
      go_wp2
      clear hw1 hw2 hw3 hw4 hw5
      go_roundw
      case rel =>
       have hjm := HJM.out
       exact ⟨m, by omega, by go_num, Lib.hid (HO2.out.ext hk2), Lib.hid (HX2.out.trans hk2), Lib.hid (by rw [HP.out, HJM.out, posR_go C (by rw [HKZ.out, HKK.out]; exact hgt)])⟩
      case measure => have hjm := HJM.out; simp [intOf]; omega
     have HPJ := Lib.hid (show posR C (k : Int) (srt C k) k = j by rw [HP.out, HJM.out, posR_stop C (by rw [HKZ.out, HKK.out]; exact hgt)])
     go_wp2
     go_region_held3 (fun w' => w'.cell? ⟨g, m, none⟩ = some (.int .i64 (z : Int)) ∧ w'.cell? ⟨b, off + z, none⟩ = some (.int .i64 K1) ∧ w'.cell? ⟨b, off + k, none⟩ = some (.int .i64 K2) ∧ Ext wr w')
      (exact ⟨hk2.cellSome hd2, hk2.cellSome hcz, hk2.cellSome hck, hk2⟩)
      (fail)
     clear hw1 hw2 hw3 hw4 hw5
     have hOd := HO2.out.ext hk2
     obtain ⟨g', hg', hbg, _, hgl⟩ : ∃ g', (some ⟨g, 0, none⟩ : Option Addr) = some ⟨g', 0, none⟩ ∧ w.heap.size ≤ g' ∧ True ∧ g' < wr.heap.size := by
      have h1 := hOd.lt g rfl
      exact ⟨g, rfl, h1.1, trivial, by simpa using h1.2⟩
     simp only [Option.some.injEq, Addr.mk.injEq, and_true] at hg'
     subst hg'
     have HOd := Lib.hid hOd
     have Xd := Lib.hid (HX2.out.trans hk2)
     have hws : w.heap.size ≤ wr.heap.size := by have := HX2.out.size; omega
     clear hOd hk2
     go_wp2_with (first
      | (at_builtin
         (refine append_ints rfl _ _ rfl wr.heap.size (.slice (some ⟨wr.heap.size, 0, none⟩) 0 0) [] rfl (OwnI.madeS wr.drew wr.heap.size _ (by simp) (by simp)) _ j p1 _ rfl ((HOd.out.ext (Ext.alloc _ _)).ints.take' hjk) (by first | omega | (simp; done) | (simp; omega)) (by first | omega | (simp; done) | (simp; omega)) ?_
          intro v2 w4 ho hg hnear
          rw [List.nil_append] at ho
          obtain ⟨a2, n2, c2, rfl, HN2⟩ := ho.var
          have HA := Lib.hid ho
          have HOe := Lib.hid ((HOd.out.ext (Ext.alloc _ (.cells #[] 3))).keep fun q hq => hg.block q ((HOd.out.ext (Ext.alloc _ (.cells #[] 3))).lt q hq).2 fun e => by have h1 := Option.some.inj (show some wr.heap.size = some q from e.symm); have h2 := Option.some.inj (show some g = some q from hq); omega)
          have X4 := Lib.hid (ext_grown (Xd.out.trans (Ext.alloc _ (.cells #[] 3))) hg (fun q hq => by have := Option.some.inj (show some wr.heap.size = some q from hq); omega))
          have hs4 : wr.heap.size ≤ w4.heap.size := Nat.le_trans (by first | omega | (simp; done) | (simp; omega)) hg.size
          clear ho hg hnear))
      | (at_builtin
         (refine append_ints rfl _ _ rfl wr.heap.size (.slice a2 n2 c2) ((srt C k).take j) rfl (HA.out.ext (Ext.alloc _ _)) _ 1 1 [(k : Int)] rfl (Ints.oneS _ _ _ _ rfl) (by first | omega | (simp; done) | (simp; omega)) (by first | omega | (simp; done) | (simp; omega)) ?_
          intro v3 w5 ho hg hnear
          obtain ⟨a3, n3, c3, rfl, HN3⟩ := ho.var
          have HB := Lib.hid ho
          have HOf := Lib.hid ((HOe.out.ext (Ext.alloc _ (.cells #[.int .i64 (k : Int)] 3))).keep fun q hq => hg.block q ((HOe.out.ext (Ext.alloc _ (.cells #[.int .i64 (k : Int)] 3))).lt q hq).2 fun e => by have h1 := (HA.out.lt q e.symm).1; have h2 := Option.some.inj (show some g = some q from hq); omega)
          have X5 := Lib.hid (ext_grown (X4.out.trans (Ext.alloc _ (.cells #[.int .i64 (k : Int)] 3))) hg (fun q hq => by have := (HA.out.lt q hq).1; omega))
          have hs5 : wr.heap.size ≤ w5.heap.size := Nat.le_trans (by first | omega | (simp; done) | (simp; omega)) hg.size
          clear ho hg hnear))
      | (at_builtin
         (refine append_ints rfl _ _ rfl wr.heap.size (.slice a3 n3 c3) ((srt C k).take j ++ [(k : Int)]) rfl HB.out _ (k - j) (p1 - j) _ rfl (HOf.out.ints.dropIf hjk) (by first | omega | (simp; done) | (simp; omega)) hs5 ?_
          intro v4 w6 ho hg hnear
          obtain ⟨a4, n4, c4, rfl, HN4⟩ := ho.var
          have HD := Lib.hid ho
          have X6 := Lib.hid (ext_grown X5.out hg (fun q hq => by have := (HB.out.lt q hq).1; omega))
          clear ho hg hnear)))
     have hlist : (srt C k).take j ++ [(k : Int)] ++ (srt C k).drop j = srt C (k + 1) := by
      have hl := srt_len C k
      simp only [srt, insR, hl, HPJ.out, List.append_assoc, List.cons_append, List.nil_append]
     have HD' := Lib.hid (show OwnI w6 wr.heap.size (.slice a4 n4 c4) (srt C (k + 1)) by have := HD.out; rwa [hlist] at this)
     have hn4 : n4 = k + 1 := by have := HD'.out.ints.hlen; rw [srt_len] at this; omega
     obtain ⟨g4, hg4, _, _, _⟩ := HD'.out.block (k := 0) (by omega)
     subst hg4 hn4
     go_roundw
     case rel => exact ⟨k + 1, g4, c4, by omega, by go_num, rfl, Lib.hid (HD'.out.mono hws), X6⟩
     case measure => simp [intOf]; omega
  ·have hkn : k = n := by omega
   subst hkn
   go_wp2
   go_ret
   exact ⟨⟨_, rfl, HO1.out⟩, HX1.out⟩
end Go.Proofs.YthjjfkeacobikaaGreat
