import Derived.Test.YthjjfkeacobikaaGreatMkAllG8
import Derived.Test.YthjjfkeacobikaaGreatMkAllG23
import Derived.Test.YthjjfkeacobikaaGreatMkAllG24
import Derived.Test.YthjjfkeacobikaaGreatMkAllG30
import Derived.Test.YthjjfkeacobikaaGreatMkAllG22
import Derived.Test.YthjjfkeacobikaaGreatMkAllG29
set_option linter.unusedVariables false
set_option linter.unusedSimpArgs false
namespace Go.Proofs.YthjjfkeacobikaaGreat
set_option maxRecDepth 100000
open Go.RowKit
structure MkD (w : World) (base : Nat) (a : Option Addr) (n c S B : Nat) : Prop where
 own : ∃ vs M, Mat w base a n c vs M ∧ Wide B M
 nS : n = S
 bd : 1 ≤ S ∧ S ≤ 2 ∧ 1 ≤ B ∧ B ≤ 2
structure MkB (w : World) (base : Nat) (a : Option Addr) (n c : Nat) (y : Int) : Prop where
 own : ∃ vs M, Mat w base a n c vs M
 bd : n ≤ 2 ∧ y ≤ 2
set_option maxHeartbeats 8000000 in
theorem s_l19Draw {w : World} {cb : Nat} (h : Cur w cb) :
 Calls Tryz.prog 167 #[.pointer (some ⟨cb, 0, none⟩)] w fun e w' => (∃ (S B : Nat) (a : Option Addr) (n c : Nat), e = .returned (.agg #[.int .i64 (S : Int), .int .i64 (B : Int), .slice a n c]) ∧ MkD w' w.heap.size a n c S B) ∧ Cur w' cb ∧ w.grownBy w' (some cb) := by
 have hcl := h.lt
 obtain ⟨W, hW⟩ : ∃ W, W = w.alloc (.cells #[.int .i64 0, .int .i64 0, .slice none 0 0] 52) := ⟨_, rfl⟩
 have hws : W.heap.size = w.heap.size + 1 := by rw [hW]; simp
 have HB0 := Lib.hid (show Bxs w W cb (Bx.nil.upd w.heap.size (#[.int .i64 0, .int .i64 0, .slice none 0 0], 52)) by
  rw [hW]; exact (Bxs.start h (grown_ext (some cb) (Ext.refl w))).new #[.int .i64 0, .int .i64 0, .slice none 0 0] 52 (three_dry _ _ _ (slice_dry _ _ _)))
 clear h
 go_enter Tryz.func167, Tryz.ntmps167
 go_upto_region 1 with fail
 rw [← hW]
 clear hW
 go_wp2_with fail
 refine (s_l1Below HB0.out.cur 2 (by omega)).mono ?_
 rintro e w0 ⟨⟨y, rfl, hy0, hy1⟩, hc, hg⟩
 have hs0 := hg.size
 have HBA := Lib.hid (HB0.out.call hc hg)
 obtain ⟨S, hS⟩ : ∃ S : Nat, 1 + y = (S : Int) := ⟨(1 + y).toNat, by omega⟩
 have hS1 : 1 ≤ S := by omega
 have hS2 : S ≤ 2 := by omega
 clear hc hg hy0 hy1
 go_wp2_with fail
 refine (s_l1Below HBA.out.cur 2 (by omega)).mono ?_
 rintro e w1 ⟨⟨z, rfl, hz0, hz1⟩, hc, hg⟩
 have hs1 := hg.size
 obtain ⟨B, hB⟩ : ∃ B : Nat, 1 + z = (B : Int) := ⟨(1 + z).toNat, by omega⟩
 have hB1 : 1 ≤ B := by omega
 have hB2 : B ≤ 2 := by omega
 obtain ⟨E, hE⟩ : ∃ E, E = w1.alloc (.cells #[.int .i64 (S : Int), .int .i64 (B : Int), .slice none 0 0] 52) := ⟨_, rfl⟩
 obtain ⟨bx, hbx⟩ : ∃ b, b = w1.heap.size := ⟨_, rfl⟩
 have HBE := Lib.hid (show Bxs w E cb (trBx 52 w.heap.size bx (S : Int) (B : Int) none 0 0) by
  rw [hE, hbx]; exact (HBA.out.call hc hg).new _ _ (three_dry _ _ _ (slice_dry _ _ _)))
 have hse : bx + 1 ≤ E.heap.size := by rw [hE, hbx]; simp
 have hbw : w.heap.size + 1 ≤ bx := by omega
 have hne : w.heap.size ≠ bx := by omega
 clear hc hg hz0 hz1
 go_upto_region 2 with fail
 rw [← hE, ← hbx]
 clear hE hbx hs0 hs1 hws hS hB HBA HB0
 go_wp2_with fail
 go_loopg [4] S (fun gk ii wr => ∃ (k : Nat) (a1 : Option Addr) (n1 c1 : Nat) (vs : List Value) (M : List (List Int)), Hid (gk + k = S) ∧ ii = .int .i64 (k : Int) ∧ Hid (n1 = k) ∧ Hid (Bxs w wr cb (trBx 52 w.heap.size bx (S : Int) (B : Int) a1 n1 c1)) ∧ Hid (Mat wr (bx + 1) a1 n1 c1 vs M) ∧ Hid (Wide B M) ∧ Hid (bx + 1 ≤ wr.heap.size))
 case atStart => exact ⟨0, none, 0, 0, [], [], Lib.hid (by omega), rfl, Lib.hid rfl, HBE, Lib.hid (Mat.nil _ _), Lib.hid (fun l hl => by cases hl), Lib.hid hse⟩
 case round =>
  obtain ⟨g1, h_g1⟩ : ∃ x, x = gk := ⟨_, rfl⟩
  subst h_g1
  obtain ⟨wr, h_wr⟩ : ∃ x, x = wr := ⟨_, rfl⟩
  subst h_wr
  obtain ⟨k, a1, n1, c1, vs, M, HK, rfl, HN1, HB, HM, HWD, HSZ⟩ := hrel
  have hsz := HSZ.out
  have t0 := HB.out.t0 (b := bx) trBx_b
  have hn12 : n1 ≤ 2 := by have := HK.out; have := HN1.out; omega
  by_cases hlt : k < S
  ·have hki : (k : Int) < (S : Int) := by omega
   have HR0 := Lib.hid (OwnI.madeS wr wr.heap.size _ rfl (Nat.le_refl _))
   have HB1 := Lib.hid (HB.out.ext (Ext.alloc wr (.cells #[] 3)))
   have HQ1 := Lib.hid ((Bxs.start HB.out.cur (grown_ext (some cb) (Ext.refl wr))).ext (Ext.alloc wr (.cells #[] 3)))
   go_wp2_with fail
   go_loopg [5, 6] B (fun gk row ii wi => ∃ (j : Nat) (a2 : Option Addr) (n2 p2 : Nat) (L : List Int), Hid (gk + j = B) ∧ ii = .int .i64 (j : Int) ∧ row = .slice a2 n2 p2 ∧ Hid (L.length = j) ∧ Hid (Bxs w wi cb (trBx 52 w.heap.size bx (S : Int) (B : Int) a1 n1 c1)) ∧ Hid (Bxs wr wi cb Bx.nil) ∧ Hid (OwnI wi wr.heap.size (.slice a2 n2 p2) L))
   case atStart => exact ⟨0, _, _, _, [], Lib.hid (by omega), rfl, rfl, Lib.hid rfl, HB1, HQ1, HR0⟩
   case round =>
    obtain ⟨g2, h_g2⟩ : ∃ x, x = gk := ⟨_, rfl⟩
    subst h_g2
    obtain ⟨wi, h_wi⟩ : ∃ x, x = wr := ⟨_, rfl⟩
    subst h_wi
    obtain ⟨j, a2, n2, p2, L, HJ, rfl, rfl, HLL, HBi, HQi, HO⟩ := hrel
    have hszi : wr.heap.size ≤ wi.heap.size := HQi.out.grown.size
    have t1 := HBi.out.t1 (b := bx) trBx_b
    by_cases hjt : j < B
    ·have hji : (j : Int) < (B : Int) := by omega
     have hli : Ints (wi.alloc (.cells #[.int .i64 0, .int .i64 1, .int .i64 3, .int .i64 5, .int .i64 8, .int .i64 100] 3)) (some ⟨wi.heap.size, 0, none⟩) 6 6 [0, 1, 3, 5, 8, 100] := Ints.lit wi [0, 1, 3, 5, 8, 100] 3 (by decide)
     have hBA := HBi.out.ext (Ext.alloc wi (.cells #[.int .i64 0, .int .i64 1, .int .i64 3, .int .i64 5, .int .i64 8, .int .i64 100] 3))
     have hQA := HQi.out.ext (Ext.alloc wi (.cells #[.int .i64 0, .int .i64 1, .int .i64 3, .int .i64 5, .int .i64 8, .int .i64 100] 3))
     have hOA := HO.out.ext (Ext.alloc wi (.cells #[.int .i64 0, .int .i64 1, .int .i64 3, .int .i64 5, .int .i64 8, .int .i64 100] 3))
     go_wp2_with fail
     refine (s_l1PickInt hBA.cur hli (by omega) (fun b off e => by simp only [Option.some.injEq, Addr.mk.injEq, and_true] at e; omega)).mono ?_
     rintro e w5 ⟨⟨q, hq, rfl⟩, hc, hg⟩
     obtain ⟨y, hy⟩ : ∃ y, y = ([0, 1, 3, 5, 8, 100] : List Int)[q]?.getD 0 := ⟨_, rfl⟩
     rw [← hy]
     clear hy
     have HB5 := Lib.hid ((hBA.call hc hg).ext (Ext.alloc w5 (.cells #[.int .i64 y] 3)))
     have HQ5 := Lib.hid ((hQA.call hc hg).ext (Ext.alloc w5 (.cells #[.int .i64 y] 3)))
     have HO5 := Lib.hid ((hOA.calls hg (show cb < wr.heap.size by omega)).ext (Ext.alloc w5 (.cells #[.int .i64 y] 3)))
     have hs5 := hg.size
     rw [World.size_alloc] at hs5
     clear hc hg hBA hQA hOA hli
     go_wp2_with (first
      | (at_builtin; refine append_ints rfl _ _ rfl wr.heap.size (.slice a2 n2 p2) _ rfl HO5.out _ 1 _ [y] rfl (Ints.oneS _ _ _ _ (by simp)) (by rw [HLL.out]; omega) (by simp; omega) ?_; intro v6 w6 ho hg6 hnear; have HB6 := Lib.hid (HB5.out.grew hg6 (fun i hi => by have := (HO5.out.lt i hi).1; exact ⟨by omega, by omega, trBx_o (by omega) (by omega)⟩)); have HQ6 := Lib.hid (HQ5.out.grew hg6 (fun i hi => by have := (HO5.out.lt i hi).1; exact ⟨by omega, by omega, rfl⟩)); obtain ⟨a6, n6, c6, rfl, HN6⟩ := ho.var; have HO6 := Lib.hid ho; clear ho hg6 hnear))
     go_roundg (g2 - 1)
     case measure => have := HJ.out; omega
     case rel => exact ⟨j + 1, a6, n6, c6, L ++ [y], Lib.hid (by have := HJ.out; omega), by go_num, rfl, Lib.hid (by rw [List.length_append, HLL.out]; rfl), HB6, HQ6, HO6⟩
    ·have hjB : j = B := by have := HJ.out; omega
     have hji : ¬ (j : Int) < (B : Int) := by omega
     have HLB := Lib.hid (show L.length = B by rw [HLL.out]; exact hjB)
     have HMi := Lib.hid (HM.out.calls HQi.out.grown (by omega))
     have HVL := Lib.hid HMi.out.vlen
     have HRS := Lib.hid (HMi.out.rows.snocK HO.out hsz (fun i z hi hz => ((HM.out.rows.row i hi).lt z hz).2))
     have t2 := HBi.out.t2 (b := bx) trBx_b
     have tf := HBi.out.free (b := bx) trBx_b
     clear hjB
     go_wp2_with (first
      | (at_builtin; refine append_slice rfl _ _ rfl (bx + 1) (.slice a1 n1 c1) vs rfl (HMi.out.own.ext (Ext.alloc _ _)) _ _ 1 rfl (by simp; rfl) rfl (by rw [HVL.out]; omega) (by simp; omega) ?_; intro v6 w6 ho hg6 hnear; have HB6 := Lib.hid ((HBi.out.ext (Ext.alloc _ _)).grew hg6 (fun i hi => by have := (HMi.out.own.lt i hi).1; exact ⟨by omega, by omega, trBx_o (by omega) (by omega)⟩)); have HR6 := Lib.hid ((HRS.out.ext (Ext.alloc _ _)).grown (HMi.out.own.ext (Ext.alloc _ _)) hg6); have hs6 := hg6.size; rw [World.size_alloc] at hs6; obtain ⟨a6, n6, c6, rfl, HN6⟩ := ho.var; have HV6 := Lib.hid ho; have cf6 := HB6.out.free (b := bx) trBx_b; have c26 := HB6.out.t2 (b := bx) trBx_b; clear ho hg6 hnear))
     have HN7 := Lib.hid (show n6 = k + 1 by have := HN6.out; rw [List.length_append, HVL.out] at this; have := HN1.out; simp at *; omega)
     have HB7 := Lib.hid (show Bxs w (w6.setCell ⟨bx, 2, none⟩ (.slice a6 n6 c6)) cb (trBx 52 w.heap.size bx (S : Int) (B : Int) a6 n6 c6) from by
      have := HB6.out.put (b := bx) trBx_b 2 (.slice a6 n6 c6) (slice_dry _ _ _)
      rw [← trBx_set (x := (S : Int)) (y := (B : Int)) (a := a1) (n := n1) (c := c1)]
      exact this)
     have HM7 := Lib.hid ((show Mat w6 (bx + 1) a6 n6 c6 _ _ from ⟨HV6.out, HR6.out⟩).under (show bx < bx + 1 by omega) 2 (.slice a6 n6 c6))
     go_roundg (g1 - 1)
     case measure => have := HK.out; omega
     case rel => exact ⟨k + 1, a6, n6, c6, _, _, Lib.hid (by have := HK.out; omega), by go_num, HN7, HB7, HM7, Lib.hid (HWD.out.snoc HLB.out), Lib.hid (by simp; omega)⟩
  ·have hkS : k = S := by have := HK.out; omega
   have HNS := Lib.hid (show n1 = S by have := HN1.out; omega)
   have hki : ¬ (k : Int) < (S : Int) := by omega
   have q1 := HB.out.t1 (b := bx) trBx_b
   have q2 := HB.out.t2 (b := bx) trBx_b
   have r0 := HB.out.t0 (b := w.heap.size) (trBx_r hne)
   have r1 := HB.out.t1 (b := w.heap.size) (trBx_r hne)
   have r2 := HB.out.t2 (b := w.heap.size) (trBx_r hne)
   have rf := HB.out.free (b := w.heap.size) (trBx_r hne)
   have HB9 := Lib.hid (HB.out.put3 (trBx_r hne) (.int .i64 (S : Int)) (.int .i64 (B : Int)) (.slice a1 n1 c1) (i64_dry _) (i64_dry _) (slice_dry _ _ _))
   have HM9 := Lib.hid (HM.out.under3 (show w.heap.size < bx + 1 by omega) (.int .i64 (S : Int)) (.int .i64 (B : Int)) (.slice a1 n1 c1))
   have z0 := HB9.out.t0 (Bx.same _ _ _)
   have z1 := HB9.out.t1 (Bx.same _ _ _)
   have z2 := HB9.out.t2 (Bx.same _ _ _)
   clear hkS
   go_wp2_with fail
   refine bodyPost_ret (v := .agg #[.int .i64 (S : Int), .int .i64 (B : Int), .slice a1 n1 c1]) (by simp [results, Tryz.results167, go_sem, z0, z1, z2]) rfl ⟨⟨S, B, a1, n1, c1, rfl, ⟨⟨vs, M, HM9.out.mono (by omega), HWD.out⟩, HNS.out, hS1, hS2, hB1, hB2⟩⟩, HB9.out.cur, HB9.out.grown⟩
set_option maxHeartbeats 8000000 in
theorem s_l19Bent {w : World} {cb : Nat} (h : Cur w cb) :
 Calls Tryz.prog 96 #[.pointer (some ⟨cb, 0, none⟩)] w fun e w' => (∃ (x y : Int) (a : Option Addr) (n c : Nat), e = .returned (.agg #[.int .i64 x, .int .i64 y, .slice a n c]) ∧ MkB w' w.heap.size a n c y) ∧ Cur w' cb ∧ w.grownBy w' (some cb) := by
 have hcl := h.lt
 obtain ⟨W, hW⟩ : ∃ W, W = w.alloc (.cells #[.int .i64 0, .int .i64 0, .slice none 0 0] 52) := ⟨_, rfl⟩
 have hws : W.heap.size = w.heap.size + 1 := by rw [hW]; simp
 have HB0 := Lib.hid (show Bxs w W cb (Bx.nil.upd w.heap.size (#[.int .i64 0, .int .i64 0, .slice none 0 0], 52)) by
  rw [hW]; exact (Bxs.start h (grown_ext (some cb) (Ext.refl w))).new #[.int .i64 0, .int .i64 0, .slice none 0 0] 52 (three_dry _ _ _ (slice_dry _ _ _)))
 clear h
 go_enter Tryz.func96, Tryz.ntmps96
 go_upto_region 1 with fail
 rw [← hW]
 clear hW
 go_wp2_with fail
 refine (s_l19Draw HB0.out.cur).mono ?_
 rintro e w3 ⟨⟨S, B, a, n, c, rfl, hmd⟩, hc, hg⟩
 obtain ⟨hS1, hS2, hB1, hB2⟩ := hmd.bd
 have hn1 : 0 < n := by have := hmd.nS; omega
 have hn2 : n ≤ 2 := by have := hmd.nS; omega
 obtain ⟨vs, M, hm, hwd⟩ := hmd.own
 clear hmd
 have hs3 := hg.size
 obtain ⟨w4, hw4⟩ : ∃ E, E = w3.alloc (.cells #[.int .i64 (S : Int), .int .i64 (B : Int), .slice a n c] 52) := ⟨_, rfl⟩
 obtain ⟨bx, hbx⟩ : ∃ b, b = w3.heap.size := ⟨_, rfl⟩
 have HB4 := Lib.hid (show Bxs w w4 cb (trBx 52 w.heap.size bx (S : Int) (B : Int) a n c) from by rw [hw4, hbx]; exact (HB0.out.call hc hg).new _ _ (three_dry _ _ _ (slice_dry _ _ _)))
 have HM4 := Lib.hid (show Mat w4 (w.heap.size + 1) a n c vs M from by rw [hw4]; exact (hm.mono (by omega)).ext (Ext.alloc _ _))
 have HLT := Lib.hid (show ∀ k, (Value.slice a n c).ownBlock = some k → k < bx from fun k hk => by rw [hbx]; exact (hm.own.lt k hk).2)
 have HLR := Lib.hid (show ∀ i k, i < M.length → (vs[i]?.getD undef).ownBlock = some k → k < bx from fun i k hi hk => by rw [hbx]; exact ((hm.rows.row i hi).lt k hk).2)
 have HWD := Lib.hid hwd
 have hbw : w.heap.size + 1 ≤ bx := by omega
 have hb4 : bx < w4.heap.size := by rw [hw4, hbx]; simp
 have hne : w.heap.size ≠ bx := by omega
 have HUN := Lib.hid (fun (w' : World) (hM : Mat w' (w.heap.size + 1) a n c vs M) (i : Nat) (v : Value) => show Mat (w'.setCell ⟨bx, i, none⟩ v) (w.heap.size + 1) a n c vs M from
  hM.keep (fun k hk => heap_setCell_other _ _ _ _ (by have := HLT.out k hk; show k ≠ bx; omega)) (fun j k hj hk => heap_setCell_other _ _ _ _ (by have := HLR.out j k (by rw [hM.len]; exact hj) hk; show k ≠ bx; omega)))
 clear hc hg hm hwd
 go_upto_region 2 with fail
 rw [← hw4, ← hbx]
 clear hw4 hbx
 go_wp2_with fail
 refine (s_l1Below HB4.out.cur 12 (by omega)).mono ?_
 rintro e w5 ⟨⟨z, rfl, hz0, hz1⟩, hc, hg⟩
 have HB5 := Lib.hid (HB4.out.call hc hg)
 have HM5 := Lib.hid (HM4.out.calls hg (show cb < w.heap.size + 1 by omega))
 have hs5 := hg.size
 clear hc hg
 have hcase : z = 0 ∨ z = 1 ∨ z = 2 ∨ 3 ≤ z := by omega
 rcases hcase with rfl | rfl | rfl | hz3
 ·have hli : Ints (w5.alloc (.cells #[.int .i64 0, .int .i64 5, .int .i64 1] 3)) (some ⟨w5.heap.size, 0, none⟩) 3 3 [0, 5, 1] := Ints.lit w5 [0, 5, 1] 3 (by decide)
  have hBA := HB5.out.ext (Ext.alloc w5 (.cells #[.int .i64 0, .int .i64 5, .int .i64 1] 3))
  have hMA := HM5.out.ext (Ext.alloc w5 (.cells #[.int .i64 0, .int .i64 5, .int .i64 1] 3))
  have hcl5 := HB5.out.cur.lt
  go_wp2_with fail
  refine (s_l1PickInt hBA.cur hli (by omega) (fun b off e => by simp only [Option.some.injEq, Addr.mk.injEq, and_true] at e; omega)).mono ?_
  rintro e w6 ⟨⟨q, hq, rfl⟩, hc, hg⟩
  obtain ⟨y, hy⟩ : ∃ y, y = ([0, 5, 1] : List Int)[q]?.getD 0 := ⟨_, rfl⟩
  rw [← hy]
  have HB6 := Lib.hid (hBA.call hc hg)
  have HM6 := Lib.hid (hMA.calls hg (show cb < w.heap.size + 1 by omega))
  have d0 := HB6.out.t0 (b := bx) trBx_b
  have df := HB6.out.free (b := bx) trBx_b
  have HB7 := Lib.hid (show Bxs w (w6.setCell ⟨bx, 0, none⟩ (.int .i64 y)) cb (trBx 52 w.heap.size bx y (B : Int) a n c) from by
   have := HB6.out.put (b := bx) trBx_b 0 (.int .i64 y) (i64_dry _)
   rw [← trBx_set (x := (S : Int)) (y := (B : Int)) (a := a) (n := n) (c := c)]
   exact this)
  have HM7 := Lib.hid (HUN.out _ HM6.out 0 (.int .i64 y))
  clear hc hg hy hBA hMA hli
  have q0 := HB7.out.t0 (b := bx) trBx_b
  have q1 := HB7.out.t1 (b := bx) trBx_b
  have q2 := HB7.out.t2 (b := bx) trBx_b
  have r0 := HB7.out.t0 (b := w.heap.size) (trBx_r hne)
  have r1 := HB7.out.t1 (b := w.heap.size) (trBx_r hne)
  have r2 := HB7.out.t2 (b := w.heap.size) (trBx_r hne)
  have rf := HB7.out.free (b := w.heap.size) (trBx_r hne)
  have HB9 := Lib.hid (HB7.out.put3 (trBx_r hne) (.int .i64 y) (.int .i64 (B : Int)) (.slice a n c) (i64_dry _) (i64_dry _) (slice_dry _ _ _))
  have HM9 := Lib.hid (HM7.out.under3 (show w.heap.size < w.heap.size + 1 by omega) (.int .i64 y) (.int .i64 (B : Int)) (.slice a n c))
  have z0 := HB9.out.t0 (Bx.same _ _ _)
  have z1 := HB9.out.t1 (Bx.same _ _ _)
  have z2 := HB9.out.t2 (Bx.same _ _ _)
  go_wp2_with fail
  refine bodyPost_ret (v := .agg #[.int .i64 y, .int .i64 (B : Int), .slice a n c]) (by simp [results, Tryz.results96, go_sem, z0, z1, z2]) rfl ⟨⟨_, _, a, n, c, rfl, ⟨⟨_, _, HM9.out.mono (by omega)⟩, hn2, by omega⟩⟩, HB9.out.cur, HB9.out.grown⟩
 ·obtain ⟨G, rfl, hGb, hGl, _⟩ := HM5.out.outer hn1
  have hm0 : (M[0]?.getD []).length = B := HWD.out _ (by rw [List.getElem?_eq_getElem (by rw [HM5.out.len]; exact hn1), Option.getD_some]; exact List.getElem_mem _)
  obtain ⟨g, c2, hv0, _, _, hgG, hgb, hgl, hc2, hc3⟩ := HM5.out.row hn1 hm0 hB1
  have hgx : g < bx := HLR.out 0 g (by rw [HM5.out.len]; exact hn1) (by rw [hv0]; rfl)
  have hB := HB5.out.ext (Ext.drew w5)
  have hM := HM5.out.ext (Ext.drew w5)
  have hcl5 := HB5.out.cur.lt
  have hb0 : 0 < B := hB1
  have HS := Lib.hid (fun (w' : World) (h : Bxs w w' cb (trBx 52 w.heap.size bx (S : Int) (B : Int) (some ⟨G, 0, none⟩) n c)) {M' : List (List Int)} (h2 : Mat w' (w.heap.size + 1) (some ⟨G, 0, none⟩) n c vs M') => (⟨h.t2 trBx_b, by rw [h2.slot hn1, hv0]⟩ : w'.cell? ⟨bx, 2, none⟩ = some (.slice (some ⟨G, 0, none⟩) n c) ∧ w'.cell? ⟨G, 0, none⟩ = some (.slice (some ⟨g, 0, none⟩) B c2)))
  have HV0 := Lib.hid hv0
  clear hv0 hm0
  go_wp2_with fail
  refine wp_region_held_drew (S := (fun w' => w'.cell? ⟨bx, 2, none⟩ = some (.slice (some ⟨G, 0, none⟩) n c) ∧ w'.cell? ⟨G, 0, none⟩ = some (.slice (some ⟨g, 0, none⟩) B c2))) (by kernel_rfl) ?_ (fun hHeld => ?_)
  ·exact HS.out _ hB hM
  obtain ⟨wd, hwd⟩ : ∃ y, y = w5.drew := ⟨_, rfl⟩
  have hsd : w5.heap.size ≤ wd.heap.size := by rw [hwd]; exact Nat.le_refl _
  rw [← hwd] at hB hM hHeld
  rw [← hwd]
  clear hwd
  have hli : Ints (wd.alloc (.cells #[.int .i64 (-1), .int .i64 101] 3)) (some ⟨wd.heap.size, 0, none⟩) 2 2 [-1, 101] := Ints.lit wd [-1, 101] 3 (by decide)
  have hBA := hB.ext (Ext.alloc wd (.cells #[.int .i64 (-1), .int .i64 101] 3))
  have hMA := hM.ext (Ext.alloc wd (.cells #[.int .i64 (-1), .int .i64 101] 3))
  refine tk 0 ?_
  refine tk 1 ?_
  refine tk 2 ?_
  refine tk 3 ?_
  refine tk 4 ?_
  refine rd (i := 5) (h := fun K hK => ?_)
  go_simp
  refine hK.out _ _ ?_ (fun hHeld => ?_)
  ·exact HS.out _ hBA hMA
  clear hK K
  try simp only [Act.put, sA, sB, sC]
  refine rd (i := 6) (h := fun K hK => ?_)
  go_simp
  refine (s_l1PickInt hBA.cur hli (by omega) (fun b off e => by simp only [Option.some.injEq, Addr.mk.injEq, and_true] at e; omega)).mono ?_; rintro e w6 ⟨⟨q, hq, rfl⟩, hc, hg⟩; obtain ⟨y, hy⟩ : ∃ y, y = ([-1, 101] : List Int)[q]?.getD 0 := ⟨_, rfl⟩; rw [← hy]; clear hy; have HB6 := Lib.hid (hBA.call hc hg); have HM6 := Lib.hid (hMA.calls hg (show cb < w.heap.size + 1 by omega)); have hr0 := HM6.out.rows.row 0 (by rw [HM6.out.len]; exact hn1); rw [HV0.out] at hr0; obtain ⟨u1, u2, hu, hcv⟩ := hr0.ints.at (k := 0) hb0; simp only [Option.some.injEq, Addr.mk.injEq, and_true] at hu; obtain ⟨rfl, rfl⟩ := hu; rw [Nat.zero_add] at hcv; obtain ⟨g2, hg2, _, hfv, _⟩ := hr0.block (k := 0) hb0; obtain rfl : g = g2 := (by simpa using hg2); clear hg2 hc hg hr0
  go_wp2_with fail
  refine hK.out _ _ ?_ (fun hHeld => ?_)
  ·exact HS.out _ HB6.out HM6.out
  clear hK K
  try simp only [Act.put, sA, sB, sC]
  refine tk 7 ?_
  have HB7 := Lib.hid (HB6.out.putr (b := g) (k := 0) (by omega) (by omega) (trBx_o (by omega) (by omega)) hcv (i64_dry _) (.int .i64 y))
  have HM7 := Lib.hid (HM6.out.inrow hn1 HV0.out 0 y)
  refine rd (i := 8) (h := fun K hK => ?_)
  go_simp
  refine hK.out _ _ ?_ (fun hHeld => ?_)
  ·exact HS.out _ HB7.out HM7.out
  clear hK K
  try simp only [Act.put, sA, sB, sC]
  refine wpAnyH_done (by kernel_rfl) ?_ _
  clear hHeld hB hM hBA hMA hli hcv hfv
  have q0 := HB7.out.t0 (b := bx) trBx_b
  have q1 := HB7.out.t1 (b := bx) trBx_b
  have q2 := HB7.out.t2 (b := bx) trBx_b
  have r0 := HB7.out.t0 (b := w.heap.size) (trBx_r hne)
  have r1 := HB7.out.t1 (b := w.heap.size) (trBx_r hne)
  have r2 := HB7.out.t2 (b := w.heap.size) (trBx_r hne)
  have rf := HB7.out.free (b := w.heap.size) (trBx_r hne)
  have HB9 := Lib.hid (HB7.out.put3 (trBx_r hne) (.int .i64 (S : Int)) (.int .i64 (B : Int)) (.slice (some ⟨G, 0, none⟩) n c) (i64_dry _) (i64_dry _) (slice_dry _ _ _))
  have HM9 := Lib.hid (HM7.out.under3 (show w.heap.size < w.heap.size + 1 by omega) (.int .i64 (S : Int)) (.int .i64 (B : Int)) (.slice (some ⟨G, 0, none⟩) n c))
  have z0 := HB9.out.t0 (Bx.same _ _ _)
  have z1 := HB9.out.t1 (Bx.same _ _ _)
  have z2 := HB9.out.t2 (Bx.same _ _ _)
  go_wp2_with fail
  refine bodyPost_ret (v := .agg #[.int .i64 (S : Int), .int .i64 (B : Int), .slice (some ⟨G, 0, none⟩) n c]) (by simp [results, Tryz.results96, go_sem, z0, z1, z2]) rfl ⟨⟨_, _, (some ⟨G, 0, none⟩), n, c, rfl, ⟨⟨_, _, HM9.out.mono (by omega)⟩, hn2, by omega⟩⟩, HB9.out.cur, HB9.out.grown⟩
 ·obtain ⟨G, rfl, hGb, hGl, hGf⟩ := HM5.out.outer hn1
  have hGx : G < bx := HLT.out G rfl
  have hm0 : (M[0]?.getD []).length = B := HWD.out _ (by rw [List.getElem?_eq_getElem (by rw [HM5.out.len]; exact hn1), Option.getD_some]; exact List.getElem_mem _)
  obtain ⟨g, c2, hv0, _, _, hgG, hgb, hgl, hc2, hc3⟩ := HM5.out.row hn1 hm0 hB1
  have hgx : g < bx := HLR.out 0 g (by rw [HM5.out.len]; exact hn1) (by rw [hv0]; rfl)
  have hB := HB5.out.ext (Ext.drew w5)
  have hM := HM5.out.ext (Ext.drew w5)
  have hcl5 := HB5.out.cur.lt
  have HS := Lib.hid (fun (w' : World) (h : w'.cell? ⟨bx, 2, none⟩ = some (.slice (some ⟨G, 0, none⟩) n c)) (h2 : w'.cell? ⟨G, 0, none⟩ = some (vs[0]?.getD undef)) => (⟨h, by rw [h2, hv0]⟩ : w'.cell? ⟨bx, 2, none⟩ = some (.slice (some ⟨G, 0, none⟩) n c) ∧ w'.cell? ⟨G, 0, none⟩ = some (.slice (some ⟨g, 0, none⟩) B c2)))
  have HV0 := Lib.hid hv0
  have HM0 := Lib.hid hm0
  clear hv0 hm0
  go_wp2_with fail
  refine late_begin (M := [9]) (S := fun w' => w'.cell? ⟨bx, 2, none⟩ = some (.slice (some ⟨G, 0, none⟩) n c) ∧ w'.cell? ⟨G, 0, none⟩ = some (.slice (some ⟨g, 0, none⟩) B c2)) (by kernel_rfl) ?_
  have hHeld := HS.out _ (hB.t2 trBx_b) (hM.slot hn1)
  obtain ⟨wd, hwd⟩ : ∃ y, y = w5.drew := ⟨_, rfl⟩
  have hsd : w5.heap.size ≤ wd.heap.size := by rw [hwd]; exact Nat.le_refl _
  rw [← hwd] at hB hM hHeld
  rw [← hwd]
  clear hwd
  have hBA := hB.ext (Ext.alloc wd (.cells #[.int .i64 1] 3))
  have hMA := hM.ext (Ext.alloc wd (.cells #[.int .i64 1] 3))
  refine lp 0 ?_
  refine ll 1 ?_
  refine lp 2 ?_
  refine ll 3 ?_
  refine lp 4 ?_
  refine ll 5 ?_
  refine late_step (i := 6) (oi := ?_) ?_ ?_ ?_ (fun K hK => ?_)
  rotate_left
  ·simp only [gA, gB, gC]; rfl
  ·kernel_rfl
  ·kernel_rfl
  go_simp
  refine hK.out _ _ (fun _ => HS.out _ (hBA.t2 trBx_b) (hMA.slot hn1)) ?_
  clear hK K
  try simp only [Act.put, sA, sB, sC]
  refine late_step (i := 7) (oi := ?_) ?_ ?_ ?_ (fun K hK => ?_)
  rotate_left
  ·simp only [gA, gB, gC]; rfl
  ·kernel_rfl
  ·kernel_rfl
  refine wp_append_ints _ _ (by rfl) (w.heap.size + 1) (.slice (some ⟨g, 0, none⟩) B c2) (M[0]?.getD []) (by rfl) (by have hr0 := hMA.rows.row 0 (by rw [hMA.len]; exact hn1); rw [HV0.out] at hr0; exact hr0) _ 1 _ [1] (by rfl) (Ints.oneS _ _ _ _ rfl) (by rw [HM0.out]; omega) (by simp; omega) ?_
  intro v6 w6 ho hg hnear
  have HB6 := Lib.hid (hBA.grew hg (fun j hj => by simp only [Value.ownBlock, Option.some.injEq] at hj; exact ⟨by omega, by omega, trBx_o (by omega) (by omega)⟩))
  have HM7 := Lib.hid (hMA.regrow (by simp; omega) hn1 HV0.out ho hg hnear)
  have hO6 : OwnV w6 (w.heap.size + 1) (.slice (some ⟨G, 0, none⟩) n c) vs := hMA.own.keep (fun j hj => hg.block j (hMA.own.lt j hj).2 (fun e => by simp only [Value.ownBlock, Option.some.injEq] at e hj; omega))
  have hG6 := hO6.slotV hn1
  have hGf6 := hO6.freeV hn1
  obtain ⟨a6, n6, p6, rfl, HN6⟩ := ho.var
  clear ho hg hnear hO6
  refine hK.out _ _ (fun _ => HS.out _ (HB6.out.t2 trBx_b) hG6) ?_
  have hHeld := HS.out _ (HB6.out.t2 trBx_b) hG6
  clear hK K
  try simp only [Act.put, sA, sB, sC]
  refine lp 8 ?_
  refine late_one (i := 9) (oi := ?_) (w' := ?_) ?_ ?_ ?_ ?_ ?_ ?_ ?_
  rotate_left 2
  ·simp only [gA, gB, gC]; rfl
  ·kernel_rfl
  ·kernel_rfl
  ·exact of_decide_eq_true (by kernel_rfl)
  ·rfl
  ·go_simp; (try with_reducible rfl)
  try simp only [Act.put, sA, sB, sC]
  have HB7 := Lib.hid (HB6.out.putr (b := G) (k := 0) (by omega) (by omega) (trBx_o (by omega) (by omega)) hG6 (by rw [HV0.out]; exact slice_dry _ _ _) (.slice a6 n6 p6))
  refine late_done (by kernel_rfl) ?_ _
  clear hHeld hB hM hBA hMA hG6 hGf6
  have q0 := HB7.out.t0 (b := bx) trBx_b
  have q1 := HB7.out.t1 (b := bx) trBx_b
  have q2 := HB7.out.t2 (b := bx) trBx_b
  have r0 := HB7.out.t0 (b := w.heap.size) (trBx_r hne)
  have r1 := HB7.out.t1 (b := w.heap.size) (trBx_r hne)
  have r2 := HB7.out.t2 (b := w.heap.size) (trBx_r hne)
  have rf := HB7.out.free (b := w.heap.size) (trBx_r hne)
  have HB9 := Lib.hid (HB7.out.put3 (trBx_r hne) (.int .i64 (S : Int)) (.int .i64 (B : Int)) (.slice (some ⟨G, 0, none⟩) n c) (i64_dry _) (i64_dry _) (slice_dry _ _ _))
  have HM9 := Lib.hid (HM7.out.under3 (show w.heap.size < w.heap.size + 1 by omega) (.int .i64 (S : Int)) (.int .i64 (B : Int)) (.slice (some ⟨G, 0, none⟩) n c))
  have z0 := HB9.out.t0 (Bx.same _ _ _)
  have z1 := HB9.out.t1 (Bx.same _ _ _)
  have z2 := HB9.out.t2 (Bx.same _ _ _)
  go_wp2_with fail
  refine bodyPost_ret (v := .agg #[.int .i64 (S : Int), .int .i64 (B : Int), .slice (some ⟨G, 0, none⟩) n c]) (by simp [results, Tryz.results96, go_sem, z0, z1, z2]) rfl ⟨⟨_, _, (some ⟨G, 0, none⟩), n, c, rfl, ⟨⟨_, _, HM9.out.mono (by omega)⟩, hn2, by omega⟩⟩, HB9.out.cur, HB9.out.grown⟩
 ·have e0 : (z == 0) = false := by simp; omega
  have e1 : (z == 1) = false := by simp; omega
  have e2 : (z == 2) = false := by simp; omega
  have q0 := HB5.out.t0 (b := bx) trBx_b
  have q1 := HB5.out.t1 (b := bx) trBx_b
  have q2 := HB5.out.t2 (b := bx) trBx_b
  have r0 := HB5.out.t0 (b := w.heap.size) (trBx_r hne)
  have r1 := HB5.out.t1 (b := w.heap.size) (trBx_r hne)
  have r2 := HB5.out.t2 (b := w.heap.size) (trBx_r hne)
  have rf := HB5.out.free (b := w.heap.size) (trBx_r hne)
  have HB9 := Lib.hid (HB5.out.put3 (trBx_r hne) (.int .i64 (S : Int)) (.int .i64 (B : Int)) (.slice a n c) (i64_dry _) (i64_dry _) (slice_dry _ _ _))
  have HM9 := Lib.hid (HM5.out.under3 (show w.heap.size < w.heap.size + 1 by omega) (.int .i64 (S : Int)) (.int .i64 (B : Int)) (.slice a n c))
  have z0 := HB9.out.t0 (Bx.same _ _ _)
  have z1 := HB9.out.t1 (Bx.same _ _ _)
  have z2 := HB9.out.t2 (Bx.same _ _ _)
  go_wp2_with fail
  refine bodyPost_ret (v := .agg #[.int .i64 (S : Int), .int .i64 (B : Int), .slice a n c]) (by simp [results, Tryz.results96, go_sem, z0, z1, z2]) rfl ⟨⟨_, _, a, n, c, rfl, ⟨⟨_, _, HM9.out.mono (by omega)⟩, hn2, by omega⟩⟩, HB9.out.cur, HB9.out.grown⟩
structure MkI (w : World) (a : Option Addr) (n c : Nat) (y : Int) : Prop where
 rows : ∃ M, IntSS w a n c M
 bd : n ≤ 2 ∧ y ≤ 2
set_option maxHeartbeats 4000000 in
theorem s_DrawStablePrices {w : World} {a : Option Addr} {n cap : Nat} (h : Bytes w a n cap) (hn : n ≤ 1048576) :
 Calls Tryz.prog 30 #[.slice a n cap] w fun e w' => (∃ (x y : Int) (b : Option Addr) (m c : Nat), e = .returned (.agg #[.int .i64 x, .int .i64 y, .slice b m c]) ∧ MkI w' b m c y) ∧ Ext w w' := by
 obtain ⟨W, hW⟩ : ∃ W, W = w.alloc (.cells #[.int .i64 0, .int .i64 0, .slice none 0 0] 52) := ⟨_, rfl⟩
 have hws : W.heap.size = w.heap.size + 1 := by rw [hW]; simp
 have hX : Ext w W := by rw [hW]; exact Ext.alloc _ _
 have HR2 := Lib.hid (show W.heap[w.heap.size]? = some (.cells #[.int .i64 0, .int .i64 0, .slice none 0 0] 52 (0, 0)) by rw [hW]; exact heapA_new _ _ _ rfl)
 have HX := Lib.hid hX
 have HN := Lib.hid (s_l1New (h.ext hX) hn)
 clear h hX
 go_enter Tryz.func30, Tryz.ntmps30
 go_wp2_with fail
 rw [← hW]
 refine HN.out.mono ?_
 rintro e w1 ⟨⟨cb, rfl, hcb, hc⟩, hx⟩
 have hs1 := hx.size
 have hcl := hc.lt
 have HB1 := Lib.hid ((Bxs.start hc (grown_ext (some cb) (HX.out.trans hx))).add w.heap.size _ _ ((hx.block _ (by omega)).trans HR2.out) (by omega) (by omega) (three_dry _ _ _ (slice_dry _ _ _)))
 clear hc hx HR2 hW
 go_wp2_with fail
 refine (s_l19Bent HB1.out.cur).mono ?_
 rintro e w2 ⟨⟨x, y, b, m, c, rfl, hmb⟩, hc, hg⟩
 obtain ⟨hm, hy⟩ := hmb.bd
 obtain ⟨vs, M, ho⟩ := hmb.own
 clear hmb
 have HB2 := Lib.hid (HB1.out.call hc hg)
 have r0 := HB2.out.t0 (Bx.same _ _ _)
 have r1 := HB2.out.t1 (Bx.same _ _ _)
 have r2 := HB2.out.t2 (Bx.same _ _ _)
 have rf := HB2.out.free (b := w.heap.size) (Bx.same _ _ _)
 have HB3 := Lib.hid (HB2.out.put3 (Bx.same _ _ _) (.int .i64 x) (.int .i64 y) (.slice b m c) (i64_dry _) (i64_dry _) (slice_dry _ _ _))
 have HO3 := Lib.hid (ho.under3 (show w.heap.size < w1.heap.size by omega) (.int .i64 x) (.int .i64 y) (.slice b m c))
 have z0 := HB3.out.t0 (Bx.same _ _ _)
 have z1 := HB3.out.t1 (Bx.same _ _ _)
 have z2 := HB3.out.t2 (Bx.same _ _ _)
 have HX3 := Lib.hid (HB3.out.all (by omega))
 clear hc hg ho
 go_wp2_with fail
 refine bodyPost_ret (v := .agg #[.int .i64 x, .int .i64 y, .slice b m c]) (by simp [results, Tryz.results30, go_sem, z0, z1, z2]) rfl ⟨⟨x, y, b, m, c, rfl, ⟨⟨M, HO3.out.intss⟩, hm, hy⟩⟩, HX3.out⟩
set_option maxHeartbeats 4000000 in
theorem s_DrawBestTrades {w : World} {a : Option Addr} {n cap : Nat} (h : Bytes w a n cap) (hn : n ≤ 1048576) :
 Calls Tryz.prog 39 #[.slice a n cap] w fun e w' => (∃ (x y : Int) (b : Option Addr) (m c : Nat) (k : Int), e = .returned (.tuple #[.agg #[.int .i64 x, .int .i64 y, .slice b m c], .int .i64 k]) ∧ MkI w' b m c y) ∧ Ext w w' := by
 obtain ⟨W, hW⟩ : ∃ W, W = w.alloc (.cells #[.int .i64 0, .int .i64 0, .slice none 0 0] 52) := ⟨_, rfl⟩
 have hws : W.heap.size = w.heap.size + 1 := by rw [hW]; simp
 have hX : Ext w W := by rw [hW]; exact Ext.alloc _ _
 have HR2 := Lib.hid (show W.heap[w.heap.size]? = some (.cells #[.int .i64 0, .int .i64 0, .slice none 0 0] 52 (0, 0)) by rw [hW]; exact heapA_new _ _ _ rfl)
 have HX := Lib.hid hX
 have HN := Lib.hid (s_l1New (h.ext hX) hn)
 clear h hX
 go_enter Tryz.func39, Tryz.ntmps39
 go_wp2_with fail
 rw [← hW]
 refine HN.out.mono ?_
 rintro e w1 ⟨⟨cb, rfl, hcb, hc⟩, hx⟩
 have hs1 := hx.size
 have hcl := hc.lt
 have HB1 := Lib.hid ((Bxs.start hc (grown_ext (some cb) (HX.out.trans hx))).add w.heap.size _ _ ((hx.block _ (by omega)).trans HR2.out) (by omega) (by omega) (three_dry _ _ _ (slice_dry _ _ _)))
 clear hc hx HR2 hW
 go_wp2_with fail
 refine (s_l19Bent HB1.out.cur).mono ?_
 rintro e w2 ⟨⟨x, y, b, m, c, rfl, hmb⟩, hc, hg⟩
 obtain ⟨hm, hy⟩ := hmb.bd
 obtain ⟨vs, M, ho⟩ := hmb.own
 clear hmb
 have hs2 := hg.size
 have hli : Ints (w2.alloc (.cells #[.int .i64 15, .int .i64 7, .int .i64 3, .int .i64 5, .int .i64 0, .int .i64 16, .int .i64 (-1)] 3)) (some ⟨w2.heap.size, 0, none⟩) 7 7 [15, 7, 3, 5, 0, 16, -1] := Ints.lit w2 [15, 7, 3, 5, 0, 16, -1] 3 (by decide)
 have hBA := (HB1.out.call hc hg).ext (Ext.alloc w2 (.cells #[.int .i64 15, .int .i64 7, .int .i64 3, .int .i64 5, .int .i64 0, .int .i64 16, .int .i64 (-1)] 3))
 have hMA := ho.ext (Ext.alloc w2 (.cells #[.int .i64 15, .int .i64 7, .int .i64 3, .int .i64 5, .int .i64 0, .int .i64 16, .int .i64 (-1)] 3))
 have hcl2 := hc.lt
 clear hc hg ho
 go_wp2_with fail
 refine (s_l1PickInt hBA.cur hli (by omega) (fun b off e => by simp only [Option.some.injEq, Addr.mk.injEq, and_true] at e; omega)).mono ?_
 rintro e w3 ⟨⟨q, hq, rfl⟩, hc, hg⟩
 obtain ⟨z, hz⟩ : ∃ z, z = ([15, 7, 3, 5, 0, 16, -1] : List Int)[q]?.getD 0 := ⟨_, rfl⟩
 rw [← hz]
 have HB3 := Lib.hid (hBA.call hc hg)
 have HO3 := Lib.hid (hMA.calls hg hcl)
 have r0 := HB3.out.t0 (b := w.heap.size) (Bx.same _ _ _)
 have r1 := HB3.out.t1 (b := w.heap.size) (Bx.same _ _ _)
 have r2 := HB3.out.t2 (b := w.heap.size) (Bx.same _ _ _)
 have rf := HB3.out.free (b := w.heap.size) (Bx.same _ _ _)
 have HB4 := Lib.hid (HB3.out.put3 (Bx.same _ _ _) (.int .i64 x) (.int .i64 y) (.slice b m c) (i64_dry _) (i64_dry _) (slice_dry _ _ _))
 have HO4 := Lib.hid (HO3.out.under3 (show w.heap.size < w1.heap.size by omega) (.int .i64 x) (.int .i64 y) (.slice b m c))
 have z0 := HB4.out.t0 (Bx.same _ _ _)
 have z1 := HB4.out.t1 (Bx.same _ _ _)
 have z2 := HB4.out.t2 (Bx.same _ _ _)
 have HX4 := Lib.hid (HB4.out.all (by omega))
 clear hc hg hz hBA hMA hli
 go_wp2_with fail
 refine bodyPost_ret (v := .tuple #[.agg #[.int .i64 x, .int .i64 y, .slice b m c], .int .i64 z]) (by simp [results, Tryz.results39, go_sem, z0, z1, z2]) rfl ⟨⟨x, y, b, m, c, z, rfl, ⟨⟨M, HO4.out.intss⟩, hm, hy⟩⟩, HX4.out⟩
theorem dot_pair {Y W : List (Int × Int)} {n i j : Nat} {v : Int × Int} (h : dotN Y W n = some v) (hij : i < j) (hj : j < n) (hi1 : W[i]?.getD (0, 0) = (1, 1)) (hj1 : W[j]?.getD (0, 0) = (1, 1)) (h0 : ∀ k, k < j → k ≠ i → W[k]?.getD (0, 0) = (0, 1)) :
 (addR (Y[i]?.getD (0, 0)) (Y[j]?.getD (0, 0))).2 = true := by
 cases hs : dotN Y W j with
 | none => rw [dotN_none hs (show j ≤ n by omega)] at h; cases h
 | some s =>
   obtain ⟨s1, s2, s3⟩ := dotN_spec hs
   have hvi := (s2 i hij).1
   have e : s = Y[i]?.getD (0, 0) := by
    refine val_inj s1 hvi ?_
    rw [s3, sumN_one hij (fun k hk hki => by
     have : vrow W k = 0 := by unfold vrow; rw [h0 k hk hki]; exact val_whole 0
     rw [this]; grind)]
    have : vrow W i = 1 := by unfold vrow; rw [hi1]; exact val_whole 1
    rw [this]
    unfold vrow
    grind
   have hst := dotN_step hs
   split at hst
   ·next hc =>
    rw [hj1, e] at hc
    obtain ⟨m1, m2, m3, m4⟩ := val_mul hc.1
    have e2 : (mulR (Y[j]?.getD (0, 0)) (1, 1)).1 = Y[j]?.getD (0, 0) := by
     refine val_inj m3 m1 ?_
     rw [m4, val_whole]
     grind
    rw [e2] at hc
    exact hc.2
   ·rw [dotN_none hst (show j + 1 ≤ n by omega)] at h; cases h
theorem pair_bits : ∀ n : Fin 6, ∀ i : Fin 5, ∀ j : Fin 5, i.val < j.val → j.val < n.val → 2 ^ i.val + 2 ^ j.val < cN n.val ∧ ∀ k : Fin 5, bit ((2 ^ i.val + 2 ^ j.val : Nat) : Int) k.val = (decide (k.val = i.val) || decide (k.val = j.val)) := by decide +kernel
theorem coreC_at {V : List Int} {q : Nat} (hl : 1 + q < V.length) : vrow (coreC V) q = - ((V[1 + q]?.getD 0 : Int) : Rat) := by
 have e : (coreC V)[q]?.getD (0, 0) = (-(V[1 + q]?.getD 0), 1) := by
  unfold coreC
  rw [List.getElem?_map, List.getElem?_drop, List.getElem?_eq_getElem hl]
  rfl
 unfold vrow
 rw [e, val_whole, Rat.intCast_neg]
theorem pair_ok {n : Nat} (hn : n ≤ 5) {V : List Int} (hV : V.length = cN n) {r : LpR} (ok : okLP (coreA n (cN n)) (coreB n) (coreC V) = true) (hc : checkG boundI (coreA n (cN n)) (coreB n) (coreC V) r = true) (hs : r.status = 1) {i j : Nat} (hij : i < j) (hj : j < n) :
 (addR (negR (r.Y[i]?.getD (0, 0))) (negR (r.Y[j]?.getD (0, 0)))).2 = true ∧ ((V[2 ^ i + 2 ^ j]?.getD 0 : Int) : Rat) ≤ val (addR (negR (r.Y[i]?.getD (0, 0))) (negR (r.Y[j]?.getD (0, 0)))).1 := by
 obtain ⟨hlt, hbit⟩ := pair_bits ⟨n, by omega⟩ ⟨i, by omega⟩ ⟨j, by omega⟩ hij hj
 have hbit : ∀ k, k < n → bit ((2 ^ i + 2 ^ j : Nat) : Int) k = (decide (k = i) || decide (k = j)) := fun k hk => hbit ⟨k, by omega⟩
 have hlt : 2 ^ i + 2 ^ j < cN n := hlt
 have hp1 : 1 ≤ 2 ^ i + 2 ^ j := Nat.le_trans Nat.one_le_two_pow (Nat.le_add_right _ _)
 obtain ⟨q, hq⟩ : ∃ q, 2 ^ i + 2 ^ j = 1 + q := ⟨2 ^ i + 2 ^ j - 1, (Nat.add_sub_cancel' hp1).symm⟩
 rw [hq] at hlt hbit ⊢
 have hce := cert_of ok hc hs
 have hAl : (coreA n (cN n)).length = n := by unfold coreA memM; simp
 have hCl : (coreC V).length = cN n - 1 := by unfold coreC; rw [List.length_map, List.length_drop, hV]
 have hqn : q < cN n - 1 := by omega
 have hent : ∀ k, k < n → ent (coreA n (cN n)) k q = bitI (decide (k = i) || decide (k = j)) := fun k hk => by rw [ent_core hk (by omega) hqn, hbit k hk]
 have hcol := hce.col q (by omega)
 have hcv : vrow (coreC V) q = - ((V[1 + q]?.getD 0 : Int) : Rat) := by
  have hl : 1 + q < V.length := by omega
  have e : (coreC V)[q]?.getD (0, 0) = (-(V[1 + q]?.getD 0), 1) := by
   unfold coreC
   rw [List.getElem?_map, List.getElem?_drop, List.getElem?_eq_getElem hl]
   rfl
  unfold vrow
  rw [e, val_whole, Rat.intCast_neg]
 rw [hcv, hAl] at hcol
 have hsum : sumN (fun k => vrow r.Y k * (ent (coreA n (cN n)) k q : Rat)) n = vrow r.Y i + vrow r.Y j := by
  have e : sumN (fun k => vrow r.Y k * (ent (coreA n (cN n)) k q : Rat)) n = sumN (fun k => (if k = i then vrow r.Y k else 0) + 1 * (if k = j then vrow r.Y k else 0)) n := sumN_congr fun k hk => by
   rw [hent k hk, bitI_rat]
   by_cases h1 : k = i
   ·have h2 : k ≠ j := by omega
    simp [h1, h2]
    grind
   ·by_cases h2 : k = j <;> simp [h1, h2] <;> grind
  rw [e, sumN_lin, sumN_one (show i < n by omega) (fun k _ hk => if_neg hk), sumN_one hj (fun k _ hk => if_neg hk), if_pos rfl, if_pos rfl]
  grind
 rw [hsum] at hcol
 have hadd : (addR (r.Y[i]?.getD (0, 0)) (r.Y[j]?.getD (0, 0))).2 = true := by
  unfold checkG at hc
  rw [if_pos hs] at hc
  obtain ⟨_, hc⟩ := both hc
  obtain ⟨_, hc⟩ := both hc
  obtain ⟨hb, _⟩ := both hc
  have := List.all_eq_true.1 hb q (List.mem_range.2 (by omega))
  unfold boundI at this
  cases e3 : dotL r.Y (wholeL (colL (coreA n (cN n)) q)) with
  | none => rw [e3] at this; cases this
  | some v =>
    unfold dotL at e3
    split at e3
    ·next hl =>
     have hcl : (colL (coreA n (cN n)) q).length = n := by unfold colL; rw [List.length_map, hAl]
     have hw : ∀ k, k < n → (wholeL (colL (coreA n (cN n)) q))[k]?.getD (0, 0) = (bitI (decide (k = i) || decide (k = j)), 1) := fun k hk => by
      rw [wholeL_at (by rw [hcl]; exact hk), ← hent k hk, colL_at _ _ _ (by rw [hAl]; exact hk)]; rfl
     rw [wholeL_len, hcl] at hl
     rw [hl] at e3
     refine dot_pair e3 hij hj ?_ ?_ fun k hk hki => ?_
     ·rw [hw i (by omega)]; simp [bitI]
     ·rw [hw j hj]; simp [bitI]
     ·have h2 : k ≠ j := by omega
      rw [hw k (by omega)]; simp [bitI, hki, h2]
    ·cases e3
 obtain ⟨a1, a2, a3, a4⟩ := val_add hadd
 rw [addR_neg]
 refine ⟨hadd, ?_⟩
 show _ ≤ val (negR (addR (r.Y[i]?.getD (0, 0)) (r.Y[j]?.getD (0, 0))).1)
 rw [val_neg, a4]
 unfold vrow at hcol
 grind
theorem bestF_up {S B : Nat} {G : List (List Int)} {s : Nat} (r : Nat) (taken : List Int) : ∀ d, (bestF S B G s r taken).2 ≤ (bestF S B G s (r + d) taken).2
 | 0 => Int.le_refl _
 | d + 1 => Int.le_trans (bestF_up r taken d) (bestF_skip (r + d) taken)
theorem asg_pair {S B : Nat} {G : List (List Int)} (hM : GoodM S B G) {s i j : Nat} (hi : i < S) (hj : j < B) (h1 : bit (s : Int) i = true) (h2 : bit (s : Int) (S + j) = true) : gain G i j ≤ asgF S B G s := by
 obtain ⟨r, hr⟩ : ∃ r, S = r + 1 + i := ⟨S - 1 - i, by omega⟩
 have hf : freeJ S s [] (S - (r + 1)) j = true := by
  have e : S - (r + 1) = i := by omega
  unfold freeJ
  rw [e, h1, h2]
  rfl
 have t1 := bestF_take (G := G) (taken := []) hf hj
 have e : S - (r + 1) = i := by omega
 rw [e] at t1
 have t2 := (bestF_bd S B G s hM.bd r ([] ++ [(j : Int)])).2.1
 have t3 := bestF_up (S := S) (B := B) (G := G) (s := s) (r + 1) [] i
 rw [← hr] at t3
 unfold asgF
 omega
theorem all_bits : ∀ n : Fin 6, ∀ k : Fin 5, k.val < n.val → bit ((cN n.val - 1 : Nat) : Int) k.val = true := by decide +kernel
theorem stab_pairs {S B : Nat} {G : List (List Int)} (hv : validM (S : Int) (B : Int) G = true) (hS : S ≤ 2) (hB : B ≤ 2) {r : LpR} (hr : r = solveG boundI (coreA (S + B) (cN (S + B))) (coreB (S + B)) (coreC (asgL (S : Int) (B : Int) G)))
 {g : Int} (hg : g = grandV ((S + B : Nat) : Int) (asgL (S : Int) (B : Int) G)) (hc : codeS true g r = 1) {i j : Nat} (hi : i < S) (hj : j < B) :
 (addR ((ptR g r)[i]?.getD (0, 0)) ((ptR g r)[S + j]?.getD (0, 0))).2 = true ∧ 0 ≤ cmpR (addR ((ptR g r)[i]?.getD (0, 0)) ((ptR g r)[S + j]?.getD (0, 0))).1 (gain G i j, 1) := by
 obtain ⟨c1, c2, c3⟩ := vote_code hc (.inl rfl)
 have hlast : (lastR g r).2 = true := by
  unfold codeS at hc
  rw [if_neg (by simp), if_neg (fun h => h c1)] at hc
  rw [if_neg (by rw [c2]; simp)] at hc
  split at hc
  ·cases hc
  ·split at hc
   ·assumption
   ·cases hc
 obtain ⟨S', B', hS', hB', hM⟩ := validM_good hv
 obtain rfl : S = S' := by omega
 obtain rfl : B = B' := by omega
 obtain ⟨hgm, hp, hl⟩ := asg_game hv hM
 rw [hp] at hgm
 have hsb := hM.sb
 have hcn := cN_le (S + B) hM.sb
 have hV : (asgL (S : Int) (B : Int) G).length = cN (S + B) := by rw [hl, rowF_len]
 have hst : (solveG boundI (coreA (S + B) (cN (S + B))) (coreB (S + B)) (coreC (asgL (S : Int) (B : Int) G))).status = 1 := by rw [← hr]; exact c1
 have hmv := mkt_value hv hS hB hst
 obtain ⟨s1, _, s3, _⟩ := solveG_val hst
 rw [← hr] at hmv s3
 have hce := cert_of s1 s3 c1
 have hgr : g = asgF S B G (cN (S + B) - 1) := by
  rw [hg, grandV_ok hgm, hl, rowF_len, rowF_get' _ _ _ (by omega)]
 have hAl : (coreA (S + B) (cN (S + B))).length = S + B := by unfold coreA memM; simp
 have hCl : (coreC (asgL (S : Int) (B : Int) G)).length = cN (S + B) - 1 := by unfold coreC; rw [List.length_map, List.length_drop, hV]
 obtain ⟨q, hq⟩ : ∃ q, cN (S + B) - 1 = 1 + q := ⟨cN (S + B) - 2, by
  have : ∀ m : Fin 6, 2 ≤ m.val → 4 ≤ cN m.val := by decide
  have := this ⟨S + B, by omega⟩ (by have := hM.s1; have := hM.b1; show 2 ≤ S + B; omega)
  have h4 : 4 ≤ cN (S + B) := this
  omega⟩
 have hval : val r.value = - (g : Rat) := by
  have h1 := hce.col q (by omega)
  rw [coreC_at (by omega), hAl] at h1
  have e1 : (asgL (S : Int) (B : Int) G)[1 + q]?.getD 0 = g := by rw [hl, rowF_get' _ _ _ (by omega), ← hq, hgr]
  rw [e1] at h1
  have e2 : sumN (fun k => vrow r.Y k * (ent (coreA (S + B) (cN (S + B))) k q : Rat)) (S + B) = sumN (fun k => vrow r.Y k) (S + B) := sumN_congr fun k hk => by
   have hb : bit ((1 + q : Nat) : Int) k = true := by rw [← hq]; exact all_bits ⟨S + B, by omega⟩ ⟨k, by omega⟩ hk
   rw [ent_core hk (by omega) (by omega), hb, bitI_rat, if_pos rfl]
   grind
  have e3 : val r.value = sumN (fun k => vrow r.Y k) (S + B) := by
   rw [hce.yb, hAl]
   refine sumN_congr fun k hk => ?_
   have hb : (coreB (S + B))[k]?.getD 0 = 1 := by unfold coreB; simp [hk]
   rw [hb]
   grind
  rw [e2] at h1
  rw [← hg] at hmv
  rw [e3] at hmv ⊢
  grind
 have hsl : (slackR g r).1 = (0, 1) := by
  have h2 := c2
  unfold slackR at h2 ⊢
  obtain ⟨a1, a2, a3, a4⟩ := val_add h2
  refine val_inj a3 (val_ints 0 (by omega) (by omega)) ?_
  rw [a4, val_whole, val_whole, hval]
  grind
 have hpt : ptR g r = negY r := by
  have h2 := hlast
  unfold lastR at h2
  rw [hsl] at h2
  obtain ⟨a1, a2, a3, a4⟩ := val_add h2
  have e : (lastR g r).1 = (negY r)[(negY r).length - 1]?.getD (0, 0) := by
   unfold lastR
   rw [hsl]
   refine val_inj a3 a1 ?_
   rw [a4, val_whole]
   grind
  unfold ptR
  rw [e]
  have hyl : (negY r).length = S + B := by unfold negY; rw [List.length_map, hce.yl, hAl]
  have hlt : (negY r).length - 1 < (negY r).length := by have := hM.s1; omega
  rw [List.getElem?_eq_getElem hlt, Option.getD_some, List.set_getElem_self]
 have hx : ∀ k, k < S + B → (ptR g r)[k]?.getD (0, 0) = negR (r.Y[k]?.getD (0, 0)) := fun k hk => by
  have hyl : k < r.Y.length := by rw [hce.yl, hAl]; exact hk
  rw [hpt]
  unfold negY
  rw [List.getElem?_map, List.getElem?_eq_getElem hyl]
  rfl
 rw [hx i (by omega), hx (S + j) (by omega)]
 obtain ⟨k1, k2⟩ := pair_ok hsb hV s1 s3 c1 (show i < S + j by omega) (show S + j < S + B by omega)
 refine ⟨k1, ?_⟩
 obtain ⟨hpl, hpb⟩ := pair_bits ⟨S + B, by omega⟩ ⟨i, by omega⟩ ⟨S + j, by omega⟩ (show i < S + j by omega) (show S + j < S + B by omega)
 have hpl : 2 ^ i + 2 ^ (S + j) < cN (S + B) := hpl
 have hb1 := hpb ⟨i, by omega⟩
 have hb2 := hpb ⟨S + j, by omega⟩
 have hga := asg_pair hM (s := 2 ^ i + 2 ^ (S + j)) hi hj (by rw [hb1]; simp) (by rw [hb2]; simp)
 rw [hl, rowF_get' _ _ _ hpl] at k2
 obtain ⟨a1, a2, a3, a4⟩ := val_add k1
 have hgb := hM.bd i j
 refine (val_le a3 (val_ints _ (by omega) (by omega))).2 ?_
 rw [val_whole]
 exact Rat.le_trans (Rat.intCast_le_intCast.2 hga) k2
theorem mkt_code {x y : Int} {G : List (List Int)} {m n : Nat} (hm : G.length = m) (h2 : m ≤ 2) (hy : y ≤ 2) (hv : validM x y G = true) (hn : (asgL x y G).length = n) :
 ∃ cd, codeS (gameOk (asgP x y G : Int) (asgL x y G)) (grandV (asgP x y G : Int) (asgL x y G)) (solveG boundI (coreA (asgP x y G : Int).toNat n) (coreB (asgP x y G : Int).toNat) (coreC (asgL x y G))) = cd ∧ cd ≠ 2 := by
 obtain ⟨S, B, rfl, rfl, hM⟩ := validM_good hv
 obtain ⟨h5, h6, h7⟩ := asg_game hv hM
 have hS : S ≤ 2 := by have := hM.rows; omega
 have hl : (asgL (S : Int) (B : Int) G).length = cN (S + B) := by rw [h7, rowF_len]
 refine ⟨_, rfl, ?_⟩
 rw [h5, h6, ← hn, hl, Int.toNat_natCast]
 exact mkt_core hv hS (by omega)
theorem mkt_stab {x y : Int} {G : List (List Int)} {m : Nat} (hm : G.length = m) (h2 : m ≤ 2) (hy : y ≤ 2) (hok : stabOk x y G = true) :
 ∃ S B : Nat, x = S ∧ y = B ∧ GoodM S B G ∧ (stabL x y G).length = S + B ∧ ∀ i j, i < S → j < B → (addR ((stabL x y G)[i]?.getD (0, 0)) ((stabL x y G)[S + j]?.getD (0, 0))).2 = true ∧ 0 ≤ cmpR (addR ((stabL x y G)[i]?.getD (0, 0)) ((stabL x y G)[S + j]?.getD (0, 0))).1 (gain G i j, 1) := by
 have hs := hok
 rw [stabOk_S] at hs
 obtain ⟨hv, hc⟩ := both hs
 have hc := of_decide_eq_true hc
 obtain ⟨S, B, rfl, rfl, hM⟩ := validM_good hv
 obtain ⟨h5, h6, h7⟩ := asg_game hv hM
 have hS : S ≤ 2 := by have := hM.rows; omega
 have hB : B ≤ 2 := by omega
 have hl : (asgL (S : Int) (B : Int) G).length = cN (S + B) := by rw [h7, rowF_len]
 have hr : mktR (S : Int) (B : Int) G = solveG boundI (coreA (S + B) (cN (S + B))) (coreB (S + B)) (coreC (asgL (S : Int) (B : Int) G)) := by unfold mktR; rw [h6, hl, Int.toNat_natCast]
 have hg : mktG (S : Int) (B : Int) G = grandV ((S + B : Nat) : Int) (asgL (S : Int) (B : Int) G) := by unfold mktG; rw [h6]
 rw [h5] at hc
 have hst := (vote_code hc (.inl rfl)).1
 refine ⟨S, B, rfl, rfl, hM, ?_, fun i j hi hj => ?_⟩
 ·rw [stabL_yes hok]
  unfold ptR negY
  rw [List.length_set, List.length_map]
  rw [hr] at hst ⊢
  rw [(solveG_val hst).2.2.2.1]
  simp [coreB]
 ·rw [stabL_yes hok]
  exact stab_pairs hv hS hB hr hg hc hi hj
set_option maxHeartbeats 8000000 in
theorem l_FnMarkets {w : World} {a : Option Addr} {n cap : Nat} (h : Bytes w a n cap) :
 Calls Tryz.prog 4 #[.slice a n cap] w fun e w' => e = .returned (.bool true) ∧ Ext w w' := by
 have hcap := h.hcap
 have hmax := h.hmax
 have H := Lib.hid h
 clear h
 by_cases hbig : 1048576 < n
 ·go_enter Tryz.func4, Tryz.ntmps4
  go_wp2_with fail
  go_in
  go_wp2_with fail
  go_ret
  exact ⟨rfl, Ext.refl _⟩
 have hb : n ≤ 1048576 := by omega
 go_enter Tryz.func4, Tryz.ntmps4
 go_wp2_with fail
 go_in
 go_wp2_with fail
 refine (s_DrawStablePrices H.out hb).mono ?_
 rintro e w1 ⟨⟨x, y, b, m, c, rfl, hmi⟩, hx⟩
 obtain ⟨hm, hy⟩ := hmi.bd
 obtain ⟨M, hL⟩ := hmi.rows
 clear hmi
 obtain ⟨W, hW⟩ : ∃ W, W = w1.alloc (.cells #[.int .i64 x, .int .i64 y, .slice b m c] 52) := ⟨_, rfl⟩
 have hxW : Ext w1 W := by rw [hW]; exact Ext.alloc _ _
 have XA := Lib.hid (hx.trans hxW)
 have HL := Lib.hid (hL.ext hxW)
 have g0 : W.cell? ⟨w1.heap.size, 0, none⟩ = some (.int .i64 x) := by rw [hW]; simp
 have g1 : W.cell? ⟨w1.heap.size, 1, none⟩ = some (.int .i64 y) := by rw [hW]; simp
 have g2 : W.cell? ⟨w1.heap.size, 2, none⟩ = some (.slice b m c) := by rw [hW]; simp
 obtain ⟨ok, hok⟩ : ∃ o, o = stabOk x y M := ⟨_, rfl⟩
 have HOK := Lib.hid hok
 obtain ⟨fi, hfi⟩ : ∃ o, o = validM x y M := ⟨_, rfl⟩
 have HFI := Lib.hid hfi
 have hbb : (ok != ok) = false := by simp
 have hff : (fi != fi) = false := by simp
 obtain ⟨P, hP⟩ : ∃ P, P = asgP x y M := ⟨_, rfl⟩
 have HPP := Lib.hid hP
 obtain ⟨VL, hVL⟩ : ∃ l, l = asgL x y M := ⟨_, rfl⟩
 have HVL := Lib.hid hVL
 obtain ⟨SL, hSL⟩ : ∃ l, l = stabL x y M := ⟨_, rfl⟩
 have HSL := Lib.hid hSL
 have HML := Lib.hid hL.hlen
 clear hL hx hxW hok hP hVL hSL hfi
 go_upto_region 4 with fail
 rw [← hW]
 clear hW
 generalize w1.heap.size = bg at g0 g1 g2 ⊢
 go_wp2_with fail
 have HC := Lib.hid (i_StablePrices (x := x) (y := y) HL.out)
 rw [← HOK.out, ← HSL.out] at HC
 refine HC.out.mono ?_
 rintro e w2 ⟨⟨v, rfl, ho⟩, hx⟩
 obtain ⟨a2, n2, c2, rfl, HN2⟩ := ho.var
 have hn21 := ho.rats.hcap
 have hn22 := ho.rats.hmax
 have R2 := Lib.hid ho.rats
 have X2 := Lib.hid hx
 replace g0 := hx.cellSome g0
 replace g1 := hx.cellSome g1
 replace g2 := hx.cellSome g2
 clear ho hx HC
 go_wp2_with fail
 have HC := Lib.hid (s_StablePrices (x := x) (y := y) (HL.out.ext X2.out))
 rw [← HOK.out, ← HSL.out] at HC
 refine HC.out.mono ?_
 rintro e w3 ⟨⟨v, rfl, ho⟩, hx⟩
 obtain ⟨a3, n3, c3, rfl, HN3⟩ := ho.var
 have R3 := Lib.hid ho.rats
 have R23 := Lib.hid (R2.out.ext hx)
 have X3 := Lib.hid (X2.out.trans hx)
 replace g0 := hx.cellSome g0
 replace g1 := hx.cellSome g1
 replace g2 := hx.cellSome g2
 clear ho hx HC R2 X2
 go_wp2_with fail
 have HC := Lib.hid (i_AssignmentGame (x := x) (y := y) (HL.out.ext X3.out))
 rw [← HPP.out, ← HVL.out, ← HFI.out] at HC
 refine HC.out.mono ?_
 rintro e w4 ⟨⟨v, rfl, ho⟩, hx⟩
 obtain ⟨a4, n4, c4, rfl, HN4⟩ := ho.var
 obtain ⟨W4, hW4⟩ : ∃ W, W = w4.alloc (.cells #[.int .i64 (P : Int), .slice a4 n4 c4] 29) := ⟨_, rfl⟩
 have hxW : Ext w4 W4 := by rw [hW4]; exact Ext.alloc _ _
 have hx4 := hx.trans hxW
 have X4 := Lib.hid (X3.out.trans hx4)
 have I4 := Lib.hid (ho.ints.ext hxW)
 have R24 := Lib.hid (R23.out.ext hx4)
 have R34 := Lib.hid (R3.out.ext hx4)
 have p0 : W4.cell? ⟨w4.heap.size, 0, none⟩ = some (.int .i64 (P : Int)) := by rw [hW4]; simp
 have p1 : W4.cell? ⟨w4.heap.size, 1, none⟩ = some (.slice a4 n4 c4) := by rw [hW4]; simp
 replace g0 := hx4.cellSome g0
 replace g1 := hx4.cellSome g1
 replace g2 := hx4.cellSome g2
 clear ho hx hxW HC hx4 R23 R3 X3
 go_upto_region 7 with fail
 rw [← hW4]
 clear hW4
 generalize w4.heap.size = b4g at p0 p1 ⊢
 go_wp2_with fail
 have HC := Lib.hid (s_AssignmentGame (x := x) (y := y) (HL.out.ext X4.out))
 rw [← HPP.out, ← HVL.out, ← HFI.out] at HC
 refine HC.out.mono ?_
 rintro e w5 ⟨⟨v, rfl, ho⟩, hx⟩
 obtain ⟨a5, n5, c5, rfl, HN5⟩ := ho.var
 obtain ⟨W5, hW5⟩ : ∃ W, W = w5.alloc (.cells #[.int .i64 (P : Int), .slice a5 n5 c5] 29) := ⟨_, rfl⟩
 have hxW : Ext w5 W5 := by rw [hW5]; exact Ext.alloc _ _
 have hx5 := hx.trans hxW
 have X5 := Lib.hid (X4.out.trans hx5)
 have I5 := Lib.hid (ho.ints.ext hxW)
 have I45 := Lib.hid (I4.out.ext hx5)
 have R25 := Lib.hid (R24.out.ext hx5)
 have HEV := Lib.hid (s_EqualVector (R24.out.ext hx5) (R34.out.ext hx5))
 rw [decide_eq_true rfl] at HEV
 have q0 : W5.cell? ⟨w5.heap.size, 0, none⟩ = some (.int .i64 (P : Int)) := by rw [hW5]; simp
 have q1 : W5.cell? ⟨w5.heap.size, 1, none⟩ = some (.slice a5 n5 c5) := by rw [hW5]; simp
 replace g0 := hx5.cellSome g0
 replace g1 := hx5.cellSome g1
 replace g2 := hx5.cellSome g2
 replace p0 := hx5.cellSome p0
 replace p1 := hx5.cellSome p1
 clear ho hx hxW HC hx5 R24 R34 X4 I4
 go_upto_region 8 with fail
 rw [← hW5]
 clear hW5
 generalize w5.heap.size = b5g at q0 q1 ⊢
 go_wp2_with fail
 refine HEV.out.mono ?_
 rintro e w6 ⟨rfl, hx⟩
 have hx6 := hx.ext
 have HE := Lib.hid (s_EqualGame (x := (P : Int)) (x' := (P : Int)) (I45.out.ext hx6) (I5.out.ext hx6))
 rw [decide_eq_true rfl, decide_eq_true rfl, Bool.true_and] at HE
 have X6 := Lib.hid (X5.out.trans hx6)
 have X56 := Lib.hid hx6
 replace g0 := hx6.cellSome g0
 replace g1 := hx6.cellSome g1
 replace g2 := hx6.cellSome g2
 replace p0 := hx6.cellSome p0
 replace p1 := hx6.cellSome p1
 replace q0 := hx6.cellSome q0
 replace q1 := hx6.cellSome q1
 clear hx hx6 HEV
 go_wp2_with fail
 refine HE.out.mono ?_
 rintro e w7 ⟨rfl, hx⟩
 have X7 := Lib.hid (X6.out.trans hx)
 have X57 := Lib.hid (X56.out.trans hx)
 replace g0 := hx.cellSome g0
 replace g1 := hx.cellSome g1
 replace g2 := hx.cellSome g2
 replace p0 := hx.cellSome p0
 replace p1 := hx.cellSome p1
 clear hx HE q0 q1 X6 X56
 go_wp2_with fail
 have HC := Lib.hid (i_IsValidMarket (x := x) (y := y) (HL.out.ext X7.out))
 rw [← HFI.out] at HC
 refine HC.out.mono ?_
 rintro e w8 ⟨rfl, hx⟩
 have X8 := Lib.hid (X7.out.trans hx)
 have I8 := Lib.hid (I45.out.ext (X57.out.trans hx))
 have R8 := Lib.hid (R25.out.ext (X57.out.trans hx))
 replace g0 := hx.cellSome g0
 replace g1 := hx.cellSome g1
 replace g2 := hx.cellSome g2
 replace p0 := hx.cellSome p0
 replace p1 := hx.cellSome p1
 clear hx HC X7 X57 X5 I5 I45 R25 HN3 HN5
 go_upto_region 10 with fail
 go_cut [80] (fun v wx => v = .bool false ∧ Hid (Ext w8 wx))
 case first =>
  cases fi with
  | false =>
    go_wp2_with fail
    go_meet
    exact ⟨rfl, Lib.hid (Ext.refl _)⟩
  | true =>
    obtain ⟨cd, hcd, hcd2⟩ := mkt_code HML.out hm hy HFI.out.symm (show (asgL x y M).length = n4 by rw [← HVL.out]; exact HN4.out)
    rw [← HPP.out, ← HVL.out] at hcd
    have HCD := Lib.hid hcd
    have e2 : (cd == 2) = false := by simp [hcd2]
    clear hcd
    go_wp2_with fail
    have HC := Lib.hid (s_FindCore (p := (P : Int)) I8.out)
    rw [HCD.out] at HC
    refine HC.out.mono ?_
    rintro e w9 ⟨⟨pa, pn, pc, wa, wn, wc, rfl, _⟩, hx⟩
    have X9 := Lib.hid hx
    clear hx HC
    go_wp2_with fail
    rw [show Sem.run Tryz.prog (Instr.field 38 (.agg #[.int .i64 cd, .slice pa pn pc, .slice wa wn wc]) 0) w9 = Result.ok (.int .i64 cd) w9 from by kernel_rfl]
    go_wp2_with fail
    go_meet
    exact ⟨rfl, X9⟩
 obtain ⟨rfl, XC⟩ := hcut
 have X9 := Lib.hid (X8.out.trans XC.out)
 have R9 := Lib.hid (R8.out.ext XC.out)
 replace g0 := XC.out.cellSome g0
 replace g1 := XC.out.cellSome g1
 replace g2 := XC.out.cellSome g2
 clear XC p0 p1 X8 R8 I8
 go_upto_block 0 with fail
 go_cut [] (fun wx => Hid (Ext W wx))
 case first =>
  cases ok with
  | false =>
    go_wp2_with fail
    go_loopg [12] 0 (fun gk ii wr => ii = .int .i64 0 ∧ Hid (Ext wc wr))
    case atStart => exact ⟨rfl, Lib.hid (Ext.refl _)⟩
    case round =>
     obtain ⟨r1, h_r1⟩ : ∃ x, x = gk := ⟨_, rfl⟩
     subst h_r1
     obtain ⟨wr, h_wr⟩ : ∃ x, x = wr := ⟨_, rfl⟩
     subst h_wr
     obtain ⟨rfl, XR⟩ := hrel
     have g0r := XR.out.cellSome g0
     have XF := Lib.hid (X9.out.trans XR.out)
     by_cases hx0 : 0 < x
     ·go_wp2_with fail
      go_meet
      exact XF
     ·go_wp2_with fail
      go_meet
      exact XF
  | true =>
    obtain ⟨S, B, hxS, hyB, hM, hlen, hpair⟩ := mkt_stab HML.out hm hy HOK.out.symm
    subst hxS
    subst hyB
    rw [← HSL.out] at hlen
    have HPR := Lib.hid hpair
    have HNS := Lib.hid (show n2 = S + B by rw [← HN2.out]; exact hlen)
    have HMM := Lib.hid hM
    have hS5 : S ≤ 5 := by have := hM.sb; omega
    have hB5 : B ≤ 5 := by have := hM.sb; omega
    clear hlen hpair hM
    go_wp2_with fail
    go_loopg [12] S (fun gk ii wr => ∃ i : Nat, Hid (gk + i = S) ∧ ii = .int .i64 (i : Int) ∧ Hid (Ext wc wr))
    case atStart => exact ⟨0, Lib.hid (by omega), rfl, Lib.hid (Ext.refl _)⟩
    case round =>
     obtain ⟨r1, h_r1⟩ : ∃ x, x = gk := ⟨_, rfl⟩
     subst h_r1
     obtain ⟨wr, h_wr⟩ : ∃ x, x = wr := ⟨_, rfl⟩
     subst h_wr
     obtain ⟨i, HK, rfl, XR⟩ := hrel
     have g0r := XR.out.cellSome g0
     by_cases hi : i < S
     ·have hii : (i : Int) < (S : Int) := by omega
      go_wp2_with fail
      go_loopg [13] B (fun gk jj wi => ∃ j : Nat, Hid (gk + j = B) ∧ jj = .int .i64 (j : Int) ∧ Hid (Ext wc wi))
      case atStart => exact ⟨0, Lib.hid (by omega), rfl, XR⟩
      case round =>
       obtain ⟨r2, h_r2⟩ : ∃ x, x = gk := ⟨_, rfl⟩
       subst h_r2
       obtain ⟨wi, h_wi⟩ : ∃ x, x = wr := ⟨_, rfl⟩
       subst h_wi
       obtain ⟨j, HJ, rfl, XI⟩ := hrel
       have g0i := XI.out.cellSome g0
       have g1i := XI.out.cellSome g1
       have g2i := XI.out.cellSome g2
       by_cases hj : j < B
       ·have hji : (j : Int) < (B : Int) := by omega
        have hin : i < n2 := by have := HNS.out; omega
        have hini : (i : Int) < (n2 : Int) := by omega
        have hi0 : (0 : Int) ≤ (i : Int) := by omega
        have hj0 : (0 : Int) ≤ (j : Int) := by omega
        obtain ⟨u, hu⟩ : ∃ u : Nat, u = S + j := ⟨_, rfl⟩
        have hun : u < n2 := by have := HNS.out; omega
        have huni : (u : Int) < (n2 : Int) := by omega
        have hu0 : (0 : Int) ≤ (u : Int) := by omega
        have huw : IntKind.i64.wrap ((S : Int) + (j : Int)) = (u : Int) := by rw [IntKind.wrap_i64]; omega
        have hpr := HPR.out i j hi hj
        rw [← HSL.out, ← hu] at hpr
        obtain ⟨xb, xo, x1, x2, rfl, hxe, hxa, hxb⟩ := (R9.out.ext XI.out).at hin
        obtain ⟨xb', xo', y1, y2, hxx, hye, hya, hyb⟩ := (R9.out.ext XI.out).at hun
        simp only [Option.some.injEq, Addr.mk.injEq, and_true] at hxx
        obtain ⟨rfl, rfl⟩ := hxx
        rw [hxe, hye] at hpr
        obtain ⟨s1, s2, good, hadd⟩ : ∃ s1 s2 o, addR (x1, x2) (y1, y2) = ((s1, s2), o) := ⟨_, _, _, rfl⟩
        rw [hadd] at hpr
        obtain ⟨hgo, hcm⟩ := hpr
        simp only at hgo hcm
        have HGO := Lib.hid hgo
        have HAD := Lib.hid hadd
        obtain ⟨gv, hgv⟩ : ∃ v, v = gain M i j := ⟨_, rfl⟩
        rw [← hgv] at hcm
        obtain ⟨cv, hcv⟩ : ∃ v, v = cmpR (s1, s2) (gv, 1) := ⟨_, rfl⟩
        rw [← hcv] at hcm
        have HCV := Lib.hid hcv
        obtain ⟨rb, ro, ra, rn, rc, hre, hrc, hri⟩ := ((HL.out.ext X9.out).ext XI.out).at (show i < m by have := HMM.out.rows; rw [HML.out] at this; omega)
        subst hre
        have hrn : rn = B := by rw [← hri.hlen]; exact HMM.out.row i hi
        have him : (i : Int) < (m : Int) := by have := HMM.out.rows; rw [HML.out] at this; omega
        obtain ⟨eb, eo, rfl, hec⟩ := hri.at (show j < rn by omega)
        rw [show ((M[i]?.getD [])[j]?.getD 0) = gv from hgv.symm] at hec
        have hjr : (j : Int) < (rn : Int) := by omega
        clear hri hadd hxe hye hcv hgv hu hrn hgo
        go_wp2_with fail
        go_upto_region 18 with fail
        go_cut [14, 15] (fun sx so wx => ∃ gb : Nat, sx = .pointer (some ⟨gb, 0, none⟩) ∧ so = .bool good ∧ Hid (Boxed wi wx gb s1 s2))
        case first =>
         have hk2 : Ext wi wi.drew := Ext.drew wi
         have hka : Ext wi (wi.alloc (.cells #[.int .i64 0, .int .i64 0] 43)).drew := (Ext.alloc _ _).trans (Ext.drew _)
         have HKEEP := Lib.hid (fun (w' : World) (h : Ext wi w') => (⟨h.cellSome hxa, h.cellSome hxb, h.cellSome hya, h.cellSome hyb, h.cellSome g0i, h⟩ : w'.cell? ⟨xb, xo + i * 2, none⟩ = some (.int .i64 x1) ∧ w'.cell? ⟨xb, xo + i * 2 + 1, none⟩ = some (.int .i64 x2) ∧ w'.cell? ⟨xb, xo + u * 2, none⟩ = some (.int .i64 y1) ∧ w'.cell? ⟨xb, xo + u * 2 + 1, none⟩ = some (.int .i64 y2) ∧ w'.cell? ⟨bg, 0, none⟩ = some (.int .i64 (S : Int)) ∧ Ext wi w'))
         go_region_held3 (fun w' => w'.cell? ⟨xb, xo + i * 2, none⟩ = some (.int .i64 x1) ∧ w'.cell? ⟨xb, xo + i * 2 + 1, none⟩ = some (.int .i64 x2) ∧ w'.cell? ⟨xb, xo + u * 2, none⟩ = some (.int .i64 y1) ∧ w'.cell? ⟨xb, xo + u * 2 + 1, none⟩ = some (.int .i64 y2) ∧ w'.cell? ⟨bg, 0, none⟩ = some (.int .i64 (S : Int)) ∧ Ext wi w')
          (first
            | with_reducible exact HKEEP.out _ hk2
            | with_reducible exact HKEEP.out _ hka
            | with_reducible exact HKEEP.out _ ((hk2.setCell (by first | (simp; done) | (simp; omega)) _).setCell (by first | (simp; done) | (simp; omega)) _)
            | with_reducible exact HKEEP.out _ (hk2.trans (Ext.alloc _ _))
            | with_reducible exact HKEEP.out _ (hBB.put _ _).ext)
          (first
            | (go_at_call 37
               (with_reducible refine (s_AddRat _ _ _ _ _).mono ?_)
               rw [HAD.out]
               rintro e wk ⟨rfl, hx_wk⟩
               first | (with_reducible have hBB := Boxed.grow hBB hx_wk) | (with_reducible have hBB := Boxed.firstD hx_wk) | (with_reducible have hBB := Boxed.laterD hk2 hx_wk) | skip
               first | (have b0_ := hBB.c0; have b1_ := hBB.c1; have fb_ := hBB.free) | skip
               have hk2 : Ext wi wk := by first | with_reducible exact hk2.trans hx_wk | with_reducible exact hka.trans hx_wk | with_reducible exact (hk2.trans (Ext.alloc _ _)).trans hx_wk
               have hk2s := hk2.size)
            | fail)
         all_goals (go_wp2_with fail; go_meet; first | exact ⟨_, rfl, rfl, Lib.hid (hBB.put _ _)⟩ | exact ⟨_, rfl, rfl, Lib.hid (Boxed.new hk2 _ _)⟩ | exact ⟨_, rfl, rfl, Lib.hid (Boxed.new' hk2 _ _ (by simp))⟩)
        obtain ⟨gb, rfl, rfl, HBX⟩ := hcut
        have hgo := HGO.out
        subst hgo
        have XBX := Lib.hid (XI.out.trans HBX.out.ext)
        have b0 := HBX.out.c0
        have b1 := HBX.out.c1
        replace hrc := HBX.out.ext.cellSome hrc
        replace hec := HBX.out.ext.cellSome hec
        replace g2i := HBX.out.ext.cellSome g2i
        clear hxa hxb hya hyb g0i g1i HBX
        have hcn : ¬ cv < 0 := by omega
        have hk2 : Ext wc wc.drew := Ext.drew wc
        have hka := hk2
        have HKEEP := Lib.hid (fun (w' : World) (h : Ext wc w') => (⟨h.cellSome b0, h.cellSome b1, h.cellSome g2i, h.cellSome hrc, h.cellSome hec, h⟩ : w'.cell? ⟨gb, 0, none⟩ = some (.int .i64 s1) ∧ w'.cell? ⟨gb, 1, none⟩ = some (.int .i64 s2) ∧ w'.cell? ⟨bg, 2, none⟩ = some (.slice (some ⟨rb, ro, none⟩) m c) ∧ w'.cell? ⟨rb, ro + i, none⟩ = some (.slice (some ⟨eb, eo, none⟩) rn rc) ∧ w'.cell? ⟨eb, eo + j, none⟩ = some (.int .i64 gv) ∧ Ext wc w'))
        go_wp2_with fail
        go_region_held3 (fun w' => w'.cell? ⟨gb, 0, none⟩ = some (.int .i64 s1) ∧ w'.cell? ⟨gb, 1, none⟩ = some (.int .i64 s2) ∧ w'.cell? ⟨bg, 2, none⟩ = some (.slice (some ⟨rb, ro, none⟩) m c) ∧ w'.cell? ⟨rb, ro + i, none⟩ = some (.slice (some ⟨eb, eo, none⟩) rn rc) ∧ w'.cell? ⟨eb, eo + j, none⟩ = some (.int .i64 gv) ∧ Ext wc w')
         (with_reducible exact HKEEP.out _ hk2)
         (first
           | (go_at_call 38
              (with_reducible refine (i_CompareRat s1 s2 gv 1 _).mono ?_)
              rw [← HCV.out]
              rintro e wl ⟨rfl, hx_wl⟩
              have hk2 : Ext wc wl := hk2.trans hx_wl
              have hs_wl := hk2.size)
           | fail)
        clear HKEEP hka
        have XL := Lib.hid (XBX.out.trans hk2)
        clear b0 b1 g2i hrc hec hk2
        go_wp2_with fail
        go_roundg (r2 - 1)
        case measure => have := HJ.out; omega
        case rel => exact ⟨j + 1, Lib.hid (by have := HJ.out; omega), by go_num, XL⟩
       ·have hji : ¬ (j : Int) < (B : Int) := by omega
        go_wp2_with fail
        go_roundg (r1 - 1)
        case measure => have := HK.out; omega
        case rel => exact ⟨i + 1, Lib.hid (by have := HK.out; omega), by go_num, XI⟩
     ·have hii : ¬ (i : Int) < (S : Int) := by omega
      go_wp2_with fail
      go_meet
      exact Lib.hid (X9.out.trans XR.out)
 have XZ := Lib.hid (XA.out.trans hcut.out)
 clear hcut X9 R9 g0 g1 g2 XA HL HOK HFI HPP HVL HSL HML HN2 HN4 hbb hff
 go_wp2_with fail
 refine (s_DrawBestTrades (H.out.ext XZ.out) hb).mono ?_
 rintro e w10 ⟨⟨u, v, tb, tm, tc, tk, rfl, hti⟩, hx⟩
 obtain ⟨TM, hT⟩ := hti.rows
 clear hti
 obtain ⟨W10, hW10⟩ : ∃ W, W = w10.alloc (.cells #[.int .i64 u, .int .i64 v, .slice tb tm tc] 52) := ⟨_, rfl⟩
 have hxW : Ext w10 W10 := by rw [hW10]; exact Ext.alloc _ _
 have X10 := Lib.hid (XZ.out.trans (hx.trans hxW))
 have HT := Lib.hid (hT.ext hxW)
 have g0 : W10.cell? ⟨w10.heap.size, 0, none⟩ = some (.int .i64 u) := by rw [hW10]; simp
 have g1 : W10.cell? ⟨w10.heap.size, 1, none⟩ = some (.int .i64 v) := by rw [hW10]; simp
 have g2 : W10.cell? ⟨w10.heap.size, 2, none⟩ = some (.slice tb tm tc) := by rw [hW10]; simp
 obtain ⟨tok, htok⟩ : ∃ o, o = tradeOk u v TM tk := ⟨_, rfl⟩
 have HTOK := Lib.hid htok
 obtain ⟨tv, htv⟩ : ∃ o, o = (tradeR u v TM tk).2 := ⟨_, rfl⟩
 have HTV := Lib.hid htv
 have e1 : (tok == tok) = true := by simp
 have e3 : (tv == tv) = true := by simp
 clear hT hx hxW htok htv
 go_upto_region 22 with fail
 rw [← hW10]
 clear hW10
 generalize w10.heap.size = bt at g0 g1 g2 ⊢
 go_wp2_with fail
 have HC := Lib.hid (i_BestTrades (x := u) (y := v) (s := tk) HT.out)
 rw [← HTOK.out, ← HTV.out] at HC
 refine HC.out.mono ?_
 rintro e w11 ⟨⟨v1, rfl, ho⟩, hx⟩
 obtain ⟨a11, n11, c11, rfl, HN11⟩ := ho.var
 have I11 := Lib.hid ho.ints
 have X11 := Lib.hid hx
 replace g0 := hx.cellSome g0
 replace g1 := hx.cellSome g1
 replace g2 := hx.cellSome g2
 clear ho hx HC
 go_wp2_with fail
 have HC := Lib.hid (s_BestTrades (x := u) (y := v) (s := tk) (HT.out.ext X11.out))
 rw [← HTOK.out, ← HTV.out] at HC
 refine HC.out.mono ?_
 rintro e w12 ⟨⟨v2, rfl, ho⟩, hx⟩
 obtain ⟨a12, n12, c12, rfl, HN12⟩ := ho.var
 have HE := Lib.hid (l_sameInts (I11.out.ext hx) ho.ints)
 rw [decide_eq_true rfl] at HE
 have X12 := Lib.hid (X10.out.trans (X11.out.trans hx))
 clear ho hx HC g0 g1 g2
 go_wp2_with fail
 refine HE.out.mono ?_
 rintro e w13 ⟨rfl, hx⟩
 have X13 := Lib.hid (X12.out.trans hx.ext)
 clear hx HE
 go_wp2_with fail
 go_ret
 exact ⟨rfl, X13.out⟩
end Go.Proofs.YthjjfkeacobikaaGreat
