import Derived.Test.YthjjfkeacobikaaGreatVoAllG8
import Derived.Test.YthjjfkeacobikaaGreatVoAllG21
import Derived.Test.YthjjfkeacobikaaGreatVoAllG22
import Derived.Test.YthjjfkeacobikaaGreatVoAllG10
import Derived.Test.YthjjfkeacobikaaGreatVoAllG23
import Derived.Test.YthjjfkeacobikaaGreatVoAllG28
namespace Go.Proofs.YthjjfkeacobikaaGreat
set_option linter.unusedVariables false
set_option linter.unusedSimpArgs false
set_option maxRecDepth 100000
open Go.RowKit
theorem OwnI.litV (w : World) (base : Nat) (x : Int) (hb : base ≤ w.heap.size) : OwnI (w.alloc (.cells #[.int .i64 x] 3)) base (.slice (some ⟨w.heap.size, 0, none⟩) 1 1) [x] :=
 World.ownsRow_lit w #[.int .i64 x] 1 hb (by simp [maxLen]) rfl
theorem pickV : ∀ k, k < 6 → 0 ≤ ([0, 1, 1, 2, 3, 5] : List Int)[k]?.getD 0 ∧ ([0, 1, 1, 2, 3, 5] : List Int)[k]?.getD 0 ≤ 100 := by
 have : ∀ k : Fin 6, 0 ≤ ([0, 1, 1, 2, 3, 5] : List Int)[k.val]?.getD 0 ∧ ([0, 1, 1, 2, 3, 5] : List Int)[k.val]?.getD 0 ≤ 100 := by decide
 exact fun k hk => this ⟨k, hk⟩
theorem pickU : ∀ k, k < 3 → -1 ≤ ([0, -1, 99] : List Int)[k]?.getD 0 ∧ ([0, -1, 99] : List Int)[k]?.getD 0 ≤ 99 := by
 have : ∀ k : Fin 3, -1 ≤ ([0, -1, 99] : List Int)[k.val]?.getD 0 ∧ ([0, -1, 99] : List Int)[k.val]?.getD 0 ≤ 99 := by decide
 exact fun k hk => this ⟨k, hk⟩
theorem pickT : ∀ k, k < 2 → -1 ≤ ([-1, 101] : List Int)[k]?.getD 0 ∧ ([-1, 101] : List Int)[k]?.getD 0 ≤ 101 := by
 have : ∀ k : Fin 2, -1 ≤ ([-1, 101] : List Int)[k.val]?.getD 0 ∧ ([-1, 101] : List Int)[k.val]?.getD 0 ≤ 101 := by decide
 exact fun k hk => this ⟨k, hk⟩
set_option maxHeartbeats 8000000 in
theorem s_l20Draw {w : World} {cb : Nat} (h : Cur w cb) :
 Calls Tryz.prog 156 #[.pointer (some ⟨cb, 0, none⟩)] w fun e w' => (∃ (x : Int) (a : Option Addr) (n c : Nat) (L : List Int), e = .returned (.agg #[.int .i64 x, .slice a n c]) ∧ OwnI w' w.heap.size (.slice a n c) L ∧ 1 ≤ n ∧ n ≤ 4 ∧ Few L ∧ 1 ≤ x ∧ x ≤ sumW L) ∧ Cur w' cb ∧ w.grownBy w' (some cb) := by
 have hcl := h.lt
 obtain ⟨W, hW⟩ : ∃ W, W = w.alloc (.cells #[.int .i64 0, .slice none 0 0] 26) := ⟨_, rfl⟩
 have hws : W.heap.size = w.heap.size + 1 := by rw [hW]; simp
 have HB0 := Lib.hid (show Bxs w W cb (Bx.nil.upd w.heap.size (#[.int .i64 0, .slice none 0 0], 26)) by
  rw [hW]; exact (Bxs.start h (grown_ext (some cb) (Ext.refl w))).new #[.int .i64 0, .slice none 0 0] 26 (pair_dry _ _ (slice_dry _ _ _)))
 clear h
 go_enter Tryz.func156, Tryz.ntmps156
 go_upto_region 1 with fail
 rw [← hW]
 clear hW
 go_wp2_with fail
 refine (s_l1Below HB0.out.cur 5 (by omega)).mono ?_
 rintro e w0 ⟨⟨y, rfl, hy0, hy1⟩, hc, hg⟩
 have hs0 := hg.size
 obtain ⟨E, hE⟩ : ∃ E, E = (w0.alloc (.cells #[.int .i64 (1 + y)] 3)).alloc (.cells #[.int .i64 0, .slice (some ⟨w0.heap.size, 0, none⟩) 1 1] 26) := ⟨_, rfl⟩
 obtain ⟨bx, hbx⟩ : ∃ b, b = w0.heap.size + 1 := ⟨_, rfl⟩
 have HBE := Lib.hid (show Bxs w E cb (prBx 26 w.heap.size bx 0 (some ⟨w0.heap.size, 0, none⟩) 1 1) by
  rw [hE, hbx]
  have h1 := ((HB0.out.call hc hg).ext (Ext.alloc w0 (.cells #[.int .i64 (1 + y)] 3))).new #[.int .i64 0, .slice (some ⟨w0.heap.size, 0, none⟩) 1 1] 26 (pair_dry _ _ (slice_dry _ _ _))
  rw [World.size_alloc] at h1
  exact h1)
 have HOE := Lib.hid (show OwnI E (w.heap.size + 1) (.slice (some ⟨w0.heap.size, 0, none⟩) 1 1) [1 + y] by
  rw [hE]; exact (OwnI.litV w0 _ (1 + y) (by omega)).ext (Ext.alloc _ _))
 have hse : w.heap.size + 3 ≤ E.heap.size := by rw [hE]; simp; omega
 have hbw : w.heap.size + 1 < bx := by omega
 have HY := Lib.hid (show 1 ≤ 1 + y ∧ 1 + y ≤ 5 from ⟨by omega, by omega⟩)
 have hne : w.heap.size ≠ bx := by omega
 generalize (1 + y) = y1 at HOE HY
 go_upto_region 2 with fail
 rw [← hE, ← hbx]
 clear hE hbx hc hg hy0 hy1 hs0 hws
 generalize (some (⟨w0.heap.size, 0, none⟩ : Addr)) = a0 at HBE HOE
 go_wp2_with fail
 refine (s_l1Below HBE.out.cur 4 (by omega)).mono ?_
 rintro e w1 ⟨⟨ym, rfl, hy0, hy1⟩, hc, hg⟩
 have HB1 := Lib.hid (HBE.out.call hc hg)
 have HO1 := Lib.hid (HOE.out.calls hg (show cb < w.heap.size + 1 by omega))
 have hs1 := hg.size
 obtain ⟨m, rfl⟩ : ∃ m : Nat, ym = (m : Int) := ⟨ym.toNat, by omega⟩
 have hm3 : m ≤ 3 := by omega
 clear hc hg hy0 hy1
 go_wp2_with fail
 go_loopg [5] m (fun gk ii wr => ∃ (k : Nat) (a1 : Option Addr) (n1 p1 : Nat) (L : List Int), Hid (gk + k = m) ∧ ii = .int .i64 (k : Int) ∧ Hid (L.length = k + 1) ∧ Hid (Few L) ∧ Hid (1 ≤ L.sum) ∧ Hid (Bxs w wr cb (prBx 26 w.heap.size bx 0 a1 n1 p1)) ∧ Hid (OwnI wr (w.heap.size + 1) (.slice a1 n1 p1) L) ∧ Hid (w.heap.size + 1 ≤ wr.heap.size))
 case atStart => exact ⟨0, _, _, _, [y1], Lib.hid (by omega), rfl, Lib.hid rfl, Lib.hid (fun x hx => by rw [List.mem_singleton] at hx; subst hx; have := HY.out; omega), Lib.hid (by have := HY.out; simp; omega), HB1, HO1, Lib.hid (by omega)⟩
 case round =>
  obtain ⟨g1, h_g1⟩ : ∃ x, x = gk := ⟨_, rfl⟩
  subst h_g1
  obtain ⟨wr, h_wr⟩ : ∃ x, x = wr := ⟨_, rfl⟩
  subst h_wr
  obtain ⟨k, a1, n1, p1, L, HK, rfl, HLL, HF, HSU, HB, HO, HSZ⟩ := hrel
  have hsz := HSZ.out
  have HN1 := Lib.hid (show n1 = k + 1 by
   have := HO.out.ints.hlen
   rw [← HLL.out]; exact this.symm)
  have hn3 : n1 ≤ 4 := by have := HN1.out; have := HK.out; omega
  by_cases hlt : k < m
  ·have hB := HB.out.ext (Ext.drew wr)
   have hO := HO.out.ext (Ext.drew wr)
   have HS := Lib.hid (fun (w' : World) (h : Bxs w w' cb (prBx 26 w.heap.size bx 0 a1 n1 p1)) => h.c1 prBx_b)
   go_wp2_with fail
   refine late_begin (M := [8]) (S := fun w' => w'.cell? ⟨bx, 1, none⟩ = some (.slice a1 n1 p1)) (by kernel_rfl) ?_
   have hHeld := HS.out _ hB
   obtain ⟨wd, hwd⟩ : ∃ y, y = wr.drew := ⟨_, rfl⟩
   have hsd : wr.heap.size ≤ wd.heap.size := by rw [hwd]; exact Nat.le_refl _
   rw [← hwd] at hB hO hHeld
   rw [← hwd]
   clear hwd
   have hBA := hB.ext (Ext.alloc wd (.cells #[.int .i64 0, .int .i64 1, .int .i64 1, .int .i64 2, .int .i64 3, .int .i64 5] 3))
   have hli : Ints (wd.alloc (.cells #[.int .i64 0, .int .i64 1, .int .i64 1, .int .i64 2, .int .i64 3, .int .i64 5] 3)) (some ⟨wd.heap.size, 0, none⟩) 6 6 [0, 1, 1, 2, 3, 5] := Ints.lit wd [0, 1, 1, 2, 3, 5] 3 (by decide)
   refine lp 0 ?_
   refine ll 1 ?_
   refine lp 2 ?_
   refine late_step (i := 3) (oi := ?_) ?_ ?_ ?_ (fun K hK => ?_)
   rotate_left
   ·simp only [gA, gB, gC]; rfl
   ·kernel_rfl
   ·kernel_rfl
   go_simp
   refine hK.out _ _ (fun _ => HS.out _ hBA) ?_
   clear hK K
   try simp only [Act.put, sA, sB, sC]
   refine late_step (i := 4) (oi := ?_) ?_ ?_ ?_ (fun K hK => ?_)
   rotate_left
   ·simp only [gA, gB, gC]; rfl
   ·kernel_rfl
   ·kernel_rfl
   go_simp
   go_at_call 106
   refine (s_l1PickInt hBA.cur hli (by omega) (fun b off e => by simp only [Option.some.injEq, Addr.mk.injEq, and_true] at e; omega)).mono ?_
   rintro e w5 ⟨⟨q, hq, rfl⟩, hc, hg⟩
   have hpk := pickV q hq
   obtain ⟨y, hy⟩ : ∃ y, y = ([0, 1, 1, 2, 3, 5] : List Int)[q]?.getD 0 := ⟨_, rfl⟩
   rw [← hy] at hpk
   rw [← hy]
   clear hy
   have hB5 := hBA.call hc hg
   have hO5 := (hO.ext (Ext.alloc _ _)).calls hg (show cb < w.heap.size + 1 by omega)
   have hs5 := hg.size
   rw [World.size_alloc] at hs5
   clear hc hg
   go_wp2_with fail
   refine hK.out _ _ (fun _ => HS.out _ hB5) ?_
   have hHeld := HS.out _ hB5
   clear hK K
   try simp only [Act.put, sA, sB, sC]
   refine late_step (i := 5) (oi := ?_) ?_ ?_ ?_ (fun K hK => ?_)
   rotate_left
   ·simp only [gA, gB, gC]; rfl
   ·kernel_rfl
   ·kernel_rfl
   go_simp
   refine hK.out _ _ (fun _ => HS.out _ (hB5.ext (Ext.alloc _ _))) ?_
   clear hK K
   try simp only [Act.put, sA, sB, sC]
   refine late_step (i := 6) (oi := ?_) ?_ ?_ ?_ (fun K hK => ?_)
   rotate_left
   ·simp only [gA, gB, gC]; rfl
   ·kernel_rfl
   ·kernel_rfl
   refine wp_append_ints _ _ (by rfl) (w.heap.size + 1) (.slice a1 n1 p1) L (by rfl) (hO5.ext (Ext.alloc _ _)) _ 1 _ [y] (by rfl) (Ints.oneS _ _ _ _ rfl) (by rw [HLL.out]; omega) (by simp; omega) ?_
   intro v6 w6 ho hg hnear
   obtain ⟨a6, n6, p6, rfl, HN6⟩ := ho.var
   have HB6 := Lib.hid ((hB5.ext (Ext.alloc _ _)).grew hg (fun j hj => by have := (hO5.lt j hj).1; exact ⟨by omega, by omega, prBx_o (by omega) (fun e => ownsRow_ne hO5 (hB5.box _ _ prBx_b).1 (show 3 ≠ 26 by decide) (by rw [hj]; exact congrArg some e.symm))⟩))
   have HO6 := Lib.hid ho
   have c6 := HB6.out.c1 prBx_b
   have cf6 := HB6.out.free (b := bx) prBx_b
   have hs6 := hg.size
   rw [World.size_alloc] at hs6
   clear ho hg hnear
   refine hK.out _ _ (fun _ => c6) ?_
   have hHeld := c6
   clear hK K
   try simp only [Act.put, sA, sB, sC]
   refine lp 7 ?_
   refine late_one (i := 8) (oi := ?_) (w' := ?_) ?_ ?_ ?_ ?_ ?_ ?_ ?_
   rotate_left 2
   ·simp only [gA, gB, gC]; rfl
   ·kernel_rfl
   ·kernel_rfl
   ·exact of_decide_eq_true (by kernel_rfl)
   ·rfl
   ·go_simp; (try with_reducible rfl)
   try simp only [Act.put, sA, sB, sC]
   refine late_done (by kernel_rfl) ?_ _
   have HB7 := Lib.hid (show Bxs w (w6.setCell ⟨bx, 1, none⟩ (.slice a6 n6 p6)) cb (prBx 26 w.heap.size bx 0 a6 n6 p6) from by
    have := HB6.out.put (b := bx) prBx_b 1 (.slice a6 n6 p6) (slice_dry _ _ _)
    rw [← prBx_set (x := 0) (a := a1) (n := n1) (c := p1)]
    exact this)
   have HO7 := Lib.hid (HO6.out.keep (w' := w6.setCell ⟨bx, 1, none⟩ (.slice a6 n6 p6)) fun j hj => heap_setCell_other _ _ _ _ (fun e => ownsRow_ne HO6.out (HB6.out.box _ _ prBx_b).1 (show 3 ≠ 26 by decide) (by rw [hj]; exact congrArg some e.symm)))
   have HF7 := Lib.hid (show Few (L ++ [y]) from fun z hz => by
    rcases List.mem_append.1 hz with h | h
    ·exact HF.out z h
    ·rw [List.mem_singleton] at h; subst h; exact hpk)
   clear hHeld c6 cf6 hB hO hBA hli hB5 hO5
   go_wp2_with fail
   go_roundg (g1 - 1)
   case measure => have := HK.out; omega
   case rel => exact ⟨k + 1, a6, n6, p6, L ++ [y], Lib.hid (by have := HK.out; omega), by go_num, Lib.hid (by rw [List.length_append, HLL.out]; rfl), HF7, Lib.hid (by rw [List.sum_append]; have := HSU.out; simp; omega), HB7, HO7, Lib.hid (by simp; omega)⟩
  ·have hkm : k = m := by have := HK.out; omega
   subst hkm
   have hn11 : 1 ≤ n1 := by have := HN1.out; omega
   have hSg := HSU.out
   have c1 := HB.out.c1 (b := bx) prBx_b
   have hsm := sumW_few' HF.out (by rw [HLL.out]; omega)
   obtain ⟨S, hS⟩ : ∃ S, S = sumW L := ⟨_, rfl⟩
   rw [← hS] at hsm
   have HSS := Lib.hid hS
   have hS1 : 1 ≤ S := by have := hsm.1; omega
   have hS2 : S ≤ 400 := by have := hsm.2.2; rw [HLL.out] at this; omega
   clear hS hsm
   go_wp2_with fail
   refine (s_l18Sum HO.out.ints).mono ?_
   rw [← HSS.out]
   rintro e w2 ⟨rfl, rfl⟩
   go_wp2_with fail
   refine (s_l1Below HB.out.cur S (by omega)).mono ?_
   rintro e w3 ⟨⟨x0, rfl, hx0, hx1⟩, hc, hg⟩
   obtain ⟨x, hxe⟩ : ∃ x, x = 1 + x0 := ⟨_, rfl⟩
   have hxw : IntKind.i64.wrap (1 + x0) = x := by rw [IntKind.wrap_i64]; omega
   have hxb0 : 1 ≤ x := by omega
   have hxb1 : x ≤ S := by omega
   clear hxe
   have HB3 := Lib.hid (HB.out.call hc hg)
   have HO3 := Lib.hid (HO.out.calls hg (show cb < w.heap.size + 1 by omega))
   have d0 := HB3.out.c0 (b := bx) prBx_b
   have df := HB3.out.free (b := bx) prBx_b
   have HB4 := Lib.hid (show Bxs w (w3.setCell ⟨bx, 0, none⟩ (.int .i64 x)) cb (prBx 26 w.heap.size bx x a1 n1 p1) from by
    have := HB3.out.put (b := bx) prBx_b 0 (.int .i64 x) (i64_dry _)
    rw [← prBx_set (x := 0) (a := a1) (n := n1) (c := p1)]
    exact this)
   have HO4 := Lib.hid (HO3.out.keep (w' := w3.setCell ⟨bx, 0, none⟩ (.int .i64 x)) fun j hj => heap_setCell_other _ _ _ _ (fun e => ownsRow_ne HO3.out (HB3.out.box _ _ prBx_b).1 (show 3 ≠ 26 by decide) (by rw [hj]; exact congrArg some e.symm)))
   clear hc hg c1
   obtain ⟨w4, hw4⟩ : ∃ z, z = w3.setCell ⟨bx, 0, none⟩ (.int .i64 x) := ⟨_, rfl⟩
   rw [← hw4] at HB4 HO4
   have q0 := HB4.out.c0 (b := bx) prBx_b
   have q1 := HB4.out.c1 (b := bx) prBx_b
   have r0 := HB4.out.c0 (b := w.heap.size) (prBx_r hne)
   have r1 := HB4.out.c1 (b := w.heap.size) (prBx_r hne)
   have rf := HB4.out.free (b := w.heap.size) (prBx_r hne)
   have HB5 := Lib.hid (HB4.out.put2 (prBx_r hne) (.int .i64 x) (.slice a1 n1 p1) (i64_dry _) (slice_dry _ _ _))
   have HO5 := Lib.hid (HO4.out.put2 (show w.heap.size < w.heap.size + 1 by omega) (.int .i64 x) (.slice a1 n1 p1))
   have z0 := HB5.out.c0 (Bx.same _ _ _)
   have z1 := HB5.out.c1 (Bx.same _ _ _)
   go_upto_region 8 with fail
   rw [← hw4]
   clear hw4 d0 df
   go_wp2_with fail
   refine bodyPost_ret (v := .agg #[.int .i64 x, .slice a1 n1 p1]) (by simp [results, Tryz.results156, go_sem, z0, z1]) rfl ⟨⟨x, a1, n1, p1, L, rfl, HO5.out.mono (by omega), by omega, by omega, HF.out, by omega, by rw [← HSS.out]; omega⟩, HB5.out.cur, HB5.out.grown⟩
set_option maxHeartbeats 8000000 in
theorem s_l20Bent {w : World} {cb : Nat} (h : Cur w cb) :
 Calls Tryz.prog 67 #[.pointer (some ⟨cb, 0, none⟩)] w fun e w' => (∃ (x : Int) (a : Option Addr) (n c : Nat) (L : List Int), e = .returned (.agg #[.int .i64 x, .slice a n c]) ∧ OwnI w' w.heap.size (.slice a n c) L ∧ n ≤ 4 ∧ FewB L ∧ -1 ≤ x ∧ x ≤ 501) ∧ Cur w' cb ∧ w.grownBy w' (some cb) := by
 have hcl := h.lt
 obtain ⟨W, hW⟩ : ∃ W, W = w.alloc (.cells #[.int .i64 0, .slice none 0 0] 26) := ⟨_, rfl⟩
 have hws : W.heap.size = w.heap.size + 1 := by rw [hW]; simp
 have HB0 := Lib.hid (show Bxs w W cb (Bx.nil.upd w.heap.size (#[.int .i64 0, .slice none 0 0], 26)) by
  rw [hW]; exact (Bxs.start h (grown_ext (some cb) (Ext.refl w))).new #[.int .i64 0, .slice none 0 0] 26 (pair_dry _ _ (slice_dry _ _ _)))
 clear h
 go_enter Tryz.func67, Tryz.ntmps67
 go_upto_region 1 with fail
 rw [← hW]
 clear hW
 go_wp2_with fail
 refine (s_l20Draw HB0.out.cur).mono ?_
 rintro e w3 ⟨⟨x, a, n, c, L, rfl, ho, hn1, hn3, hfew, hx0, hx1⟩, hc, hg⟩
 have hs3 := hg.size
 have hsm := sumW_few' hfew (by have := ho.ints.hlen; omega)
 have hxb : -1 ≤ x ∧ x ≤ 501 := by have := ho.ints.hlen; omega
 have HF := Lib.hid hfew.b
 have HOL := Lib.hid (fun k hk => (ho.lt k hk).2)
 have hcap := ho.ints.hcap
 have hmax := ho.ints.hmax
 obtain ⟨w4, hw4⟩ : ∃ E, E = w3.alloc (.cells #[.int .i64 x, .slice a n c] 26) := ⟨_, rfl⟩
 have HB4 := Lib.hid (show Bxs w w4 cb (prBx 26 w.heap.size w3.heap.size x a n c) from hw4 ▸ (HB0.out.call hc hg).new _ _ (pair_dry _ _ (slice_dry _ _ _)))
 have HO4 := Lib.hid (show OwnI w4 (w.heap.size + 1) (.slice a n c) L from hw4 ▸ (ho.mono (by omega)).ext (Ext.alloc _ _))
 obtain ⟨hxb0, hxb1⟩ := hxb
 clear hc hg ho hfew hsm hx0 hx1
 have hne : w.heap.size ≠ w3.heap.size := by omega
 go_upto_region 2 with fail
 rw [← hw4]
 clear hw4
 go_wp2_with fail
 refine (s_l1Below HB4.out.cur 12 (by omega)).mono ?_
 rintro e w5 ⟨⟨z, rfl, hz0, hz1⟩, hc, hg⟩
 have HB5 := Lib.hid (HB4.out.call hc hg)
 have HO5 := Lib.hid (HO4.out.calls hg (show cb < w.heap.size + 1 by omega))
 have hs5 := hg.size
 clear hc hg
 have hcase : z = 0 ∨ z = 1 ∨ 2 ≤ z := by omega
 rcases hcase with rfl | rfl | hz3
 ·have hli : Ints (w5.alloc (.cells #[.int .i64 0, .int .i64 (-1), .int .i64 99] 3)) (some ⟨w5.heap.size, 0, none⟩) 3 3 [0, -1, 99] := Ints.lit w5 [0, -1, 99] 3 (by decide)
  have hBA := HB5.out.ext (Ext.alloc w5 (.cells #[.int .i64 0, .int .i64 (-1), .int .i64 99] 3))
  have hOA := HO5.out.ext (Ext.alloc w5 (.cells #[.int .i64 0, .int .i64 (-1), .int .i64 99] 3))
  have hcl5 := HB5.out.cur.lt
  go_wp2_with fail
  refine (s_l1PickInt hBA.cur hli (by omega) (fun b off e => by simp only [Option.some.injEq, Addr.mk.injEq, and_true] at e; omega)).mono ?_
  rintro e w6 ⟨⟨q, hq, rfl⟩, hc, hg⟩
  have hpk := pickU q hq
  obtain ⟨y, hy⟩ : ∃ y, y = ([0, -1, 99] : List Int)[q]?.getD 0 := ⟨_, rfl⟩
  rw [← hy] at hpk
  rw [← hy]
  obtain ⟨hy0, hy1⟩ := hpk
  have HB6 := Lib.hid (hBA.call hc hg)
  have HO6 := Lib.hid (hOA.calls hg (show cb < w.heap.size + 1 by omega))
  have d0 := HB6.out.c0 (b := w3.heap.size) prBx_b
  have df := HB6.out.free (b := w3.heap.size) prBx_b
  have HB7 := Lib.hid (show Bxs w (w6.setCell ⟨w3.heap.size, 0, none⟩ (.int .i64 y)) cb (prBx 26 w.heap.size w3.heap.size y a n c) from by
   have := HB6.out.put (b := w3.heap.size) prBx_b 0 (.int .i64 y) (i64_dry _)
   rw [← prBx_set (x := x) (a := a) (n := n) (c := c)]
   exact this)
  have HO7 := Lib.hid (HO6.out.keep (w' := w6.setCell ⟨w3.heap.size, 0, none⟩ (.int .i64 y)) fun j hj => heap_setCell_other _ _ _ _ (by have := HOL.out j hj; show j ≠ w3.heap.size; omega))
  clear hc hg hy hBA hOA hli
  have q0 := HB7.out.c0 (b := w3.heap.size) prBx_b
  have q1 := HB7.out.c1 (b := w3.heap.size) prBx_b
  have r0 := HB7.out.c0 (b := w.heap.size) (prBx_r hne)
  have r1 := HB7.out.c1 (b := w.heap.size) (prBx_r hne)
  have rf := HB7.out.free (b := w.heap.size) (prBx_r hne)
  have HB9 := Lib.hid (HB7.out.put2 (prBx_r hne) (.int .i64 y) (.slice a n c) (i64_dry _) (slice_dry _ _ _))
  have HO9 := Lib.hid (HO7.out.put2 (show w.heap.size < w.heap.size + 1 by omega) (.int .i64 y) (.slice a n c))
  have z0 := HB9.out.c0 (Bx.same _ _ _)
  have z1 := HB9.out.c1 (Bx.same _ _ _)
  go_wp2_with fail
  refine bodyPost_ret (v := .agg #[.int .i64 y, .slice a n c]) (by simp [results, Tryz.results67, go_sem, z0, z1]) rfl ⟨⟨_, a, n, c, _, rfl, HO9.out.mono (by omega), by omega, HF.out, by omega, by omega⟩, HB9.out.cur, HB9.out.grown⟩
 ·have hn0 : 0 < n := hn1
  obtain ⟨g, rfl, hgb, hgf, hgl⟩ := HO5.out.block (k := 0) (by omega)
  have hg3 := HOL.out g rfl
  have hHO := HO5.out
  have hB := HB5.out.ext (Ext.drew w5)
  have hO := HO5.out.ext (Ext.drew w5)
  have hcl5 := HB5.out.cur.lt
  have HS := Lib.hid (fun (w' : World) (h : Bxs w w' cb (prBx 26 w.heap.size w3.heap.size x (some ⟨g, 0, none⟩) n c)) => h.c1 prBx_b)
  clear hHO
  go_wp2_with fail
  refine wp_region_held_drew (S := (fun w' => w'.cell? ⟨w3.heap.size, 1, none⟩ = some (.slice (some ⟨g, 0, none⟩) n c))) (by kernel_rfl) ?_ (fun hHeld => ?_)
  ·exact HS.out _ hB
  obtain ⟨wd, hwd⟩ : ∃ y, y = w5.drew := ⟨_, rfl⟩
  have hsd : w5.heap.size ≤ wd.heap.size := by rw [hwd]; exact Nat.le_refl _
  rw [← hwd] at hB hO hHeld
  rw [← hwd]
  clear hwd
  have hli : Ints (wd.alloc (.cells #[.int .i64 (-1), .int .i64 101] 3)) (some ⟨wd.heap.size, 0, none⟩) 2 2 [-1, 101] := Ints.lit wd [-1, 101] 3 (by decide)
  have hBA := hB.ext (Ext.alloc wd (.cells #[.int .i64 (-1), .int .i64 101] 3))
  have hOA := hO.ext (Ext.alloc wd (.cells #[.int .i64 (-1), .int .i64 101] 3))
  refine tk 0 ?_
  refine tk 1 ?_
  refine tk 2 ?_
  refine rd (i := 3) (h := fun K hK => ?_)
  go_simp
  refine hK.out _ _ ?_ (fun hHeld => ?_)
  ·exact HS.out _ hBA
  clear hK K
  try simp only [Act.put, sA, sB, sC]
  refine rd (i := 4) (h := fun K hK => ?_)
  go_simp
  refine (s_l1PickInt hBA.cur hli (by omega) (fun b off e => by simp only [Option.some.injEq, Addr.mk.injEq, and_true] at e; omega)).mono ?_; rintro e w6 ⟨⟨q, hq, rfl⟩, hc, hg⟩; have hpk := pickT q hq; obtain ⟨y, hy⟩ : ∃ y, y = ([-1, 101] : List Int)[q]?.getD 0 := ⟨_, rfl⟩; rw [← hy] at hpk; rw [← hy]; clear hy; have HB6 := Lib.hid (hBA.call hc hg); have HO6 := Lib.hid (hOA.calls hg (show cb < w.heap.size + 1 by omega)); obtain ⟨u1, u2, hu, hcv⟩ := HO6.out.ints.at (k := 0) (by omega); simp only [Option.some.injEq, Addr.mk.injEq, and_true] at hu; obtain ⟨rfl, rfl⟩ := hu; rw [Nat.zero_add] at hcv; obtain ⟨g2, hg2, _, hfv, _⟩ := HO6.out.block (k := 0) (by omega); obtain rfl : g = g2 := (by simpa using hg2); clear hg2 hc hg
  go_wp2_with fail
  refine hK.out _ _ ?_ (fun hHeld => ?_)
  ·exact HS.out _ HB6.out
  clear hK K
  try simp only [Act.put, sA, sB, sC]
  refine tk 5 ?_
  have HB7 := Lib.hid (HB6.out.putr (b := g) (k := 0) (by omega) (by omega) (prBx_o (by omega) (by omega)) hcv (i64_dry _) (.int .i64 y))
  have HO7 := Lib.hid (HO6.out.set 0 y)
  refine rd (i := 6) (h := fun K hK => ?_)
  go_simp
  refine hK.out _ _ ?_ (fun hHeld => ?_)
  ·exact HS.out _ HB7.out
  clear hK K
  try simp only [Act.put, sA, sB, sC]
  refine wpAnyH_done (by kernel_rfl) ?_ _
  have HF7 := Lib.hid (HF.out.set 0 hpk)
  clear hHeld hB hO hBA hOA hli hcv hfv
  have q0 := HB7.out.c0 (b := w3.heap.size) prBx_b
  have q1 := HB7.out.c1 (b := w3.heap.size) prBx_b
  have r0 := HB7.out.c0 (b := w.heap.size) (prBx_r hne)
  have r1 := HB7.out.c1 (b := w.heap.size) (prBx_r hne)
  have rf := HB7.out.free (b := w.heap.size) (prBx_r hne)
  have HB9 := Lib.hid (HB7.out.put2 (prBx_r hne) (.int .i64 x) (.slice (some ⟨g, 0, none⟩) n c) (i64_dry _) (slice_dry _ _ _))
  have HO9 := Lib.hid (HO7.out.put2 (show w.heap.size < w.heap.size + 1 by omega) (.int .i64 x) (.slice (some ⟨g, 0, none⟩) n c))
  have z0 := HB9.out.c0 (Bx.same _ _ _)
  have z1 := HB9.out.c1 (Bx.same _ _ _)
  go_wp2_with fail
  refine bodyPost_ret (v := .agg #[.int .i64 x, .slice (some ⟨g, 0, none⟩) n c]) (by simp [results, Tryz.results67, go_sem, z0, z1]) rfl ⟨⟨_, (some ⟨g, 0, none⟩), n, c, _, rfl, HO9.out.mono (by omega), by omega, HF7.out, by omega, by omega⟩, HB9.out.cur, HB9.out.grown⟩
 ·have e0 : (z == 0) = false := by simp; omega
  have e1 : (z == 1) = false := by simp; omega
  have q0 := HB5.out.c0 (b := w3.heap.size) prBx_b
  have q1 := HB5.out.c1 (b := w3.heap.size) prBx_b
  have r0 := HB5.out.c0 (b := w.heap.size) (prBx_r hne)
  have r1 := HB5.out.c1 (b := w.heap.size) (prBx_r hne)
  have rf := HB5.out.free (b := w.heap.size) (prBx_r hne)
  have HB9 := Lib.hid (HB5.out.put2 (prBx_r hne) (.int .i64 x) (.slice a n c) (i64_dry _) (slice_dry _ _ _))
  have HO9 := Lib.hid (HO5.out.put2 (show w.heap.size < w.heap.size + 1 by omega) (.int .i64 x) (.slice a n c))
  have z0 := HB9.out.c0 (Bx.same _ _ _)
  have z1 := HB9.out.c1 (Bx.same _ _ _)
  go_wp2_with fail
  refine bodyPost_ret (v := .agg #[.int .i64 x, .slice a n c]) (by simp [results, Tryz.results67, go_sem, z0, z1]) rfl ⟨⟨_, a, n, c, _, rfl, HO9.out.mono (by omega), by omega, HF.out, by omega, by omega⟩, HB9.out.cur, HB9.out.grown⟩
set_option maxHeartbeats 4000000 in
theorem s_DrawVotingGame {w : World} {a : Option Addr} {n cap : Nat} (h : Bytes w a n cap) (hn : n ≤ 1048576) :
 Calls Tryz.prog 10 #[.slice a n cap] w fun e w' => (∃ (x : Int) (b : Option Addr) (m c : Nat) (L : List Int), e = .returned (.agg #[.int .i64 x, .slice b m c]) ∧ Ints w' b m c L ∧ m ≤ 4) ∧ Ext w w' := by
 obtain ⟨W, hW⟩ : ∃ W, W = w.alloc (.cells #[.int .i64 0, .slice none 0 0] 26) := ⟨_, rfl⟩
 have hws : W.heap.size = w.heap.size + 1 := by rw [hW]; simp
 have hX : Ext w W := by rw [hW]; exact Ext.alloc _ _
 have HR2 := Lib.hid (show W.heap[w.heap.size]? = some (.cells #[.int .i64 0, .slice none 0 0] 26 (0, 0)) by rw [hW]; exact heapA_new _ _ _ rfl)
 have HX := Lib.hid hX
 have HN := Lib.hid (s_l1New (h.ext hX) hn)
 clear h hX
 go_enter Tryz.func10, Tryz.ntmps10
 go_wp2_with fail
 rw [← hW]
 refine HN.out.mono ?_
 rintro e w1 ⟨⟨cb, rfl, hcb, hc⟩, hx⟩
 have hs1 := hx.size
 have hcl := hc.lt
 have HB1 := Lib.hid ((Bxs.start hc (grown_ext (some cb) (HX.out.trans hx))).add w.heap.size _ _ ((hx.block _ (by omega)).trans HR2.out) (by omega) (by omega) (pair_dry _ _ (slice_dry _ _ _)))
 clear hc hx HR2 hW
 go_wp2_with fail
 refine (s_l20Bent HB1.out.cur).mono ?_
 rintro e w2 ⟨⟨x, b, m, c, L, rfl, ho, hm, hfew, hx0, hx1⟩, hc, hg⟩
 have HB2 := Lib.hid (HB1.out.call hc hg)
 have r0 := HB2.out.c0 (Bx.same _ _ _)
 have r1 := HB2.out.c1 (Bx.same _ _ _)
 have rf := HB2.out.free (b := w.heap.size) (Bx.same _ _ _)
 have HB3 := Lib.hid (HB2.out.put2 (Bx.same _ _ _) (.int .i64 x) (.slice b m c) (i64_dry _) (slice_dry _ _ _))
 have HO3 := Lib.hid (ho.put2 (show w.heap.size < w1.heap.size by omega) (.int .i64 x) (.slice b m c))
 have z0 := HB3.out.c0 (Bx.same _ _ _)
 have z1 := HB3.out.c1 (Bx.same _ _ _)
 have HX3 := Lib.hid (HB3.out.all (by omega))
 clear hc hg ho
 go_wp2_with fail
 refine bodyPost_ret (v := .agg #[.int .i64 x, .slice b m c]) (by simp [results, Tryz.results10, go_sem, z0, z1]) rfl ⟨⟨x, b, m, c, L, rfl, HO3.out.ints, hm⟩, HX3.out⟩
set_option maxHeartbeats 4000000 in
theorem s_DrawIsDictator {w : World} {a : Option Addr} {n cap : Nat} (h : Bytes w a n cap) (hn : n ≤ 1048576) :
 Calls Tryz.prog 23 #[.slice a n cap] w fun e w' => (∃ (x : Int) (b : Option Addr) (m c : Nat) (L : List Int) (k : Int), e = .returned (.tuple #[.agg #[.int .i64 x, .slice b m c], .int .i64 k]) ∧ Ints w' b m c L ∧ m ≤ 4) ∧ Ext w w' := by
 obtain ⟨W, hW⟩ : ∃ W, W = w.alloc (.cells #[.int .i64 0, .slice none 0 0] 26) := ⟨_, rfl⟩
 have hws : W.heap.size = w.heap.size + 1 := by rw [hW]; simp
 have hX : Ext w W := by rw [hW]; exact Ext.alloc _ _
 have HR2 := Lib.hid (show W.heap[w.heap.size]? = some (.cells #[.int .i64 0, .slice none 0 0] 26 (0, 0)) by rw [hW]; exact heapA_new _ _ _ rfl)
 have HX := Lib.hid hX
 have HN := Lib.hid (s_l1New (h.ext hX) hn)
 clear h hX
 go_enter Tryz.func23, Tryz.ntmps23
 go_wp2_with fail
 rw [← hW]
 refine HN.out.mono ?_
 rintro e w1 ⟨⟨cb, rfl, hcb, hc⟩, hx⟩
 have hs1 := hx.size
 have hcl := hc.lt
 have HB1 := Lib.hid ((Bxs.start hc (grown_ext (some cb) (HX.out.trans hx))).add w.heap.size _ _ ((hx.block _ (by omega)).trans HR2.out) (by omega) (by omega) (pair_dry _ _ (slice_dry _ _ _)))
 clear hc hx HR2 hW
 go_wp2_with fail
 refine (s_l20Bent HB1.out.cur).mono ?_
 rintro e w2 ⟨⟨x, b, m, c, L, rfl, ho, hm, hfew, hx0, hx1⟩, hc, hg⟩
 have HB2 := Lib.hid (HB1.out.call hc hg)
 have HO2 := Lib.hid ho
 have hs2 := hg.size
 clear hc hg ho hfew
 go_wp2_with fail
 refine (s_l1Below HB2.out.cur 5 (by omega)).mono ?_
 rintro e w3 ⟨⟨y, rfl, hy0, hy1⟩, hc, hg⟩
 have HB3 := Lib.hid (HB2.out.call hc hg)
 have HO3 := Lib.hid (HO2.out.calls hg hcl)
 have r0 := HB3.out.c0 (b := w.heap.size) (Bx.same _ _ _)
 have r1 := HB3.out.c1 (b := w.heap.size) (Bx.same _ _ _)
 have rf := HB3.out.free (b := w.heap.size) (Bx.same _ _ _)
 have HB4 := Lib.hid (HB3.out.put2 (Bx.same _ _ _) (.int .i64 x) (.slice b m c) (i64_dry _) (slice_dry _ _ _))
 have HO4 := Lib.hid (HO3.out.put2 (show w.heap.size < w1.heap.size by omega) (.int .i64 x) (.slice b m c))
 have z0 := HB4.out.c0 (Bx.same _ _ _)
 have z1 := HB4.out.c1 (Bx.same _ _ _)
 have HX4 := Lib.hid (HB4.out.all (by omega))
 clear hc hg
 go_wp2_with fail
 refine bodyPost_ret (v := .tuple #[.agg #[.int .i64 x, .slice b m c], .int .i64 _]) (by simp [results, Tryz.results23, go_sem, z0, z1]; rfl) rfl ⟨⟨x, b, m, c, L, _, rfl, HO4.out.ints, hm⟩, HX4.out⟩
def twoVx (r2 r3 b5 : Nat) (x : Int) (a : Option Addr) (n c : Nat) : Bx := ((Bx.nil.upd r2 (#[.int .i64 0, .slice none 0 0], 26)).upd r3 (#[.int .i64 0, .slice none 0 0], 26)).upd b5 (#[.int .i64 x, .slice a n c], 26)
theorem twoVx5 (r2 r3 b5 : Nat) (x : Int) (a : Option Addr) (n c : Nat) : twoVx r2 r3 b5 x a n c b5 = some (#[.int .i64 x, .slice a n c], 26) := Bx.same _ _ _
theorem twoVx3 {r2 r3 b5 : Nat} (h : r3 ≠ b5) (x : Int) (a : Option Addr) (n c : Nat) : twoVx r2 r3 b5 x a n c r3 = some (#[.int .i64 0, .slice none 0 0], 26) := (Bx.other _ _ h).trans (Bx.same _ _ _)
theorem twoVx2 {r2 r3 b5 : Nat} (h : r2 ≠ b5) (h' : r2 ≠ r3) (x : Int) (a : Option Addr) (n c : Nat) : twoVx r2 r3 b5 x a n c r2 = some (#[.int .i64 0, .slice none 0 0], 26) := (Bx.other _ _ h).trans ((Bx.other _ _ h').trans (Bx.same _ _ _))
def sixVx (r2 r3 b5 b6 : Nat) (x : Int) (a : Option Addr) (n c : Nat) (y : Int) (a' : Option Addr) (n' c' : Nat) : Bx := (twoVx r2 r3 b5 x a n c).upd b6 (#[.int .i64 y, .slice a' n' c'], 26)
section
variable {r2 r3 b5 b6 : Nat} {x : Int} {a : Option Addr} {n c : Nat} {y : Int} {a' : Option Addr} {n' c' : Nat}
theorem sixVx6 : sixVx r2 r3 b5 b6 x a n c y a' n' c' b6 = some (#[.int .i64 y, .slice a' n' c'], 26) := Bx.same _ _ _
theorem sixVx5 (h : b5 ≠ b6) : sixVx r2 r3 b5 b6 x a n c y a' n' c' b5 = some (#[.int .i64 x, .slice a n c], 26) := (Bx.other _ _ h).trans (twoVx5 _ _ _ _ _ _ _)
theorem sixVx3 (h : r3 ≠ b6) (h' : r3 ≠ b5) : sixVx r2 r3 b5 b6 x a n c y a' n' c' r3 = some (#[.int .i64 0, .slice none 0 0], 26) := (Bx.other _ _ h).trans (twoVx3 h' _ _ _ _)
theorem sixVx2 (h : r2 ≠ b6) (h' : r2 ≠ b5) (h'' : r2 ≠ r3) : sixVx r2 r3 b5 b6 x a n c y a' n' c' r2 = some (#[.int .i64 0, .slice none 0 0], 26) := (Bx.other _ _ h).trans (twoVx2 h' h'' _ _ _ _)
theorem sixVx_off {k : Nat} (h6 : k ≠ b6) (h5 : k ≠ b5) (h3 : k ≠ r3) (h2 : k ≠ r2) : sixVx r2 r3 b5 b6 x a n c y a' n' c' k = none := (Bx.other _ _ h6).trans ((Bx.other _ _ h5).trans ((Bx.other _ _ h3).trans (Bx.other _ _ h2)))
theorem sixVx_set (y2 : Int) (a2 : Option Addr) (n2 c2 : Nat) : (sixVx r2 r3 b5 b6 x a n c y a' n' c').upd b6 (#[.int .i64 y2, .slice a2 n2 c2], 26) = sixVx r2 r3 b5 b6 x a n c y2 a2 n2 c2 := by
 refine Bx.ext fun k => ?_
 by_cases e : k = b6
 ·subst e; rw [Bx.same, sixVx6]
 ·rw [Bx.other _ _ e]; unfold sixVx; rw [Bx.other _ _ e, Bx.other _ _ e]
end
theorem few_at {L : List Int} (h : FewB L) (k : Nat) : -1 ≤ L[k]?.getD 0 ∧ L[k]?.getD 0 ≤ 101 := by
 by_cases hk : k < L.length
 ·rw [List.getElem?_eq_getElem hk, Option.getD_some]; exact h _ (List.getElem_mem _)
 ·rw [List.getElem?_eq_none (by omega)]; simp
set_option maxHeartbeats 4000000 in
theorem s_DrawSameVoting {w : World} {a : Option Addr} {n cap : Nat} (h : Bytes w a n cap) (hn : n ≤ 1048576) :
 Calls Tryz.prog 24 #[.slice a n cap] w fun e w' => (∃ (x y : Int) (b b' : Option Addr) (m c m' c' : Nat) (V V' : List Int), e = .returned (.tuple #[.agg #[.int .i64 x, .slice b m c], .agg #[.int .i64 y, .slice b' m' c']]) ∧ Ints w' b m c V ∧ Ints w' b' m' c' V' ∧ m ≤ 4 ∧ m' ≤ 4) ∧ Ext w w' := by
 obtain ⟨W, hW⟩ : ∃ W, W = (w.alloc (.cells #[.int .i64 0, .slice none 0 0] 26)).alloc (.cells #[.int .i64 0, .slice none 0 0] 26) := ⟨_, rfl⟩
 have HWS := Lib.hid (show W.heap.size = w.heap.size + 2 by rw [hW]; simp)
 have hX : Ext w W := by rw [hW]; exact (Ext.alloc _ _).trans (Ext.alloc _ _)
 have HR3 := Lib.hid (show W.heap[w.heap.size + 1]? = some (.cells #[.int .i64 0, .slice none 0 0] 26 (0, 0)) by rw [hW]; exact heapA_new _ _ _ (by simp))
 have HR2 := Lib.hid (show W.heap[w.heap.size]? = some (.cells #[.int .i64 0, .slice none 0 0] 26 (0, 0)) by rw [hW, heapA_old _ _ _ (by simp)]; exact heapA_new _ _ _ rfl)
 have HX := Lib.hid hX
 have HN := Lib.hid (s_l1New (h.ext hX) hn)
 clear h hX
 go_enter Tryz.func24, Tryz.ntmps24
 go_wp2_with fail
 rw [← hW]
 refine HN.out.mono ?_
 rintro e w1 ⟨⟨cb, rfl, hcb, hc⟩, hx⟩
 have hws := HWS.out
 have hs1 := hx.size
 have hcl := hc.lt
 have HB1 := Lib.hid (((Bxs.start hc (grown_ext (some cb) (HX.out.trans hx))).add w.heap.size _ _ ((hx.block _ (by omega)).trans HR2.out) (by omega) (by omega) (pair_dry _ _ (slice_dry _ _ _))).add (w.heap.size + 1) _ _ ((hx.block _ (by omega)).trans HR3.out) (by omega) (by omega) (pair_dry _ _ (slice_dry _ _ _)))
 clear hc hx HWS HR2 HR3 hW
 go_wp2_with fail
 refine (s_l20Bent HB1.out.cur).mono ?_
 rintro e w2 ⟨⟨x, b, m, c, V, rfl, ho, hm, hfew, hx0, hx1⟩, hc, hg⟩
 have HFEW := Lib.hid hfew
 clear hfew
 have hs2 := hg.size
 have HB2 := Lib.hid (show Bxs w (w2.alloc (.cells #[.int .i64 x, .slice b m c] 26)) cb (twoVx w.heap.size (w.heap.size + 1) w2.heap.size x b m c) from (HB1.out.call hc hg).new _ _ (pair_dry _ _ (slice_dry _ _ _)))
 have HO2 := Lib.hid (ho.ext (Ext.alloc w2 (.cells #[.int .i64 x, .slice b m c] 26)))
 have hO2L := Lib.hid (fun k hk => (ho.lt k hk).2)
 have hm1 := ho.ints.hcap
 have hm2 := ho.ints.hmax
 clear hc hg ho HB1
 go_wp2_with fail
 refine (s_l1Once HB2.out.cur 2 (by omega)).mono ?_
 rintro e w3 ⟨⟨once, rfl⟩, hc, hg⟩
 have hs3 : w2.heap.size + 1 ≤ w3.heap.size := by have := hg.size; simpa using this
 have HB3 := Lib.hid (HB2.out.call hc hg)
 have HO3 := Lib.hid (HO2.out.calls hg hcl)
 generalize w2.heap.size = b5 at HB3 hs2 hs3 hO2L ⊢
 clear hc hg HB2 HO2
 have hn25 : w.heap.size ≠ b5 := by omega
 have hn35 : w.heap.size + 1 ≠ b5 := by omega
 have hn23 : w.heap.size ≠ w.heap.size + 1 := by omega
 have HS := Lib.hid (fun (w' : World) (f : Bx) (h : Bxs w w' cb f) (hf : f b5 = some (#[.int .i64 x, .slice b m c], 26)) => (⟨h.cell hf 0, h.cell hf 1⟩ : w'.cell? ⟨b5, 0, none⟩ = some (.int .i64 x) ∧ w'.cell? ⟨b5, 1, none⟩ = some (.slice b m c)))
 have HF5 := Lib.hid (twoVx5 w.heap.size (w.heap.size + 1) b5 x b m c)
 have HB3d := Lib.hid (HB3.out.ext (Ext.drew w3))
 cases once
 ·have hxw : IntKind.i64.wrap (2 * x) = 2 * x := by rw [IntKind.wrap_i64]; omega
  have c0 := HB3.out.c0 HF5.out
  obtain ⟨W4, hW4⟩ : ∃ E, E = w3.alloc (.cells #[.int .i64 (2 * x), .slice none 0 0] 26) := ⟨_, rfl⟩
  obtain ⟨b6, hb6⟩ : ∃ b, b = w3.heap.size := ⟨_, rfl⟩
  have HB4 := Lib.hid (show Bxs w W4 cb (sixVx w.heap.size (w.heap.size + 1) b5 b6 x b m c (2 * x) none 0 0) by
   rw [hW4, hb6]; exact HB3.out.new _ _ (pair_dry _ _ (slice_dry _ _ _)))
  have HO4 := Lib.hid (show OwnI W4 w1.heap.size (.slice b m c) V by rw [hW4]; exact HO3.out.ext (Ext.alloc _ _))
  have hs4 : b6 < W4.heap.size := by rw [hW4, hb6]; simp
  have hb56 : b5 < b6 := by omega
  have hn56 : b5 ≠ b6 := by omega
  have hn26 : w.heap.size ≠ b6 := by omega
  have hn36 : w.heap.size + 1 ≠ b6 := by omega
  have hc6 : cb < b6 := by omega
  have HAP := Lib.hid (fun (w' : World) (a1 : Option Addr) (n1 p1 : Nat) (L : List Int) (ho : OwnI w' (b6 + 1) (.slice a1 n1 p1) L) (j : Nat) (hj : (Value.slice b m c).ownBlock = some j) (e : (Value.slice a1 n1 p1).ownBlock = some j) => show False by have h1 := (ho.lt j e).1; have h2 := hO2L j hj; omega)
  go_upto_region 6 with fail
  rw [← hW4, ← hb6]
  clear hxw
  generalize 2 * x = x2 at HB4 hW4 ⊢
  clear hW4 hb6 c0 hs3 HB3 HB3d HO3 hx0 hx1 hO2L
  go_wp2_with fail
  go_loopg [7] m (fun gk ii wr => ∃ (k : Nat) (a1 : Option Addr) (n1 p1 : Nat) (L : List Int), Hid (gk + k = m) ∧ ii = .int .i64 (k : Int) ∧ Hid (L.length = k) ∧ Hid (Bxs w wr cb (sixVx w.heap.size (w.heap.size + 1) b5 b6 x b m c x2 a1 n1 p1)) ∧ Hid (OwnI wr (b6 + 1) (.slice a1 n1 p1) L) ∧ Hid (OwnI wr w1.heap.size (.slice b m c) V) ∧ Hid (b6 < wr.heap.size))
  case atStart => exact ⟨0, none, 0, 0, [], Lib.hid (by omega), rfl, Lib.hid rfl, HB4, Lib.hid (OwnI.nil _ _), HO4, Lib.hid hs4⟩
  case round =>
   obtain ⟨g1, h_g1⟩ : ∃ x, x = gk := ⟨_, rfl⟩
   subst h_g1
   obtain ⟨wr, h_wr⟩ : ∃ x, x = wr := ⟨_, rfl⟩
   subst h_wr
   obtain ⟨k, a1, n1, p1, L, HK, rfl, HLL, HB, HO, HV, HSZ⟩ := hrel
   have hsz := HSZ.out
   have hl5 := HB.out.c1 (sixVx5 hn56)
   by_cases hlt : k < m
   ·have hB := HB.out.ext (Ext.drew wr)
    have hO := HO.out.ext (Ext.drew wr)
    have hV := HV.out.ext (Ext.drew wr)
    obtain ⟨eb, eoff, rfl, he0⟩ := hV.ints.at hlt
    obtain ⟨v, hv⟩ : ∃ v, v = V[k]?.getD 0 := ⟨_, rfl⟩
    have hvb := few_at HFEW.out k
    rw [← hv] at he0 hvb
    obtain ⟨v2, hv2⟩ : ∃ z, z = 2 * v := ⟨_, rfl⟩
    have hvw : IntKind.i64.wrap (2 * v) = v2 := by rw [IntKind.wrap_i64]; omega
    have hk0 : (0 : Int) ≤ (k : Int) := by omega
    have hk1 : (k : Int) < (m : Int) := by omega
    have HS2 := Lib.hid (fun (w' : World) (h : Bxs w w' cb (sixVx w.heap.size (w.heap.size + 1) b5 b6 x (some ⟨eb, eoff, none⟩) m c x2 a1 n1 p1)) (ho : OwnI w' w1.heap.size (.slice (some ⟨eb, eoff, none⟩) m c) V) => show w'.cell? ⟨b6, 1, none⟩ = some (.slice a1 n1 p1) ∧ w'.cell? ⟨b5, 1, none⟩ = some (.slice (some ⟨eb, eoff, none⟩) m c) ∧ w'.cell? ⟨eb, eoff + k, none⟩ = some (.int .i64 v) by
     refine ⟨h.c1 sixVx6, h.c1 (sixVx5 hn56), ?_⟩
     obtain ⟨eb', eoff', hea', he'⟩ := ho.ints.at hlt
     simp only [Option.some.injEq, Addr.mk.injEq, and_true] at hea'
     obtain ⟨rfl, rfl⟩ := hea'
     rw [hv]; exact he')
    clear hv hv2 he0
    go_wp2_with fail
    refine late_begin (M := [11]) (S := fun w' => w'.cell? ⟨b6, 1, none⟩ = some (.slice a1 n1 p1) ∧ w'.cell? ⟨b5, 1, none⟩ = some (.slice (some ⟨eb, eoff, none⟩) m c) ∧ w'.cell? ⟨eb, eoff + k, none⟩ = some (.int .i64 v)) (by kernel_rfl) ?_
    have hHeld := HS2.out _ hB hV
    obtain ⟨wd, hwd⟩ : ∃ y, y = wr.drew := ⟨_, rfl⟩
    have hsd : wr.heap.size ≤ wd.heap.size := by rw [hwd]; exact Nat.le_refl _
    rw [← hwd] at hB hO hV hHeld
    rw [← hwd]
    clear hwd hl5
    refine lp 0 ?_
    refine ll 1 ?_
    refine lp 2 ?_
    refine ll 3 ?_
    refine lp 4 ?_
    refine lp 5 ?_
    refine ll 6 ?_
    refine lp 7 ?_
    refine late_step (i := 8) (oi := ?_) ?_ ?_ ?_ (fun K hK => ?_)
    rotate_left
    ·simp only [gA, gB, gC]; rfl
    ·kernel_rfl
    ·kernel_rfl
    go_simp
    refine hK.out _ _ (fun _ => HS2.out _ (hB.ext (Ext.alloc _ _)) (hV.ext (Ext.alloc _ _))) ?_
    clear hK K
    try simp only [Act.put, sA, sB, sC]
    refine late_step (i := 9) (oi := ?_) ?_ ?_ ?_ (fun K hK => ?_)
    rotate_left
    ·simp only [gA, gB, gC]; rfl
    ·kernel_rfl
    ·kernel_rfl
    refine wp_append_ints _ _ (by rfl) (b6 + 1) (.slice a1 n1 p1) L (by rfl) (hO.ext (Ext.alloc _ _)) _ 1 _ [v2] (by rfl) (Ints.oneS _ _ _ _ rfl) (by have := HLL.out; have := HK.out; have := HV.out.ints.hmax; have := HV.out.ints.hcap; omega) (by simp; omega) ?_
    intro v6 w6 ho hg hnear
    obtain ⟨a6, n6, p6, rfl, HN6⟩ := ho.var
    have HB6 := Lib.hid ((hB.ext (Ext.alloc _ _)).grew hg (fun j hj => by have := (hO.lt j hj).1; exact ⟨by omega, by omega, sixVx_off (by omega) (by omega) (by omega) (by omega)⟩))
    have HV6 := Lib.hid (hV.ext (Ext.alloc _ _) |>.keep fun j hj => hg.block j ((hV.ext (Ext.alloc _ _)).lt j hj).2 fun e => HAP.out wd _ _ _ _ hO j hj e.symm)
    have HO6 := Lib.hid ho
    have cf6 := HB6.out.free (b := b6) sixVx6
    have hs6 := hg.size
    rw [World.size_alloc] at hs6
    clear ho hg hnear
    refine hK.out _ _ (fun _ => HS2.out _ HB6.out HV6.out) ?_
    have hHeld := HS2.out _ HB6.out HV6.out
    clear hK K
    try simp only [Act.put, sA, sB, sC]
    refine lp 10 ?_
    refine late_one (i := 11) (oi := ?_) (w' := ?_) ?_ ?_ ?_ ?_ ?_ ?_ ?_
    rotate_left 2
    ·simp only [gA, gB, gC]; rfl
    ·kernel_rfl
    ·kernel_rfl
    ·exact of_decide_eq_true (by kernel_rfl)
    ·rfl
    ·go_simp; (try with_reducible rfl)
    try simp only [Act.put, sA, sB, sC]
    refine late_done (by kernel_rfl) ?_ _
    have HB7 := Lib.hid (show Bxs w (w6.setCell ⟨b6, 1, none⟩ (.slice a6 n6 p6)) cb (sixVx w.heap.size (w.heap.size + 1) b5 b6 x (some ⟨eb, eoff, none⟩) m c x2 a6 n6 p6) from by
     have := HB6.out.put (b := b6) sixVx6 1 (.slice a6 n6 p6) (slice_dry _ _ _)
     rw [← sixVx_set (y := x2) (a' := a1) (n' := n1) (c' := p1)]
     exact this)
    have HO7 := Lib.hid (((OwnI.on HO6.out).set (a := ⟨b6, 1, none⟩) (by show b6 < b6 + 1; omega) (.slice a6 n6 p6)).here)
    have HV7 := Lib.hid (HV6.out.keep (w' := w6.setCell ⟨b6, 1, none⟩ (.slice a6 n6 p6)) fun j hj => heap_setCell_other _ _ _ _ (fun e => ownsRow_ne HV6.out (HB6.out.box _ _ sixVx6).1 (show 3 ≠ 26 by decide) (by rw [hj]; exact congrArg some e.symm)))
    clear hHeld cf6 hB hO hV
    go_wp2_with fail
    go_roundg (g1 - 1)
    case measure => have := HK.out; omega
    case rel => exact ⟨k + 1, a6, n6, p6, L ++ [v2], Lib.hid (by have := HK.out; omega), by go_num, Lib.hid (by rw [List.length_append, HLL.out]; rfl), HB7, HO7, HV7, Lib.hid (by simp; omega)⟩
   ·have hkm : k = m := by have := HK.out; omega
    have HN1 := Lib.hid (show n1 ≤ 4 by have := HO.out.ints.hlen; have := HLL.out; omega)
    have HS3 := Lib.hid (fun (w' : World) (f : Bx) (h : Bxs w w' cb f) (hf : f b5 = some (#[.int .i64 x, .slice b m c], 26)) (hg : f b6 = some (#[.int .i64 x2, .slice a1 n1 p1], 26)) => (⟨h.cell hf 0, h.cell hf 1, h.cell hg 0, h.cell hg 1⟩ : w'.cell? ⟨b5, 0, none⟩ = some (.int .i64 x) ∧ w'.cell? ⟨b5, 1, none⟩ = some (.slice b m c) ∧ w'.cell? ⟨b6, 0, none⟩ = some (.int .i64 x2) ∧ w'.cell? ⟨b6, 1, none⟩ = some (.slice a1 n1 p1)))
    have HBd := Lib.hid (HB.out.ext (Ext.drew wr))
    have HOd := Lib.hid (HO.out.ext (Ext.drew wr))
    have HVd := Lib.hid (HV.out.ext (Ext.drew wr))
    go_wp2_with fail
    refine wp_region_held_drew (S := (fun w' => w'.cell? ⟨b5, 0, none⟩ = some (.int .i64 x) ∧ w'.cell? ⟨b5, 1, none⟩ = some (.slice b m c) ∧ w'.cell? ⟨b6, 0, none⟩ = some (.int .i64 x2) ∧ w'.cell? ⟨b6, 1, none⟩ = some (.slice a1 n1 p1))) (by kernel_rfl) ?_ (fun hHeld => ?_)
    ·exact HS3.out _ _ HBd.out (sixVx5 hn56) sixVx6
    obtain ⟨wd, hwd⟩ : ∃ y, y = wr.drew := ⟨_, rfl⟩
    have hsd : wr.heap.size ≤ wd.heap.size := by rw [hwd]; exact Nat.le_refl _
    rw [← hwd] at HBd HOd HVd hHeld
    rw [← hwd]
    clear hwd hl5
    have r20 := HBd.out.c0 (sixVx2 hn26 hn25 hn23)
    have r21 := HBd.out.c1 (sixVx2 hn26 hn25 hn23)
    have r2f := HBd.out.free (sixVx2 (x := x) (a := b) (n := m) (c := c) (y := x2) (a' := a1) (n' := n1) (c' := p1) hn26 hn25 hn23)
    have r30 := HBd.out.c0 (sixVx3 hn36 hn35)
    have r31 := HBd.out.c1 (sixVx3 hn36 hn35)
    have r3f := HBd.out.free (sixVx3 (r2 := w.heap.size) (x := x) (a := b) (n := m) (c := c) (y := x2) (a' := a1) (n' := n1) (c' := p1) hn36 hn35)
    refine tk 0 ?_
    refine tk 1 ?_
    have HB5 := Lib.hid (HBd.out.put2 (sixVx2 hn26 hn25 hn23) (.int .i64 x) (.slice b m c) (i64_dry _) (slice_dry _ _ _))
    refine rd (i := 2) (h := fun K hK => ?_)
    go_simp
    refine hK.out _ _ ?_ (fun hHeld => ?_)
    ·exact HS3.out _ _ HB5.out ((Bx.other _ _ (Ne.symm hn25)).trans (sixVx5 hn56)) ((Bx.other _ _ (Ne.symm hn26)).trans sixVx6)
    clear hK K
    try simp only [Act.put, sA, sB, sC]
    have HB6 := Lib.hid (HB5.out.put2 ((Bx.other _ _ (Ne.symm hn23)).trans (sixVx3 hn36 hn35)) (.int .i64 x2) (.slice a1 n1 p1) (i64_dry _) (slice_dry _ _ _))
    refine rd (i := 3) (h := fun K hK => ?_)
    go_simp
    refine hK.out _ _ ?_ (fun hHeld => ?_)
    ·exact HS3.out _ _ HB6.out ((Bx.other _ _ (Ne.symm hn35)).trans ((Bx.other _ _ (Ne.symm hn25)).trans (sixVx5 hn56))) ((Bx.other _ _ (Ne.symm hn36)).trans ((Bx.other _ _ (Ne.symm hn26)).trans sixVx6))
    clear hK K
    try simp only [Act.put, sA, sB, sC]
    refine wpAnyH_done (by kernel_rfl) ?_ _
    have HW6 := Lib.hid ((HVd.out.put2 (show w.heap.size < w1.heap.size by omega) (.int .i64 x) (.slice b m c)).put2 (show w.heap.size + 1 < w1.heap.size by omega) (.int .i64 x2) (.slice a1 n1 p1))
    have HW6' := Lib.hid ((HOd.out.put2 (show w.heap.size < b6 + 1 by omega) (.int .i64 x) (.slice b m c)).put2 (show w.heap.size + 1 < b6 + 1 by omega) (.int .i64 x2) (.slice a1 n1 p1))
    have HX6 := Lib.hid (HB6.out.all (by omega))
    have z20 := HB6.out.c0 ((Bx.other _ _ hn23).trans (Bx.same _ _ _))
    have z21 := HB6.out.c1 ((Bx.other _ _ hn23).trans (Bx.same _ _ _))
    have z30 := HB6.out.c0 (Bx.same _ _ _)
    have z31 := HB6.out.c1 (Bx.same _ _ _)
    go_wp2_with fail
    refine bodyPost_ret (v := .tuple #[.agg #[.int .i64 x, .slice b m c], .agg #[.int .i64 x2, .slice a1 n1 p1]]) (by simp [results, Tryz.results24, go_sem, z20, z21, z30, z31]) rfl ⟨⟨x, x2, b, a1, m, c, n1, p1, V, L, rfl, HW6.out.ints, HW6'.out.ints, hm, HN1.out⟩, HX6.out⟩
 ·go_wp2_with fail
  refine wp_region_held_drew (S := (fun w' => w'.cell? ⟨b5, 0, none⟩ = some (.int .i64 x) ∧ w'.cell? ⟨b5, 1, none⟩ = some (.slice b m c))) (by kernel_rfl) ?_ (fun hHeld => ?_)
  ·exact HS.out _ _ HB3d.out HF5.out
  have p0 := hHeld.1
  have p1 := hHeld.2
  refine tk 0 ?_
  refine tk 1 ?_
  refine rd (i := 2) (h := fun K hK => ?_)
  go_simp
  refine (s_l20Bent HB3d.out.cur).mono ?_; rintro e w4 ⟨⟨y, b', m', c', V', rfl, ho', hm', _, _, _⟩, hc, hg⟩; have HB4 := Lib.hid (HB3d.out.call hc hg); have HO4 := Lib.hid ((HO3.out.ext (Ext.drew w3)).calls hg hcl); have HO4' := Lib.hid ho'; have hs4 := hg.size; have r20 : w4.cell? ⟨w.heap.size, 0, none⟩ = some (.int .i64 0) := HB4.out.cell (twoVx2 hn25 hn23 _ _ _ _) 0; have r21 : w4.cell? ⟨w.heap.size, 1, none⟩ = some (.slice none 0 0) := HB4.out.cell (twoVx2 hn25 hn23 _ _ _ _) 1; have r2f := HB4.out.free (twoVx2 hn25 hn23 x b m c); have r30 : w4.cell? ⟨w.heap.size + 1, 0, none⟩ = some (.int .i64 0) := HB4.out.cell (twoVx3 hn35 _ _ _ _) 0; have r31 : w4.cell? ⟨w.heap.size + 1, 1, none⟩ = some (.slice none 0 0) := HB4.out.cell (twoVx3 hn35 _ _ _ _) 1; have r3f := HB4.out.free (twoVx3 hn35 x b m c); clear hc hg ho'
  go_wp2_with fail
  refine hK.out _ _ ?_ (fun hHeld => ?_)
  ·exact HS.out _ _ HB4.out HF5.out
  clear hK K
  try simp only [Act.put, sA, sB, sC]
  have HB5 := Lib.hid (HB4.out.put2 (twoVx2 hn25 hn23 _ _ _ _) (.int .i64 x) (.slice b m c) (i64_dry _) (slice_dry _ _ _))
  refine rd (i := 3) (h := fun K hK => ?_)
  go_simp
  refine hK.out _ _ ?_ (fun hHeld => ?_)
  ·exact HS.out _ _ HB5.out ((Bx.other _ _ (Ne.symm hn25)).trans HF5.out)
  clear hK K
  try simp only [Act.put, sA, sB, sC]
  have HB6 := Lib.hid (HB5.out.put2 ((Bx.other _ _ (Ne.symm hn23)).trans (twoVx3 hn35 _ _ _ _)) (.int .i64 y) (.slice b' m' c') (i64_dry _) (slice_dry _ _ _))
  refine rd (i := 4) (h := fun K hK => ?_)
  go_simp
  refine hK.out _ _ ?_ (fun hHeld => ?_)
  ·exact HS.out _ _ HB6.out ((Bx.other _ _ (Ne.symm hn35)).trans ((Bx.other _ _ (Ne.symm hn25)).trans HF5.out))
  clear hK K
  try simp only [Act.put, sA, sB, sC]
  refine wpAnyH_done (by kernel_rfl) ?_ _
  have HW6 := Lib.hid ((HO4.out.put2 (show w.heap.size < w1.heap.size by omega) (.int .i64 x) (.slice b m c)).put2 (show w.heap.size + 1 < w1.heap.size by omega) (.int .i64 y) (.slice b' m' c'))
  have HW6' := Lib.hid ((HO4'.out.put2 (show w.heap.size < w3.drew.heap.size by simp; omega) (.int .i64 x) (.slice b m c)).put2 (show w.heap.size + 1 < w3.drew.heap.size by simp; omega) (.int .i64 y) (.slice b' m' c'))
  have HX6 := Lib.hid (HB6.out.all (by omega))
  have z20 := HB6.out.c0 ((Bx.other _ _ hn23).trans (Bx.same _ _ _))
  have z21 := HB6.out.c1 ((Bx.other _ _ hn23).trans (Bx.same _ _ _))
  have z30 := HB6.out.c0 (Bx.same _ _ _)
  have z31 := HB6.out.c1 (Bx.same _ _ _)
  go_wp2_with fail
  refine bodyPost_ret (v := .tuple #[.agg #[.int .i64 x, .slice b m c], .agg #[.int .i64 y, .slice b' m' c']]) (by simp [results, Tryz.results24, go_sem, z20, z21, z30, z31]) rfl ⟨⟨x, y, b, b', m, c, m', c', V, V', rfl, HW6.out.ints, HW6'.out.ints, hm, by omega⟩, HX6.out⟩
end Go.Proofs.YthjjfkeacobikaaGreat
namespace Go.Proofs.YthjjfkeacobikaaGreat
set_option linter.unusedVariables false
open Go.RowKit
theorem pairs_same : ∀ n : Fin 6, ∀ k : Fin 5, k.val < n.val → ((List.range (cN n.val)).filter fun (s : Nat) => !bit (s : Int) k.val).map (fun (s : Nat) => (s + 2 ^ k.val, s)) = ((List.range (cN n.val)).filter fun (t : Nat) => bit (t : Int) k.val).map (fun (t : Nat) => (t, t - 2 ^ k.val)) := by decide +kernel
theorem avgS_list (V : List Int) (k : Nat) : ∀ m, avgS one1 V k m = (((List.range m).filter fun (s : Nat) => !bit (s : Int) k).map fun (s : Nat) => V[s + 2 ^ k]?.getD 0 - V[s]?.getD 0).sum
 | 0 => rfl
 | m + 1 => by
   rw [List.range_succ, List.filter_append, List.map_append, List.sum_append, ← avgS_list V k m]
   show avgS one1 V k m + (if bit (m : Int) k = true then 0 else one1 (popN m) * (V[m + 2 ^ k]?.getD 0 - V[m]?.getD 0)) = _
   congr 1
   cases hb : bit (m : Int) k <;> simp [hb, one1]
theorem swN_list (q : Int) (l : List Int) (k : Nat) : ∀ m, ((swN q l k m : Nat) : Int) = (((List.range m).filter fun (t : Nat) => bit (t : Int) k).map fun (t : Nat) => if (winsB q l (t : Int) && !winsB q l ((t : Int) - 2 ^ k)) = true then (1 : Int) else 0).sum
 | 0 => rfl
 | m + 1 => by
   rw [List.range_succ, List.filter_append, List.map_append, List.sum_append, ← swN_list q l k m]
   show ((swN q l k m + (if swB q l m k then 1 else 0) : Nat) : Int) = _
   rw [Int.natCast_add]
   congr 1
   cases hb : bit (m : Int) k
   ·simp [hb, swB]
   ·cases hw1 : winsB q l (m : Int) <;> cases hw2 : winsB q l ((m : Int) - 2 ^ k) <;> simp [hb, swB, hw1, hw2]
theorem low_bits : ∀ n : Fin 6, ∀ k : Fin 5, ∀ t : Fin 32, k.val < n.val → t.val < cN n.val → bit ((t.val : Nat) : Int) k.val = true → 2 ^ k.val ≤ t.val ∧ ∀ j : Fin 5, bit (((t.val - 2 ^ k.val : Nat) : Nat) : Int) j.val = true → bit ((t.val : Nat) : Int) j.val = true := by decide +kernel
theorem swings_avg {q : Int} {l : List Int} (h : validPair 1 q l = true) {k : Nat} (hk : k < l.length) : avgS one1 (voteL q l) k (cN l.length) = ((swN q l k (cN l.length) : Nat) : Int) := by
 obtain ⟨h1, h5, _⟩ := valid_vote h
 have hcn := cN_le l.length h5
 rw [avgS_list, swN_list]
 have e1 : (((List.range (cN l.length)).filter fun (s : Nat) => !bit (s : Int) k).map fun (s : Nat) => (voteL q l)[s + 2 ^ k]?.getD 0 - (voteL q l)[s]?.getD 0) = ((((List.range (cN l.length)).filter fun (s : Nat) => !bit (s : Int) k).map (fun (s : Nat) => (s + 2 ^ k, s))).map fun x => bitI (winsB q l (x.1 : Int)) - bitI (winsB q l (x.2 : Int))) := by
  rw [List.map_map]
  refine List.map_congr_left fun s hs => ?_
  obtain ⟨hs1, hs2⟩ := List.mem_filter.1 hs
  have hsl := List.mem_range.1 hs1
  have hb : bit (s : Int) k = false := by simpa using hs2
  have hup := up_lt h5 hsl hk hb
  rw [voteL_at h hup, voteL_at h hsl]
  rfl
 have e2 : (((List.range (cN l.length)).filter fun (t : Nat) => bit (t : Int) k).map fun (t : Nat) => if (winsB q l (t : Int) && !winsB q l ((t : Int) - 2 ^ k)) = true then (1 : Int) else 0) = ((((List.range (cN l.length)).filter fun (t : Nat) => bit (t : Int) k).map (fun (t : Nat) => (t, t - 2 ^ k))).map fun x => bitI (winsB q l (x.1 : Int)) - bitI (winsB q l (x.2 : Int))) := by
  rw [List.map_map]
  refine List.map_congr_left fun t ht => ?_
  obtain ⟨hs1, hb⟩ := List.mem_filter.1 ht
  have htl := List.mem_range.1 hs1
  obtain ⟨hle, hbits⟩ := low_bits ⟨l.length, by omega⟩ ⟨k, by omega⟩ ⟨t, by omega⟩ hk htl hb
  have hcast : ((t - 2 ^ k : Nat) : Int) = (t : Int) - 2 ^ k := by
   have : ((2 ^ k : Nat) : Int) = (2 : Int) ^ k := by push_cast; rfl
   have hle : 2 ^ k ≤ t := hle
   omega
  have hmono := wins_mono h (s := ((t - 2 ^ k : Nat) : Int)) (t := (t : Int)) (fun j hj hbj => hbits ⟨j, by omega⟩ hbj)
  show _ = bitI (winsB q l (t : Int)) - bitI (winsB q l ((t - 2 ^ k : Nat) : Int))
  rw [← hcast]
  cases hw : winsB q l (t : Int)
  ·cases hw2 : winsB q l ((t - 2 ^ k : Nat) : Int)
   ·simp [bitI]
   ·rw [hmono hw2] at hw; cases hw
  ·cases hw2 : winsB q l ((t - 2 ^ k : Nat) : Int) <;> simp [bitI]
 rw [e1, e2, pairs_same ⟨l.length, by omega⟩ ⟨k, by omega⟩ hk]
theorem half_pos : ∀ n : Fin 6, 1 ≤ n.val → 1 ≤ (cN n.val : Int) / 2 ∧ (cN n.val : Int) / 2 ≤ 16 := by decide
theorem swL_at {q : Int} {l : List Int} (h : validPair 1 q l = true) {k : Nat} (hk : k < l.length) : (swL q l)[k]?.getD 0 = ((swN q l k (cN l.length) : Nat) : Int) := by
 unfold swL swT
 rw [if_pos h, List.getElem?_map, List.getElem?_range hk]
 rfl
theorem banz_swing {q : Int} {l : List Int} (h : validPair 1 q l = true) {k : Nat} (hk : k < l.length) :
 ((banzL (voteP q l : Int) (voteL q l))[k]?.getD (0, 0)).1 * (((voteL q l).length : Int) / 2) = (swL q l)[k]?.getD 0 * ((banzL (voteP q l : Int) (voteL q l))[k]?.getD (0, 0)).2 ∧
 ((banzL (voteP q l : Int) (voteL q l))[k]?.getD (0, 0)).1.natAbs ≤ 32 ∧ 0 ≤ ((banzL (voteP q l : Int) (voteL q l))[k]?.getD (0, 0)).2 ∧ ((banzL (voteP q l : Int) (voteL q l))[k]?.getD (0, 0)).2 ≤ 16 ∧
 0 ≤ (swL q l)[k]?.getD 0 ∧ (swL q l)[k]?.getD 0 ≤ 32 := by
 obtain ⟨h1, h5, _⟩ := valid_vote h
 have hcn := cN_le l.length h5
 have hg := vote_game h
 have hvp : voteP q l = l.length := by unfold voteP; rw [if_pos h]
 have hVl : (voteL q l).length = cN l.length := by unfold voteL; rw [if_pos h, rowF_len]
 have hhp := half_pos ⟨l.length, by omega⟩ h1
 simp only at hhp
 have e : (banzL (voteP q l : Int) (voteL q l))[k]?.getD (0, 0) = (ratOf ((swN q l k (cN l.length) : Nat) : Int) ((cN l.length : Int) / 2)).1 := by
  unfold banzL
  rw [hvp, banzT_ok _ hg, Int.toNat_natCast]
  unfold avgT
  rw [List.getElem?_map, List.getElem?_range hk, Option.map_some, Option.getD_some]
  unfold avgR
  rw [hVl, swings_avg h hk]
 have hsw := swN_le q l k (cN l.length)
 have hok := ratOf_ok (n := ((swN q l k (cN l.length) : Nat) : Int)) (d := (cN l.length : Int) / 2) (by omega) (by omega) (by omega) (by omega)
 have hfr := ratOf_fr (n := ((swN q l k (cN l.length) : Nat) : Int)) (d := (cN l.length : Int) / 2) (by omega) hok
 have hsz := hfr.size
 have hbd := valR_bd hfr.1
 have heq := hfr.2.2
 rw [e, swL_at h hk, hVl]
 refine ⟨heq, by omega, by omega, by omega, by omega, by omega⟩
theorem min_some {q : Int} {l : List Int} (h : validPair 1 q l = true) : 0 < (minL q l).length := by
 obtain ⟨h1, h5, _⟩ := valid_vote h
 have hcn := cN_le l.length h5
 have key : ∀ s : Nat, s < cN l.length → winsB q l (s : Int) = true → ∃ t : Nat, t < cN l.length ∧ minW q l t = true := by
  intro s
  induction s using Nat.strongRecOn with
  | _ s ih =>
    intro hs hw
    cases hm : minP q l s l.length with
    | true => exact ⟨s, hs, by unfold minW; rw [hm, hw]; rfl⟩
    | false =>
      unfold minP at hm
      rw [List.all_eq_false] at hm
      obtain ⟨k, hk, hkb⟩ := hm
      have hk := List.mem_range.1 hk
      have hkb : (bit (s : Int) k && winsB q l ((s : Int) - 2 ^ k)) = true := by simpa using hkb
      obtain ⟨hb, hw2⟩ := both hkb
      obtain ⟨hle, _⟩ := low_bits ⟨l.length, by omega⟩ ⟨k, by omega⟩ ⟨s, by omega⟩ hk hs hb
      have hle : 2 ^ k ≤ s := hle
      have hp : 1 ≤ 2 ^ k := Nat.one_le_two_pow
      have hcast : ((s - 2 ^ k : Nat) : Int) = (s : Int) - 2 ^ k := by
       have : ((2 ^ k : Nat) : Int) = (2 : Int) ^ k := by push_cast; rfl
       omega
      exact ih (s - 2 ^ k) (by omega) (by omega) (by rw [hcast]; exact hw2)
 obtain ⟨t, ht, hm⟩ := key (cN l.length - 1) (by omega) (by rw [show ((cN l.length - 1 : Nat) : Int) = (cN l.length : Int) - 1 by omega]; exact wins_all h)
 unfold minL minT
 rw [if_pos h, List.length_map]
 exact List.length_pos_of_mem (List.mem_filter.2 ⟨List.mem_range.2 ht, hm⟩)
set_option linter.unusedSimpArgs false
set_option maxRecDepth 100000
theorem vote_cd {q : Int} {l : List Int} (h : validPair 1 q l = true) {n : Nat} (hn : (voteL q l).length = n) :
 ∃ cd, codeS (gameOk (voteP q l : Int) (voteL q l)) (grandV (voteP q l : Int) (voteL q l)) (solveG boundI (coreA (voteP q l : Int).toNat n) (coreB (voteP q l : Int).toNat) (coreC (voteL q l))) = cd ∧ (cd = 1 → (vetoL q l).length ≠ 0) ∧ (cd = 2 → (vetoL q l).length = 0) := by
 have hc := vote_core h
 have hvp : voteP q l = l.length := by unfold voteP; rw [if_pos h]
 have hVl : (voteL q l).length = cN l.length := by unfold voteL; rw [if_pos h, rowF_len]
 rw [hvp, vote_game h, ← hn, hVl, Int.toNat_natCast]
 unfold voteR at hc
 exact ⟨_, rfl, hc.1, hc.2⟩
theorem swL_length {q : Int} {l : List Int} (h : validPair 1 q l = true) : (swL q l).length = l.length := by
 unfold swL swT; rw [if_pos h]; simp
theorem banz_len {q : Int} {l : List Int} (h : validPair 1 q l = true) : (banzL (voteP q l : Int) (voteL q l)).length = l.length := by
 have hvp : voteP q l = l.length := by unfold voteP; rw [if_pos h]
 unfold banzL
 rw [hvp, banzT_ok _ (vote_game h), avgT_len, Int.toNat_natCast]
set_option maxHeartbeats 8000000 in
theorem l_FnVoting {w : World} {a : Option Addr} {n cap : Nat} (h : Bytes w a n cap) :
 Calls Tryz.prog 3 #[.slice a n cap] w fun e w' => e = .returned (.bool true) ∧ Ext w w' := by
 have hcap := h.hcap
 have hmax := h.hmax
 have H := Lib.hid h
 clear h
 by_cases hbig : 1048576 < n
 ·go_enter Tryz.func3, Tryz.ntmps3
  go_wp2_with fail
  go_in
  go_wp2_with fail
  go_ret
  exact ⟨rfl, Ext.refl _⟩
 have hb : n ≤ 1048576 := by omega
 go_enter Tryz.func3, Tryz.ntmps3
 go_wp2_with fail
 go_in
 go_wp2_with fail
 refine (s_DrawVotingGame H.out hb).mono ?_
 rintro e w1 ⟨⟨x, b, m, c, L, rfl, hL, hm⟩, hx⟩
 obtain ⟨W, hW⟩ : ∃ W, W = w1.alloc (.cells #[.int .i64 x, .slice b m c] 26) := ⟨_, rfl⟩
 have hxW : Ext w1 W := by rw [hW]; exact Ext.alloc _ _
 have XA := Lib.hid (hx.trans hxW)
 have HL := Lib.hid (hL.ext hxW)
 have g0 : W.cell? ⟨w1.heap.size, 0, none⟩ = some (.int .i64 x) := by rw [hW]; simp
 have g1 : W.cell? ⟨w1.heap.size, 1, none⟩ = some (.slice b m c) := by rw [hW]; simp
 obtain ⟨ok, hok⟩ : ∃ o, o = validPair 1 x L := ⟨_, rfl⟩
 have HOK := Lib.hid hok
 have hbb : (ok != ok) = false := by simp
 obtain ⟨P, hP⟩ : ∃ P, P = voteP x L := ⟨_, rfl⟩
 have HPP := Lib.hid hP
 obtain ⟨VL, hVL⟩ : ∃ l, l = voteL x L := ⟨_, rfl⟩
 have HVL := Lib.hid hVL
 clear hL hx hxW hok hP hVL
 go_upto_region 4 with fail
 rw [← hW]
 clear hW
 generalize w1.heap.size = bg at g0 g1 ⊢
 go_wp2_with fail
 have HC := Lib.hid (i_VotingGame (q := x) HL.out)
 rw [← HOK.out, ← HPP.out, ← HVL.out] at HC
 refine HC.out.mono ?_
 rintro e w2 ⟨⟨v, rfl, ho⟩, hx⟩
 obtain ⟨a2, n2, c2, rfl, HN2⟩ := ho.var
 obtain ⟨W2, hW2⟩ : ∃ W, W = w2.alloc (.cells #[.int .i64 (P : Int), .slice a2 n2 c2] 29) := ⟨_, rfl⟩
 have hxW : Ext w2 W2 := by rw [hW2]; exact Ext.alloc _ _
 have X2 := Lib.hid (hx.trans hxW)
 have I2 := Lib.hid (ho.ints.ext hxW)
 have p0 : W2.cell? ⟨w2.heap.size, 0, none⟩ = some (.int .i64 (P : Int)) := by rw [hW2]; simp
 have p1 : W2.cell? ⟨w2.heap.size, 1, none⟩ = some (.slice a2 n2 c2) := by rw [hW2]; simp
 replace g0 := X2.out.cellSome g0
 replace g1 := X2.out.cellSome g1
 clear ho hx hxW HC
 go_upto_region 5 with fail
 rw [← hW2]
 clear hW2
 generalize w2.heap.size = b2g at p0 p1 ⊢
 go_wp2_with fail
 have HC := Lib.hid (s_VotingGame (q := x) (HL.out.ext X2.out))
 rw [← HOK.out, ← HPP.out, ← HVL.out] at HC
 refine HC.out.mono ?_
 rintro e w3 ⟨⟨v, rfl, ho⟩, hx⟩
 obtain ⟨a3, n3, c3, rfl, HN3⟩ := ho.var
 obtain ⟨W3, hW3⟩ : ∃ W, W = w3.alloc (.cells #[.int .i64 (P : Int), .slice a3 n3 c3] 29) := ⟨_, rfl⟩
 have hxW : Ext w3 W3 := by rw [hW3]; exact Ext.alloc _ _
 have hx3 := hx.trans hxW
 have X3 := Lib.hid (X2.out.trans hx3)
 have I3 := Lib.hid (ho.ints.ext hxW)
 have I23 := Lib.hid (I2.out.ext hx3)
 have q0 : W3.cell? ⟨w3.heap.size, 0, none⟩ = some (.int .i64 (P : Int)) := by rw [hW3]; simp
 have q1 : W3.cell? ⟨w3.heap.size, 1, none⟩ = some (.slice a3 n3 c3) := by rw [hW3]; simp
 replace g0 := hx3.cellSome g0
 replace g1 := hx3.cellSome g1
 replace p0 := hx3.cellSome p0
 replace p1 := hx3.cellSome p1
 clear ho hx hxW HC hx3
 go_upto_region 6 with fail
 rw [← hW3]
 clear hW3
 generalize w3.heap.size = b3g at q0 q1 ⊢
 go_wp2_with fail
 refine (i_VetoPlayers (q := x) (HL.out.ext X3.out)).mono ?_
 rintro e w4 ⟨v, rfl, ho, hx⟩
 obtain ⟨a4, n4, c4, rfl, HN4⟩ := ho.var
 have hn41 := ho.ints.hcap
 have hn42 := ho.ints.hmax
 have O4 := Lib.hid ho.ints
 have X4 := Lib.hid hx
 replace g0 := hx.cellSome g0
 replace g1 := hx.cellSome g1
 replace p0 := hx.cellSome p0
 replace p1 := hx.cellSome p1
 replace q0 := hx.cellSome q0
 replace q1 := hx.cellSome q1
 clear ho hx
 go_wp2_with fail
 refine (i_SwingsOf (q := x) ((HL.out.ext X3.out).ext X4.out)).mono ?_
 rintro e w5 ⟨v, rfl, ho, hx⟩
 obtain ⟨a5, n5, c5, rfl, HN5⟩ := ho.var
 have hn51 := ho.ints.hcap
 have hn52 := ho.ints.hmax
 have O5 := Lib.hid ho.ints
 have O45 := Lib.hid (O4.out.ext hx)
 have X5 := Lib.hid (X3.out.trans (X4.out.trans hx))
 replace g0 := hx.cellSome g0
 replace g1 := hx.cellSome g1
 replace p0 := hx.cellSome p0
 replace p1 := hx.cellSome p1
 replace q0 := hx.cellSome q0
 replace q1 := hx.cellSome q1
 have HE := Lib.hid (s_EqualGame (x := (P : Int)) (x' := (P : Int)) ((I23.out.ext X4.out).ext hx) ((I3.out.ext X4.out).ext hx))
 rw [decide_eq_true rfl, decide_eq_true rfl, Bool.true_and] at HE
 have I5 := Lib.hid ((I23.out.ext X4.out).ext hx)
 clear ho hx O4
 go_wp2_with fail
 refine HE.out.mono ?_
 rintro e w6 ⟨rfl, hx⟩
 have X6 := Lib.hid (X5.out.trans hx)
 have X56 := Lib.hid hx
 replace g0 := hx.cellSome g0
 replace g1 := hx.cellSome g1
 replace p0 := hx.cellSome p0
 replace p1 := hx.cellSome p1
 clear hx HE q0 q1
 go_wp2_with fail
 refine (s_VetoPlayers (q := x) (HL.out.ext X6.out)).mono ?_
 rintro e w7 ⟨v, rfl, ho, hx⟩
 obtain ⟨a7, n7, c7, rfl, HN7⟩ := ho.var
 have HE := Lib.hid (l_sameInts ((O45.out.ext X56.out).ext hx) ho.ints)
 rw [decide_eq_true rfl] at HE
 have X7 := Lib.hid (X6.out.trans hx)
 have X57 := Lib.hid (X56.out.trans hx)
 replace g0 := hx.cellSome g0
 replace g1 := hx.cellSome g1
 replace p0 := hx.cellSome p0
 replace p1 := hx.cellSome p1
 clear ho hx
 go_wp2_with fail
 refine HE.out.mono ?_
 rintro e w8 ⟨rfl, hx⟩
 have X8 := Lib.hid (X7.out.trans hx.ext)
 have X58 := Lib.hid (X57.out.trans hx.ext)
 replace g0 := hx.ext.cellSome g0
 replace g1 := hx.ext.cellSome g1
 replace p0 := hx.ext.cellSome p0
 replace p1 := hx.ext.cellSome p1
 clear hx HE
 go_wp2_with fail
 refine (s_SwingsOf (q := x) (HL.out.ext X8.out)).mono ?_
 rintro e w9 ⟨v, rfl, ho, hx⟩
 obtain ⟨a9, n9, c9, rfl, HN9⟩ := ho.var
 have HE := Lib.hid (l_sameInts ((O5.out.ext X58.out).ext hx) ho.ints)
 rw [decide_eq_true rfl] at HE
 have X9 := Lib.hid (X8.out.trans hx)
 have X59 := Lib.hid (X58.out.trans hx)
 replace g0 := hx.cellSome g0
 replace g1 := hx.cellSome g1
 replace p0 := hx.cellSome p0
 replace p1 := hx.cellSome p1
 clear ho hx
 go_wp2_with fail
 refine HE.out.mono ?_
 rintro e w10 ⟨rfl, hx⟩
 have X10 := Lib.hid (X9.out.trans hx.ext)
 have X510 := Lib.hid (X59.out.trans hx.ext)
 replace g0 := hx.ext.cellSome g0
 replace g1 := hx.ext.cellSome g1
 replace p0 := hx.ext.cellSome p0
 replace p1 := hx.ext.cellSome p1
 clear hx HE
 go_wp2_with fail
 have HC := Lib.hid (i_IsValidVoting (x := x) (HL.out.ext X10.out))
 rw [← HOK.out] at HC
 refine HC.out.mono ?_
 rintro e w11 ⟨rfl, hx⟩
 have X11 := Lib.hid (X10.out.trans hx)
 have I11 := Lib.hid ((I5.out.ext X510.out).ext hx)
 have S11 := Lib.hid ((O5.out.ext X510.out).ext hx)
 replace g0 := hx.cellSome g0
 replace g1 := hx.cellSome g1
 replace p0 := hx.cellSome p0
 replace p1 := hx.cellSome p1
 clear hx HC X10 X510 X59 X9 X58 X8 X57 X7 X56 X6 O5 I5 O45 I3 I23 I2 X4 X3 X2 X5 HN3 HN7 HN9
 go_upto_if 66 with fail
 go_cut [] (fun wx => Hid (Ext w11 wx))
 case first =>
  cases ok with
  | false =>
    go_wp2_with fail
    go_meet
    exact Lib.hid (Ext.refl _)
  | true =>
    obtain ⟨cd, hcd, hcd1, hcd2⟩ := vote_cd HOK.out.symm (show (voteL x L).length = n2 by rw [← HVL.out]; exact HN2.out)
    rw [← HPP.out, ← HVL.out] at hcd
    rw [HN4.out] at hcd1 hcd2
    have HCD := Lib.hid hcd
    clear hcd
    go_wp2_with fail
    have HC := Lib.hid (s_FindCore (p := (P : Int)) I11.out)
    rw [HCD.out] at HC
    refine HC.out.mono ?_
    rintro e w12 ⟨⟨pa, pn, pc, wa, wn, wc, rfl, _⟩, hx⟩
    obtain ⟨W12, hW12⟩ : ∃ W, W = w12.alloc (.cells #[.int .i64 cd, .slice pa pn pc, .slice wa wn wc] 38) := ⟨_, rfl⟩
    have hxW : Ext w12 W12 := by rw [hW12]; exact Ext.alloc _ _
    have X12 := Lib.hid (hx.trans hxW)
    have r0 : W12.cell? ⟨w12.heap.size, 0, none⟩ = some (.int .i64 cd) := by rw [hW12]; simp
    replace p0 := X12.out.cellSome p0
    replace p1 := X12.out.cellSome p1
    clear hx hxW HC g0 g1
    go_upto_region 12 with fail
    rw [← hW12]
    clear hW12
    generalize w12.heap.size = b12 at r0 ⊢
    go_cut [86] (fun v wx => v = .bool false ∧ Hid (Ext W12 wx))
    case first =>
     by_cases h1 : cd = 1
     ·subst h1
      have hn4 : ((n4 : Int) == 0) = false := by have := hcd1 rfl; simp; omega
      go_wp2_with fail
      go_meet
      exact ⟨rfl, Lib.hid (Ext.refl _)⟩
     ·by_cases h2 : cd = 2
      ·subst h2
       have hn4 : n4 = 0 := hcd2 rfl
       subst hn4
       go_wp2_with fail
       go_meet
       exact ⟨rfl, Lib.hid (Ext.refl _)⟩
      ·have e1 : (cd == 1) = false := by simp [h1]
       have e2 : (cd == 2) = false := by simp [h2]
       go_wp2_with fail
       go_meet
       exact ⟨rfl, Lib.hid (Ext.refl _)⟩
    obtain ⟨rfl, XC⟩ := hcut
    have X13 := Lib.hid (X12.out.trans XC.out)
    replace p0 := XC.out.cellSome p0
    replace p1 := XC.out.cellSome p1
    clear r0 XC hcd1 hcd2 HCD X12
    go_wp2_with fail
    refine (s_BanzhafValue (x := (P : Int)) (I11.out.ext X13.out)).mono ?_
    rintro e w14 ⟨⟨v, rfl, ho⟩, hx⟩
    obtain ⟨a14, n14, c14, rfl, HN14⟩ := ho.var
    have R14 := Lib.hid ho
    have X14 := Lib.hid (X13.out.trans hx)
    replace p0 := hx.cellSome p0
    replace p1 := hx.cellSome p1
    have hn141 := ho.rats.hcap
    have hn142 := ho.rats.hmax
    have hn145 : n14 = n5 := by
     have h1 := HN14.out
     have h2 := HN5.out
     rw [HPP.out, HVL.out, banz_len HOK.out.symm] at h1
     rw [swL_length HOK.out.symm] at h2
     omega
    have HNN := Lib.hid hn145
    have hsl : n5 = L.length := by rw [← HN5.out, swL_length HOK.out.symm]
    have HSL := Lib.hid hsl
    clear ho hx hn145 hsl
    go_wp2_with fail
    go_loopg [13] n5 (fun gk kk wr => ∃ k : Nat, Hid (gk + k = n5) ∧ kk = .int .i64 (k : Int) ∧ Hid (Ext w14 wr))
    case atStart => exact ⟨0, Lib.hid (by omega), rfl, Lib.hid (Ext.refl _)⟩
    case round =>
     obtain ⟨gg1, h_gg1⟩ : ∃ x, x = gk := ⟨_, rfl⟩
     subst h_gg1
     obtain ⟨wr, h_wr⟩ : ∃ x, x = wr := ⟨_, rfl⟩
     subst h_wr
     obtain ⟨k, HK, rfl, XR⟩ := hrel
     by_cases hlt : k < n5
     ·have hki : (k : Int) < (n5 : Int) := by omega
      have hk14 : k < n14 := by rw [HNN.out]; exact hlt
      have hk14i : (k : Int) < (n14 : Int) := by omega
      have hbs := banz_swing HOK.out.symm (k := k) (by rw [← HSL.out]; exact hlt)
      rw [← HPP.out, ← HVL.out, HN2.out] at hbs
      obtain ⟨xb, xo, x1, x2, rfl, hxe, hx1, hx2⟩ := (R14.out.rats.ext XR.out).at hk14
      rw [hxe] at hbs
      obtain ⟨sb, so, rfl, hs1⟩ := (S11.out.ext (X14.out.trans XR.out)).at hlt
      obtain ⟨sw, hsw⟩ : ∃ s, s = (swL x L)[k]?.getD 0 := ⟨_, rfl⟩
      rw [← hsw] at hbs hs1
      obtain ⟨e1, e2, e3, e4, e5, e6⟩ := hbs
      have hn2 : n2 ≤ 32 := by
       have h1 := HN2.out
       rw [HVL.out] at h1
       have : (voteL x L).length = cN L.length := by unfold voteL; rw [if_pos HOK.out.symm, rowF_len]
       have h5 := (valid_vote HOK.out.symm).2.1
       have := cN_le L.length h5
       omega
      obtain ⟨Q, hQ⟩ : ∃ Q, Q = sw * x2 := ⟨_, rfl⟩
      have hQb : 0 ≤ Q ∧ Q ≤ 32 * 16 := by
       rw [hQ]; exact ⟨Int.mul_nonneg e5 e3, Int.mul_le_mul e6 e4 e3 (by omega)⟩
      have hw1 : IntKind.i64.wrap (x1 * ((n2 : Int) / 2)) = Q := by rw [e1, ← hQ, IntKind.wrap_i64]; omega
      have hw2 : IntKind.i64.wrap (sw * x2) = Q := by rw [← hQ, IntKind.wrap_i64]; omega
      have hne : (Q != Q) = false := by simp
      have p1r := XR.out.cellSome p1
      clear hQ e1 hsw hxe
      go_wp2_with fail
      go_quiet (fail)
      go_wp2_with fail
      go_roundg (gg1 - 1)
      case measure => have := HK.out; omega
      case rel => exact ⟨k + 1, Lib.hid (by have := HK.out; omega), by go_num, Lib.hid (XR.out.trans (Drew.ext ⟨_, rfl⟩))⟩
     ·have hki : ¬ (k : Int) < (n5 : Int) := by omega
      go_wp2_with fail
      go_meet
      exact Lib.hid (X14.out.trans XR.out)
 have X12 := Lib.hid (X11.out.trans hcut.out)
 replace g0 := hcut.out.cellSome g0
 replace g1 := hcut.out.cellSome g1
 clear hcut X11 p0 p1 I11 S11
 go_wp2_with fail
 refine (i_MinimalWinning (q := x) (HL.out.ext X12.out)).mono ?_
 rintro e w13 ⟨v, rfl, ho, hx⟩
 obtain ⟨a13, n13, c13, rfl, HN13⟩ := ho.var
 have hn131 := ho.ints.hcap
 have hn132 := ho.ints.hmax
 have O13 := Lib.hid ho.ints
 have X13 := Lib.hid (X12.out.trans hx)
 replace g0 := hx.cellSome g0
 replace g1 := hx.cellSome g1
 clear ho hx X12
 go_wp2_with fail
 refine (s_DrawIsDictator (H.out.ext (XA.out.trans X13.out)) hb).mono ?_
 rintro e w14 ⟨⟨y, db, dm, dc, DL, dk, rfl, hD, hdm⟩, hx⟩
 obtain ⟨W14, hW14⟩ : ∃ W, W = w14.alloc (.cells #[.int .i64 y, .slice db dm dc] 26) := ⟨_, rfl⟩
 have hxW : Ext w14 W14 := by rw [hW14]; exact Ext.alloc _ _
 have hx14 := hx.trans hxW
 have X14 := Lib.hid (X13.out.trans hx14)
 have O14 := Lib.hid (O13.out.ext hx14)
 have HD := Lib.hid (hD.ext hxW)
 have d0 : W14.cell? ⟨w14.heap.size, 0, none⟩ = some (.int .i64 y) := by rw [hW14]; simp
 have d1 : W14.cell? ⟨w14.heap.size, 1, none⟩ = some (.slice db dm dc) := by rw [hW14]; simp
 replace g0 := hx14.cellSome g0
 replace g1 := hx14.cellSome g1
 clear hD hx hxW hx14 O13 X13
 go_upto_region 22 with fail
 rw [← hW14]
 clear hW14
 generalize w14.heap.size = b14 at d0 d1 ⊢
 go_wp2_with fail
 refine (s_DrawSameVoting (H.out.ext (XA.out.trans X14.out)) hb).mono ?_
 rintro e w15 ⟨⟨u, u', vb, vb', vm, vc, vm', vc', VA, VB, rfl, hA, hB, hvm, hvm'⟩, hx⟩
 obtain ⟨W15, hW15⟩ : ∃ W, W = (w15.alloc (.cells #[.int .i64 u, .slice vb vm vc] 26)).alloc (.cells #[.int .i64 u', .slice vb' vm' vc'] 26) := ⟨_, rfl⟩
 have hxW : Ext w15 W15 := by rw [hW15]; exact (Ext.alloc _ _).trans (Ext.alloc _ _)
 have hx15 := hx.trans hxW
 have X15 := Lib.hid (X14.out.trans hx15)
 have O15 := Lib.hid (O14.out.ext hx15)
 have HD15 := Lib.hid (HD.out.ext hx15)
 have HVA := Lib.hid (hA.ext hxW)
 have HVB := Lib.hid (hB.ext hxW)
 have f0 : W15.cell? ⟨w15.heap.size, 0, none⟩ = some (.int .i64 u) := by rw [hW15]; exact Ext.cellSome (Ext.alloc _ _) (by simp)
 have f1 : W15.cell? ⟨w15.heap.size, 1, none⟩ = some (.slice vb vm vc) := by rw [hW15]; exact Ext.cellSome (Ext.alloc _ _) (by simp)
 have f2 : W15.cell? ⟨w15.heap.size + 1, 0, none⟩ = some (.int .i64 u') := by rw [hW15]; simp
 have f3 : W15.cell? ⟨w15.heap.size + 1, 1, none⟩ = some (.slice vb' vm' vc') := by rw [hW15]; simp
 replace g0 := hx15.cellSome g0
 replace g1 := hx15.cellSome g1
 replace d0 := hx15.cellSome d0
 replace d1 := hx15.cellSome d1
 clear hA hB hx hxW hx15 O14 X14 HD
 go_upto_region 23 with fail
 rw [← hW15]
 clear hW15
 generalize w15.heap.size = b15 at f0 f1 f2 f3 ⊢
 have HKK := Lib.hid (fun (w' : World) (h : Ext W15 w') => (⟨h.cellSome g0, h.cellSome g1, h.cellSome d0, h.cellSome d1, h.cellSome f0, h.cellSome f1, h.cellSome f2, h.cellSome f3⟩ : w'.cell? ⟨bg, 0, none⟩ = some (.int .i64 x) ∧ w'.cell? ⟨bg, 1, none⟩ = some (.slice b m c) ∧ w'.cell? ⟨b14, 0, none⟩ = some (.int .i64 y) ∧ w'.cell? ⟨b14, 1, none⟩ = some (.slice db dm dc) ∧ w'.cell? ⟨b15, 0, none⟩ = some (.int .i64 u) ∧ w'.cell? ⟨b15, 1, none⟩ = some (.slice vb vm vc) ∧ w'.cell? ⟨b15 + 1, 0, none⟩ = some (.int .i64 u') ∧ w'.cell? ⟨b15 + 1, 1, none⟩ = some (.slice vb' vm' vc')))
 have hk2 : Ext W15 W15.drew := Ext.drew W15
 have HMN := Lib.hid (fun (w' : World) (h : Ext W15 w') => s_MinimalWinning (q := x) ((HL.out.ext X15.out).ext h))
 have HDI := Lib.hid (fun (w' : World) (h : Ext W15 w') => i_IsDictator (q := y) (k := dk) (HD15.out.ext h))
 have HDS := Lib.hid (fun (w' : World) (h : Ext W15 w') => s_IsDictator (q := y) (k := dk) (HD15.out.ext h))
 have HSI := Lib.hid (fun (w' : World) (h : Ext W15 w') => i_SameVoting (q := u) (q' := u') (HVA.out.ext h) (HVB.out.ext h))
 have HSS := Lib.hid (fun (w' : World) (h : Ext W15 w') => s_SameVoting (q := u) (q' := u') (HVA.out.ext h) (HVB.out.ext h))
 obtain ⟨dic, hdic⟩ : ∃ d, d = dictB y DL dk := ⟨_, rfl⟩
 rw [← hdic] at HDI HDS
 obtain ⟨sam, hsam⟩ : ∃ d, d = sameV u VA u' VB := ⟨_, rfl⟩
 rw [← hsam] at HSI HSS
 have hdd : (dic == dic) = true := by simp
 have hss : (sam == sam) = true := by simp
 clear g0 g1 d0 d1 f0 f1 f2 f3 hdic hsam
 cases ok with
 | false =>
   refine wp_region_held_drew (S := (fun w' => w'.cell? ⟨bg, 0, none⟩ = some (.int .i64 x) ∧ w'.cell? ⟨bg, 1, none⟩ = some (.slice b m c) ∧ w'.cell? ⟨b14, 0, none⟩ = some (.int .i64 y) ∧ w'.cell? ⟨b14, 1, none⟩ = some (.slice db dm dc) ∧ w'.cell? ⟨b15, 0, none⟩ = some (.int .i64 u) ∧ w'.cell? ⟨b15, 1, none⟩ = some (.slice vb vm vc) ∧ w'.cell? ⟨b15 + 1, 0, none⟩ = some (.int .i64 u') ∧ w'.cell? ⟨b15 + 1, 1, none⟩ = some (.slice vb' vm' vc'))) (by kernel_rfl) ?_ (fun hHeld => ?_)
   ·exact HKK.out _ hk2
   refine tk 0 ?_
   refine tk 1 ?_
   refine rd (i := 2) (h := fun K hK => ?_)
   go_simp
   refine (HMN.out _ hk2).mono ?_; rintro e w16 ⟨v, rfl, ho, hx⟩; obtain ⟨a16, n16, c16, rfl, HN16⟩ := ho.var; have hk3 := hk2.trans hx; have HE := Lib.hid (l_sameInts (O15.out.ext hk3) ho.ints); rw [decide_eq_true rfl] at HE; clear ho hx
   go_wp2_with fail
   refine hK.out _ _ ?_ (fun hHeld => ?_)
   ·exact HKK.out _ hk3
   clear hK K
   try simp only [Act.put, sA, sB, sC]
   refine rd (i := 3) (h := fun K hK => ?_)
   go_simp
   refine HE.out.mono ?_; rintro e w17 ⟨rfl, hx⟩; have hk4 := hk3.trans hx.ext; clear hx HE
   go_wp2_with fail
   refine hK.out _ _ ?_ (fun hHeld => ?_)
   ·exact HKK.out _ hk4
   clear hK K
   try simp only [Act.put, sA, sB, sC]
   refine tk 4 ?_
   refine tk 5 ?_
   refine tk 6 ?_
   refine tk 7 ?_
   refine sk 8 ?_
   refine sk 9 ?_
   refine sk 10 ?_
   refine tk 11 ?_
   refine tk 12 ?_
   refine tk 13 ?_
   refine tk 14 ?_
   refine tk 15 ?_
   refine tk 17 ?_
   refine tk 18 ?_
   refine rd (i := 16) (h := fun K hK => ?_)
   go_simp
   refine (HDI.out _ hk4).mono ?_; rintro e w18 ⟨rfl, hx⟩; have hk5 := hk4.trans hx; clear hx
   go_wp2_with fail
   refine hK.out _ _ ?_ (fun hHeld => ?_)
   ·exact HKK.out _ hk5
   clear hK K
   try simp only [Act.put, sA, sB, sC]
   refine rd (i := 19) (h := fun K hK => ?_)
   go_simp
   refine (HDS.out _ hk5).mono ?_; rintro e w19 ⟨rfl, hx⟩; have hk6 := hk5.trans hx; clear hx
   go_wp2_with fail
   refine hK.out _ _ ?_ (fun hHeld => ?_)
   ·exact HKK.out _ hk6
   clear hK K
   try simp only [Act.put, sA, sB, sC]
   refine tk 20 ?_
   refine tk 21 ?_
   refine tk 22 ?_
   refine tk 23 ?_
   refine tk 24 ?_
   refine tk 26 ?_
   refine tk 27 ?_
   refine rd (i := 25) (h := fun K hK => ?_)
   go_simp
   refine (HSI.out _ hk6).mono ?_; rintro e w20 ⟨rfl, hx⟩; have hk7 := hk6.trans hx; clear hx
   go_wp2_with fail
   refine hK.out _ _ ?_ (fun hHeld => ?_)
   ·exact HKK.out _ hk7
   clear hK K
   try simp only [Act.put, sA, sB, sC]
   refine rd (i := 28) (h := fun K hK => ?_)
   go_simp
   refine (HSS.out _ hk7).mono ?_; rintro e w21 ⟨rfl, hx⟩; have hk8 := hk7.trans hx; clear hx
   go_wp2_with fail
   refine hK.out _ _ ?_ (fun hHeld => ?_)
   ·exact HKK.out _ hk8
   clear hK K
   try simp only [Act.put, sA, sB, sC]
   refine tk 29 ?_
   refine tk 30 ?_
   refine tk 31 ?_
   refine wpAnyH_done (by kernel_rfl) ?_ _
   go_wp2_with fail
   go_ret
   exact ⟨rfl, (XA.out.trans X15.out).trans hk8⟩
 | true =>
   have hn13 : 0 < n13 := by rw [← HN13.out]; exact min_some HOK.out.symm
   refine wp_region_held_drew (S := (fun w' => w'.cell? ⟨bg, 0, none⟩ = some (.int .i64 x) ∧ w'.cell? ⟨bg, 1, none⟩ = some (.slice b m c) ∧ w'.cell? ⟨b14, 0, none⟩ = some (.int .i64 y) ∧ w'.cell? ⟨b14, 1, none⟩ = some (.slice db dm dc) ∧ w'.cell? ⟨b15, 0, none⟩ = some (.int .i64 u) ∧ w'.cell? ⟨b15, 1, none⟩ = some (.slice vb vm vc) ∧ w'.cell? ⟨b15 + 1, 0, none⟩ = some (.int .i64 u') ∧ w'.cell? ⟨b15 + 1, 1, none⟩ = some (.slice vb' vm' vc'))) (by kernel_rfl) ?_ (fun hHeld => ?_)
   ·exact HKK.out _ hk2
   refine tk 0 ?_
   refine tk 1 ?_
   refine rd (i := 2) (h := fun K hK => ?_)
   go_simp
   refine (HMN.out _ hk2).mono ?_; rintro e w16 ⟨v, rfl, ho, hx⟩; obtain ⟨a16, n16, c16, rfl, HN16⟩ := ho.var; have hk3 := hk2.trans hx; have HE := Lib.hid (l_sameInts (O15.out.ext hk3) ho.ints); rw [decide_eq_true rfl] at HE; clear ho hx
   go_wp2_with fail
   refine hK.out _ _ ?_ (fun hHeld => ?_)
   ·exact HKK.out _ hk3
   clear hK K
   try simp only [Act.put, sA, sB, sC]
   refine rd (i := 3) (h := fun K hK => ?_)
   go_simp
   refine HE.out.mono ?_; rintro e w17 ⟨rfl, hx⟩; have hk4 := hk3.trans hx.ext; clear hx HE
   go_wp2_with fail
   refine hK.out _ _ ?_ (fun hHeld => ?_)
   ·exact HKK.out _ hk4
   clear hK K
   try simp only [Act.put, sA, sB, sC]
   refine tk 4 ?_
   refine tk 5 ?_
   refine tk 6 ?_
   refine tk 7 ?_
   refine tk 8 ?_
   refine tk 9 ?_
   refine tk 10 ?_
   refine tk 11 ?_
   refine tk 12 ?_
   refine tk 13 ?_
   refine tk 14 ?_
   refine tk 15 ?_
   refine tk 17 ?_
   refine tk 18 ?_
   refine rd (i := 16) (h := fun K hK => ?_)
   go_simp
   refine (HDI.out _ hk4).mono ?_; rintro e w18 ⟨rfl, hx⟩; have hk5 := hk4.trans hx; clear hx
   go_wp2_with fail
   refine hK.out _ _ ?_ (fun hHeld => ?_)
   ·exact HKK.out _ hk5
   clear hK K
   try simp only [Act.put, sA, sB, sC]
   refine rd (i := 19) (h := fun K hK => ?_)
   go_simp
   refine (HDS.out _ hk5).mono ?_; rintro e w19 ⟨rfl, hx⟩; have hk6 := hk5.trans hx; clear hx
   go_wp2_with fail
   refine hK.out _ _ ?_ (fun hHeld => ?_)
   ·exact HKK.out _ hk6
   clear hK K
   try simp only [Act.put, sA, sB, sC]
   refine tk 20 ?_
   refine tk 21 ?_
   refine tk 22 ?_
   refine tk 23 ?_
   refine tk 24 ?_
   refine tk 26 ?_
   refine tk 27 ?_
   refine rd (i := 25) (h := fun K hK => ?_)
   go_simp
   refine (HSI.out _ hk6).mono ?_; rintro e w20 ⟨rfl, hx⟩; have hk7 := hk6.trans hx; clear hx
   go_wp2_with fail
   refine hK.out _ _ ?_ (fun hHeld => ?_)
   ·exact HKK.out _ hk7
   clear hK K
   try simp only [Act.put, sA, sB, sC]
   refine rd (i := 28) (h := fun K hK => ?_)
   go_simp
   refine (HSS.out _ hk7).mono ?_; rintro e w21 ⟨rfl, hx⟩; have hk8 := hk7.trans hx; clear hx
   go_wp2_with fail
   refine hK.out _ _ ?_ (fun hHeld => ?_)
   ·exact HKK.out _ hk8
   clear hK K
   try simp only [Act.put, sA, sB, sC]
   refine tk 29 ?_
   refine tk 30 ?_
   refine tk 31 ?_
   refine wpAnyH_done (by kernel_rfl) ?_ _
   go_wp2_with fail
   go_ret
   exact ⟨rfl, (XA.out.trans X15.out).trans hk8⟩
end Go.Proofs.YthjjfkeacobikaaGreat
