import Derived.Test.YtgohdmnbnhehnaaPlAllG7
import Derived.Test.YtgohdmnbnhehnaaPlAllG2
import Derived.Test.YtgohdmnbnhehnaaPlAllG3
import Derived.Deep.DeepCutAuto
import Derived.Test.YtgohdmnbnhehnaaPlAllG5
namespace Go.Proofs.Ytgohdmnbnhehnaa
set_option linter.unusedVariables false
set_option linter.unusedSimpArgs false
set_option maxRecDepth 100000
open Go.RowKit
theorem pairBox_out {w W : World} {r : Nat} {x0 x1 : Value} {t : TypeId} (hb : W.heap[r]? = some (.cells #[x0, x1] t (0, 0))) (hX : Ext w W) (hr : w.heap.size ≤ r) (v0 v1 : Value) :
    Ext w ((W.setCell ⟨r, 0, none⟩ v0).setCell ⟨r, 1, none⟩ v1) ∧ ((W.setCell ⟨r, 0, none⟩ v0).setCell ⟨r, 1, none⟩ v1).cell? ⟨r, 0, none⟩ = some v0 ∧ ((W.setCell ⟨r, 0, none⟩ v0).setCell ⟨r, 1, none⟩ v1).cell? ⟨r, 1, none⟩ = some v1 ∧
      ∀ b, b ≠ r → ∀ o, ((W.setCell ⟨r, 0, none⟩ v0).setCell ⟨r, 1, none⟩ v1).cell? ⟨b, o, none⟩ = W.cell? ⟨b, o, none⟩ := by
  have h1 := heap_setCell_same W r 0 _ t v0 hb
  have h2 := heap_setCell_same _ r 1 _ t v1 h1
  refine ⟨(hX.setCell (p := ⟨r, 0, none⟩) hr _).setCell (p := ⟨r, 1, none⟩) hr _, by rw [cell_of_row _ r 0 _ _ _ h2]; rfl, by rw [cell_of_row _ r 1 _ _ _ h2]; rfl, fun b hb2 o => ?_⟩
  exact cell_same ((heap_setCell_other _ _ _ _ hb2).trans (heap_setCell_other _ _ _ _ hb2)) o
theorem Ints.ext2 {w w' : World} {a : Option Addr} {n cap : Nat} {l : List Int} (h : Ints w a n cap l) (hs : ∀ b off, a = some ⟨b, off, none⟩ → ∀ k, k < n → w'.cell? ⟨b, off + k, none⟩ = w.cell? ⟨b, off + k, none⟩) : Ints w' a n cap l :=
  ⟨h.hlen, h.hcap, h.hmax, fun k hk => let ⟨b, off, e, hc⟩ := h.cell k hk; ⟨b, off, e, fun k hk => (hs b off e k hk).trans (hc k hk)⟩⟩
set_option maxHeartbeats 4000000 in
theorem s_DrawAreSymmetric {w : World} {a : Option Addr} {n cap : Nat} (h : Bytes w a n cap) (hn : n ≤ 1048576) :
    Calls Try.prog 15 #[.slice a n cap] w fun e w' => (∃ (x i j : Int) (b : Option Addr) (m c : Nat) (V : List Int), e = .returned (.tuple #[.agg #[.int .i64 x, .slice b m c], .int .i64 i, .int .i64 j]) ∧ Ints w' b m c V ∧ m ≤ 33) ∧ Ext w w' := by
  obtain ⟨W, hW⟩ : ∃ W, W = w.alloc (.cells #[.int .i64 0, .slice none 0 0] 26) := ⟨_, rfl⟩
  have HWS := Lib.hid (show W.heap.size = w.heap.size + 1 by rw [hW]; simp)
  have hX : Ext w W := by rw [hW]; exact Ext.alloc _ _
  have HR2 := Lib.hid (show W.heap[w.heap.size]? = some (.cells #[.int .i64 0, .slice none 0 0] 26 (0, 0)) by rw [hW]; exact heapA_new _ _ _ rfl)
  have HX := Lib.hid hX
  have HN := Lib.hid (s_l1New (h.ext hX) hn)
  clear h hX
  go_enter Try.func15, Try.ntmps15
  go_wp2_with fail
  rw [← hW]
  refine HN.out.mono ?_
  rintro e w1 ⟨⟨cb, rfl, hcb, hc⟩, hx⟩
  have hws := HWS.out
  have hs1 := hx.size
  have hcl := hc.lt
  have HB1 := Lib.hid ((Bxs.start hc (grown_ext (some cb) (HX.out.trans hx))).add w.heap.size _ _ ((hx.block _ (by omega)).trans HR2.out) (by omega) (by omega) (pair_dry _ _ (slice_dry _ _ _)))
  clear hc hx HWS HR2 hW
  go_wp2_with fail
  refine (s_l8Bent HB1.out.cur).mono ?_
  rintro e w2 ⟨⟨x, b, m, c, V, rfl, ho, hm⟩, hc, hg⟩
  have hs2 := hg.size
  have HB2 := Lib.hid (show Bxs w (w2.alloc (.cells #[.int .i64 x, .slice b m c] 26)) cb (mateBx w.heap.size w2.heap.size x b m c) from (HB1.out.call hc hg).new _ _ (pair_dry _ _ (slice_dry _ _ _)))
  have HO2 := Lib.hid (ho.ext (Ext.alloc w2 (.cells #[.int .i64 x, .slice b m c] 26)))
  have hm1 := ho.ints.hcap
  have hm2 := ho.ints.hmax
  obtain ⟨w3, hw3⟩ : ∃ E, E = w2.alloc (.cells #[.int .i64 x, .slice b m c] 26) := ⟨_, rfl⟩
  rw [← hw3] at HB2 HO2
  clear hc hg ho HB1
  go_upto_region 3 with fail
  rw [← hw3]
  clear hw3
  generalize w2.heap.size = b5 at HB2 hs2 ⊢
  have hn25 : w.heap.size ≠ b5 := by omega
  have HS := Lib.hid (fun (w' : World) (f : Bx) (h : Bxs w w' cb f) (hf : f b5 = some (#[.int .i64 x, .slice b m c], 26)) => (⟨h.cell hf 0, h.cell hf 1⟩ : w'.cell? ⟨b5, 0, none⟩ = some (.int .i64 x) ∧ w'.cell? ⟨b5, 1, none⟩ = some (.slice b m c)))
  have HF5 := Lib.hid (mateBx5 w.heap.size b5 x b m c)
  have HB3 := Lib.hid (HB2.out.ext (Ext.drew w3))
  have HO3 := Lib.hid (HO2.out.ext (Ext.drew w3))
  go_wp2_with fail
  refine wp_region_held_drew (S := (fun w' => w'.cell? ⟨b5, 0, none⟩ = some (.int .i64 x) ∧ w'.cell? ⟨b5, 1, none⟩ = some (.slice b m c))) (by kernel_rfl) ?_ (fun hHeld => ?_)
  · exact HS.out _ _ HB3.out HF5.out
  have p0 := hHeld.1
  have p1 := hHeld.2
  refine tk (i := 0) (h := ?_)
  try simp only [Act.put, sA, sB, sC]
  refine tk (i := 1) (h := ?_)
  try simp only [Act.put, sA, sB, sC]
  refine tk (i := 4) (h := ?_)
  try simp only [Act.put, sA, sB, sC]
  refine rd (i := 2) (h := fun K hK => ?_)
  go_simp
  refine (s_l1Below HB3.out.cur 5 (by omega)).mono ?_; rintro e w4 ⟨⟨y, rfl, hy0, hy1⟩, hc, hg⟩; have HB4 := Lib.hid (HB3.out.call hc hg); have HO4 := Lib.hid (HO3.out.calls hg hcl); clear hc hg
  go_wp2_with fail
  refine hK.out _ _ ?_ (fun hHeld => ?_)
  · exact HS.out _ _ HB4.out HF5.out
  clear hK K
  try simp only [Act.put, sA, sB, sC]
  have e1 : IntKind.i64.wrap (y - 1) = y - 1 := by rw [IntKind.wrap_i64]; omega
  refine tk (i := 3) (h := ?_)
  try simp only [Act.put, sA, sB, sC]
  refine rd (i := 5) (h := fun K hK => ?_)
  go_simp
  refine (s_l1Below HB4.out.cur 5 (by omega)).mono ?_; rintro e w5 ⟨⟨z, rfl, hz0, hz1⟩, hc, hg⟩; have HB5 := Lib.hid (HB4.out.call hc hg); have HO5 := Lib.hid (HO4.out.calls hg hcl); have r20 := HB5.out.c0 (mateBx4 hn25 x b m c); have r21 := HB5.out.c1 (mateBx4 hn25 x b m c); have r2f := HB5.out.free (mateBx4 hn25 x b m c); clear hc hg
  go_wp2_with fail
  refine hK.out _ _ ?_ (fun hHeld => ?_)
  · exact HS.out _ _ HB5.out HF5.out
  clear hK K
  try simp only [Act.put, sA, sB, sC]
  have e2 : IntKind.i64.wrap (z - 1) = z - 1 := by rw [IntKind.wrap_i64]; omega
  refine tk (i := 6) (h := ?_)
  try simp only [Act.put, sA, sB, sC]
  have HB6 := Lib.hid (HB5.out.put2 (mateBx4 hn25 _ _ _ _) (.int .i64 x) (.slice b m c) (i64_dry _) (slice_dry _ _ _))
  refine rd (i := 7) (h := fun K hK => ?_)
  go_simp
  refine hK.out _ _ ?_ (fun hHeld => ?_)
  · exact HS.out _ _ HB6.out ((Bx.other _ _ (Ne.symm hn25)).trans HF5.out)
  clear hK K
  try simp only [Act.put, sA, sB, sC]
  refine tk (i := 8) (h := ?_)
  try simp only [Act.put, sA, sB, sC]
  refine tk (i := 9) (h := ?_)
  try simp only [Act.put, sA, sB, sC]
  refine wpAnyH_done (by kernel_rfl) ?_ _
  have HW6 := Lib.hid (HO5.out.put2 (show w.heap.size < w1.heap.size by omega) (.int .i64 x) (.slice b m c))
  have HX6 := Lib.hid (HB6.out.all (by omega))
  have z20 := HB6.out.c0 (Bx.same _ _ _)
  have z21 := HB6.out.c1 (Bx.same _ _ _)
  go_wp2_with fail
  refine bodyPost_ret (v := .tuple #[.agg #[.int .i64 x, .slice b m c], .int .i64 (y - 1), .int .i64 (z - 1)]) (by simp [results, Try.results15, go_sem, z20, z21]) rfl ⟨⟨x, _, _, b, m, c, V, rfl, HW6.out.ints, hm⟩, HX6.out⟩
set_option maxHeartbeats 4000000 in
theorem s_DrawNullPlayers {w : World} {a : Option Addr} {n cap : Nat} (h : Bytes w a n cap) (hn : n ≤ 1048576) :
    Calls Try.prog 9 #[.slice a n cap] w fun e w' => (∃ (x : Int) (b : Option Addr) (m c : Nat) (V : List Int), e = .returned (.agg #[.int .i64 x, .slice b m c]) ∧ Ints w' b m c V ∧ m ≤ 33) ∧ Ext w w' := by
  obtain ⟨W, hW⟩ : ∃ W, W = w.alloc (.cells #[.int .i64 0, .slice none 0 0] 26) := ⟨_, rfl⟩
  have HWS := Lib.hid (show W.heap.size = w.heap.size + 1 by rw [hW]; simp)
  have hX : Ext w W := by rw [hW]; exact Ext.alloc _ _
  have HR2 := Lib.hid (show W.heap[w.heap.size]? = some (.cells #[.int .i64 0, .slice none 0 0] 26 (0, 0)) by rw [hW]; exact heapA_new _ _ _ rfl)
  have HX := Lib.hid hX
  have HN := Lib.hid (s_l1New (h.ext hX) hn)
  clear h hX
  go_enter Try.func9, Try.ntmps9
  go_wp2_with fail
  rw [← hW]
  refine HN.out.mono ?_
  rintro e w1 ⟨⟨cb, rfl, hcb, hc⟩, hx⟩
  have hws := HWS.out
  have hs1 := hx.size
  have hcl := hc.lt
  have HB1 := Lib.hid ((Bxs.start hc (grown_ext (some cb) (HX.out.trans hx))).add w.heap.size _ _ ((hx.block _ (by omega)).trans HR2.out) (by omega) (by omega) (pair_dry _ _ (slice_dry _ _ _)))
  clear hc hx HWS HR2 hW
  go_wp2_with fail
  refine (s_l8Draw HB1.out.cur 3 (by omega) (by omega)).mono ?_
  rintro e w2 ⟨⟨p, vb, V, rfl, hD⟩, hc, hg⟩
  have hp1 := hD.lo
  have hp3 := hD.hi
  have hcn := cN_le p (by omega)
  have hc16 : cN p ≤ 8 := by
    have : ∀ p : Fin 4, cN p.val ≤ 8 := by decide
    exact this ⟨p, by omega⟩
  have HVL := Lib.hid hD.len
  obtain ⟨N, hN⟩ : ∃ N, N = cN p := ⟨_, rfl⟩
  have HNC := Lib.hid hN
  rw [← hN]
  rw [← hN] at HVL hcn hc16
  have hs2 := hg.size
  obtain ⟨w3, hw3⟩ : ∃ E, E = w2.alloc (.cells #[.int .i64 (p : Int), .slice (some ⟨vb, 0, none⟩) N N] 26) := ⟨_, rfl⟩
  have HB2 := Lib.hid (show Bxs w w3 cb (mateBx w.heap.size w2.heap.size (p : Int) (some ⟨vb, 0, none⟩) N N) from hw3 ▸ (HB1.out.call hc hg).new _ _ (pair_dry _ _ (slice_dry _ _ _)))
  have HRow := Lib.hid (show Row w3 vb 3 V from hw3 ▸ hD.row.ext (Ext.alloc _ _))
  have hvb := hD.new
  have hvl := hD.row.lt
  have hvc := hD.ne
  clear hc hg hD HB1 hN
  go_upto_region 3 with fail
  rw [← hw3]
  clear hw3
  generalize w2.heap.size = b4 at HB2 hs2 hvl ⊢
  have hn24 : w.heap.size ≠ b4 := by omega
  go_wp2_with fail
  refine (s_l1Once HB2.out.cur 2 (by omega)).mono ?_
  rintro e w4 ⟨⟨once, rfl⟩, hc, hg⟩
  have HB := Lib.hid (HB2.out.call hc hg)
  have HRW := Lib.hid (show Row w4 vb 3 V from (grown_block hg HRow.out.lt hvc).trans HRow.out)
  have q0 := HB.out.c0 (mateBx5 _ _ _ _ _ _)
  have q1 := HB.out.c1 (mateBx5 _ _ _ _ _ _)
  have r0 := HB.out.c0 (mateBx4 hn24 (p : Int) (some ⟨vb, 0, none⟩) N N)
  have r1 := HB.out.c1 (mateBx4 hn24 (p : Int) (some ⟨vb, 0, none⟩) N N)
  have rf := HB.out.free (mateBx4 hn24 (p : Int) (some ⟨vb, 0, none⟩) N N)
  have HXW := Lib.hid (HB.out.all (by omega))
  have HRR := Lib.hid (HB.out.box _ _ (mateBx4 hn24 (p : Int) (some ⟨vb, 0, none⟩) N N)).1
  have hwl := HB.out.lt (mateBx4 hn24 (p : Int) (some ⟨vb, 0, none⟩) N N)
  have hbl := HB.out.lt (mateBx5 w.heap.size b4 (p : Int) (some ⟨vb, 0, none⟩) N N)
  clear hc hg HRow
  cases once
  · have HI := Lib.hid (HRW.out.ints HVL.out (Nat.le_refl _) (by omega))
    have HF := Lib.hid (pairBox_out (w := w) HRR.out HXW.out (Nat.le_refl _) (.int .i64 (p : Int)) (.slice (some ⟨vb, 0, none⟩) N N))
    have z0 := HF.out.2.1
    have z1 := HF.out.2.2.1
    have HI2 := Lib.hid (HI.out.ext2 (w' := (w4.setCell ⟨w.heap.size, 0, none⟩ (.int .i64 (p : Int))).setCell ⟨w.heap.size, 1, none⟩ (.slice (some ⟨vb, 0, none⟩) N N)) fun b off e k hk => by
      obtain rfl : vb = b := by simpa using congrArg (Option.map Addr.block) e
      exact HF.out.2.2.2 vb (by omega) _)
    go_wp2_with fail
    refine bodyPost_ret (v := .agg #[.int .i64 (p : Int), .slice (some ⟨vb, 0, none⟩) N N]) (by simp [results, Try.results9, go_sem, z0, z1]) rfl ⟨⟨_, _, N, N, V, rfl, HI2.out, by omega⟩, HF.out.1⟩
  · have e1 : IntKind.i64.wrap ((p : Int) + 1) = (p : Int) + 1 := by rw [IntKind.wrap_i64]; omega
    obtain ⟨w5, hw5⟩ : ∃ E, E = w4.alloc (.cells #[.int .i64 ((p : Int) + 1), .slice none 0 0] 26) := ⟨_, rfl⟩
    have hx5 : Ext w4 w5 := by rw [hw5]; exact Ext.alloc _ _
    have HB5 := Lib.hid (show w5.heap[w4.heap.size]? = some (.cells #[.int .i64 ((p : Int) + 1), .slice none 0 0] 26 (0, 0)) by rw [hw5]; exact heapA_new _ _ _ rfl)
    have hs5 : w5.heap.size = w4.heap.size + 1 := by rw [hw5]; simp
    have HK := Lib.hid (fun (w' : World) (h : Ext w4 w') => show w'.cell? ⟨b4, 1, none⟩ = some (.slice (some ⟨vb, 0, none⟩) N N) from h.cellSome q1)
    have HI := Lib.hid (HRW.out.ints HVL.out (Nat.le_refl _) (by omega))
    have hk5 : Ext w4 w5.drew := hx5.trans (Ext.drew w5)
    have hk2 : Ext w5 w5.drew := Ext.drew w5
    clear q1
    go_upto_region 6 with fail
    rw [← hw5]
    clear hw5
    go_wp2_with fail
    refine wp_region_held_drew (S := (fun w' => w'.cell? ⟨b4, 1, none⟩ = some (.slice (some ⟨vb, 0, none⟩) N N))) (by kernel_rfl) ?_ (fun hHeld => ?_)
    · exact HK.out _ hk5
    refine tk (i := 1) (h := ?_)
    try simp only [Act.put, sA, sB, sC]
    refine tk (i := 2) (h := ?_)
    try simp only [Act.put, sA, sB, sC]
    refine tk (i := 4) (h := ?_)
    try simp only [Act.put, sA, sB, sC]
    refine tk (i := 5) (h := ?_)
    try simp only [Act.put, sA, sB, sC]
    refine rd (i := 0) (h := fun K hK => ?_)
    go_simp
    refine hK.out _ _ ?_ (fun hHeld => ?_)
    · exact HK.out _ (hk5.trans (Ext.alloc _ _))
    clear hK K
    try simp only [Act.put, sA, sB, sC]
    refine rd (i := 3) (h := fun K hK => ?_)
    refine step_of_wp _ (by rfl) ?_; refine wp_append_ints _ _ (by rfl) w5.heap.size (.slice (some ⟨w4.heap.size + 1, 0, none⟩) 0 0) [] (by rfl) (OwnI.madeS w5.drew _ _ (by simp; omega) (by simp)) _ N _ V (by rfl) (HI.out.ext (hk5.trans (Ext.alloc _ _))) (by simp; omega) (by simp) ?_; intro v6 w6 ho hg hnear; obtain ⟨a6, n6, p6, rfl, HN6⟩ := ho.var; have HO6 := Lib.hid (show OwnI w6 w5.heap.size (.slice a6 n6 p6) V by simpa using ho); have hk6 : Ext w5 w6 := ext_grown (hk2.trans (Ext.alloc _ _)) hg (fun j hj => by simp only [Value.ownBlock, Option.some.injEq] at hj; omega); clear ho hg hnear
    go_wp2_with fail
    refine hK.out _ _ ?_ (fun hHeld => ?_)
    · exact HK.out _ (hx5.trans hk6)
    clear hK K
    try simp only [Act.put, sA, sB, sC]
    refine rd (i := 6) (h := fun K hK => ?_)
    refine step_of_wp _ (by rfl) ?_; refine wp_append_ints _ _ (by rfl) w5.heap.size (.slice a6 n6 p6) V (by rfl) HO6.out _ N _ V (by rfl) (HI.out.ext (hx5.trans hk6)) (by rw [HVL.out]; omega) hk6.size ?_; intro v7 w7 ho hg hnear; obtain ⟨a7, n7, p7, rfl, HN7⟩ := ho.var; have HO7 := Lib.hid ho; have hk7 : Ext w5 w7 := ext_grown hk6 hg (fun j hj => (HO6.out.lt j hj).1); have hb5 := (hk7.block _ (by omega)).trans HB5.out; have c50 := gbox0 hb5; have c51 := gbox1 hb5; have cf := fun k => frozen_of_row w7 w4.heap.size k _ _ hb5; clear ho hg hnear
    go_wp2_with fail
    refine hK.out _ _ ?_ (fun hHeld => ?_)
    · exact HK.out _ (hx5.trans hk7)
    clear hK K
    try simp only [Act.put, sA, sB, sC]
    refine tk (i := 7) (h := ?_)
    try simp only [Act.put, sA, sB, sC]
    have hk8 : Ext w4 (w7.setCell ⟨w4.heap.size, 1, none⟩ (.slice a7 n7 p7)) := (hx5.trans hk7).setCell (p := ⟨w4.heap.size, 1, none⟩) (Nat.le_refl _) _
    refine rd (i := 8) (h := fun K hK => ?_)
    go_simp
    refine hK.out _ _ ?_ (fun hHeld => ?_)
    · exact HK.out _ hk8
    clear hK K
    try simp only [Act.put, sA, sB, sC]
    refine wpAnyH_done (by kernel_rfl) ?_ _
    have hb8 := heap_setCell_same w7 w4.heap.size 1 _ _ (.slice a7 n7 p7) hb5
    have HO8 := Lib.hid (((OwnI.on HO7.out).set (a := ⟨w4.heap.size, 1, none⟩) (by show w4.heap.size < w5.heap.size; omega) (.slice a7 n7 p7)).here)
    have hn7 : n7 ≤ 33 := by have := HN7.out; simp only [List.length_append, HVL.out] at this; omega
    obtain ⟨w8, hw8⟩ : ∃ E, E = w7.setCell ⟨w4.heap.size, 1, none⟩ (.slice a7 n7 p7) := ⟨_, rfl⟩
    rw [← hw8] at hk8 hb8 HO8 ⊢
    have d0 : w8.cell? ⟨w4.heap.size, 0, none⟩ = some (.int .i64 ((p : Int) + 1)) := by rw [cell_of_row w8 _ 0 _ _ _ hb8]; rfl
    have d1 : w8.cell? ⟨w4.heap.size, 1, none⟩ = some (.slice a7 n7 p7) := by rw [cell_of_row w8 _ 1 _ _ _ hb8]; rfl
    have s0 := hk8.cellSome r0
    have s1 := hk8.cellSome r1
    have sb := (hk8.block _ hwl).trans HRR.out
    have sf := fun k => frozen_of_row w8 w.heap.size k _ _ sb
    have HF := Lib.hid (pairBox_out (w := w) sb (HXW.out.trans hk8) (Nat.le_refl _) (.int .i64 ((p : Int) + 1)) (.slice a7 n7 p7))
    have HW9 := Lib.hid (HO8.out.put2 (show w.heap.size < w5.heap.size by omega) (.int .i64 ((p : Int) + 1)) (.slice a7 n7 p7))
    have z0 := HF.out.2.1
    have z1 := HF.out.2.2.1
    clear hw8 r0 r1 rf hb5 c50 c51 cf sb hb8
    go_wp2_with fail
    refine bodyPost_ret (v := .agg #[.int .i64 ((p : Int) + 1), .slice a7 n7 p7]) (by simp [results, Try.results9, go_sem, z0, z1]) rfl ⟨⟨_, _, n7, p7, _, rfl, HW9.out.ints, hn7⟩, HF.out.1⟩
end Go.Proofs.Ytgohdmnbnhehnaa
namespace Go.Proofs.Ytgohdmnbnhehnaa
set_option linter.unusedVariables false
open Go.RowKit
theorem s_l2B (k : Nat) (h : k ≤ 5) (w : World) : Calls Try.prog 65 #[.int .i64 (k : Int)] w fun e w' => e = .returned (.int .i64 (2 ^ k)) ∧ w = w' := by
  have := s_l2Bit k w
  rwa [cntC_nat k h, cN_pow] at this
end Go.Proofs.Ytgohdmnbnhehnaa
namespace Go.Proofs.Ytgohdmnbnhehnaa
set_option linter.unusedVariables false
set_option linter.unusedSimpArgs false
set_option maxRecDepth 100000
open Go.RowKit
def factN : Nat → Int
  | 0 => 1
  | k + 1 => ((k : Int) + 1) * factN k
def factI (n : Int) : Int := factN n.toNat
theorem factN_bd (m : Nat) (h : m ≤ 5) : 1 ≤ factN m ∧ factN m ≤ 120 := by
  have : m = 0 ∨ m = 1 ∨ m = 2 ∨ m = 3 ∨ m = 4 ∨ m = 5 := by omega
  rcases this with rfl | rfl | rfl | rfl | rfl | rfl <;> decide
def shW (n i : Nat) : Int := factN i * factN (n - 1 - i)
theorem shW_bd (n i : Nat) (hn : n ≤ 5) (hi : i ≤ 5) : 0 ≤ shW n i ∧ shW n i ≤ 1000 := by
  have h1 : ∀ n : Fin 6, ∀ i : Fin 6, 0 ≤ shW n.val i.val ∧ shW n.val i.val ≤ 1000 := by decide +kernel
  exact h1 ⟨n, by omega⟩ ⟨i, by omega⟩
def shV (n i : Nat) : Int := if i ≤ 5 then shW n i else 0
theorem shV_bd (n : Nat) (hn : n ≤ 5) (i : Nat) : -1000 ≤ shV n i ∧ shV n i ≤ 1000 := by
  unfold shV; split
  · have := shW_bd n i hn (by assumption); omega
  · omega
def shapT (p : Int) (V : List Int) (k : Nat) : List (Int × Int) := if gameOk p V = true then avgT (shV p.toNat) V (factI p) k else []
def shapL (p : Int) (V : List Int) : List (Int × Int) := shapT p V p.toNat
theorem shapT_not {p : Int} {V : List Int} (k : Nat) (h : gameOk p V = false) : shapT p V k = [] := by simp [shapT, h]
theorem shapT_ok {p : Int} {V : List Int} (k : Nat) (h : gameOk p V = true) : shapT p V k = avgT (shV p.toNat) V (factI p) k := by simp [shapT, h]
theorem fact_end {n : Int} {j : Nat} (h1 : j = 0 ∨ (j : Int) + 1 ≤ n) (h2 : ¬ (j : Int) + 2 ≤ n) : factN (j + 1) = factI n := by
  unfold factI
  rcases h1 with rfl | h1
  · have : n.toNat = 0 ∨ n.toNat = 1 := by omega
    rcases this with h | h <;> rw [h] <;> decide
  · rw [show n.toNat = j + 1 by omega]
set_option maxHeartbeats 400000 in
theorem i_factorial (n : Int) (hn : n ≤ 5) (w : World) : Calls Try.prog 62 #[.int .i64 n] w fun e w' => e = .returned (.int .i64 (factI n)) ∧ w = w' := by
  go_enter Try.func62, Try.ntmps62
  go_wp2
  go_loop [3, 4] (fun o i => ∃ j : Nat, Hid (j = 0 ∨ (j : Int) + 1 ≤ n) ∧ i = .int .i64 ((j : Int) + 2) ∧ o = .int .i64 (factN (j + 1))) (fun _ i => (8 - intOf i).toNat)
  case atStart => exact ⟨0, Lib.hid (.inl rfl), by simp, by rfl⟩
  case round =>
    obtain ⟨j, HJ, rfl, hT⟩ := hrel
    obtain ⟨T, hT'⟩ : ∃ T, T = factN (j + 1) := ⟨_, rfl⟩
    rw [← hT'] at hT
    subst hT
    have HT := Lib.hid hT'
    clear hT'
    have hj5 : j ≤ 4 := by have := HJ.out; omega
    by_cases hlt : (j : Int) + 2 ≤ n
    · have hmul : IntKind.i64.wrap (T * ((j : Int) + 2)) = factN (j + 2) := by
        have h1 : T * ((j : Int) + 2) = factN (j + 2) := by rw [HT.out]; show _ = (((j + 1 : Nat) : Int) + 1) * factN (j + 1); rw [Int.mul_comm]; congr 1
        have h2 := factN_bd (j + 2) (by omega)
        rw [h1, IntKind.wrap_i64]; omega
      go_wp2
      go_round
      case rel => exact ⟨j + 1, Lib.hid (.inr (by omega)), by go_num, by rfl⟩
      case measure => simp [intOf]; omega
    · have HE := Lib.hid (fact_end HJ.out hlt)
      go_wp2
      go_ret
      exact ⟨ret_int (by rw [HT.out, HE.out]), rfl⟩
set_option maxHeartbeats 400000 in
theorem i_ShapleyValue1 {w : World} (s n : Nat) (hs : s ≤ 5) (h1 : 1 ≤ n) (h5 : n ≤ 5) {b : Nat} (hc : w.cell? ⟨b, 0, none⟩ = some (.int .i64 (n : Int))) : Calls Try.prog 61 #[.int .i64 (s : Int), .pointer (some ⟨b, 0, none⟩)] w fun e w' => e = .returned (.int .i64 (shV n s)) ∧ Ext w w' := by
  have HV := Lib.hid (show factI (s : Int) * factI ((n : Int) - 1 - (s : Int)) = shV n s by
    unfold shV shW factI
    rw [if_pos hs, show ((n : Int) - 1 - (s : Int)).toNat = n - 1 - s by omega]; rfl)
  have hb1 := factN_bd s hs
  have hb2 := factN_bd (n - 1 - s) (by omega)
  have hA1 : 1 ≤ factI (s : Int) ∧ factI (s : Int) ≤ 120 := by unfold factI; rw [Int.toNat_natCast]; exact hb1
  have hB1 : 1 ≤ factI ((n : Int) - 1 - (s : Int)) ∧ factI ((n : Int) - 1 - (s : Int)) ≤ 120 := by unfold factI; rw [show ((n : Int) - 1 - (s : Int)).toNat = n - 1 - s by omega]; exact hb2
  have hm := wt_bd (x := factI (s : Int)) (y := factI ((n : Int) - 1 - (s : Int))) (by omega) (by omega) (by omega) (by omega)
  have e1 : IntKind.i64.wrap (factI (s : Int) * factI ((n : Int) - 1 - (s : Int))) = shV n s := by rw [← HV.out, IntKind.wrap_i64]; omega
  have e2 : IntKind.i64.wrap ((n : Int) - 1) = (n : Int) - 1 := by rw [IntKind.wrap_i64]; omega
  have e3 : IntKind.i64.wrap ((n : Int) - 1 - (s : Int)) = (n : Int) - 1 - (s : Int) := by rw [IntKind.wrap_i64]; omega
  clear hA1 hB1 hb1 hb2 hm
  go_enter Try.func61, Try.ntmps61
  go_wp2
  go_quiet ((first | (go_at_call 62; exact quiet_same (i_factorial _ (by omega) _))))
  go_wp2
  go_ret
  exact ⟨rfl, Drew.ext ⟨_, rfl⟩⟩
theorem go_ShapleyValue1 : IsGo Try.prog 61 := isGo Try.func61 (by kernel_rfl) (by kernel_rfl)
set_option maxHeartbeats 2000000 in
theorem i_ShapleyValue {w : World} {x : Int} {a : Option Addr} {m cap : Nat} {V : List Int} (h : Ints w a m cap V) :
    Calls Try.prog 11 #[pair x a m cap] w fun e w' => (∃ v, e = .returned (.tuple #[v, .bool (gameOk x V)]) ∧ OwnR w' w.heap.size v (shapL x V)) ∧ Ext w w' := by
  have hi := h.alloc (.cells #[.int .i64 x, .slice a m cap] 26)
  have HX := Lib.hid (Ext.alloc w (.cells #[.int .i64 x, .slice a m cap] 26))
  have HL := Lib.hid h.hlen
  have HI := Lib.hid hi
  have HV := Lib.hid (i_IsValidGame (p := x) hi)
  clear h hi
  cases hv : gameOk x V
  · rw [hv] at HV
    have HVV := Lib.hid hv
    clear hv
    go_enter Try.func11, Try.ntmps11
    go_wp2_with fail
    refine HV.out.mono ?_
    rintro e w1 ⟨rfl, hx⟩
    go_wp2
    refine bodyPost_ret (v := .tuple #[.slice none 0 0, .bool false]) (by simp [results, Try.results11, go_sem]) rfl ⟨⟨_, rfl, by unfold shapL; rw [shapT_not _ HVV.out]; exact OwnR.nil _ _⟩, HX.out.trans hx⟩
  · rw [hv] at HV
    obtain ⟨n, rfl, h1, h5, hlen, _, hbd⟩ := gameOk_len hv
    have HVV := Lib.hid hv
    have hm : m = cN n := by have := HL.out; omega
    have HM := Lib.hid hm
    have HBD := Lib.hid hbd
    clear hv hlen hbd hm
    go_enter Try.func11, Try.ntmps11
    go_wp2_with fail
    refine HV.out.mono ?_
    rintro e w1 ⟨rfl, hx⟩
    have c0 : w1.cell? ⟨w.heap.size, 0, none⟩ = some (.int .i64 (n : Int)) := hx.cellSome (by simp)
    have c1 : w1.cell? ⟨w.heap.size, 1, none⟩ = some (.slice a m cap) := hx.cellSome (by simp)
    have X1 := Lib.hid (HX.out.trans hx)
    obtain ⟨W, hW⟩ : ∃ W, W = w1.alloc (.cells #[.int .i64 (n : Int)] 3) := ⟨_, rfl⟩
    have hxW : Ext w1 W := by rw [hW]; exact Ext.alloc _ _
    have HI1 := Lib.hid ((HI.out.ext hx).ext hxW)
    have XW := Lib.hid (X1.out.trans hxW)
    have cn : W.cell? ⟨w1.heap.size, 0, none⟩ = some (.int .i64 (n : Int)) := by rw [hW]; simp
    have HT : Hid (Tells Try.prog W 61 #[.pointer (some ⟨w1.heap.size, 0, none⟩)] 6 (shV n)) := Lib.hid fun s w2 hs hx2 => i_ShapleyValue1 s n (by omega) h1 h5 (hx2.cellSome cn)
    clear hx
    go_upto_region 4 with fail
    rw [← hW]
    replace c0 := hxW.cellSome c0
    replace c1 := hxW.cellSome c1
    clear hW hxW
    have hk2 : Ext W W.drew := Ext.drew W
    have HKEEP := Lib.hid (fun (w' : World) (h : Ext W w') => (⟨h.cellSome c0, h.cellSome c1, h.cellSome cn, h⟩ : w'.cell? ⟨w.heap.size, 0, none⟩ = some (.int .i64 (n : Int)) ∧ w'.cell? ⟨w.heap.size, 1, none⟩ = some (.slice a m cap) ∧ w'.cell? ⟨w1.heap.size, 0, none⟩ = some (.int .i64 (n : Int)) ∧ Ext W w'))
    have hsW := XW.out.size
    go_region_held3 (fun w' => w'.cell? ⟨w.heap.size, 0, none⟩ = some (.int .i64 (n : Int)) ∧ w'.cell? ⟨w.heap.size, 1, none⟩ = some (.slice a m cap) ∧ w'.cell? ⟨w1.heap.size, 0, none⟩ = some (.int .i64 (n : Int)) ∧ Ext W w')
      (first
        | with_reducible exact HKEEP.out _ hk2)
      (first
        | (go_at_call 62
           (with_reducible refine (i_factorial _ (by omega) _).mono ?_)
           rintro e w4 ⟨rfl, rfl⟩)
        | (go_at_call 60
           (with_reducible refine (i_averages (HI1.out.ext hk2) h1 h5 HM.out HBD.out (shV_bd n h5) go_ShapleyValue1 (HT.out.ext hk2)).mono ?_)
           rintro e w5 ⟨⟨v5, rfl, ho5⟩, hx5⟩
           have O5 := Lib.hid ho5
           have hk2 := hk2.trans hx5
           clear ho5 hx5)
        | fail)
    all_goals go_wp2_with fail
    all_goals refine bodyPost_ret (v := .tuple #[v5, .bool true]) (by simp [results, Try.results11, go_sem]) rfl ⟨⟨_, rfl, ?_⟩, XW.out.trans hk2⟩
    all_goals
      unfold shapL
      rw [shapT_ok _ HVV.out, Int.toNat_natCast]
      exact O5.out.mono (by simpa using hsW)
end Go.Proofs.Ytgohdmnbnhehnaa
namespace Go.Proofs.Ytgohdmnbnhehnaa
set_option linter.unusedVariables false
def Fr (p : Int × Int) (x D : Int) : Prop := valR p = true ∧ 0 < D ∧ p.1 * D = x * p.2
theorem valR_gcd {p : Int × Int} (h : valR p = true) : gI p.1 p.2 = 1 := by
  simp only [valR, Bool.and_eq_true, decide_eq_true_eq] at h; exact h.2.2
theorem valR_mk {p : Int × Int} (h1 : 1 ≤ p.2) (h2 : p.2 ≤ 1000000000) (h3 : -1000000000 ≤ p.1) (h4 : p.1 ≤ 1000000000) (h5 : gI p.1 p.2 = 1) : valR p = true := by
  simp only [valR, inB, Bool.and_eq_true, decide_eq_true_eq]; omega
theorem gI_nat (a b : Int) : gI a b = 1 ↔ Nat.Coprime a.natAbs b.natAbs := by unfold gI Int.gcd Nat.Coprime; omega
theorem low_eq {a b c d : Int} (hb : 0 < b) (hd : 0 < d) (h1 : gI a b = 1) (h2 : gI c d = 1) (h : a * d = c * b) : a = c ∧ b = d := by
  rw [gI_nat] at h1 h2
  have hn : a.natAbs * d.natAbs = c.natAbs * b.natAbs := by rw [← Int.natAbs_mul, ← Int.natAbs_mul, h]
  have e1 : b.natAbs ∣ d.natAbs := Nat.Coprime.dvd_of_dvd_mul_left h1.symm ⟨c.natAbs, by rw [hn, Nat.mul_comm]⟩
  have e2 : d.natAbs ∣ b.natAbs := Nat.Coprime.dvd_of_dvd_mul_left h2.symm ⟨a.natAbs, by rw [← hn, Nat.mul_comm]⟩
  have e3 : b = d := by have := Nat.dvd_antisymm e1 e2; omega
  subst e3
  exact ⟨Int.eq_of_mul_eq_mul_right (by omega) h, rfl⟩
theorem Fr.int (c : Int) (h : -1000000000 ≤ c) (h' : c ≤ 1000000000) : Fr (c, 1) c 1 :=
  ⟨valR_mk (by simp) (by simp) h h' (by rw [gI_nat]; simp), by omega, rfl⟩
theorem gI_split (n d : Int) (hd : 0 < d) : 1 ≤ gI n d ∧ n = gI n d * n.tdiv (gI n d) ∧ d = gI n d * d.tdiv (gI n d) ∧ 0 < d.tdiv (gI n d) := by
  have hg := gI_pos n (show d ≠ 0 by omega)
  obtain ⟨k, hk⟩ := gI_dvdl n d
  obtain ⟨m, hm⟩ := gI_dvdr n d
  have h1 : n.tdiv (gI n d) = k := by conv => lhs; arg 1; rw [hk]
                                      exact Int.mul_tdiv_cancel_left _ (by omega)
  have h2 : d.tdiv (gI n d) = m := by conv => lhs; arg 1; rw [hm]
                                      exact Int.mul_tdiv_cancel_left _ (by omega)
  rw [h1, h2]
  refine ⟨hg, hk, hm, ?_⟩
  rcases Int.lt_or_le 0 m with h | h
  · exact h
  · have : gI n d * m ≤ 0 := Int.mul_nonpos_of_nonneg_of_nonpos (by omega) h
    omega
theorem ratOf_cut {n d : Int} (hd : 0 < d) (hn : -1000000000000000000 ≤ n ∧ n ≤ 1000000000000000000) (hd' : d ≤ 1000000000000000000) : ratOf n d = cutR (n.tdiv (gI n d), d.tdiv (gI n d)) := by
  unfold ratOf
  rw [if_neg (by simp [inB]; omega), if_neg (by omega)]
theorem ratOf_same {n d x D : Int} (hd : 0 < d) (hD : 0 < D) (hn : -1000000000000000000 ≤ n ∧ n ≤ 1000000000000000000) (hd' : d ≤ 1000000000000000000) (hx : -1000000000000000000 ≤ x ∧ x ≤ 1000000000000000000) (hD' : D ≤ 1000000000000000000) (e : n * D = x * d) : ratOf n d = ratOf x D := by
  rw [ratOf_cut hd hn hd', ratOf_cut hD hx hD']
  obtain ⟨g1, g2, g3, g4⟩ := gI_split n d hd
  obtain ⟨k1, k2, k3, k4⟩ := gI_split x D hD
  have key : (n.tdiv (gI n d) * D.tdiv (gI x D)) * (gI n d * gI x D) = (x.tdiv (gI x D) * d.tdiv (gI n d)) * (gI n d * gI x D) := by
    have a1 : (n.tdiv (gI n d) * D.tdiv (gI x D)) * (gI n d * gI x D) = (gI n d * n.tdiv (gI n d)) * (gI x D * D.tdiv (gI x D)) := by grind
    have a2 : (x.tdiv (gI x D) * d.tdiv (gI n d)) * (gI n d * gI x D) = (gI x D * x.tdiv (gI x D)) * (gI n d * d.tdiv (gI n d)) := by grind
    rw [a1, a2, ← g2, ← g3, ← k2, ← k3, e]
  have hne : gI n d * gI x D ≠ 0 := Int.mul_ne_zero (by omega) (by omega)
  have := low_eq g4 k4 (gI_cancel n d hd) (gI_cancel x D hD) (Int.eq_of_mul_eq_mul_right hne key)
  rw [this.1, this.2]
theorem ratOf_fr {n d : Int} (hd : 0 < d) (h : (ratOf n d).2 = true) : Fr (ratOf n d).1 n d := by
  refine ⟨ratOf_val h, hd, ?_⟩
  unfold ratOf at h ⊢
  split at h
  · simp at h
  · next h0 =>
    rw [if_neg h0]
    split at h
    · omega
    · next h1 =>
      rw [if_neg h1]
      unfold cutR at h ⊢
      split at h
      · next h2 =>
        rw [if_pos h2]
        obtain ⟨g1, g2, g3, g4⟩ := gI_split n d hd
        simp only
        generalize n.tdiv (gI n d) = k at *
        generalize d.tdiv (gI n d) = m at *
        generalize gI n d = g at *
        subst g2; grind
      · simp at h
theorem ratOf_is {n d x D : Int} (hd : 0 < d) (hn : -1000000000000000000 ≤ n ∧ n ≤ 1000000000000000000) (hd' : d ≤ 1000000000000000000) (hD : 0 < D) (hD' : D ≤ 1000000000) (hx : -1000000000 ≤ x ∧ x ≤ 1000000000) (e : n * D = x * d) :
    ∃ r, ratOf n d = (r, true) ∧ Fr r x D := by
  have h1 := ratOf_same hd hD hn hd' (by omega) (by omega) e
  have h2 := ratOf_ok (n := x) (d := D) (by omega) hD' hx.1 hx.2
  exact ⟨(ratOf x D).1, by rw [h1, ← h2], ratOf_fr hD h2⟩
theorem bd18 {p q : Int} (h : -1000000000 ≤ p ∧ p ≤ 1000000000) (k : -1000000000 ≤ q ∧ q ≤ 1000000000) : -1000000000000000000 ≤ p * q ∧ p * q ≤ 1000000000000000000 := mul_bd h.1 h.2 k.1 k.2
theorem Fr.add {p q : Int × Int} {x D y E z F : Int} (h : Fr p x D) (k : Fr q y E) (hF : 0 < F) (hF' : F ≤ 1000000000) (hz : -1000000000 ≤ z ∧ z ≤ 1000000000) (hs : -1000000000000000000 ≤ p.1 * q.2 + q.1 * p.2 ∧ p.1 * q.2 + q.1 * p.2 ≤ 1000000000000000000) (e : (x * E + y * D) * F = z * (D * E)) : ∃ r, addR p q = (r, true) ∧ Fr r z F := by
  obtain ⟨h1, h2, h3⟩ := h
  obtain ⟨k1, k2, k3⟩ := k
  have hb := valR_bd h1
  have kb := valR_bd k1
  have hp : 0 < p.2 * q.2 := Int.mul_pos (by omega) (by omega)
  have hDE : D * E ≠ 0 := Int.mul_ne_zero (by omega) (by omega)
  unfold addR
  rw [if_pos (by rw [h1, k1]; rfl)]
  refine ratOf_is hp hs (bd18 ⟨by omega, hb.2.1⟩ ⟨by omega, kb.2.1⟩).2 hF hF' hz ?_
  refine Int.eq_of_mul_eq_mul_right hDE ?_
  have : (p.1 * q.2 + q.1 * p.2) * F * (D * E) = ((p.1 * D) * (q.2 * E) + (q.1 * E) * (p.2 * D)) * F := by grind
  rw [this, h3, k3]
  have : (x * p.2 * (q.2 * E) + y * q.2 * (p.2 * D)) * F = ((x * E + y * D) * F) * (p.2 * q.2) := by grind
  rw [this, e]; grind
theorem Fr.size {p : Int × Int} {x D : Int} (h : Fr p x D) : p.2 ≤ D ∧ p.1.natAbs ≤ x.natAbs := by
  obtain ⟨h1, h2, h3⟩ := h
  have hb := valR_bd h1
  have hc := valR_gcd h1
  rw [gI_nat] at hc
  have hn : p.1.natAbs * D.natAbs = x.natAbs * p.2.natAbs := by rw [← Int.natAbs_mul, ← Int.natAbs_mul, h3]
  have e1 : p.2.natAbs ∣ D.natAbs := Nat.Coprime.dvd_of_dvd_mul_left hc.symm ⟨x.natAbs, by rw [hn, Nat.mul_comm]⟩
  have e2 := Nat.le_of_dvd (by omega) e1
  refine ⟨by omega, ?_⟩
  have e3 : p.1.natAbs * p.2.natAbs ≤ x.natAbs * p.2.natAbs := by rw [← hn]; exact Nat.mul_le_mul_left _ e2
  exact Nat.le_of_mul_le_mul_right e3 (by omega)
end Go.Proofs.Ytgohdmnbnhehnaa
