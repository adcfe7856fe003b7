/- What FnOrders draws. -/
import Derived.Test.YtokpmflhgehicaaDrawB
namespace Go.Proofs.Ytokpmflhgehicaa
set_option linter.unusedVariables false
set_option linter.unusedSimpArgs false
set_option maxRecDepth 100000
open Go.RowKit

set_option maxHeartbeats 4000000 in
theorem s_DrawAllOrders {w : World} {a : Option Addr} {n cap : Nat} (h : Bytes w a n cap) (hn : n ≤ 1048576) :
    Calls Try.prog 66 #[.slice a n cap] w fun e w' => (∃ x : Int, e = .returned (.int .i64 x) ∧ -1 ≤ x ∧ x ≤ 4) ∧ Ext w w' := by
  have HN := Lib.hid (s_l1New h hn)
  clear h
  go_enter Try.func66, Try.ntmps66
  go_wp2_with fail
  refine HN.out.mono ?_
  rintro e w1 ⟨⟨cb, rfl, hcb, hc⟩, hx⟩
  have HX := Lib.hid hx
  have HC := Lib.hid hc
  have HCB := Lib.hid hcb
  clear hx hc hcb
  go_wp2_with fail
  refine (s_l1Below HC.out 6 (by omega)).mono ?_
  rintro e w2 ⟨⟨x, rfl, h0, h1⟩, hc, hg⟩
  have HX2 := Lib.hid (ext_grown HX.out hg (fun k hk => by have := Option.some.inj hk; have := HCB.out; omega))
  clear hc hg
  go_wp2_with fail
  go_ret
  exact ⟨⟨_, rfl, by omega, by omega⟩, HX2.out⟩

set_option maxHeartbeats 4000000 in
theorem s_DrawBanzhafValue {w : World} {a : Option Addr} {n cap : Nat} (h : Bytes w a n cap) (hn : n ≤ 1048576) :
    Calls Try.prog 75 #[.slice a n cap] w fun e w' => (∃ (x : Int) (b : Option Addr) (m c : Nat) (V : List Int), e = .returned (.agg #[.int .i64 x, .slice b m c]) ∧ Ints w' b m c V ∧ m ≤ 33) ∧ Ext w w' := by
  have HX := Lib.hid (Ext.alloc w (.cells #[.int .i64 0, .slice none 0 0] 64))
  have HN := Lib.hid (s_l1New (h.ext HX.out) hn)
  have hrb : (w.alloc (.cells #[.int .i64 0, .slice none 0 0] 64)).heap[w.heap.size]? = some (.cells #[.int .i64 0, .slice none 0 0] 64 (0, 0)) := heap_alloc_new _ _
  have HRB := Lib.hid hrb
  clear h hrb
  go_enter Try.func75, Try.ntmps75
  go_wp2_with fail
  refine HN.out.mono ?_
  rintro e w1 ⟨⟨cb, rfl, hcb, hc⟩, hx⟩
  have HX1 := Lib.hid hx
  have HC := Lib.hid hc
  rw [World.size_alloc] at hcb
  have hs1 := hx.size
  rw [World.size_alloc] at hs1
  have HRB1 := Lib.hid ((hx.block _ (by simp)).trans HRB.out)
  clear hx hc
  go_wp2_with fail
  refine (s_l8Bent HC.out).mono ?_
  rintro e w2 ⟨⟨x, b, m, c, V, rfl, ho, hm⟩, hc, hg⟩
  have hb2 := (grown_block hg (by omega) (by omega)).trans HRB1.out
  have r0 : w2.cell? ⟨w.heap.size, 0, none⟩ = some (.int .i64 0) := by rw [cell_of_row w2 _ 0 _ _ _ hb2]; rfl
  have r1 : w2.cell? ⟨w.heap.size, 1, none⟩ = some (.slice none 0 0) := by rw [cell_of_row w2 _ 1 _ _ _ hb2]; rfl
  have rf0 : w2.frozen? ⟨w.heap.size, 0, none⟩ = false := frozen_of_row w2 _ 0 _ _ hb2
  have rf1 : w2.frozen? ⟨w.heap.size, 1, none⟩ = false := frozen_of_row w2 _ 1 _ _ hb2
  have hX2 : Ext w w2 := ext_grown (HX.out.trans HX1.out) hg (fun k hk => by have := Option.some.inj hk; omega)
  have HX2 := Lib.hid hX2
  have HW := Lib.hid (pair_store (w := w) hc hb2 (by intro y; simp) (by omega) (grown_ext (some cb) hX2) (Nat.le_refl _) x (.slice b m c) (by intro y; simp))
  have HO := Lib.hid (ho.keep (w' := (w2.setCell ⟨w.heap.size, 0, none⟩ (.int .i64 x)).setCell ⟨w.heap.size, 1, none⟩ (.slice b m c)) (fun k hk => HW.out.2.2.1 k (by have := (ho.lt k hk).1; omega)))
  have HZ0 := Lib.hid (show ((w2.setCell ⟨w.heap.size, 0, none⟩ (.int .i64 x)).setCell ⟨w.heap.size, 1, none⟩ (.slice b m c)).cell? ⟨w.heap.size, 0, none⟩ = some (.int .i64 x) by rw [cell_of_row _ _ 0 _ _ _ HW.out.2.2.2]; rfl)
  have HZ1 := Lib.hid (show ((w2.setCell ⟨w.heap.size, 0, none⟩ (.int .i64 x)).setCell ⟨w.heap.size, 1, none⟩ (.slice b m c)).cell? ⟨w.heap.size, 1, none⟩ = some (.slice b m c) by rw [cell_of_row _ _ 1 _ _ _ HW.out.2.2.2]; rfl)
  have HXF := Lib.hid (show Ext w ((w2.setCell ⟨w.heap.size, 0, none⟩ (.int .i64 x)).setCell ⟨w.heap.size, 1, none⟩ (.slice b m c)) from (hX2.setCell (p := ⟨w.heap.size, 0, none⟩) (Nat.le_refl _) _).setCell (p := ⟨w.heap.size, 1, none⟩) (Nat.le_refl _) _)
  clear hc hg ho hb2 hX2
  go_wp2_with fail
  refine bodyPost_ret (v := .agg #[.int .i64 x, .slice b m c]) (by simp [results, Try.results75, go_sem, HZ0.out, HZ1.out]) rfl ⟨⟨x, b, m, c, V, rfl, HO.out.ints, hm⟩, HXF.out⟩

set_option maxHeartbeats 4000000 in
theorem s_DrawBestOrder {w : World} {a : Option Addr} {n cap : Nat} (h : Bytes w a n cap) (hn : n ≤ 1048576) :
    Calls Try.prog 70 #[.slice a n cap] w fun e w' => (∃ (x : Int) (b : Option Addr) (m c : Nat) (V : List Int) (k : Int), e = .returned (.tuple #[.agg #[.int .i64 x, .slice b m c], .int .i64 k]) ∧ Ints w' b m c V ∧ m ≤ 33 ∧ -1 ≤ k ∧ k ≤ 3) ∧ Ext w w' := by
  have HX := Lib.hid (Ext.alloc w (.cells #[.int .i64 0, .slice none 0 0] 64))
  have HN := Lib.hid (s_l1New (h.ext HX.out) hn)
  have hrb : (w.alloc (.cells #[.int .i64 0, .slice none 0 0] 64)).heap[w.heap.size]? = some (.cells #[.int .i64 0, .slice none 0 0] 64 (0, 0)) := heap_alloc_new _ _
  have HRB := Lib.hid hrb
  clear h hrb
  go_enter Try.func70, Try.ntmps70
  go_wp2_with fail
  refine HN.out.mono ?_
  rintro e w1 ⟨⟨cb, rfl, hcb, hc⟩, hx⟩
  have HX1 := Lib.hid hx
  have HC := Lib.hid hc
  rw [World.size_alloc] at hcb
  have hs1 := hx.size
  rw [World.size_alloc] at hs1
  have HRB1 := Lib.hid ((hx.block _ (by simp)).trans HRB.out)
  clear hx hc
  go_wp2_with fail
  refine (s_l8Bent HC.out).mono ?_
  rintro e w2 ⟨⟨x, b, m, c, V, rfl, ho, hm⟩, hc, hg⟩
  have HG2 := Lib.hid hg
  have HO2 := Lib.hid ho
  have HC2 := Lib.hid hc
  clear hg ho hc
  go_wp2_with fail
  refine (s_l1Below HC2.out 5 (by omega)).mono ?_
  rintro e w3 ⟨⟨k, rfl, hk0, hk1⟩, hc, hg3⟩
  have hg := grown_two HG2.out hg3
  have ho := HO2.out.keep (w' := w3) (fun j hj => grown_block hg3 (HO2.out.lt j hj).2 (by have := (HO2.out.lt j hj).1; have := HC.out.lt; omega))
  have hb2 := (grown_block hg (by omega) (by omega)).trans HRB1.out
  have r0 : w3.cell? ⟨w.heap.size, 0, none⟩ = some (.int .i64 0) := by rw [cell_of_row w3 _ 0 _ _ _ hb2]; rfl
  have r1 : w3.cell? ⟨w.heap.size, 1, none⟩ = some (.slice none 0 0) := by rw [cell_of_row w3 _ 1 _ _ _ hb2]; rfl
  have rf0 : w3.frozen? ⟨w.heap.size, 0, none⟩ = false := frozen_of_row w3 _ 0 _ _ hb2
  have rf1 : w3.frozen? ⟨w.heap.size, 1, none⟩ = false := frozen_of_row w3 _ 1 _ _ hb2
  have hX2 : Ext w w3 := ext_grown (HX.out.trans HX1.out) hg (fun k hk => by have := Option.some.inj hk; omega)
  have HW := Lib.hid (pair_store (w := w) hc hb2 (by intro y; simp) (by omega) (grown_ext (some cb) hX2) (Nat.le_refl _) x (.slice b m c) (by intro y; simp))
  have HO := Lib.hid (ho.keep (w' := (w3.setCell ⟨w.heap.size, 0, none⟩ (.int .i64 x)).setCell ⟨w.heap.size, 1, none⟩ (.slice b m c)) (fun k hk => HW.out.2.2.1 k (by have := (ho.lt k hk).1; omega)))
  have HZ0 := Lib.hid (show ((w3.setCell ⟨w.heap.size, 0, none⟩ (.int .i64 x)).setCell ⟨w.heap.size, 1, none⟩ (.slice b m c)).cell? ⟨w.heap.size, 0, none⟩ = some (.int .i64 x) by rw [cell_of_row _ _ 0 _ _ _ HW.out.2.2.2]; rfl)
  have HZ1 := Lib.hid (show ((w3.setCell ⟨w.heap.size, 0, none⟩ (.int .i64 x)).setCell ⟨w.heap.size, 1, none⟩ (.slice b m c)).cell? ⟨w.heap.size, 1, none⟩ = some (.slice b m c) by rw [cell_of_row _ _ 1 _ _ _ HW.out.2.2.2]; rfl)
  have HXF := Lib.hid (show Ext w ((w3.setCell ⟨w.heap.size, 0, none⟩ (.int .i64 x)).setCell ⟨w.heap.size, 1, none⟩ (.slice b m c)) from (hX2.setCell (p := ⟨w.heap.size, 0, none⟩) (Nat.le_refl _) _).setCell (p := ⟨w.heap.size, 1, none⟩) (Nat.le_refl _) _)
  clear hc hg hg3 ho hb2 hX2
  go_wp2_with fail
  refine bodyPost_ret (v := .tuple #[.agg #[.int .i64 x, .slice b m c], .int .i64 (k - 1)]) (by simp [results, Try.results70, go_sem, HZ0.out, HZ1.out]) rfl ⟨⟨x, b, m, c, V, k - 1, rfl, HO.out.ints, hm, by omega, by omega⟩, HXF.out⟩

end Go.Proofs.Ytokpmflhgehicaa
