import Derived.Test.YthjjfkeacobikaaGreatMkAllG7
import Derived.Test.YthjjfkeacobikaaGreatMkAllG6
import Derived.Test.YthjjfkeacobikaaGreatMkAllG3
import Derived.Deep.DeepCutAuto
import Derived.Test.YthjjfkeacobikaaGreatMkAllG0
import Derived.Deep.RegionHeld3
namespace Go.Proofs.YthjjfkeacobikaaGreat
set_option linter.unusedVariables false
set_option linter.unusedSimpArgs false
set_option maxRecDepth 100000
open Go.RowKit
theorem box3 {w W : World} {a b c : Obj} (hx : Ext (((w.alloc a).alloc b).alloc c) W) : W.heap[w.heap.size]? = some a ∧ W.heap[w.heap.size + 1]? = some b ∧ W.heap[w.heap.size + 1 + 1]? = some c :=
 ⟨(hx.block _ (by simp; omega)).trans (by rw [heapA_old _ _ _ (by simp; omega), heapA_old _ _ _ (by simp)]; exact heapA_new _ _ _ rfl),
  (hx.block _ (by simp)).trans (by rw [heapA_old _ _ _ (by simp)]; exact heapA_new _ _ _ (by simp)), (hx.block _ (by simp)).trans (heapA_new _ _ _ (by simp))⟩
theorem box2 {w W : World} {a b : Obj} (hx : Ext ((w.alloc a).alloc b) W) : W.heap[w.heap.size]? = some a ∧ W.heap[w.heap.size + 1]? = some b :=
 ⟨(hx.block _ (by simp; omega)).trans (by rw [heapA_old _ _ _ (by simp)]; exact heapA_new _ _ _ rfl), (hx.block _ (by simp)).trans (heapA_new _ _ _ (by simp))⟩
theorem rcell {w : World} {b : Nat} {x y : Int} {t : TypeId} (h : w.heap[b]? = some (.cells #[.int .i64 x, .int .i64 y] t (0, 0))) : w.cell? ⟨b, 0, none⟩ = some (.int .i64 x) ∧ w.cell? ⟨b, 1, none⟩ = some (.int .i64 y) ∧ ∀ o, w.frozen? ⟨b, o, none⟩ = false :=
 ⟨by rw [cell_of_row _ _ _ _ _ _ h]; rfl, by rw [cell_of_row _ _ _ _ _ _ h]; rfl, fun o => frozen_of_row _ _ _ _ _ h⟩
theorem val_in {x y : Int} (h : valR (x, y) = true) : -1000000000 ≤ x ∧ x ≤ 1000000000 ∧ -1000000000 ≤ y ∧ y ≤ 1000000000 := by have := valR_bd h; simp only at this; omega
theorem mul_w {x y : Int} (h : -1000000000 ≤ x ∧ x ≤ 1000000000) (h' : -1000000000 ≤ y ∧ y ≤ 1000000000) : in18 (x * y) := mul_bd h.1 h.2 h'.1 h'.2
set_option maxHeartbeats 1000000 in
theorem i_AddRat (x y u v : Int) (w : World) :
 Calls Tryz.prog 169 #[ratV x y, ratV u v] w fun e w' => e = .returned (resR (addR (x, y) (u, v))) ∧ Ext w w' := by
 have HX := Lib.hid (show Ext w (((w.alloc (.cells #[.int .i64 x, .int .i64 y] 43)).alloc (.cells #[.int .i64 u, .int .i64 v] 43)).alloc (.cells #[.int .i64 0, .int .i64 0] 43)) from ((Ext.alloc _ _).trans (Ext.alloc _ _)).trans (Ext.alloc _ _))
 cases ha : valR (x, y)
 ·have HA := Lib.hid ha
  have HR := Lib.hid (show addR (x, y) (u, v) = ((0, 0), false) by simp [addR, ha])
  clear ha
  go_enter Tryz.func169, Tryz.ntmps169
  go_wp2_with fail
  refine (i_IsValidRat x y _).mono ?_
  rw [HA.out]
  rintro e w1 ⟨rfl, hx⟩
  obtain ⟨bA, bB, bR⟩ := box3 hx
  obtain ⟨a0, a1, fa⟩ := rcell bA
  obtain ⟨b0, b1, fb⟩ := rcell bB
  obtain ⟨r0, r1, fr⟩ := rcell bR
  have X1 := Lib.hid hx
  clear hx bA bB bR
  go_wp2
  rw [HR.out]
  refine bodyPost_ret (v := .tuple #[.agg #[.int .i64 0, .int .i64 0], .bool false]) (by simp [results, Tryz.results169, go_sem, r0, r1]) rfl ⟨rfl, ?_⟩
  exact ((HX.out.trans X1.out).setCell (by simp; omega) _).setCell (by simp; omega) _
 cases hb : valR (u, v)
 ·have HA := Lib.hid ha
  have HB := Lib.hid hb
  have HR := Lib.hid (show addR (x, y) (u, v) = ((0, 0), false) by simp [addR, hb])
  clear ha hb
  go_enter Tryz.func169, Tryz.ntmps169
  go_wp2_with fail
  refine (i_IsValidRat x y _).mono ?_
  rw [HA.out]
  rintro e w1 ⟨rfl, hx⟩
  obtain ⟨bA, bB, bR⟩ := box3 hx
  obtain ⟨a0, a1, fa⟩ := rcell bA
  obtain ⟨b0, b1, fb⟩ := rcell bB
  obtain ⟨r0, r1, fr⟩ := rcell bR
  have X1 := Lib.hid hx
  clear hx bA bB bR
  go_wp2_with fail
  refine (i_IsValidRat u v _).mono ?_
  rw [HB.out]
  rintro e w2 ⟨rfl, hx⟩
  clear a0 a1 fa b0 b1 fb r0 r1 fr
  have X2 := Lib.hid (X1.out.trans hx)
  obtain ⟨bA, bB, bR⟩ := box3 X2.out
  obtain ⟨a0, a1, fa⟩ := rcell bA
  obtain ⟨b0, b1, fb⟩ := rcell bB
  obtain ⟨r0, r1, fr⟩ := rcell bR
  clear hx bA bB bR
  go_wp2
  rw [HR.out]
  refine bodyPost_ret (v := .tuple #[.agg #[.int .i64 0, .int .i64 0], .bool false]) (by simp [results, Tryz.results169, go_sem, r0, r1]) rfl ⟨rfl, ?_⟩
  exact ((HX.out.trans X2.out).setCell (by simp; omega) _).setCell (by simp; omega) _
 have HA := Lib.hid ha
 have HB := Lib.hid hb
 obtain ⟨x1, x2, y1, y2⟩ := val_in ha
 obtain ⟨u1, u2, v1, v2⟩ := val_in hb
 have q1 : in18 (x * v) := mul_w (by omega) (by omega)
 obtain ⟨e1, g1⟩ := kwrap_in q1
 have q2 : in18 (u * y) := mul_w (by omega) (by omega)
 obtain ⟨e2, g2⟩ := kwrap_in q2
 have q3 : in18 (y * v) := mul_w (by omega) (by omega)
 obtain ⟨e3, g3⟩ := kwrap_in q3
 have e4 : IntKind.i64.wrap (x * v + u * y) = x * v + u * y := by rw [IntKind.wrap_i64]; unfold in18 at *; omega
 have g4 : wrap64 (x * v + u * y) = x * v + u * y := by unfold wrap64; unfold in18 at *; omega
 obtain ⟨p, q, ok, hpq⟩ : ∃ p q ok, ratOf (x * v + u * y) (y * v) = ((p, q), ok) := ⟨_, _, _, rfl⟩
 have HPQ := Lib.hid hpq
 have HR := Lib.hid (show addR (x, y) (u, v) = ((p, q), ok) by simp [addR, ha, hb, hpq])
 clear ha hb hpq
 ·go_enter Tryz.func169, Tryz.ntmps169
  go_wp2_with fail
  refine (i_IsValidRat x y _).mono ?_
  rw [HA.out]
  rintro e w1 ⟨rfl, hx⟩
  obtain ⟨bA, bB, bR⟩ := box3 hx
  obtain ⟨a0, a1, fa⟩ := rcell bA
  obtain ⟨b0, b1, fb⟩ := rcell bB
  obtain ⟨r0, r1, fr⟩ := rcell bR
  have X1 := Lib.hid hx
  clear hx bA bB bR
  go_wp2_with fail
  refine (i_IsValidRat u v _).mono ?_
  rw [HB.out]
  rintro e w2 ⟨rfl, hx⟩
  clear a0 a1 fa b0 b1 fb r0 r1 fr
  have X2 := Lib.hid (X1.out.trans hx)
  obtain ⟨bA, bB, bR⟩ := box3 X2.out
  obtain ⟨a0, a1, fa⟩ := rcell bA
  obtain ⟨b0, b1, fb⟩ := rcell bB
  obtain ⟨r0, r1, fr⟩ := rcell bR
  clear hx bA bB bR
  go_wp2_with fail
  refine (i_RatOf _ _ _).mono ?_
  rw [HPQ.out]
  rintro e w3 ⟨rfl, hx⟩
  clear a0 a1 fa b0 b1 fb r0 r1 fr
  have X3 := Lib.hid (X2.out.trans hx)
  obtain ⟨bA, bB, bR⟩ := box3 X3.out
  obtain ⟨a0, a1, fa⟩ := rcell bA
  obtain ⟨b0, b1, fb⟩ := rcell bB
  obtain ⟨r0, r1, fr⟩ := rcell bR
  clear hx bA bB bR
  go_wp2
  rw [HR.out]
  refine bodyPost_ret (v := .tuple #[.agg #[.int .i64 p, .int .i64 q], .bool ok]) (by simp [results, Tryz.results169, go_sem, r0, r1]) rfl ⟨rfl, ?_⟩
  exact ((HX.out.trans X3.out).setCell (by simp; omega) _).setCell (by simp; omega) _
set_option maxHeartbeats 1000000 in
theorem s_AddRat (x y u v : Int) (w : World) :
 Calls Tryz.prog 37 #[ratV x y, ratV u v] w fun e w' => e = .returned (resR (addR (x, y) (u, v))) ∧ Ext w w' := by
 have HX := Lib.hid (show Ext w (((w.alloc (.cells #[.int .i64 x, .int .i64 y] 43)).alloc (.cells #[.int .i64 u, .int .i64 v] 43)).alloc (.cells #[.int .i64 0, .int .i64 0] 43)) from ((Ext.alloc _ _).trans (Ext.alloc _ _)).trans (Ext.alloc _ _))
 cases ha : valR (x, y)
 ·have HA := Lib.hid ha
  have HR := Lib.hid (show addR (x, y) (u, v) = ((0, 0), false) by simp [addR, ha])
  clear ha
  go_enter Tryz.func37, Tryz.ntmps37
  go_wp2_with fail
  refine (s_IsValidRat x y _).mono ?_
  rw [HA.out]
  rintro e w1 ⟨rfl, hx⟩
  obtain ⟨bA, bB, bR⟩ := box3 hx
  obtain ⟨a0, a1, fa⟩ := rcell bA
  obtain ⟨b0, b1, fb⟩ := rcell bB
  obtain ⟨r0, r1, fr⟩ := rcell bR
  have X1 := Lib.hid hx
  clear hx bA bB bR
  go_wp2
  rw [HR.out]
  refine bodyPost_ret (v := .tuple #[.agg #[.int .i64 0, .int .i64 0], .bool false]) (by simp [results, Tryz.results37, go_sem, r0, r1]) rfl ⟨rfl, ?_⟩
  exact ((HX.out.trans X1.out).setCell (by simp; omega) _).setCell (by simp; omega) _
 cases hb : valR (u, v)
 ·have HA := Lib.hid ha
  have HB := Lib.hid hb
  have HR := Lib.hid (show addR (x, y) (u, v) = ((0, 0), false) by simp [addR, hb])
  clear ha hb
  go_enter Tryz.func37, Tryz.ntmps37
  go_wp2_with fail
  refine (s_IsValidRat x y _).mono ?_
  rw [HA.out]
  rintro e w1 ⟨rfl, hx⟩
  obtain ⟨bA, bB, bR⟩ := box3 hx
  obtain ⟨a0, a1, fa⟩ := rcell bA
  obtain ⟨b0, b1, fb⟩ := rcell bB
  obtain ⟨r0, r1, fr⟩ := rcell bR
  have X1 := Lib.hid hx
  clear hx bA bB bR
  go_wp2_with fail
  refine (s_IsValidRat u v _).mono ?_
  rw [HB.out]
  rintro e w2 ⟨rfl, hx⟩
  clear a0 a1 fa b0 b1 fb r0 r1 fr
  have X2 := Lib.hid (X1.out.trans hx)
  obtain ⟨bA, bB, bR⟩ := box3 X2.out
  obtain ⟨a0, a1, fa⟩ := rcell bA
  obtain ⟨b0, b1, fb⟩ := rcell bB
  obtain ⟨r0, r1, fr⟩ := rcell bR
  clear hx bA bB bR
  go_wp2
  rw [HR.out]
  refine bodyPost_ret (v := .tuple #[.agg #[.int .i64 0, .int .i64 0], .bool false]) (by simp [results, Tryz.results37, go_sem, r0, r1]) rfl ⟨rfl, ?_⟩
  exact ((HX.out.trans X2.out).setCell (by simp; omega) _).setCell (by simp; omega) _
 have HA := Lib.hid ha
 have HB := Lib.hid hb
 obtain ⟨x1, x2, y1, y2⟩ := val_in ha
 obtain ⟨u1, u2, v1, v2⟩ := val_in hb
 have q1 : in18 (x * v) := mul_w (by omega) (by omega)
 obtain ⟨e1, g1⟩ := kwrap_in q1
 have q2 : in18 (u * y) := mul_w (by omega) (by omega)
 obtain ⟨e2, g2⟩ := kwrap_in q2
 have q3 : in18 (y * v) := mul_w (by omega) (by omega)
 obtain ⟨e3, g3⟩ := kwrap_in q3
 have e4 : IntKind.i64.wrap (x * v + u * y) = x * v + u * y := by rw [IntKind.wrap_i64]; unfold in18 at *; omega
 have g4 : wrap64 (x * v + u * y) = x * v + u * y := by unfold wrap64; unfold in18 at *; omega
 obtain ⟨p, q, ok, hpq⟩ : ∃ p q ok, ratOf (x * v + u * y) (y * v) = ((p, q), ok) := ⟨_, _, _, rfl⟩
 have HPQ := Lib.hid hpq
 have HR := Lib.hid (show addR (x, y) (u, v) = ((p, q), ok) by simp [addR, ha, hb, hpq])
 clear ha hb hpq
 ·go_enter Tryz.func37, Tryz.ntmps37
  go_wp2_with fail
  refine (s_IsValidRat x y _).mono ?_
  rw [HA.out]
  rintro e w1 ⟨rfl, hx⟩
  obtain ⟨bA, bB, bR⟩ := box3 hx
  obtain ⟨a0, a1, fa⟩ := rcell bA
  obtain ⟨b0, b1, fb⟩ := rcell bB
  obtain ⟨r0, r1, fr⟩ := rcell bR
  have X1 := Lib.hid hx
  clear hx bA bB bR
  go_wp2_with fail
  refine (s_IsValidRat u v _).mono ?_
  rw [HB.out]
  rintro e w2 ⟨rfl, hx⟩
  clear a0 a1 fa b0 b1 fb r0 r1 fr
  have X2 := Lib.hid (X1.out.trans hx)
  obtain ⟨bA, bB, bR⟩ := box3 X2.out
  obtain ⟨a0, a1, fa⟩ := rcell bA
  obtain ⟨b0, b1, fb⟩ := rcell bB
  obtain ⟨r0, r1, fr⟩ := rcell bR
  clear hx bA bB bR
  go_wp2_with fail
  refine (s_RatOf _ _ _).mono ?_
  rw [HPQ.out]
  rintro e w3 ⟨rfl, hx⟩
  clear a0 a1 fa b0 b1 fb r0 r1 fr
  have X3 := Lib.hid (X2.out.trans hx)
  obtain ⟨bA, bB, bR⟩ := box3 X3.out
  obtain ⟨a0, a1, fa⟩ := rcell bA
  obtain ⟨b0, b1, fb⟩ := rcell bB
  obtain ⟨r0, r1, fr⟩ := rcell bR
  clear hx bA bB bR
  go_wp2
  rw [HR.out]
  refine bodyPost_ret (v := .tuple #[.agg #[.int .i64 p, .int .i64 q], .bool ok]) (by simp [results, Tryz.results37, go_sem, r0, r1]) rfl ⟨rfl, ?_⟩
  exact ((HX.out.trans X3.out).setCell (by simp; omega) _).setCell (by simp; omega) _
set_option maxHeartbeats 1000000 in
theorem i_SubRat (x y u v : Int) (w : World) :
 Calls Tryz.prog 177 #[ratV x y, ratV u v] w fun e w' => e = .returned (resR (subR (x, y) (u, v))) ∧ Ext w w' := by
 have HX := Lib.hid (show Ext w (((w.alloc (.cells #[.int .i64 x, .int .i64 y] 43)).alloc (.cells #[.int .i64 u, .int .i64 v] 43)).alloc (.cells #[.int .i64 0, .int .i64 0] 43)) from ((Ext.alloc _ _).trans (Ext.alloc _ _)).trans (Ext.alloc _ _))
 cases ha : valR (x, y)
 ·have HA := Lib.hid ha
  have HR := Lib.hid (show subR (x, y) (u, v) = ((0, 0), false) by simp [subR, ha])
  clear ha
  go_enter Tryz.func177, Tryz.ntmps177
  go_wp2_with fail
  refine (i_IsValidRat x y _).mono ?_
  rw [HA.out]
  rintro e w1 ⟨rfl, hx⟩
  obtain ⟨bA, bB, bR⟩ := box3 hx
  obtain ⟨a0, a1, fa⟩ := rcell bA
  obtain ⟨b0, b1, fb⟩ := rcell bB
  obtain ⟨r0, r1, fr⟩ := rcell bR
  have X1 := Lib.hid hx
  clear hx bA bB bR
  go_wp2
  rw [HR.out]
  refine bodyPost_ret (v := .tuple #[.agg #[.int .i64 0, .int .i64 0], .bool false]) (by simp [results, Tryz.results177, go_sem, r0, r1]) rfl ⟨rfl, ?_⟩
  exact ((HX.out.trans X1.out).setCell (by simp; omega) _).setCell (by simp; omega) _
 cases hb : valR (u, v)
 ·have HA := Lib.hid ha
  have HB := Lib.hid hb
  have HR := Lib.hid (show subR (x, y) (u, v) = ((0, 0), false) by simp [subR, hb])
  clear ha hb
  go_enter Tryz.func177, Tryz.ntmps177
  go_wp2_with fail
  refine (i_IsValidRat x y _).mono ?_
  rw [HA.out]
  rintro e w1 ⟨rfl, hx⟩
  obtain ⟨bA, bB, bR⟩ := box3 hx
  obtain ⟨a0, a1, fa⟩ := rcell bA
  obtain ⟨b0, b1, fb⟩ := rcell bB
  obtain ⟨r0, r1, fr⟩ := rcell bR
  have X1 := Lib.hid hx
  clear hx bA bB bR
  go_wp2_with fail
  refine (i_IsValidRat u v _).mono ?_
  rw [HB.out]
  rintro e w2 ⟨rfl, hx⟩
  clear a0 a1 fa b0 b1 fb r0 r1 fr
  have X2 := Lib.hid (X1.out.trans hx)
  obtain ⟨bA, bB, bR⟩ := box3 X2.out
  obtain ⟨a0, a1, fa⟩ := rcell bA
  obtain ⟨b0, b1, fb⟩ := rcell bB
  obtain ⟨r0, r1, fr⟩ := rcell bR
  clear hx bA bB bR
  go_wp2
  rw [HR.out]
  refine bodyPost_ret (v := .tuple #[.agg #[.int .i64 0, .int .i64 0], .bool false]) (by simp [results, Tryz.results177, go_sem, r0, r1]) rfl ⟨rfl, ?_⟩
  exact ((HX.out.trans X2.out).setCell (by simp; omega) _).setCell (by simp; omega) _
 have HA := Lib.hid ha
 have HB := Lib.hid hb
 obtain ⟨x1, x2, y1, y2⟩ := val_in ha
 obtain ⟨u1, u2, v1, v2⟩ := val_in hb
 have q1 : in18 (x * v) := mul_w (by omega) (by omega)
 obtain ⟨e1, g1⟩ := kwrap_in q1
 have q2 : in18 (u * y) := mul_w (by omega) (by omega)
 obtain ⟨e2, g2⟩ := kwrap_in q2
 have q3 : in18 (y * v) := mul_w (by omega) (by omega)
 obtain ⟨e3, g3⟩ := kwrap_in q3
 have e4 : IntKind.i64.wrap (x * v - u * y) = x * v - u * y := by rw [IntKind.wrap_i64]; unfold in18 at *; omega
 have g4 : wrap64 (x * v - u * y) = x * v - u * y := by unfold wrap64; unfold in18 at *; omega
 obtain ⟨p, q, ok, hpq⟩ : ∃ p q ok, ratOf (x * v - u * y) (y * v) = ((p, q), ok) := ⟨_, _, _, rfl⟩
 have HPQ := Lib.hid hpq
 have HR := Lib.hid (show subR (x, y) (u, v) = ((p, q), ok) by simp [subR, ha, hb, hpq])
 clear ha hb hpq
 ·go_enter Tryz.func177, Tryz.ntmps177
  go_wp2_with fail
  refine (i_IsValidRat x y _).mono ?_
  rw [HA.out]
  rintro e w1 ⟨rfl, hx⟩
  obtain ⟨bA, bB, bR⟩ := box3 hx
  obtain ⟨a0, a1, fa⟩ := rcell bA
  obtain ⟨b0, b1, fb⟩ := rcell bB
  obtain ⟨r0, r1, fr⟩ := rcell bR
  have X1 := Lib.hid hx
  clear hx bA bB bR
  go_wp2_with fail
  refine (i_IsValidRat u v _).mono ?_
  rw [HB.out]
  rintro e w2 ⟨rfl, hx⟩
  clear a0 a1 fa b0 b1 fb r0 r1 fr
  have X2 := Lib.hid (X1.out.trans hx)
  obtain ⟨bA, bB, bR⟩ := box3 X2.out
  obtain ⟨a0, a1, fa⟩ := rcell bA
  obtain ⟨b0, b1, fb⟩ := rcell bB
  obtain ⟨r0, r1, fr⟩ := rcell bR
  clear hx bA bB bR
  go_wp2_with fail
  refine (i_RatOf _ _ _).mono ?_
  rw [HPQ.out]
  rintro e w3 ⟨rfl, hx⟩
  clear a0 a1 fa b0 b1 fb r0 r1 fr
  have X3 := Lib.hid (X2.out.trans hx)
  obtain ⟨bA, bB, bR⟩ := box3 X3.out
  obtain ⟨a0, a1, fa⟩ := rcell bA
  obtain ⟨b0, b1, fb⟩ := rcell bB
  obtain ⟨r0, r1, fr⟩ := rcell bR
  clear hx bA bB bR
  go_wp2
  rw [HR.out]
  refine bodyPost_ret (v := .tuple #[.agg #[.int .i64 p, .int .i64 q], .bool ok]) (by simp [results, Tryz.results177, go_sem, r0, r1]) rfl ⟨rfl, ?_⟩
  exact ((HX.out.trans X3.out).setCell (by simp; omega) _).setCell (by simp; omega) _
set_option maxHeartbeats 1000000 in
theorem i_MulRat (x y u v : Int) (w : World) :
 Calls Tryz.prog 210 #[ratV x y, ratV u v] w fun e w' => e = .returned (resR (mulR (x, y) (u, v))) ∧ Ext w w' := by
 have HX := Lib.hid (show Ext w (((w.alloc (.cells #[.int .i64 x, .int .i64 y] 43)).alloc (.cells #[.int .i64 u, .int .i64 v] 43)).alloc (.cells #[.int .i64 0, .int .i64 0] 43)) from ((Ext.alloc _ _).trans (Ext.alloc _ _)).trans (Ext.alloc _ _))
 cases ha : valR (x, y)
 ·have HA := Lib.hid ha
  have HR := Lib.hid (show mulR (x, y) (u, v) = ((0, 0), false) by simp [mulR, ha])
  clear ha
  go_enter Tryz.func210, Tryz.ntmps210
  go_wp2_with fail
  refine (i_IsValidRat x y _).mono ?_
  rw [HA.out]
  rintro e w1 ⟨rfl, hx⟩
  obtain ⟨bA, bB, bR⟩ := box3 hx
  obtain ⟨a0, a1, fa⟩ := rcell bA
  obtain ⟨b0, b1, fb⟩ := rcell bB
  obtain ⟨r0, r1, fr⟩ := rcell bR
  have X1 := Lib.hid hx
  clear hx bA bB bR
  go_wp2
  rw [HR.out]
  refine bodyPost_ret (v := .tuple #[.agg #[.int .i64 0, .int .i64 0], .bool false]) (by simp [results, Tryz.results210, go_sem, r0, r1]) rfl ⟨rfl, ?_⟩
  exact ((HX.out.trans X1.out).setCell (by simp; omega) _).setCell (by simp; omega) _
 cases hb : valR (u, v)
 ·have HA := Lib.hid ha
  have HB := Lib.hid hb
  have HR := Lib.hid (show mulR (x, y) (u, v) = ((0, 0), false) by simp [mulR, hb])
  clear ha hb
  go_enter Tryz.func210, Tryz.ntmps210
  go_wp2_with fail
  refine (i_IsValidRat x y _).mono ?_
  rw [HA.out]
  rintro e w1 ⟨rfl, hx⟩
  obtain ⟨bA, bB, bR⟩ := box3 hx
  obtain ⟨a0, a1, fa⟩ := rcell bA
  obtain ⟨b0, b1, fb⟩ := rcell bB
  obtain ⟨r0, r1, fr⟩ := rcell bR
  have X1 := Lib.hid hx
  clear hx bA bB bR
  go_wp2_with fail
  refine (i_IsValidRat u v _).mono ?_
  rw [HB.out]
  rintro e w2 ⟨rfl, hx⟩
  clear a0 a1 fa b0 b1 fb r0 r1 fr
  have X2 := Lib.hid (X1.out.trans hx)
  obtain ⟨bA, bB, bR⟩ := box3 X2.out
  obtain ⟨a0, a1, fa⟩ := rcell bA
  obtain ⟨b0, b1, fb⟩ := rcell bB
  obtain ⟨r0, r1, fr⟩ := rcell bR
  clear hx bA bB bR
  go_wp2
  rw [HR.out]
  refine bodyPost_ret (v := .tuple #[.agg #[.int .i64 0, .int .i64 0], .bool false]) (by simp [results, Tryz.results210, go_sem, r0, r1]) rfl ⟨rfl, ?_⟩
  exact ((HX.out.trans X2.out).setCell (by simp; omega) _).setCell (by simp; omega) _
 have HA := Lib.hid ha
 have HB := Lib.hid hb
 obtain ⟨x1, x2, y1, y2⟩ := val_in ha
 obtain ⟨u1, u2, v1, v2⟩ := val_in hb
 have q1 : in18 (x * u) := mul_w (by omega) (by omega)
 obtain ⟨e1, g1⟩ := kwrap_in q1
 have q2 : in18 (y * v) := mul_w (by omega) (by omega)
 obtain ⟨e2, g2⟩ := kwrap_in q2
 obtain ⟨p, q, ok, hpq⟩ : ∃ p q ok, ratOf (x * u) (y * v) = ((p, q), ok) := ⟨_, _, _, rfl⟩
 have HPQ := Lib.hid hpq
 have HR := Lib.hid (show mulR (x, y) (u, v) = ((p, q), ok) by simp [mulR, ha, hb, hpq])
 clear ha hb hpq
 ·go_enter Tryz.func210, Tryz.ntmps210
  go_wp2_with fail
  refine (i_IsValidRat x y _).mono ?_
  rw [HA.out]
  rintro e w1 ⟨rfl, hx⟩
  obtain ⟨bA, bB, bR⟩ := box3 hx
  obtain ⟨a0, a1, fa⟩ := rcell bA
  obtain ⟨b0, b1, fb⟩ := rcell bB
  obtain ⟨r0, r1, fr⟩ := rcell bR
  have X1 := Lib.hid hx
  clear hx bA bB bR
  go_wp2_with fail
  refine (i_IsValidRat u v _).mono ?_
  rw [HB.out]
  rintro e w2 ⟨rfl, hx⟩
  clear a0 a1 fa b0 b1 fb r0 r1 fr
  have X2 := Lib.hid (X1.out.trans hx)
  obtain ⟨bA, bB, bR⟩ := box3 X2.out
  obtain ⟨a0, a1, fa⟩ := rcell bA
  obtain ⟨b0, b1, fb⟩ := rcell bB
  obtain ⟨r0, r1, fr⟩ := rcell bR
  clear hx bA bB bR
  go_wp2_with fail
  refine (i_RatOf _ _ _).mono ?_
  rw [HPQ.out]
  rintro e w3 ⟨rfl, hx⟩
  clear a0 a1 fa b0 b1 fb r0 r1 fr
  have X3 := Lib.hid (X2.out.trans hx)
  obtain ⟨bA, bB, bR⟩ := box3 X3.out
  obtain ⟨a0, a1, fa⟩ := rcell bA
  obtain ⟨b0, b1, fb⟩ := rcell bB
  obtain ⟨r0, r1, fr⟩ := rcell bR
  clear hx bA bB bR
  go_wp2
  rw [HR.out]
  refine bodyPost_ret (v := .tuple #[.agg #[.int .i64 p, .int .i64 q], .bool ok]) (by simp [results, Tryz.results210, go_sem, r0, r1]) rfl ⟨rfl, ?_⟩
  exact ((HX.out.trans X3.out).setCell (by simp; omega) _).setCell (by simp; omega) _
set_option maxHeartbeats 1000000 in
theorem s_MulRat (x y u v : Int) (w : World) :
 Calls Tryz.prog 211 #[ratV x y, ratV u v] w fun e w' => e = .returned (resR (mulR (x, y) (u, v))) ∧ Ext w w' := by
 have HX := Lib.hid (show Ext w (((w.alloc (.cells #[.int .i64 x, .int .i64 y] 43)).alloc (.cells #[.int .i64 u, .int .i64 v] 43)).alloc (.cells #[.int .i64 0, .int .i64 0] 43)) from ((Ext.alloc _ _).trans (Ext.alloc _ _)).trans (Ext.alloc _ _))
 cases ha : valR (x, y)
 ·have HA := Lib.hid ha
  have HR := Lib.hid (show mulR (x, y) (u, v) = ((0, 0), false) by simp [mulR, ha])
  clear ha
  go_enter Tryz.func211, Tryz.ntmps211
  go_wp2_with fail
  refine (s_IsValidRat x y _).mono ?_
  rw [HA.out]
  rintro e w1 ⟨rfl, hx⟩
  obtain ⟨bA, bB, bR⟩ := box3 hx
  obtain ⟨a0, a1, fa⟩ := rcell bA
  obtain ⟨b0, b1, fb⟩ := rcell bB
  obtain ⟨r0, r1, fr⟩ := rcell bR
  have X1 := Lib.hid hx
  clear hx bA bB bR
  go_wp2
  rw [HR.out]
  refine bodyPost_ret (v := .tuple #[.agg #[.int .i64 0, .int .i64 0], .bool false]) (by simp [results, Tryz.results211, go_sem, r0, r1]) rfl ⟨rfl, ?_⟩
  exact ((HX.out.trans X1.out).setCell (by simp; omega) _).setCell (by simp; omega) _
 cases hb : valR (u, v)
 ·have HA := Lib.hid ha
  have HB := Lib.hid hb
  have HR := Lib.hid (show mulR (x, y) (u, v) = ((0, 0), false) by simp [mulR, hb])
  clear ha hb
  go_enter Tryz.func211, Tryz.ntmps211
  go_wp2_with fail
  refine (s_IsValidRat x y _).mono ?_
  rw [HA.out]
  rintro e w1 ⟨rfl, hx⟩
  obtain ⟨bA, bB, bR⟩ := box3 hx
  obtain ⟨a0, a1, fa⟩ := rcell bA
  obtain ⟨b0, b1, fb⟩ := rcell bB
  obtain ⟨r0, r1, fr⟩ := rcell bR
  have X1 := Lib.hid hx
  clear hx bA bB bR
  go_wp2_with fail
  refine (s_IsValidRat u v _).mono ?_
  rw [HB.out]
  rintro e w2 ⟨rfl, hx⟩
  clear a0 a1 fa b0 b1 fb r0 r1 fr
  have X2 := Lib.hid (X1.out.trans hx)
  obtain ⟨bA, bB, bR⟩ := box3 X2.out
  obtain ⟨a0, a1, fa⟩ := rcell bA
  obtain ⟨b0, b1, fb⟩ := rcell bB
  obtain ⟨r0, r1, fr⟩ := rcell bR
  clear hx bA bB bR
  go_wp2
  rw [HR.out]
  refine bodyPost_ret (v := .tuple #[.agg #[.int .i64 0, .int .i64 0], .bool false]) (by simp [results, Tryz.results211, go_sem, r0, r1]) rfl ⟨rfl, ?_⟩
  exact ((HX.out.trans X2.out).setCell (by simp; omega) _).setCell (by simp; omega) _
 have HA := Lib.hid ha
 have HB := Lib.hid hb
 obtain ⟨x1, x2, y1, y2⟩ := val_in ha
 obtain ⟨u1, u2, v1, v2⟩ := val_in hb
 have q1 : in18 (x * u) := mul_w (by omega) (by omega)
 obtain ⟨e1, g1⟩ := kwrap_in q1
 have q2 : in18 (y * v) := mul_w (by omega) (by omega)
 obtain ⟨e2, g2⟩ := kwrap_in q2
 obtain ⟨p, q, ok, hpq⟩ : ∃ p q ok, ratOf (x * u) (y * v) = ((p, q), ok) := ⟨_, _, _, rfl⟩
 have HPQ := Lib.hid hpq
 have HR := Lib.hid (show mulR (x, y) (u, v) = ((p, q), ok) by simp [mulR, ha, hb, hpq])
 clear ha hb hpq
 ·go_enter Tryz.func211, Tryz.ntmps211
  go_wp2_with fail
  refine (s_IsValidRat x y _).mono ?_
  rw [HA.out]
  rintro e w1 ⟨rfl, hx⟩
  obtain ⟨bA, bB, bR⟩ := box3 hx
  obtain ⟨a0, a1, fa⟩ := rcell bA
  obtain ⟨b0, b1, fb⟩ := rcell bB
  obtain ⟨r0, r1, fr⟩ := rcell bR
  have X1 := Lib.hid hx
  clear hx bA bB bR
  go_wp2_with fail
  refine (s_IsValidRat u v _).mono ?_
  rw [HB.out]
  rintro e w2 ⟨rfl, hx⟩
  clear a0 a1 fa b0 b1 fb r0 r1 fr
  have X2 := Lib.hid (X1.out.trans hx)
  obtain ⟨bA, bB, bR⟩ := box3 X2.out
  obtain ⟨a0, a1, fa⟩ := rcell bA
  obtain ⟨b0, b1, fb⟩ := rcell bB
  obtain ⟨r0, r1, fr⟩ := rcell bR
  clear hx bA bB bR
  go_wp2_with fail
  refine (s_RatOf _ _ _).mono ?_
  rw [HPQ.out]
  rintro e w3 ⟨rfl, hx⟩
  clear a0 a1 fa b0 b1 fb r0 r1 fr
  have X3 := Lib.hid (X2.out.trans hx)
  obtain ⟨bA, bB, bR⟩ := box3 X3.out
  obtain ⟨a0, a1, fa⟩ := rcell bA
  obtain ⟨b0, b1, fb⟩ := rcell bB
  obtain ⟨r0, r1, fr⟩ := rcell bR
  clear hx bA bB bR
  go_wp2
  rw [HR.out]
  refine bodyPost_ret (v := .tuple #[.agg #[.int .i64 p, .int .i64 q], .bool ok]) (by simp [results, Tryz.results211, go_sem, r0, r1]) rfl ⟨rfl, ?_⟩
  exact ((HX.out.trans X3.out).setCell (by simp; omega) _).setCell (by simp; omega) _
set_option maxHeartbeats 1000000 in
theorem i_DivRat (x y u v : Int) (w : World) :
 Calls Tryz.prog 113 #[ratV x y, ratV u v] w fun e w' => e = .returned (resR (divR (x, y) (u, v))) ∧ Ext w w' := by
 have HX := Lib.hid (show Ext w (((w.alloc (.cells #[.int .i64 x, .int .i64 y] 43)).alloc (.cells #[.int .i64 u, .int .i64 v] 43)).alloc (.cells #[.int .i64 0, .int .i64 0] 43)) from ((Ext.alloc _ _).trans (Ext.alloc _ _)).trans (Ext.alloc _ _))
 cases ha : valR (x, y)
 ·have HA := Lib.hid ha
  have HR := Lib.hid (show divR (x, y) (u, v) = ((0, 0), false) by simp [divR, ha])
  clear ha
  go_enter Tryz.func113, Tryz.ntmps113
  go_wp2_with fail
  refine (i_IsValidRat x y _).mono ?_
  rw [HA.out]
  rintro e w1 ⟨rfl, hx⟩
  obtain ⟨bA, bB, bR⟩ := box3 hx
  obtain ⟨a0, a1, fa⟩ := rcell bA
  obtain ⟨b0, b1, fb⟩ := rcell bB
  obtain ⟨r0, r1, fr⟩ := rcell bR
  have X1 := Lib.hid hx
  clear hx bA bB bR
  go_wp2
  rw [HR.out]
  refine bodyPost_ret (v := .tuple #[.agg #[.int .i64 0, .int .i64 0], .bool false]) (by simp [results, Tryz.results113, go_sem, r0, r1]) rfl ⟨rfl, ?_⟩
  exact ((HX.out.trans X1.out).setCell (by simp; omega) _).setCell (by simp; omega) _
 cases hb : valR (u, v)
 ·have HA := Lib.hid ha
  have HB := Lib.hid hb
  have HR := Lib.hid (show divR (x, y) (u, v) = ((0, 0), false) by simp [divR, hb])
  clear ha hb
  go_enter Tryz.func113, Tryz.ntmps113
  go_wp2_with fail
  refine (i_IsValidRat x y _).mono ?_
  rw [HA.out]
  rintro e w1 ⟨rfl, hx⟩
  obtain ⟨bA, bB, bR⟩ := box3 hx
  obtain ⟨a0, a1, fa⟩ := rcell bA
  obtain ⟨b0, b1, fb⟩ := rcell bB
  obtain ⟨r0, r1, fr⟩ := rcell bR
  have X1 := Lib.hid hx
  clear hx bA bB bR
  go_wp2_with fail
  refine (i_IsValidRat u v _).mono ?_
  rw [HB.out]
  rintro e w2 ⟨rfl, hx⟩
  clear a0 a1 fa b0 b1 fb r0 r1 fr
  have X2 := Lib.hid (X1.out.trans hx)
  obtain ⟨bA, bB, bR⟩ := box3 X2.out
  obtain ⟨a0, a1, fa⟩ := rcell bA
  obtain ⟨b0, b1, fb⟩ := rcell bB
  obtain ⟨r0, r1, fr⟩ := rcell bR
  clear hx bA bB bR
  go_wp2
  rw [HR.out]
  refine bodyPost_ret (v := .tuple #[.agg #[.int .i64 0, .int .i64 0], .bool false]) (by simp [results, Tryz.results113, go_sem, r0, r1]) rfl ⟨rfl, ?_⟩
  exact ((HX.out.trans X2.out).setCell (by simp; omega) _).setCell (by simp; omega) _
 have HA := Lib.hid ha
 have HB := Lib.hid hb
 obtain ⟨x1, x2, y1, y2⟩ := val_in ha
 obtain ⟨u1, u2, v1, v2⟩ := val_in hb
 have q1 : in18 (x * v) := mul_w (by omega) (by omega)
 obtain ⟨e1, g1⟩ := kwrap_in q1
 have q2 : in18 (y * u) := mul_w (by omega) (by omega)
 obtain ⟨e2, g2⟩ := kwrap_in q2
 obtain ⟨p, q, ok, hpq⟩ : ∃ p q ok, ratOf (x * v) (y * u) = ((p, q), ok) := ⟨_, _, _, rfl⟩
 have HPQ := Lib.hid hpq
 have HR := Lib.hid (show divR (x, y) (u, v) = ((p, q), ok) by simp [divR, ha, hb, hpq])
 clear ha hb hpq
 ·go_enter Tryz.func113, Tryz.ntmps113
  go_wp2_with fail
  refine (i_IsValidRat x y _).mono ?_
  rw [HA.out]
  rintro e w1 ⟨rfl, hx⟩
  obtain ⟨bA, bB, bR⟩ := box3 hx
  obtain ⟨a0, a1, fa⟩ := rcell bA
  obtain ⟨b0, b1, fb⟩ := rcell bB
  obtain ⟨r0, r1, fr⟩ := rcell bR
  have X1 := Lib.hid hx
  clear hx bA bB bR
  go_wp2_with fail
  refine (i_IsValidRat u v _).mono ?_
  rw [HB.out]
  rintro e w2 ⟨rfl, hx⟩
  clear a0 a1 fa b0 b1 fb r0 r1 fr
  have X2 := Lib.hid (X1.out.trans hx)
  obtain ⟨bA, bB, bR⟩ := box3 X2.out
  obtain ⟨a0, a1, fa⟩ := rcell bA
  obtain ⟨b0, b1, fb⟩ := rcell bB
  obtain ⟨r0, r1, fr⟩ := rcell bR
  clear hx bA bB bR
  go_wp2_with fail
  refine (i_RatOf _ _ _).mono ?_
  rw [HPQ.out]
  rintro e w3 ⟨rfl, hx⟩
  clear a0 a1 fa b0 b1 fb r0 r1 fr
  have X3 := Lib.hid (X2.out.trans hx)
  obtain ⟨bA, bB, bR⟩ := box3 X3.out
  obtain ⟨a0, a1, fa⟩ := rcell bA
  obtain ⟨b0, b1, fb⟩ := rcell bB
  obtain ⟨r0, r1, fr⟩ := rcell bR
  clear hx bA bB bR
  go_wp2
  rw [HR.out]
  refine bodyPost_ret (v := .tuple #[.agg #[.int .i64 p, .int .i64 q], .bool ok]) (by simp [results, Tryz.results113, go_sem, r0, r1]) rfl ⟨rfl, ?_⟩
  exact ((HX.out.trans X3.out).setCell (by simp; omega) _).setCell (by simp; omega) _
set_option maxHeartbeats 1000000 in
theorem s_DivRat (x y u v : Int) (w : World) :
 Calls Tryz.prog 183 #[ratV x y, ratV u v] w fun e w' => e = .returned (resR (divR (x, y) (u, v))) ∧ Ext w w' := by
 have HX := Lib.hid (show Ext w (((w.alloc (.cells #[.int .i64 x, .int .i64 y] 43)).alloc (.cells #[.int .i64 u, .int .i64 v] 43)).alloc (.cells #[.int .i64 0, .int .i64 0] 43)) from ((Ext.alloc _ _).trans (Ext.alloc _ _)).trans (Ext.alloc _ _))
 cases ha : valR (x, y)
 ·have HA := Lib.hid ha
  have HR := Lib.hid (show divR (x, y) (u, v) = ((0, 0), false) by simp [divR, ha])
  clear ha
  go_enter Tryz.func183, Tryz.ntmps183
  go_wp2_with fail
  refine (s_IsValidRat x y _).mono ?_
  rw [HA.out]
  rintro e w1 ⟨rfl, hx⟩
  obtain ⟨bA, bB, bR⟩ := box3 hx
  obtain ⟨a0, a1, fa⟩ := rcell bA
  obtain ⟨b0, b1, fb⟩ := rcell bB
  obtain ⟨r0, r1, fr⟩ := rcell bR
  have X1 := Lib.hid hx
  clear hx bA bB bR
  go_wp2
  rw [HR.out]
  refine bodyPost_ret (v := .tuple #[.agg #[.int .i64 0, .int .i64 0], .bool false]) (by simp [results, Tryz.results183, go_sem, r0, r1]) rfl ⟨rfl, ?_⟩
  exact ((HX.out.trans X1.out).setCell (by simp; omega) _).setCell (by simp; omega) _
 cases hb : valR (u, v)
 ·have HA := Lib.hid ha
  have HB := Lib.hid hb
  have HR := Lib.hid (show divR (x, y) (u, v) = ((0, 0), false) by simp [divR, hb])
  clear ha hb
  go_enter Tryz.func183, Tryz.ntmps183
  go_wp2_with fail
  refine (s_IsValidRat x y _).mono ?_
  rw [HA.out]
  rintro e w1 ⟨rfl, hx⟩
  obtain ⟨bA, bB, bR⟩ := box3 hx
  obtain ⟨a0, a1, fa⟩ := rcell bA
  obtain ⟨b0, b1, fb⟩ := rcell bB
  obtain ⟨r0, r1, fr⟩ := rcell bR
  have X1 := Lib.hid hx
  clear hx bA bB bR
  go_wp2_with fail
  refine (s_IsValidRat u v _).mono ?_
  rw [HB.out]
  rintro e w2 ⟨rfl, hx⟩
  clear a0 a1 fa b0 b1 fb r0 r1 fr
  have X2 := Lib.hid (X1.out.trans hx)
  obtain ⟨bA, bB, bR⟩ := box3 X2.out
  obtain ⟨a0, a1, fa⟩ := rcell bA
  obtain ⟨b0, b1, fb⟩ := rcell bB
  obtain ⟨r0, r1, fr⟩ := rcell bR
  clear hx bA bB bR
  go_wp2
  rw [HR.out]
  refine bodyPost_ret (v := .tuple #[.agg #[.int .i64 0, .int .i64 0], .bool false]) (by simp [results, Tryz.results183, go_sem, r0, r1]) rfl ⟨rfl, ?_⟩
  exact ((HX.out.trans X2.out).setCell (by simp; omega) _).setCell (by simp; omega) _
 have HA := Lib.hid ha
 have HB := Lib.hid hb
 obtain ⟨x1, x2, y1, y2⟩ := val_in ha
 obtain ⟨u1, u2, v1, v2⟩ := val_in hb
 have q1 : in18 (x * v) := mul_w (by omega) (by omega)
 obtain ⟨e1, g1⟩ := kwrap_in q1
 have q2 : in18 (y * u) := mul_w (by omega) (by omega)
 obtain ⟨e2, g2⟩ := kwrap_in q2
 obtain ⟨p, q, ok, hpq⟩ : ∃ p q ok, ratOf (x * v) (y * u) = ((p, q), ok) := ⟨_, _, _, rfl⟩
 have HPQ := Lib.hid hpq
 have HR := Lib.hid (show divR (x, y) (u, v) = ((p, q), ok) by simp [divR, ha, hb, hpq])
 clear ha hb hpq
 ·go_enter Tryz.func183, Tryz.ntmps183
  go_wp2_with fail
  refine (s_IsValidRat x y _).mono ?_
  rw [HA.out]
  rintro e w1 ⟨rfl, hx⟩
  obtain ⟨bA, bB, bR⟩ := box3 hx
  obtain ⟨a0, a1, fa⟩ := rcell bA
  obtain ⟨b0, b1, fb⟩ := rcell bB
  obtain ⟨r0, r1, fr⟩ := rcell bR
  have X1 := Lib.hid hx
  clear hx bA bB bR
  go_wp2_with fail
  refine (s_IsValidRat u v _).mono ?_
  rw [HB.out]
  rintro e w2 ⟨rfl, hx⟩
  clear a0 a1 fa b0 b1 fb r0 r1 fr
  have X2 := Lib.hid (X1.out.trans hx)
  obtain ⟨bA, bB, bR⟩ := box3 X2.out
  obtain ⟨a0, a1, fa⟩ := rcell bA
  obtain ⟨b0, b1, fb⟩ := rcell bB
  obtain ⟨r0, r1, fr⟩ := rcell bR
  clear hx bA bB bR
  go_wp2_with fail
  refine (s_RatOf _ _ _).mono ?_
  rw [HPQ.out]
  rintro e w3 ⟨rfl, hx⟩
  clear a0 a1 fa b0 b1 fb r0 r1 fr
  have X3 := Lib.hid (X2.out.trans hx)
  obtain ⟨bA, bB, bR⟩ := box3 X3.out
  obtain ⟨a0, a1, fa⟩ := rcell bA
  obtain ⟨b0, b1, fb⟩ := rcell bB
  obtain ⟨r0, r1, fr⟩ := rcell bR
  clear hx bA bB bR
  go_wp2
  rw [HR.out]
  refine bodyPost_ret (v := .tuple #[.agg #[.int .i64 p, .int .i64 q], .bool ok]) (by simp [results, Tryz.results183, go_sem, r0, r1]) rfl ⟨rfl, ?_⟩
  exact ((HX.out.trans X3.out).setCell (by simp; omega) _).setCell (by simp; omega) _
set_option maxHeartbeats 1000000 in
theorem i_CompareRat (x y u v : Int) (w : World) :
 Calls Tryz.prog 38 #[ratV x y, ratV u v] w fun e w' => e = .returned (.int .i64 (cmpR (x, y) (u, v))) ∧ Ext w w' := by
 have HX := Lib.hid (show Ext w ((w.alloc (.cells #[.int .i64 x, .int .i64 y] 43)).alloc (.cells #[.int .i64 u, .int .i64 v] 43)) from (Ext.alloc _ _).trans (Ext.alloc _ _))
 cases ha : valR (x, y)
 ·have HA := Lib.hid ha
  have HR := Lib.hid (show cmpR (x, y) (u, v) = 0 by simp [cmpR, ha])
  clear ha
  go_enter Tryz.func38, Tryz.ntmps38
  go_wp2_with fail
  refine (i_IsValidRat x y _).mono ?_
  rw [HA.out]
  rintro e w1 ⟨rfl, hx⟩
  obtain ⟨bA, bB⟩ := box2 hx
  obtain ⟨a0, a1, fa⟩ := rcell bA
  obtain ⟨b0, b1, fb⟩ := rcell bB
  have X1 := Lib.hid hx
  clear hx bA bB
  go_wp2
  go_ret
  exact ⟨ret_int HR.out.symm, HX.out.trans X1.out⟩
 cases hb : valR (u, v)
 ·have HA := Lib.hid ha
  have HB := Lib.hid hb
  have HR := Lib.hid (show cmpR (x, y) (u, v) = 0 by simp [cmpR, hb])
  clear ha hb
  go_enter Tryz.func38, Tryz.ntmps38
  go_wp2_with fail
  refine (i_IsValidRat x y _).mono ?_
  rw [HA.out]
  rintro e w1 ⟨rfl, hx⟩
  obtain ⟨bA, bB⟩ := box2 hx
  obtain ⟨a0, a1, fa⟩ := rcell bA
  obtain ⟨b0, b1, fb⟩ := rcell bB
  have X1 := Lib.hid hx
  clear hx bA bB
  go_wp2_with fail
  refine (i_IsValidRat u v _).mono ?_
  rw [HB.out]
  rintro e w2 ⟨rfl, hx⟩
  clear a0 a1 fa b0 b1 fb
  have X2 := Lib.hid (X1.out.trans hx)
  obtain ⟨bA, bB⟩ := box2 X2.out
  obtain ⟨a0, a1, fa⟩ := rcell bA
  obtain ⟨b0, b1, fb⟩ := rcell bB
  clear hx bA bB
  go_wp2
  go_ret
  exact ⟨ret_int HR.out.symm, HX.out.trans X2.out⟩
 have HA := Lib.hid ha
 have HB := Lib.hid hb
 obtain ⟨x1, x2, y1, y2⟩ := val_in ha
 obtain ⟨u1, u2, v1, v2⟩ := val_in hb
 have q1 : in18 (x * v) := mul_w (by omega) (by omega)
 have q2 : in18 (u * y) := mul_w (by omega) (by omega)
 obtain ⟨e1, g1⟩ := kwrap_in q1
 obtain ⟨e2, g2⟩ := kwrap_in q2
 have hR : cmpR (x, y) (u, v) = (if x * v < u * y then -1 else if u * y < x * v then 1 else 0) := by simp [cmpR, ha, hb]
 obtain ⟨P, hP⟩ : ∃ P, P = x * v := ⟨_, rfl⟩
 obtain ⟨Q, hQ⟩ : ∃ Q, Q = u * y := ⟨_, rfl⟩
 rw [← hP, ← hQ] at hR
 rw [← hP] at e1 g1
 rw [← hQ] at e2 g2
 have HR := Lib.hid hR
 have hP' := hP.symm
 have hQ' := hQ.symm
 clear ha hb hR q1 q2 hP hQ
 by_cases h1 : P < Q
 ·go_enter Tryz.func38, Tryz.ntmps38
  go_wp2_with fail
  refine (i_IsValidRat x y _).mono ?_
  rw [HA.out]
  rintro e w1 ⟨rfl, hx⟩
  obtain ⟨bA, bB⟩ := box2 hx
  obtain ⟨a0, a1, fa⟩ := rcell bA
  obtain ⟨b0, b1, fb⟩ := rcell bB
  have X1 := Lib.hid hx
  clear hx bA bB
  go_wp2_with fail
  refine (i_IsValidRat u v _).mono ?_
  rw [HB.out]
  rintro e w2 ⟨rfl, hx⟩
  clear a0 a1 fa b0 b1 fb
  have X2 := Lib.hid (X1.out.trans hx)
  obtain ⟨bA, bB⟩ := box2 X2.out
  obtain ⟨a0, a1, fa⟩ := rcell bA
  obtain ⟨b0, b1, fb⟩ := rcell bB
  clear hx bA bB
  go_wp2
  go_quiet (fail)
  go_wp2
  go_ret
  exact ⟨ret_int (by rw [HR.out, if_pos (by omega)]), HX.out.trans (X2.out.trans (Drew.ext ⟨_, rfl⟩))⟩
 by_cases h2 : Q < P
 ·go_enter Tryz.func38, Tryz.ntmps38
  go_wp2_with fail
  refine (i_IsValidRat x y _).mono ?_
  rw [HA.out]
  rintro e w1 ⟨rfl, hx⟩
  obtain ⟨bA, bB⟩ := box2 hx
  obtain ⟨a0, a1, fa⟩ := rcell bA
  obtain ⟨b0, b1, fb⟩ := rcell bB
  have X1 := Lib.hid hx
  clear hx bA bB
  go_wp2_with fail
  refine (i_IsValidRat u v _).mono ?_
  rw [HB.out]
  rintro e w2 ⟨rfl, hx⟩
  clear a0 a1 fa b0 b1 fb
  have X2 := Lib.hid (X1.out.trans hx)
  obtain ⟨bA, bB⟩ := box2 X2.out
  obtain ⟨a0, a1, fa⟩ := rcell bA
  obtain ⟨b0, b1, fb⟩ := rcell bB
  clear hx bA bB
  go_wp2
  go_quiet (fail)
  go_wp2
  go_ret
  exact ⟨ret_int (by rw [HR.out, if_neg (by omega), if_pos (by omega)]), HX.out.trans (X2.out.trans (Drew.ext ⟨_, rfl⟩))⟩
 ·go_enter Tryz.func38, Tryz.ntmps38
  go_wp2_with fail
  refine (i_IsValidRat x y _).mono ?_
  rw [HA.out]
  rintro e w1 ⟨rfl, hx⟩
  obtain ⟨bA, bB⟩ := box2 hx
  obtain ⟨a0, a1, fa⟩ := rcell bA
  obtain ⟨b0, b1, fb⟩ := rcell bB
  have X1 := Lib.hid hx
  clear hx bA bB
  go_wp2_with fail
  refine (i_IsValidRat u v _).mono ?_
  rw [HB.out]
  rintro e w2 ⟨rfl, hx⟩
  clear a0 a1 fa b0 b1 fb
  have X2 := Lib.hid (X1.out.trans hx)
  obtain ⟨bA, bB⟩ := box2 X2.out
  obtain ⟨a0, a1, fa⟩ := rcell bA
  obtain ⟨b0, b1, fb⟩ := rcell bB
  clear hx bA bB
  go_wp2
  go_quiet (fail)
  go_wp2
  go_ret
  exact ⟨ret_int (by rw [HR.out, if_neg (by omega), if_neg (by omega)]), HX.out.trans (X2.out.trans (Drew.ext ⟨_, rfl⟩))⟩
set_option maxHeartbeats 1000000 in
theorem s_CompareRat (x y u v : Int) (w : World) :
 Calls Tryz.prog 147 #[ratV x y, ratV u v] w fun e w' => e = .returned (.int .i64 (cmpR (x, y) (u, v))) ∧ Ext w w' := by
 have HX := Lib.hid (show Ext w ((w.alloc (.cells #[.int .i64 x, .int .i64 y] 43)).alloc (.cells #[.int .i64 u, .int .i64 v] 43)) from (Ext.alloc _ _).trans (Ext.alloc _ _))
 cases ha : valR (x, y)
 ·have HA := Lib.hid ha
  have HR := Lib.hid (show cmpR (x, y) (u, v) = 0 by simp [cmpR, ha])
  clear ha
  go_enter Tryz.func147, Tryz.ntmps147
  go_wp2_with fail
  refine (s_IsValidRat x y _).mono ?_
  rw [HA.out]
  rintro e w1 ⟨rfl, hx⟩
  obtain ⟨bA, bB⟩ := box2 hx
  obtain ⟨a0, a1, fa⟩ := rcell bA
  obtain ⟨b0, b1, fb⟩ := rcell bB
  have X1 := Lib.hid hx
  clear hx bA bB
  go_wp2
  go_ret
  exact ⟨ret_int HR.out.symm, HX.out.trans X1.out⟩
 cases hb : valR (u, v)
 ·have HA := Lib.hid ha
  have HB := Lib.hid hb
  have HR := Lib.hid (show cmpR (x, y) (u, v) = 0 by simp [cmpR, hb])
  clear ha hb
  go_enter Tryz.func147, Tryz.ntmps147
  go_wp2_with fail
  refine (s_IsValidRat x y _).mono ?_
  rw [HA.out]
  rintro e w1 ⟨rfl, hx⟩
  obtain ⟨bA, bB⟩ := box2 hx
  obtain ⟨a0, a1, fa⟩ := rcell bA
  obtain ⟨b0, b1, fb⟩ := rcell bB
  have X1 := Lib.hid hx
  clear hx bA bB
  go_wp2_with fail
  refine (s_IsValidRat u v _).mono ?_
  rw [HB.out]
  rintro e w2 ⟨rfl, hx⟩
  clear a0 a1 fa b0 b1 fb
  have X2 := Lib.hid (X1.out.trans hx)
  obtain ⟨bA, bB⟩ := box2 X2.out
  obtain ⟨a0, a1, fa⟩ := rcell bA
  obtain ⟨b0, b1, fb⟩ := rcell bB
  clear hx bA bB
  go_wp2
  go_ret
  exact ⟨ret_int HR.out.symm, HX.out.trans X2.out⟩
 have HA := Lib.hid ha
 have HB := Lib.hid hb
 obtain ⟨x1, x2, y1, y2⟩ := val_in ha
 obtain ⟨u1, u2, v1, v2⟩ := val_in hb
 have q1 : in18 (x * v) := mul_w (by omega) (by omega)
 have q2 : in18 (u * y) := mul_w (by omega) (by omega)
 obtain ⟨e1, g1⟩ := kwrap_in q1
 obtain ⟨e2, g2⟩ := kwrap_in q2
 have hR : cmpR (x, y) (u, v) = (if x * v < u * y then -1 else if u * y < x * v then 1 else 0) := by simp [cmpR, ha, hb]
 obtain ⟨P, hP⟩ : ∃ P, P = x * v := ⟨_, rfl⟩
 obtain ⟨Q, hQ⟩ : ∃ Q, Q = u * y := ⟨_, rfl⟩
 rw [← hP, ← hQ] at hR
 rw [← hP] at e1 g1
 rw [← hQ] at e2 g2
 have HR := Lib.hid hR
 have hP' := hP.symm
 have hQ' := hQ.symm
 clear ha hb hR q1 q2 hP hQ
 by_cases h1 : P < Q
 ·go_enter Tryz.func147, Tryz.ntmps147
  go_wp2_with fail
  refine (s_IsValidRat x y _).mono ?_
  rw [HA.out]
  rintro e w1 ⟨rfl, hx⟩
  obtain ⟨bA, bB⟩ := box2 hx
  obtain ⟨a0, a1, fa⟩ := rcell bA
  obtain ⟨b0, b1, fb⟩ := rcell bB
  have X1 := Lib.hid hx
  clear hx bA bB
  go_wp2_with fail
  refine (s_IsValidRat u v _).mono ?_
  rw [HB.out]
  rintro e w2 ⟨rfl, hx⟩
  clear a0 a1 fa b0 b1 fb
  have X2 := Lib.hid (X1.out.trans hx)
  obtain ⟨bA, bB⟩ := box2 X2.out
  obtain ⟨a0, a1, fa⟩ := rcell bA
  obtain ⟨b0, b1, fb⟩ := rcell bB
  clear hx bA bB
  go_wp2
  go_ret
  exact ⟨ret_int (by rw [HR.out, if_pos (by omega)]), HX.out.trans X2.out⟩
 by_cases h2 : Q < P
 ·go_enter Tryz.func147, Tryz.ntmps147
  go_wp2_with fail
  refine (s_IsValidRat x y _).mono ?_
  rw [HA.out]
  rintro e w1 ⟨rfl, hx⟩
  obtain ⟨bA, bB⟩ := box2 hx
  obtain ⟨a0, a1, fa⟩ := rcell bA
  obtain ⟨b0, b1, fb⟩ := rcell bB
  have X1 := Lib.hid hx
  clear hx bA bB
  go_wp2_with fail
  refine (s_IsValidRat u v _).mono ?_
  rw [HB.out]
  rintro e w2 ⟨rfl, hx⟩
  clear a0 a1 fa b0 b1 fb
  have X2 := Lib.hid (X1.out.trans hx)
  obtain ⟨bA, bB⟩ := box2 X2.out
  obtain ⟨a0, a1, fa⟩ := rcell bA
  obtain ⟨b0, b1, fb⟩ := rcell bB
  clear hx bA bB
  go_wp2
  go_ret
  exact ⟨ret_int (by rw [HR.out, if_neg (by omega), if_pos (by omega)]), HX.out.trans X2.out⟩
 ·go_enter Tryz.func147, Tryz.ntmps147
  go_wp2_with fail
  refine (s_IsValidRat x y _).mono ?_
  rw [HA.out]
  rintro e w1 ⟨rfl, hx⟩
  obtain ⟨bA, bB⟩ := box2 hx
  obtain ⟨a0, a1, fa⟩ := rcell bA
  obtain ⟨b0, b1, fb⟩ := rcell bB
  have X1 := Lib.hid hx
  clear hx bA bB
  go_wp2_with fail
  refine (s_IsValidRat u v _).mono ?_
  rw [HB.out]
  rintro e w2 ⟨rfl, hx⟩
  clear a0 a1 fa b0 b1 fb
  have X2 := Lib.hid (X1.out.trans hx)
  obtain ⟨bA, bB⟩ := box2 X2.out
  obtain ⟨a0, a1, fa⟩ := rcell bA
  obtain ⟨b0, b1, fb⟩ := rcell bB
  clear hx bA bB
  go_wp2
  go_ret
  exact ⟨ret_int (by rw [HR.out, if_neg (by omega), if_neg (by omega)]), HX.out.trans X2.out⟩
set_option maxHeartbeats 1000000 in
theorem s_SubRat (x y u v : Int) (w : World) :
 Calls Tryz.prog 184 #[ratV x y, ratV u v] w fun e w' => e = .returned (resR (subR (x, y) (u, v))) ∧ Ext w w' := by
 have HX := Lib.hid (show Ext w (((w.alloc (.cells #[.int .i64 x, .int .i64 y] 43)).alloc (.cells #[.int .i64 u, .int .i64 v] 43)).alloc (.cells #[.int .i64 0, .int .i64 0] 43)) from ((Ext.alloc _ _).trans (Ext.alloc _ _)).trans (Ext.alloc _ _))
 cases hb : valR (u, v)
 ·have HB := Lib.hid hb
  have HR := Lib.hid (show subR (x, y) (u, v) = ((0, 0), false) by simp [subR, hb])
  clear hb
  go_enter Tryz.func184, Tryz.ntmps184
  go_wp2_with fail
  refine (s_IsValidRat u v _).mono ?_
  rw [HB.out]
  rintro e w1 ⟨rfl, hx⟩
  obtain ⟨bA, bB, bR⟩ := box3 hx
  obtain ⟨a0, a1, fa⟩ := rcell bA
  obtain ⟨b0, b1, fb⟩ := rcell bB
  obtain ⟨r0, r1, fr⟩ := rcell bR
  have X1 := Lib.hid hx
  clear hx bA bB bR
  go_wp2
  rw [HR.out]
  refine bodyPost_ret (v := .tuple #[.agg #[.int .i64 0, .int .i64 0], .bool false]) (by simp [results, Tryz.results184, go_sem, r0, r1]) rfl ⟨rfl, ?_⟩
  exact ((HX.out.trans X1.out).setCell (by simp; omega) _).setCell (by simp; omega) _
 ·have HB := Lib.hid hb
  obtain ⟨u1, u2, v1, v2⟩ := val_in hb
  obtain ⟨p, q, ok, hpq⟩ : ∃ p q ok, addR (x, y) (-u, v) = ((p, q), ok) := ⟨_, _, _, rfl⟩
  have HPQ := Lib.hid hpq
  have HR := Lib.hid (show subR (x, y) (u, v) = ((p, q), ok) by rw [← subR_add]; exact hpq)
  clear hb hpq
  go_enter Tryz.func184, Tryz.ntmps184
  go_wp2_with fail
  refine (s_IsValidRat u v _).mono ?_
  rw [HB.out]
  rintro e w1 ⟨rfl, hx⟩
  obtain ⟨bA, bB, bR⟩ := box3 hx
  obtain ⟨a0, a1, fa⟩ := rcell bA
  obtain ⟨b0, b1, fb⟩ := rcell bB
  obtain ⟨r0, r1, fr⟩ := rcell bR
  have X1 := Lib.hid hx
  have HBA := Lib.hid bA
  have HBR := Lib.hid bR
  have hl := lt_of_block bR
  clear hx bA bB bR
  go_wp2_with fail
  refine (s_AddRat _ _ _ _ _).mono ?_
  rw [HPQ.out]
  rintro e w3 ⟨rfl, hx⟩
  have hz : Ext w (w1.setCell ⟨w.heap.size + 1, 0, none⟩ (.int .i64 (-u))) := (HX.out.trans X1.out).setCell (by simp) _
  have X3 := Lib.hid (hz.trans hx)
  clear hz
  have bR : w3.heap[w.heap.size + 1 + 1]? = some (.cells #[.int .i64 0, .int .i64 0] 43 (0, 0)) := (hx.block _ (by simp; omega)).trans ((heap_setCell_other _ _ _ _ (by simp)).trans HBR.out)
  clear a0 a1 fa b0 b1 fb r0 r1 fr
  obtain ⟨r0, r1, fr⟩ := rcell bR
  clear hx bR
  go_wp2
  rw [HR.out]
  refine bodyPost_ret (v := .tuple #[.agg #[.int .i64 p, .int .i64 q], .bool ok]) (by simp [results, Tryz.results184, go_sem, r0, r1]) rfl ⟨rfl, ?_⟩
  exact (X3.out.setCell (by simp; omega) _).setCell (by simp; omega) _
structure Boxed (w W : World) (g : Nat) (p q : Int) : Prop where
 ext : Ext w W
 ge : w.heap.size ≤ g
 cell : W.heap[g]? = some (.cells #[.int .i64 p, .int .i64 q] 43 (0, 0))
theorem Boxed.lt {w W : World} {g : Nat} {p q : Int} (h : Boxed w W g p q) : g < W.heap.size := lt_of_block h.cell
theorem Boxed.grow {w W W' : World} {g : Nat} {p q : Int} (h : Boxed w W g p q) (hx : Ext W W') : Boxed w W' g p q :=
 ⟨h.ext.trans hx, h.ge, (hx.block _ h.lt).trans h.cell⟩
theorem Boxed.c0 {w W : World} {g : Nat} {p q : Int} (h : Boxed w W g p q) : W.cell? ⟨g, 0, none⟩ = some (.int .i64 p) := (rcell h.cell).1
theorem Boxed.c1 {w W : World} {g : Nat} {p q : Int} (h : Boxed w W g p q) : W.cell? ⟨g, 1, none⟩ = some (.int .i64 q) := (rcell h.cell).2.1
theorem Boxed.free {w W : World} {g : Nat} {p q : Int} (h : Boxed w W g p q) (o : Nat) : W.frozen? ⟨g, o, none⟩ = false := (rcell h.cell).2.2 o
theorem Boxed.new {w W : World} (h : Ext w W) (p q : Int) : Boxed w (W.alloc (.cells #[.int .i64 p, .int .i64 q] 43)) W.heap.size p q :=
 ⟨h.trans (Ext.alloc _ _), h.size, heap_alloc_new _ _⟩
theorem Boxed.new' {w W : World} (h : Ext w W) (p q : Int) {n : Nat} (hn : n = W.heap.size) : Boxed w (W.alloc (.cells #[.int .i64 p, .int .i64 q] 43)) n p q := by
 subst hn; exact Boxed.new h p q
theorem Boxed.put {w W : World} {g : Nat} {p q : Int} (h : Boxed w W g p q) (p' q' : Int) : Boxed w ((W.setCell ⟨g, 0, none⟩ (.int .i64 p')).setCell ⟨g, 1, none⟩ (.int .i64 q')) g p' q' :=
 ⟨(h.ext.setCell (p := ⟨g, 0, none⟩) h.ge (.int .i64 p')).setCell (p := ⟨g, 1, none⟩) h.ge (.int .i64 q'), h.ge, by rw [heap_setCell_same _ _ _ _ _ _ (heap_setCell_same _ _ _ _ _ _ h.cell)]; rfl⟩
theorem Boxed.firstD {w w' : World} (h : Ext (w.alloc (.cells #[.int .i64 0, .int .i64 0] 43)).drew w') : Boxed w w' w.heap.size 0 0 :=
 Boxed.grow ⟨(Ext.alloc _ _).trans (Ext.drew _), Nat.le_refl _, heap_alloc_new w _⟩ h
theorem Boxed.laterD {w W w' : World} (h : Ext w W) (hx : Ext (W.alloc (.cells #[.int .i64 0, .int .i64 0] 43)) w') : Boxed w w' W.heap.size 0 0 :=
 Boxed.grow (Boxed.new h 0 0) hx
def runT (f : Nat → Option (Int × Int)) : Nat → Option (List (Int × Int))
 | 0 => some []
 | m + 1 => (runT f m).bind fun l => (f m).map fun x => l ++ [x]
theorem runT_some {f : Nat → Option (Int × Int)} {k : Nat} {r : List (Int × Int)} {x : Int × Int} (h : runT f k = some r) (hx : f k = some x) : runT f (k + 1) = some (r ++ [x]) := by simp [runT, h, hx]
theorem runT_stuck {f : Nat → Option (Int × Int)} {k : Nat} (h : runT f k = none) : ∀ {n : Nat}, k ≤ n → runT f n = none
 | n, hn => by
   obtain ⟨d, rfl⟩ : ∃ d, n = k + d := ⟨n - k, by omega⟩
   clear hn
   induction d with
   | zero => exact h
   | succ d ih => show (runT f (k + d)).bind _ = none; rw [ih]; rfl
theorem runT_fail {f : Nat → Option (Int × Int)} {k n : Nat} {r : List (Int × Int)} (h : runT f k = some r) (hx : f k = none) (hn : k < n) : runT f n = none :=
 runT_stuck (k := k + 1) (by simp [runT, h, hx]) (by omega)
theorem runT_len {f : Nat → Option (Int × Int)} : ∀ {k : Nat} {r : List (Int × Int)}, runT f k = some r → r.length = k
 | 0, r, h => by simp only [runT, Option.some.injEq] at h; rw [← h]; rfl
 | k + 1, r, h => by
   cases hk : runT f k with
   | none => simp [runT, hk] at h
   | some l =>
     cases hf : f k with
     | none => simp [runT, hk, hf] at h
     | some x =>
       rw [runT_some hk hf] at h
       simp only [Option.some.injEq] at h
       rw [← h, List.length_append, runT_len hk]
       rfl
theorem runT_at {f : Nat → Option (Int × Int)} : ∀ {k : Nat} {r : List (Int × Int)}, runT f k = some r → ∀ i, i < k → f i = some (r[i]?.getD (0, 0))
 | 0, r, h => fun i hi => absurd hi (by omega)
 | k + 1, r, h => fun i hi => by
   cases hk : runT f k with
   | none => simp [runT, hk] at h
   | some l =>
     cases hf : f k with
     | none => simp [runT, hk, hf] at h
     | some x =>
       rw [runT_some hk hf] at h
       simp only [Option.some.injEq] at h
       subst h
       have hl := runT_len hk
       by_cases hik : i < k
       ·rw [List.getElem?_append_left (by omega)]; exact runT_at hk i hik
       ·obtain rfl : i = k := by omega
        rw [← hl, List.getElem?_concat_length, Option.getD_some, hl, hf]
theorem runT_all {f : Nat → Option (Int × Int)} {F : Nat → Int × Int} : ∀ {k : Nat}, (∀ i, i < k → f i = some (F i)) → runT f k = some ((List.range k).map F)
 | 0, _ => rfl
 | k + 1, h => by
   rw [runT_some (runT_all fun i hi => h i (by omega)) (h k (by omega)), List.range_succ, List.map_append]
   rfl
def sclF (A : List (Int × Int)) (k : Int × Int) (B : List (Int × Int)) (i : Nat) : Option (Int × Int) :=
 if (mulR k (B[i]?.getD (0, 0))).2 = true ∧ (addR (A[i]?.getD (0, 0)) (mulR k (B[i]?.getD (0, 0))).1).2 = true then some (addR (A[i]?.getD (0, 0)) (mulR k (B[i]?.getD (0, 0))).1).1 else none
def sclL (A : List (Int × Int)) (k : Int × Int) (B : List (Int × Int)) : Option (List (Int × Int)) := if A.length = B.length then runT (sclF A k B) A.length else none
def wholeL (C : List Int) : List (Int × Int) := C.map fun c => (c, 1)
theorem wholeL_len (C : List Int) : (wholeL C).length = C.length := by simp [wholeL]
theorem wholeL_at {C : List Int} {k : Nat} (h : k < C.length) : (wholeL C)[k]?.getD (0, 0) = (C[k]?.getD 0, 1) := by simp [wholeL, h]
def fitL (C : List Int) : Bool := C.all fun c => inB c (-1000000000) 1000000000
set_option maxHeartbeats 4000000 in
theorem i_AddScaled {w : World} {k1 k2 : Int} {a b : Option Addr} {n cap n' cap' : Nat} {A B : List (Int × Int)} (h : Rats w a n cap A) (h' : Rats w b n' cap' B) (hbig : n ≤ 1048576) :
 Calls Tryz.prog 141 #[.slice a n cap, ratV k1 k2, .slice b n' cap'] w fun e w' => (∃ v, e = .returned (.tuple #[v, .bool (sclL A (k1, k2) B).isSome]) ∧ OwnR w' w.heap.size v ((sclL A (k1, k2) B).getD [])) ∧ Ext w w' := by
 have HL := Lib.hid h.hlen
 have HL' := Lib.hid h'.hlen
 have hmax := h.hmax
 have hcap := h.hcap
 have hmax' := h'.hmax
 have hcap' := h'.hcap
 have HA := Lib.hid h
 have HB' := Lib.hid h'
 have HX := Lib.hid (Ext.alloc w (.cells #[.int .i64 k1, .int .i64 k2] 43))
 clear h h'
 by_cases hne : n = n'
 ·subst hne
  have HS := Lib.hid (show sclL A (k1, k2) B = runT (sclF A (k1, k2) B) n by unfold sclL; rw [HL.out, HL'.out, if_pos rfl])
  have HO := Lib.hid (OwnR.made (w.alloc (.cells #[.int .i64 k1, .int .i64 k2] 43)) (w.heap.size + 1) (by simp))
  go_enter Tryz.func141, Tryz.ntmps141
  go_wp2_with fail
  go_loopg [8, 22] n (fun gk o i wr => ∃ (k : Nat) (a1 : Option Addr) (n1 p1 : Nat) (r : List (Int × Int)), Hid (gk + k = n) ∧ i = .int .i64 (k : Int) ∧ o = .slice a1 n1 p1 ∧ Hid (runT (sclF A (k1, k2) B) k = some r) ∧ Hid (OwnR wr (w.heap.size + 1) (.slice a1 n1 p1) r) ∧ Hid (Ext (w.alloc (.cells #[.int .i64 k1, .int .i64 k2] 43)) wr))
  case atStart => exact ⟨0, _, _, _, [], Lib.hid (by omega), rfl, rfl, Lib.hid rfl, Lib.hid (by simpa using HO.out), Lib.hid (Ext.alloc _ _)⟩
  case round =>
   obtain ⟨k, a1, n1, p1, r, HK, rfl, rfl, HR, HO1, HX1⟩ := hrel
   have hszr := HX1.out.size
   rw [World.size_alloc] at hszr
   by_cases hlt : k < n
   ·have hkc0 : wr.cell? ⟨w.heap.size, 0, none⟩ = some (.int .i64 k1) := HX1.out.cellSome (by simp)
    have hkc1 : wr.cell? ⟨w.heap.size, 1, none⟩ = some (.int .i64 k2) := HX1.out.cellSome (by simp)
    obtain ⟨ab, aoff, ax, ay, ha, hax, hac0, hac1⟩ := ((HA.out.ext HX.out).ext HX1.out).at hlt
    obtain ⟨bb, boff, bx, by', hb, hbx, hbc0, hbc1⟩ := ((HB'.out.ext HX.out).ext HX1.out).at hlt
    subst ha hb
    have HAX := Lib.hid hax
    have HBX := Lib.hid hbx
    obtain ⟨p, q, one, hm⟩ : ∃ p q ok, mulR (k1, k2) (bx, by') = ((p, q), ok) := ⟨_, _, _, rfl⟩
    have HM := Lib.hid hm
    obtain ⟨p2, q2, two, hs2⟩ : ∃ u v ok, addR (ax, ay) (p, q) = ((u, v), ok) := ⟨_, _, _, rfl⟩
    have HS2 := Lib.hid hs2
    clear hax hbx hm hs2
    go_upto_region 7 with fail
    go_cut [10, 11] (fun sx so wx => ∃ g : Nat, sx = .pointer (some ⟨g, 0, none⟩) ∧ so = .bool one ∧ Hid (Boxed wr wx g p q))
    case first =>
     have hk2 : Ext wr wr.drew := Ext.drew wr
     have hka : Ext wr (wr.alloc (.cells #[.int .i64 0, .int .i64 0] 43)).drew := (Ext.alloc _ _).trans (Ext.drew _)
     have HKEEP := Lib.hid (fun (w' : World) (h : Ext wr w') => (⟨h.cellSome hkc0, h.cellSome hkc1, h.cellSome hbc0, h.cellSome hbc1, h⟩ : w'.cell? ⟨w.heap.size, 0, none⟩ = some (.int .i64 k1) ∧ w'.cell? ⟨w.heap.size, 1, none⟩ = some (.int .i64 k2) ∧ w'.cell? ⟨bb, boff + k * 2, none⟩ = some (.int .i64 bx) ∧ w'.cell? ⟨bb, boff + k * 2 + 1, none⟩ = some (.int .i64 by') ∧ Ext wr w'))
     go_region_held3 (fun w' => w'.cell? ⟨w.heap.size, 0, none⟩ = some (.int .i64 k1) ∧ w'.cell? ⟨w.heap.size, 1, none⟩ = some (.int .i64 k2) ∧ w'.cell? ⟨bb, boff + k * 2, none⟩ = some (.int .i64 bx) ∧ w'.cell? ⟨bb, boff + k * 2 + 1, none⟩ = some (.int .i64 by') ∧ Ext wr w')
      (first
        | with_reducible exact HKEEP.out _ hk2
        | with_reducible exact HKEEP.out _ hka
        | with_reducible exact HKEEP.out _ ((hk2.setCell (by first | (simp; done) | (simp; omega)) _).setCell (by first | (simp; done) | (simp; omega)) _)
        | with_reducible exact HKEEP.out _ (hk2.trans (Ext.alloc _ _))
        | with_reducible exact HKEEP.out _ (hBB.put _ _).ext)
      (first
        | (go_at_call 210
           (with_reducible refine (i_MulRat k1 k2 bx by' _).mono ?_)
           rw [HM.out]
           rintro e w3 ⟨rfl, hx_w3⟩
           first | (with_reducible have hBB := Boxed.grow hBB hx_w3) | (with_reducible have hBB := Boxed.firstD hx_w3) | (with_reducible have hBB := Boxed.laterD hk2 hx_w3) | skip
           first | (have b0_ := hBB.c0; have b1_ := hBB.c1; have fb_ := hBB.free) | skip
           have hk2 : Ext wr w3 := by first | with_reducible exact hk2.trans hx_w3 | with_reducible exact hka.trans hx_w3 | with_reducible exact (hk2.trans (Ext.alloc _ _)).trans hx_w3
           have hk2s := hk2.size)
        | fail)
     all_goals (go_wp2_with fail; go_meet; first | exact ⟨_, rfl, rfl, Lib.hid (hBB.put _ _)⟩ | exact ⟨_, rfl, rfl, Lib.hid (Boxed.new hk2 _ _)⟩ | exact ⟨_, rfl, rfl, Lib.hid (Boxed.new' hk2 _ _ (by simp))⟩)
    obtain ⟨g, rfl, rfl, HB1⟩ := hcut
    have g0 := HB1.out.c0
    have g1 := HB1.out.c1
    replace hac0 := HB1.out.ext.cellSome hac0
    replace hac1 := HB1.out.ext.cellSome hac1
    clear hkc0 hkc1 hbc0 hbc1
    go_upto_region 8 with fail
    go_cut [12, 13] (fun sx so wx => ∃ g2 : Nat, sx = .pointer (some ⟨g2, 0, none⟩) ∧ so = .bool two ∧ Hid (Boxed wc wx g2 p2 q2))
    case first =>
     have hk2 : Ext wc wc.drew := Ext.drew wc
     have hka : Ext wc (wc.alloc (.cells #[.int .i64 0, .int .i64 0] 43)).drew := (Ext.alloc _ _).trans (Ext.drew _)
     have HKEEP := Lib.hid (fun (w' : World) (h : Ext wc w') => (⟨h.cellSome hac0, h.cellSome hac1, h.cellSome g0, h.cellSome g1, h⟩ : w'.cell? ⟨ab, aoff + k * 2, none⟩ = some (.int .i64 ax) ∧ w'.cell? ⟨ab, aoff + k * 2 + 1, none⟩ = some (.int .i64 ay) ∧ w'.cell? ⟨g, 0, none⟩ = some (.int .i64 p) ∧ w'.cell? ⟨g, 1, none⟩ = some (.int .i64 q) ∧ Ext wc w'))
     go_region_held3 (fun w' => w'.cell? ⟨ab, aoff + k * 2, none⟩ = some (.int .i64 ax) ∧ w'.cell? ⟨ab, aoff + k * 2 + 1, none⟩ = some (.int .i64 ay) ∧ w'.cell? ⟨g, 0, none⟩ = some (.int .i64 p) ∧ w'.cell? ⟨g, 1, none⟩ = some (.int .i64 q) ∧ Ext wc w')
      (first
        | with_reducible exact HKEEP.out _ hk2
        | with_reducible exact HKEEP.out _ hka
        | with_reducible exact HKEEP.out _ ((hk2.setCell (by first | (simp; done) | (simp; omega)) _).setCell (by first | (simp; done) | (simp; omega)) _)
        | with_reducible exact HKEEP.out _ (hk2.trans (Ext.alloc _ _))
        | with_reducible exact HKEEP.out _ (hBB.put _ _).ext)
      (first
        | (go_at_call 169
           (with_reducible refine (i_AddRat ax ay p q _).mono ?_)
           rw [HS2.out]
           rintro e w4 ⟨rfl, hx_w4⟩
           first | (with_reducible have hBB := Boxed.grow hBB hx_w4) | (with_reducible have hBB := Boxed.firstD hx_w4) | (with_reducible have hBB := Boxed.laterD hk2 hx_w4) | skip
           first | (have b0_ := hBB.c0; have b1_ := hBB.c1; have fb_ := hBB.free) | skip
           have hk2 : Ext wc w4 := by first | with_reducible exact hk2.trans hx_w4 | with_reducible exact hka.trans hx_w4 | with_reducible exact (hk2.trans (Ext.alloc _ _)).trans hx_w4
           have hk2s := hk2.size)
        | fail)
     all_goals (go_wp2_with fail; go_meet; first | exact ⟨_, rfl, rfl, Lib.hid (hBB.put _ _)⟩ | exact ⟨_, rfl, rfl, Lib.hid (Boxed.new hk2 _ _)⟩ | exact ⟨_, rfl, rfl, Lib.hid (Boxed.new' hk2 _ _ (by simp))⟩)
    obtain ⟨g2, rfl, rfl, HB2⟩ := hcut
    have X2 := Lib.hid ((HX1.out.trans HB1.out.ext).trans HB2.out.ext)
    have HO2 := Lib.hid ((HO1.out.ext HB1.out.ext).ext HB2.out.ext)
    have h0 := HB2.out.c0
    have h1 := HB2.out.c1
    have HF := Lib.hid (show sclF A (k1, k2) B k = if (one && two) = true then some (p2, q2) else none by unfold sclF; rw [HAX.out, HBX.out, HM.out]; simp only; rw [HS2.out]; simp only [Bool.and_eq_true])
    clear hac0 hac1 g0 g1
    cases hb12 : (one && two)
    ·have HN := Lib.hid (show runT (sclF A (k1, k2) B) n = none from runT_fail HR.out (by rw [HF.out, hb12]; rfl) hlt)
     cases one
     case' true => (have h2 : two = false := by simpa using hb12); subst h2
     all_goals
      clear hb12
      go_wp2_with fail
      refine bodyPost_ret (v := .tuple #[.slice none 0 0, .bool false]) (by simp [results, Tryz.results141, go_sem]) rfl ⟨⟨.slice none 0 0, by rw [HS.out, HN.out]; rfl, by rw [HS.out, HN.out]; exact OwnR.nil _ _⟩, HX.out.trans X2.out⟩
    ·obtain ⟨rfl, rfl⟩ : one = true ∧ two = true := by simpa using hb12
     have HR2 := Lib.hid (runT_some (x := (p2, q2)) HR.out (by rw [HF.out]; rfl))
     have HLR := Lib.hid (runT_len HR.out)
     have hszc := X2.out.size
     rw [World.size_alloc] at hszc
     clear hb12
     go_wp2_with (first
      | (at_builtin; refine append_rats rfl _ _ rfl (w.heap.size + 1) (.slice a1 n1 p1) _ rfl (HO2.out.ext (Ext.alloc _ _)) _ 1 _ [(p2, q2)] rfl (Rats.one' _ _ _ _ _ (by simp)) (by rw [HLR.out]; omega) (by simp; omega) ?_; intro v2 w4 ho hg hnear; obtain ⟨a2, n2, c2, rfl, HN2⟩ := ho.var; have HO4 := Lib.hid ho; have X5 := Lib.hid (ext_grown (X2.out.trans (Ext.alloc _ _)) hg (fun j hj => by have := (HO2.out.lt j hj).1; simpa using this)); clear ho hg hnear))
     go_roundg (gk - 1)
     case measure => have := HK.out; omega
     case rel => exact ⟨k + 1, a2, n2, c2, _, Lib.hid (by have := HK.out; omega), by go_num, rfl, HR2, HO4, X5⟩
   ·have hkn : k = n := by have := HK.out; omega
    subst hkn
    go_wp2_with fail
    refine bodyPost_ret (v := .tuple #[.slice a1 n1 p1, .bool true]) (by simp [results, Tryz.results141, go_sem]) rfl ⟨⟨.slice a1 n1 p1, by rw [HS.out, HR.out]; rfl, by rw [HS.out, HR.out]; exact HO1.out.mono (Nat.le_succ _)⟩, HX.out.trans HX1.out⟩
 ·have HN := Lib.hid (show sclL A (k1, k2) B = none by unfold sclL; rw [HL.out, HL'.out, if_neg hne])
  go_enter Tryz.func141, Tryz.ntmps141
  go_wp2_with fail
  refine bodyPost_ret (v := .tuple #[.slice none 0 0, .bool false]) (by simp [results, Tryz.results141, go_sem]) rfl ⟨⟨.slice none 0 0, by rw [HN.out]; rfl, by rw [HN.out]; exact OwnR.nil _ _⟩, HX.out⟩
theorem i_whole (n : Int) (w : World) : Calls Tryz.prog 112 #[.int .i64 n] w fun e w' => e = .returned (ratV n 1) ∧ Ext w w' := by
 have HX := Lib.hid (Ext.alloc w (.cells #[.int .i64 n, .int .i64 1] 43))
 go_enter Tryz.func112, Tryz.ntmps112
 go_wp2
 refine bodyPost_ret (v := ratV n 1) (by simp [results, Tryz.results112, go_sem]) rfl ⟨rfl, HX.out⟩
theorem s_l3Int (n : Int) (w : World) : Calls Tryz.prog 86 #[.int .i64 n] w fun e w' => e = .returned (ratV n 1) ∧ Ext w w' := by
 have HX := Lib.hid (Ext.alloc w (.cells #[.int .i64 n, .int .i64 1] 43))
 go_enter Tryz.func86, Tryz.ntmps86
 go_wp2
 refine bodyPost_ret (v := ratV n 1) (by simp [results, Tryz.results86, go_sem]) rfl ⟨rfl, HX.out⟩
end Go.Proofs.YthjjfkeacobikaaGreat
