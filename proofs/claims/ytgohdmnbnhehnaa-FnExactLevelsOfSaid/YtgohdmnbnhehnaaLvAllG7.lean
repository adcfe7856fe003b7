import Derived.Test.YtgohdmnbnhehnaaLvAllG6
import Derived.Test.YtgohdmnbnhehnaaLvAllG3
import Derived.Deep.RegionHeld3
import Derived.Deep.RegionLaw
import Derived.StillTailTactics
import Derived.Deep.DeepCutAuto
namespace Go.Proofs.Ytgohdmnbnhehnaa
set_option linter.unusedVariables false
set_option linter.unusedSimpArgs false
set_option maxRecDepth 100000
open Go.RowKit
theorem box3 {w W : World} {a b c : Obj} (hx : Ext (((w.alloc a).alloc b).alloc c) W) : W.heap[w.heap.size]? = some a ∧ W.heap[w.heap.size + 1]? = some b ∧ W.heap[w.heap.size + 1 + 1]? = some c :=
 ⟨(hx.block _ (by simp; omega)).trans (by rw [heapA_old _ _ _ (by simp; omega), heapA_old _ _ _ (by simp)]; exact heapA_new _ _ _ rfl),
  (hx.block _ (by simp)).trans (by rw [heapA_old _ _ _ (by simp)]; exact heapA_new _ _ _ (by simp)), (hx.block _ (by simp)).trans (heapA_new _ _ _ (by simp))⟩
theorem box2 {w W : World} {a b : Obj} (hx : Ext ((w.alloc a).alloc b) W) : W.heap[w.heap.size]? = some a ∧ W.heap[w.heap.size + 1]? = some b :=
 ⟨(hx.block _ (by simp; omega)).trans (by rw [heapA_old _ _ _ (by simp)]; exact heapA_new _ _ _ rfl), (hx.block _ (by simp)).trans (heapA_new _ _ _ (by simp))⟩
theorem rcell {w : World} {b : Nat} {x y : Int} {t : TypeId} (h : w.heap[b]? = some (.cells #[.int .i64 x, .int .i64 y] t (0, 0))) : w.cell? ⟨b, 0, none⟩ = some (.int .i64 x) ∧ w.cell? ⟨b, 1, none⟩ = some (.int .i64 y) ∧ ∀ o, w.frozen? ⟨b, o, none⟩ = false :=
 ⟨by rw [cell_of_row _ _ _ _ _ _ h]; rfl, by rw [cell_of_row _ _ _ _ _ _ h]; rfl, fun o => frozen_of_row _ _ _ _ _ h⟩
theorem val_in {x y : Int} (h : valR (x, y) = true) : -1000000000 ≤ x ∧ x ≤ 1000000000 ∧ -1000000000 ≤ y ∧ y ≤ 1000000000 := by have := valR_bd h; simp only at this; omega
theorem mul_w {x y : Int} (h : -1000000000 ≤ x ∧ x ≤ 1000000000) (h' : -1000000000 ≤ y ∧ y ≤ 1000000000) : in18 (x * y) := mul_bd h.1 h.2 h'.1 h'.2
set_option maxHeartbeats 1000000 in
theorem i_AddRat (x y u v : Int) (w : World) :
 Calls Try.prog 26 #[ratV x y, ratV u v] w fun e w' => e = .returned (resR (addR (x, y) (u, v))) ∧ Ext w w' := by
 have HX := Lib.hid (show Ext w (((w.alloc (.cells #[.int .i64 x, .int .i64 y] 34)).alloc (.cells #[.int .i64 u, .int .i64 v] 34)).alloc (.cells #[.int .i64 0, .int .i64 0] 34)) from ((Ext.alloc _ _).trans (Ext.alloc _ _)).trans (Ext.alloc _ _))
 cases ha : valR (x, y)
 ·have HA := Lib.hid ha
  have HR := Lib.hid (show addR (x, y) (u, v) = ((0, 0), false) by simp [addR, ha])
  clear ha
  go_enter Try.func26, Try.ntmps26
  go_wp2_with fail
  refine (i_IsValidRat x y _).mono ?_
  rw [HA.out]
  rintro e w1 ⟨rfl, hx⟩
  obtain ⟨bA, bB, bR⟩ := box3 hx
  obtain ⟨a0, a1, fa⟩ := rcell bA
  obtain ⟨b0, b1, fb⟩ := rcell bB
  obtain ⟨r0, r1, fr⟩ := rcell bR
  have X1 := Lib.hid hx
  clear hx bA bB bR
  go_wp2
  rw [HR.out]
  refine bodyPost_ret (v := .tuple #[.agg #[.int .i64 0, .int .i64 0], .bool false]) (by simp [results, Try.results26, go_sem, r0, r1]) rfl ⟨rfl, ?_⟩
  exact ((HX.out.trans X1.out).setCell (by simp; omega) _).setCell (by simp; omega) _
 cases hb : valR (u, v)
 ·have HA := Lib.hid ha
  have HB := Lib.hid hb
  have HR := Lib.hid (show addR (x, y) (u, v) = ((0, 0), false) by simp [addR, hb])
  clear ha hb
  go_enter Try.func26, Try.ntmps26
  go_wp2_with fail
  refine (i_IsValidRat x y _).mono ?_
  rw [HA.out]
  rintro e w1 ⟨rfl, hx⟩
  obtain ⟨bA, bB, bR⟩ := box3 hx
  obtain ⟨a0, a1, fa⟩ := rcell bA
  obtain ⟨b0, b1, fb⟩ := rcell bB
  obtain ⟨r0, r1, fr⟩ := rcell bR
  have X1 := Lib.hid hx
  clear hx bA bB bR
  go_wp2_with fail
  refine (i_IsValidRat u v _).mono ?_
  rw [HB.out]
  rintro e w2 ⟨rfl, hx⟩
  clear a0 a1 fa b0 b1 fb r0 r1 fr
  have X2 := Lib.hid (X1.out.trans hx)
  obtain ⟨bA, bB, bR⟩ := box3 X2.out
  obtain ⟨a0, a1, fa⟩ := rcell bA
  obtain ⟨b0, b1, fb⟩ := rcell bB
  obtain ⟨r0, r1, fr⟩ := rcell bR
  clear hx bA bB bR
  go_wp2
  rw [HR.out]
  refine bodyPost_ret (v := .tuple #[.agg #[.int .i64 0, .int .i64 0], .bool false]) (by simp [results, Try.results26, go_sem, r0, r1]) rfl ⟨rfl, ?_⟩
  exact ((HX.out.trans X2.out).setCell (by simp; omega) _).setCell (by simp; omega) _
 have HA := Lib.hid ha
 have HB := Lib.hid hb
 obtain ⟨x1, x2, y1, y2⟩ := val_in ha
 obtain ⟨u1, u2, v1, v2⟩ := val_in hb
 have q1 : in18 (x * v) := mul_w (by omega) (by omega)
 obtain ⟨e1, g1⟩ := kwrap_in q1
 have q2 : in18 (u * y) := mul_w (by omega) (by omega)
 obtain ⟨e2, g2⟩ := kwrap_in q2
 have q3 : in18 (y * v) := mul_w (by omega) (by omega)
 obtain ⟨e3, g3⟩ := kwrap_in q3
 have e4 : IntKind.i64.wrap (x * v + u * y) = x * v + u * y := by rw [IntKind.wrap_i64]; unfold in18 at *; omega
 have g4 : wrap64 (x * v + u * y) = x * v + u * y := by unfold wrap64; unfold in18 at *; omega
 obtain ⟨p, q, ok, hpq⟩ : ∃ p q ok, ratOf (x * v + u * y) (y * v) = ((p, q), ok) := ⟨_, _, _, rfl⟩
 have HPQ := Lib.hid hpq
 have HR := Lib.hid (show addR (x, y) (u, v) = ((p, q), ok) by simp [addR, ha, hb, hpq])
 clear ha hb hpq
 ·go_enter Try.func26, Try.ntmps26
  go_wp2_with fail
  refine (i_IsValidRat x y _).mono ?_
  rw [HA.out]
  rintro e w1 ⟨rfl, hx⟩
  obtain ⟨bA, bB, bR⟩ := box3 hx
  obtain ⟨a0, a1, fa⟩ := rcell bA
  obtain ⟨b0, b1, fb⟩ := rcell bB
  obtain ⟨r0, r1, fr⟩ := rcell bR
  have X1 := Lib.hid hx
  clear hx bA bB bR
  go_wp2_with fail
  refine (i_IsValidRat u v _).mono ?_
  rw [HB.out]
  rintro e w2 ⟨rfl, hx⟩
  clear a0 a1 fa b0 b1 fb r0 r1 fr
  have X2 := Lib.hid (X1.out.trans hx)
  obtain ⟨bA, bB, bR⟩ := box3 X2.out
  obtain ⟨a0, a1, fa⟩ := rcell bA
  obtain ⟨b0, b1, fb⟩ := rcell bB
  obtain ⟨r0, r1, fr⟩ := rcell bR
  clear hx bA bB bR
  go_wp2_with fail
  refine (i_RatOf _ _ _).mono ?_
  rw [HPQ.out]
  rintro e w3 ⟨rfl, hx⟩
  clear a0 a1 fa b0 b1 fb r0 r1 fr
  have X3 := Lib.hid (X2.out.trans hx)
  obtain ⟨bA, bB, bR⟩ := box3 X3.out
  obtain ⟨a0, a1, fa⟩ := rcell bA
  obtain ⟨b0, b1, fb⟩ := rcell bB
  obtain ⟨r0, r1, fr⟩ := rcell bR
  clear hx bA bB bR
  go_wp2
  rw [HR.out]
  refine bodyPost_ret (v := .tuple #[.agg #[.int .i64 p, .int .i64 q], .bool ok]) (by simp [results, Try.results26, go_sem, r0, r1]) rfl ⟨rfl, ?_⟩
  exact ((HX.out.trans X3.out).setCell (by simp; omega) _).setCell (by simp; omega) _
set_option maxHeartbeats 1000000 in
theorem s_AddRat (x y u v : Int) (w : World) :
 Calls Try.prog 104 #[ratV x y, ratV u v] w fun e w' => e = .returned (resR (addR (x, y) (u, v))) ∧ Ext w w' := by
 have HX := Lib.hid (show Ext w (((w.alloc (.cells #[.int .i64 x, .int .i64 y] 34)).alloc (.cells #[.int .i64 u, .int .i64 v] 34)).alloc (.cells #[.int .i64 0, .int .i64 0] 34)) from ((Ext.alloc _ _).trans (Ext.alloc _ _)).trans (Ext.alloc _ _))
 cases ha : valR (x, y)
 ·have HA := Lib.hid ha
  have HR := Lib.hid (show addR (x, y) (u, v) = ((0, 0), false) by simp [addR, ha])
  clear ha
  go_enter Try.func104, Try.ntmps104
  go_wp2_with fail
  refine (s_IsValidRat x y _).mono ?_
  rw [HA.out]
  rintro e w1 ⟨rfl, hx⟩
  obtain ⟨bA, bB, bR⟩ := box3 hx
  obtain ⟨a0, a1, fa⟩ := rcell bA
  obtain ⟨b0, b1, fb⟩ := rcell bB
  obtain ⟨r0, r1, fr⟩ := rcell bR
  have X1 := Lib.hid hx
  clear hx bA bB bR
  go_wp2
  rw [HR.out]
  refine bodyPost_ret (v := .tuple #[.agg #[.int .i64 0, .int .i64 0], .bool false]) (by simp [results, Try.results104, go_sem, r0, r1]) rfl ⟨rfl, ?_⟩
  exact ((HX.out.trans X1.out).setCell (by simp; omega) _).setCell (by simp; omega) _
 cases hb : valR (u, v)
 ·have HA := Lib.hid ha
  have HB := Lib.hid hb
  have HR := Lib.hid (show addR (x, y) (u, v) = ((0, 0), false) by simp [addR, hb])
  clear ha hb
  go_enter Try.func104, Try.ntmps104
  go_wp2_with fail
  refine (s_IsValidRat x y _).mono ?_
  rw [HA.out]
  rintro e w1 ⟨rfl, hx⟩
  obtain ⟨bA, bB, bR⟩ := box3 hx
  obtain ⟨a0, a1, fa⟩ := rcell bA
  obtain ⟨b0, b1, fb⟩ := rcell bB
  obtain ⟨r0, r1, fr⟩ := rcell bR
  have X1 := Lib.hid hx
  clear hx bA bB bR
  go_wp2_with fail
  refine (s_IsValidRat u v _).mono ?_
  rw [HB.out]
  rintro e w2 ⟨rfl, hx⟩
  clear a0 a1 fa b0 b1 fb r0 r1 fr
  have X2 := Lib.hid (X1.out.trans hx)
  obtain ⟨bA, bB, bR⟩ := box3 X2.out
  obtain ⟨a0, a1, fa⟩ := rcell bA
  obtain ⟨b0, b1, fb⟩ := rcell bB
  obtain ⟨r0, r1, fr⟩ := rcell bR
  clear hx bA bB bR
  go_wp2
  rw [HR.out]
  refine bodyPost_ret (v := .tuple #[.agg #[.int .i64 0, .int .i64 0], .bool false]) (by simp [results, Try.results104, go_sem, r0, r1]) rfl ⟨rfl, ?_⟩
  exact ((HX.out.trans X2.out).setCell (by simp; omega) _).setCell (by simp; omega) _
 have HA := Lib.hid ha
 have HB := Lib.hid hb
 obtain ⟨x1, x2, y1, y2⟩ := val_in ha
 obtain ⟨u1, u2, v1, v2⟩ := val_in hb
 have q1 : in18 (x * v) := mul_w (by omega) (by omega)
 obtain ⟨e1, g1⟩ := kwrap_in q1
 have q2 : in18 (u * y) := mul_w (by omega) (by omega)
 obtain ⟨e2, g2⟩ := kwrap_in q2
 have q3 : in18 (y * v) := mul_w (by omega) (by omega)
 obtain ⟨e3, g3⟩ := kwrap_in q3
 have e4 : IntKind.i64.wrap (x * v + u * y) = x * v + u * y := by rw [IntKind.wrap_i64]; unfold in18 at *; omega
 have g4 : wrap64 (x * v + u * y) = x * v + u * y := by unfold wrap64; unfold in18 at *; omega
 obtain ⟨p, q, ok, hpq⟩ : ∃ p q ok, ratOf (x * v + u * y) (y * v) = ((p, q), ok) := ⟨_, _, _, rfl⟩
 have HPQ := Lib.hid hpq
 have HR := Lib.hid (show addR (x, y) (u, v) = ((p, q), ok) by simp [addR, ha, hb, hpq])
 clear ha hb hpq
 ·go_enter Try.func104, Try.ntmps104
  go_wp2_with fail
  refine (s_IsValidRat x y _).mono ?_
  rw [HA.out]
  rintro e w1 ⟨rfl, hx⟩
  obtain ⟨bA, bB, bR⟩ := box3 hx
  obtain ⟨a0, a1, fa⟩ := rcell bA
  obtain ⟨b0, b1, fb⟩ := rcell bB
  obtain ⟨r0, r1, fr⟩ := rcell bR
  have X1 := Lib.hid hx
  clear hx bA bB bR
  go_wp2_with fail
  refine (s_IsValidRat u v _).mono ?_
  rw [HB.out]
  rintro e w2 ⟨rfl, hx⟩
  clear a0 a1 fa b0 b1 fb r0 r1 fr
  have X2 := Lib.hid (X1.out.trans hx)
  obtain ⟨bA, bB, bR⟩ := box3 X2.out
  obtain ⟨a0, a1, fa⟩ := rcell bA
  obtain ⟨b0, b1, fb⟩ := rcell bB
  obtain ⟨r0, r1, fr⟩ := rcell bR
  clear hx bA bB bR
  go_wp2_with fail
  refine (s_RatOf _ _ _).mono ?_
  rw [HPQ.out]
  rintro e w3 ⟨rfl, hx⟩
  clear a0 a1 fa b0 b1 fb r0 r1 fr
  have X3 := Lib.hid (X2.out.trans hx)
  obtain ⟨bA, bB, bR⟩ := box3 X3.out
  obtain ⟨a0, a1, fa⟩ := rcell bA
  obtain ⟨b0, b1, fb⟩ := rcell bB
  obtain ⟨r0, r1, fr⟩ := rcell bR
  clear hx bA bB bR
  go_wp2
  rw [HR.out]
  refine bodyPost_ret (v := .tuple #[.agg #[.int .i64 p, .int .i64 q], .bool ok]) (by simp [results, Try.results104, go_sem, r0, r1]) rfl ⟨rfl, ?_⟩
  exact ((HX.out.trans X3.out).setCell (by simp; omega) _).setCell (by simp; omega) _
set_option maxHeartbeats 1000000 in
theorem i_SubRat (x y u v : Int) (w : World) :
 Calls Try.prog 92 #[ratV x y, ratV u v] w fun e w' => e = .returned (resR (subR (x, y) (u, v))) ∧ Ext w w' := by
 have HX := Lib.hid (show Ext w (((w.alloc (.cells #[.int .i64 x, .int .i64 y] 34)).alloc (.cells #[.int .i64 u, .int .i64 v] 34)).alloc (.cells #[.int .i64 0, .int .i64 0] 34)) from ((Ext.alloc _ _).trans (Ext.alloc _ _)).trans (Ext.alloc _ _))
 cases ha : valR (x, y)
 ·have HA := Lib.hid ha
  have HR := Lib.hid (show subR (x, y) (u, v) = ((0, 0), false) by simp [subR, ha])
  clear ha
  go_enter Try.func92, Try.ntmps92
  go_wp2_with fail
  refine (i_IsValidRat x y _).mono ?_
  rw [HA.out]
  rintro e w1 ⟨rfl, hx⟩
  obtain ⟨bA, bB, bR⟩ := box3 hx
  obtain ⟨a0, a1, fa⟩ := rcell bA
  obtain ⟨b0, b1, fb⟩ := rcell bB
  obtain ⟨r0, r1, fr⟩ := rcell bR
  have X1 := Lib.hid hx
  clear hx bA bB bR
  go_wp2
  rw [HR.out]
  refine bodyPost_ret (v := .tuple #[.agg #[.int .i64 0, .int .i64 0], .bool false]) (by simp [results, Try.results92, go_sem, r0, r1]) rfl ⟨rfl, ?_⟩
  exact ((HX.out.trans X1.out).setCell (by simp; omega) _).setCell (by simp; omega) _
 cases hb : valR (u, v)
 ·have HA := Lib.hid ha
  have HB := Lib.hid hb
  have HR := Lib.hid (show subR (x, y) (u, v) = ((0, 0), false) by simp [subR, hb])
  clear ha hb
  go_enter Try.func92, Try.ntmps92
  go_wp2_with fail
  refine (i_IsValidRat x y _).mono ?_
  rw [HA.out]
  rintro e w1 ⟨rfl, hx⟩
  obtain ⟨bA, bB, bR⟩ := box3 hx
  obtain ⟨a0, a1, fa⟩ := rcell bA
  obtain ⟨b0, b1, fb⟩ := rcell bB
  obtain ⟨r0, r1, fr⟩ := rcell bR
  have X1 := Lib.hid hx
  clear hx bA bB bR
  go_wp2_with fail
  refine (i_IsValidRat u v _).mono ?_
  rw [HB.out]
  rintro e w2 ⟨rfl, hx⟩
  clear a0 a1 fa b0 b1 fb r0 r1 fr
  have X2 := Lib.hid (X1.out.trans hx)
  obtain ⟨bA, bB, bR⟩ := box3 X2.out
  obtain ⟨a0, a1, fa⟩ := rcell bA
  obtain ⟨b0, b1, fb⟩ := rcell bB
  obtain ⟨r0, r1, fr⟩ := rcell bR
  clear hx bA bB bR
  go_wp2
  rw [HR.out]
  refine bodyPost_ret (v := .tuple #[.agg #[.int .i64 0, .int .i64 0], .bool false]) (by simp [results, Try.results92, go_sem, r0, r1]) rfl ⟨rfl, ?_⟩
  exact ((HX.out.trans X2.out).setCell (by simp; omega) _).setCell (by simp; omega) _
 have HA := Lib.hid ha
 have HB := Lib.hid hb
 obtain ⟨x1, x2, y1, y2⟩ := val_in ha
 obtain ⟨u1, u2, v1, v2⟩ := val_in hb
 have q1 : in18 (x * v) := mul_w (by omega) (by omega)
 obtain ⟨e1, g1⟩ := kwrap_in q1
 have q2 : in18 (u * y) := mul_w (by omega) (by omega)
 obtain ⟨e2, g2⟩ := kwrap_in q2
 have q3 : in18 (y * v) := mul_w (by omega) (by omega)
 obtain ⟨e3, g3⟩ := kwrap_in q3
 have e4 : IntKind.i64.wrap (x * v - u * y) = x * v - u * y := by rw [IntKind.wrap_i64]; unfold in18 at *; omega
 have g4 : wrap64 (x * v - u * y) = x * v - u * y := by unfold wrap64; unfold in18 at *; omega
 obtain ⟨p, q, ok, hpq⟩ : ∃ p q ok, ratOf (x * v - u * y) (y * v) = ((p, q), ok) := ⟨_, _, _, rfl⟩
 have HPQ := Lib.hid hpq
 have HR := Lib.hid (show subR (x, y) (u, v) = ((p, q), ok) by simp [subR, ha, hb, hpq])
 clear ha hb hpq
 ·go_enter Try.func92, Try.ntmps92
  go_wp2_with fail
  refine (i_IsValidRat x y _).mono ?_
  rw [HA.out]
  rintro e w1 ⟨rfl, hx⟩
  obtain ⟨bA, bB, bR⟩ := box3 hx
  obtain ⟨a0, a1, fa⟩ := rcell bA
  obtain ⟨b0, b1, fb⟩ := rcell bB
  obtain ⟨r0, r1, fr⟩ := rcell bR
  have X1 := Lib.hid hx
  clear hx bA bB bR
  go_wp2_with fail
  refine (i_IsValidRat u v _).mono ?_
  rw [HB.out]
  rintro e w2 ⟨rfl, hx⟩
  clear a0 a1 fa b0 b1 fb r0 r1 fr
  have X2 := Lib.hid (X1.out.trans hx)
  obtain ⟨bA, bB, bR⟩ := box3 X2.out
  obtain ⟨a0, a1, fa⟩ := rcell bA
  obtain ⟨b0, b1, fb⟩ := rcell bB
  obtain ⟨r0, r1, fr⟩ := rcell bR
  clear hx bA bB bR
  go_wp2_with fail
  refine (i_RatOf _ _ _).mono ?_
  rw [HPQ.out]
  rintro e w3 ⟨rfl, hx⟩
  clear a0 a1 fa b0 b1 fb r0 r1 fr
  have X3 := Lib.hid (X2.out.trans hx)
  obtain ⟨bA, bB, bR⟩ := box3 X3.out
  obtain ⟨a0, a1, fa⟩ := rcell bA
  obtain ⟨b0, b1, fb⟩ := rcell bB
  obtain ⟨r0, r1, fr⟩ := rcell bR
  clear hx bA bB bR
  go_wp2
  rw [HR.out]
  refine bodyPost_ret (v := .tuple #[.agg #[.int .i64 p, .int .i64 q], .bool ok]) (by simp [results, Try.results92, go_sem, r0, r1]) rfl ⟨rfl, ?_⟩
  exact ((HX.out.trans X3.out).setCell (by simp; omega) _).setCell (by simp; omega) _
set_option maxHeartbeats 1000000 in
theorem i_CompareRat (x y u v : Int) (w : World) :
 Calls Try.prog 37 #[ratV x y, ratV u v] w fun e w' => e = .returned (.int .i64 (cmpR (x, y) (u, v))) ∧ Ext w w' := by
 have HX := Lib.hid (show Ext w ((w.alloc (.cells #[.int .i64 x, .int .i64 y] 34)).alloc (.cells #[.int .i64 u, .int .i64 v] 34)) from (Ext.alloc _ _).trans (Ext.alloc _ _))
 cases ha : valR (x, y)
 ·have HA := Lib.hid ha
  have HR := Lib.hid (show cmpR (x, y) (u, v) = 0 by simp [cmpR, ha])
  clear ha
  go_enter Try.func37, Try.ntmps37
  go_wp2_with fail
  refine (i_IsValidRat x y _).mono ?_
  rw [HA.out]
  rintro e w1 ⟨rfl, hx⟩
  obtain ⟨bA, bB⟩ := box2 hx
  obtain ⟨a0, a1, fa⟩ := rcell bA
  obtain ⟨b0, b1, fb⟩ := rcell bB
  have X1 := Lib.hid hx
  clear hx bA bB
  go_wp2
  go_ret
  exact ⟨ret_int HR.out.symm, HX.out.trans X1.out⟩
 cases hb : valR (u, v)
 ·have HA := Lib.hid ha
  have HB := Lib.hid hb
  have HR := Lib.hid (show cmpR (x, y) (u, v) = 0 by simp [cmpR, hb])
  clear ha hb
  go_enter Try.func37, Try.ntmps37
  go_wp2_with fail
  refine (i_IsValidRat x y _).mono ?_
  rw [HA.out]
  rintro e w1 ⟨rfl, hx⟩
  obtain ⟨bA, bB⟩ := box2 hx
  obtain ⟨a0, a1, fa⟩ := rcell bA
  obtain ⟨b0, b1, fb⟩ := rcell bB
  have X1 := Lib.hid hx
  clear hx bA bB
  go_wp2_with fail
  refine (i_IsValidRat u v _).mono ?_
  rw [HB.out]
  rintro e w2 ⟨rfl, hx⟩
  clear a0 a1 fa b0 b1 fb
  have X2 := Lib.hid (X1.out.trans hx)
  obtain ⟨bA, bB⟩ := box2 X2.out
  obtain ⟨a0, a1, fa⟩ := rcell bA
  obtain ⟨b0, b1, fb⟩ := rcell bB
  clear hx bA bB
  go_wp2
  go_ret
  exact ⟨ret_int HR.out.symm, HX.out.trans X2.out⟩
 have HA := Lib.hid ha
 have HB := Lib.hid hb
 obtain ⟨x1, x2, y1, y2⟩ := val_in ha
 obtain ⟨u1, u2, v1, v2⟩ := val_in hb
 have q1 : in18 (x * v) := mul_w (by omega) (by omega)
 have q2 : in18 (u * y) := mul_w (by omega) (by omega)
 obtain ⟨e1, g1⟩ := kwrap_in q1
 obtain ⟨e2, g2⟩ := kwrap_in q2
 have hR : cmpR (x, y) (u, v) = (if x * v < u * y then -1 else if u * y < x * v then 1 else 0) := by simp [cmpR, ha, hb]
 obtain ⟨P, hP⟩ : ∃ P, P = x * v := ⟨_, rfl⟩
 obtain ⟨Q, hQ⟩ : ∃ Q, Q = u * y := ⟨_, rfl⟩
 rw [← hP, ← hQ] at hR
 rw [← hP] at e1 g1
 rw [← hQ] at e2 g2
 have HR := Lib.hid hR
 have hP' := hP.symm
 have hQ' := hQ.symm
 clear ha hb hR q1 q2 hP hQ
 by_cases h1 : P < Q
 ·go_enter Try.func37, Try.ntmps37
  go_wp2_with fail
  refine (i_IsValidRat x y _).mono ?_
  rw [HA.out]
  rintro e w1 ⟨rfl, hx⟩
  obtain ⟨bA, bB⟩ := box2 hx
  obtain ⟨a0, a1, fa⟩ := rcell bA
  obtain ⟨b0, b1, fb⟩ := rcell bB
  have X1 := Lib.hid hx
  clear hx bA bB
  go_wp2_with fail
  refine (i_IsValidRat u v _).mono ?_
  rw [HB.out]
  rintro e w2 ⟨rfl, hx⟩
  clear a0 a1 fa b0 b1 fb
  have X2 := Lib.hid (X1.out.trans hx)
  obtain ⟨bA, bB⟩ := box2 X2.out
  obtain ⟨a0, a1, fa⟩ := rcell bA
  obtain ⟨b0, b1, fb⟩ := rcell bB
  clear hx bA bB
  go_wp2
  go_quiet (fail)
  go_wp2
  go_ret
  exact ⟨ret_int (by rw [HR.out, if_pos (by omega)]), HX.out.trans (X2.out.trans (Drew.ext ⟨_, rfl⟩))⟩
 by_cases h2 : Q < P
 ·go_enter Try.func37, Try.ntmps37
  go_wp2_with fail
  refine (i_IsValidRat x y _).mono ?_
  rw [HA.out]
  rintro e w1 ⟨rfl, hx⟩
  obtain ⟨bA, bB⟩ := box2 hx
  obtain ⟨a0, a1, fa⟩ := rcell bA
  obtain ⟨b0, b1, fb⟩ := rcell bB
  have X1 := Lib.hid hx
  clear hx bA bB
  go_wp2_with fail
  refine (i_IsValidRat u v _).mono ?_
  rw [HB.out]
  rintro e w2 ⟨rfl, hx⟩
  clear a0 a1 fa b0 b1 fb
  have X2 := Lib.hid (X1.out.trans hx)
  obtain ⟨bA, bB⟩ := box2 X2.out
  obtain ⟨a0, a1, fa⟩ := rcell bA
  obtain ⟨b0, b1, fb⟩ := rcell bB
  clear hx bA bB
  go_wp2
  go_quiet (fail)
  go_wp2
  go_ret
  exact ⟨ret_int (by rw [HR.out, if_neg (by omega), if_pos (by omega)]), HX.out.trans (X2.out.trans (Drew.ext ⟨_, rfl⟩))⟩
 ·go_enter Try.func37, Try.ntmps37
  go_wp2_with fail
  refine (i_IsValidRat x y _).mono ?_
  rw [HA.out]
  rintro e w1 ⟨rfl, hx⟩
  obtain ⟨bA, bB⟩ := box2 hx
  obtain ⟨a0, a1, fa⟩ := rcell bA
  obtain ⟨b0, b1, fb⟩ := rcell bB
  have X1 := Lib.hid hx
  clear hx bA bB
  go_wp2_with fail
  refine (i_IsValidRat u v _).mono ?_
  rw [HB.out]
  rintro e w2 ⟨rfl, hx⟩
  clear a0 a1 fa b0 b1 fb
  have X2 := Lib.hid (X1.out.trans hx)
  obtain ⟨bA, bB⟩ := box2 X2.out
  obtain ⟨a0, a1, fa⟩ := rcell bA
  obtain ⟨b0, b1, fb⟩ := rcell bB
  clear hx bA bB
  go_wp2
  go_quiet (fail)
  go_wp2
  go_ret
  exact ⟨ret_int (by rw [HR.out, if_neg (by omega), if_neg (by omega)]), HX.out.trans (X2.out.trans (Drew.ext ⟨_, rfl⟩))⟩
set_option maxHeartbeats 1000000 in
theorem s_CompareRat (x y u v : Int) (w : World) :
 Calls Try.prog 97 #[ratV x y, ratV u v] w fun e w' => e = .returned (.int .i64 (cmpR (x, y) (u, v))) ∧ Ext w w' := by
 have HX := Lib.hid (show Ext w ((w.alloc (.cells #[.int .i64 x, .int .i64 y] 34)).alloc (.cells #[.int .i64 u, .int .i64 v] 34)) from (Ext.alloc _ _).trans (Ext.alloc _ _))
 cases ha : valR (x, y)
 ·have HA := Lib.hid ha
  have HR := Lib.hid (show cmpR (x, y) (u, v) = 0 by simp [cmpR, ha])
  clear ha
  go_enter Try.func97, Try.ntmps97
  go_wp2_with fail
  refine (s_IsValidRat x y _).mono ?_
  rw [HA.out]
  rintro e w1 ⟨rfl, hx⟩
  obtain ⟨bA, bB⟩ := box2 hx
  obtain ⟨a0, a1, fa⟩ := rcell bA
  obtain ⟨b0, b1, fb⟩ := rcell bB
  have X1 := Lib.hid hx
  clear hx bA bB
  go_wp2
  go_ret
  exact ⟨ret_int HR.out.symm, HX.out.trans X1.out⟩
 cases hb : valR (u, v)
 ·have HA := Lib.hid ha
  have HB := Lib.hid hb
  have HR := Lib.hid (show cmpR (x, y) (u, v) = 0 by simp [cmpR, hb])
  clear ha hb
  go_enter Try.func97, Try.ntmps97
  go_wp2_with fail
  refine (s_IsValidRat x y _).mono ?_
  rw [HA.out]
  rintro e w1 ⟨rfl, hx⟩
  obtain ⟨bA, bB⟩ := box2 hx
  obtain ⟨a0, a1, fa⟩ := rcell bA
  obtain ⟨b0, b1, fb⟩ := rcell bB
  have X1 := Lib.hid hx
  clear hx bA bB
  go_wp2_with fail
  refine (s_IsValidRat u v _).mono ?_
  rw [HB.out]
  rintro e w2 ⟨rfl, hx⟩
  clear a0 a1 fa b0 b1 fb
  have X2 := Lib.hid (X1.out.trans hx)
  obtain ⟨bA, bB⟩ := box2 X2.out
  obtain ⟨a0, a1, fa⟩ := rcell bA
  obtain ⟨b0, b1, fb⟩ := rcell bB
  clear hx bA bB
  go_wp2
  go_ret
  exact ⟨ret_int HR.out.symm, HX.out.trans X2.out⟩
 have HA := Lib.hid ha
 have HB := Lib.hid hb
 obtain ⟨x1, x2, y1, y2⟩ := val_in ha
 obtain ⟨u1, u2, v1, v2⟩ := val_in hb
 have q1 : in18 (x * v) := mul_w (by omega) (by omega)
 have q2 : in18 (u * y) := mul_w (by omega) (by omega)
 obtain ⟨e1, g1⟩ := kwrap_in q1
 obtain ⟨e2, g2⟩ := kwrap_in q2
 have hR : cmpR (x, y) (u, v) = (if x * v < u * y then -1 else if u * y < x * v then 1 else 0) := by simp [cmpR, ha, hb]
 obtain ⟨P, hP⟩ : ∃ P, P = x * v := ⟨_, rfl⟩
 obtain ⟨Q, hQ⟩ : ∃ Q, Q = u * y := ⟨_, rfl⟩
 rw [← hP, ← hQ] at hR
 rw [← hP] at e1 g1
 rw [← hQ] at e2 g2
 have HR := Lib.hid hR
 have hP' := hP.symm
 have hQ' := hQ.symm
 clear ha hb hR q1 q2 hP hQ
 by_cases h1 : P < Q
 ·go_enter Try.func97, Try.ntmps97
  go_wp2_with fail
  refine (s_IsValidRat x y _).mono ?_
  rw [HA.out]
  rintro e w1 ⟨rfl, hx⟩
  obtain ⟨bA, bB⟩ := box2 hx
  obtain ⟨a0, a1, fa⟩ := rcell bA
  obtain ⟨b0, b1, fb⟩ := rcell bB
  have X1 := Lib.hid hx
  clear hx bA bB
  go_wp2_with fail
  refine (s_IsValidRat u v _).mono ?_
  rw [HB.out]
  rintro e w2 ⟨rfl, hx⟩
  clear a0 a1 fa b0 b1 fb
  have X2 := Lib.hid (X1.out.trans hx)
  obtain ⟨bA, bB⟩ := box2 X2.out
  obtain ⟨a0, a1, fa⟩ := rcell bA
  obtain ⟨b0, b1, fb⟩ := rcell bB
  clear hx bA bB
  go_wp2
  go_ret
  exact ⟨ret_int (by rw [HR.out, if_pos (by omega)]), HX.out.trans X2.out⟩
 by_cases h2 : Q < P
 ·go_enter Try.func97, Try.ntmps97
  go_wp2_with fail
  refine (s_IsValidRat x y _).mono ?_
  rw [HA.out]
  rintro e w1 ⟨rfl, hx⟩
  obtain ⟨bA, bB⟩ := box2 hx
  obtain ⟨a0, a1, fa⟩ := rcell bA
  obtain ⟨b0, b1, fb⟩ := rcell bB
  have X1 := Lib.hid hx
  clear hx bA bB
  go_wp2_with fail
  refine (s_IsValidRat u v _).mono ?_
  rw [HB.out]
  rintro e w2 ⟨rfl, hx⟩
  clear a0 a1 fa b0 b1 fb
  have X2 := Lib.hid (X1.out.trans hx)
  obtain ⟨bA, bB⟩ := box2 X2.out
  obtain ⟨a0, a1, fa⟩ := rcell bA
  obtain ⟨b0, b1, fb⟩ := rcell bB
  clear hx bA bB
  go_wp2
  go_ret
  exact ⟨ret_int (by rw [HR.out, if_neg (by omega), if_pos (by omega)]), HX.out.trans X2.out⟩
 ·go_enter Try.func97, Try.ntmps97
  go_wp2_with fail
  refine (s_IsValidRat x y _).mono ?_
  rw [HA.out]
  rintro e w1 ⟨rfl, hx⟩
  obtain ⟨bA, bB⟩ := box2 hx
  obtain ⟨a0, a1, fa⟩ := rcell bA
  obtain ⟨b0, b1, fb⟩ := rcell bB
  have X1 := Lib.hid hx
  clear hx bA bB
  go_wp2_with fail
  refine (s_IsValidRat u v _).mono ?_
  rw [HB.out]
  rintro e w2 ⟨rfl, hx⟩
  clear a0 a1 fa b0 b1 fb
  have X2 := Lib.hid (X1.out.trans hx)
  obtain ⟨bA, bB⟩ := box2 X2.out
  obtain ⟨a0, a1, fa⟩ := rcell bA
  obtain ⟨b0, b1, fb⟩ := rcell bB
  clear hx bA bB
  go_wp2
  go_ret
  exact ⟨ret_int (by rw [HR.out, if_neg (by omega), if_neg (by omega)]), HX.out.trans X2.out⟩
set_option maxHeartbeats 1000000 in
theorem s_SubRat (x y u v : Int) (w : World) :
 Calls Try.prog 98 #[ratV x y, ratV u v] w fun e w' => e = .returned (resR (subR (x, y) (u, v))) ∧ Ext w w' := by
 have HX := Lib.hid (show Ext w (((w.alloc (.cells #[.int .i64 x, .int .i64 y] 34)).alloc (.cells #[.int .i64 u, .int .i64 v] 34)).alloc (.cells #[.int .i64 0, .int .i64 0] 34)) from ((Ext.alloc _ _).trans (Ext.alloc _ _)).trans (Ext.alloc _ _))
 cases hb : valR (u, v)
 ·have HB := Lib.hid hb
  have HR := Lib.hid (show subR (x, y) (u, v) = ((0, 0), false) by simp [subR, hb])
  clear hb
  go_enter Try.func98, Try.ntmps98
  go_wp2_with fail
  refine (s_IsValidRat u v _).mono ?_
  rw [HB.out]
  rintro e w1 ⟨rfl, hx⟩
  obtain ⟨bA, bB, bR⟩ := box3 hx
  obtain ⟨a0, a1, fa⟩ := rcell bA
  obtain ⟨b0, b1, fb⟩ := rcell bB
  obtain ⟨r0, r1, fr⟩ := rcell bR
  have X1 := Lib.hid hx
  clear hx bA bB bR
  go_wp2
  rw [HR.out]
  refine bodyPost_ret (v := .tuple #[.agg #[.int .i64 0, .int .i64 0], .bool false]) (by simp [results, Try.results98, go_sem, r0, r1]) rfl ⟨rfl, ?_⟩
  exact ((HX.out.trans X1.out).setCell (by simp; omega) _).setCell (by simp; omega) _
 ·have HB := Lib.hid hb
  obtain ⟨u1, u2, v1, v2⟩ := val_in hb
  obtain ⟨p, q, ok, hpq⟩ : ∃ p q ok, addR (x, y) (-u, v) = ((p, q), ok) := ⟨_, _, _, rfl⟩
  have HPQ := Lib.hid hpq
  have HR := Lib.hid (show subR (x, y) (u, v) = ((p, q), ok) by rw [← subR_add]; exact hpq)
  clear hb hpq
  go_enter Try.func98, Try.ntmps98
  go_wp2_with fail
  refine (s_IsValidRat u v _).mono ?_
  rw [HB.out]
  rintro e w1 ⟨rfl, hx⟩
  obtain ⟨bA, bB, bR⟩ := box3 hx
  obtain ⟨a0, a1, fa⟩ := rcell bA
  obtain ⟨b0, b1, fb⟩ := rcell bB
  obtain ⟨r0, r1, fr⟩ := rcell bR
  have X1 := Lib.hid hx
  have HBA := Lib.hid bA
  have HBR := Lib.hid bR
  have hl := lt_of_block bR
  clear hx bA bB bR
  go_wp2_with fail
  refine (s_AddRat _ _ _ _ _).mono ?_
  rw [HPQ.out]
  rintro e w3 ⟨rfl, hx⟩
  have hz : Ext w (w1.setCell ⟨w.heap.size + 1, 0, none⟩ (.int .i64 (-u))) := (HX.out.trans X1.out).setCell (by simp) _
  have X3 := Lib.hid (hz.trans hx)
  clear hz
  have bR : w3.heap[w.heap.size + 1 + 1]? = some (.cells #[.int .i64 0, .int .i64 0] 34 (0, 0)) := (hx.block _ (by simp; omega)).trans ((heap_setCell_other _ _ _ _ (by simp)).trans HBR.out)
  clear a0 a1 fa b0 b1 fb r0 r1 fr
  obtain ⟨r0, r1, fr⟩ := rcell bR
  clear hx bR
  go_wp2
  rw [HR.out]
  refine bodyPost_ret (v := .tuple #[.agg #[.int .i64 p, .int .i64 q], .bool ok]) (by simp [results, Try.results98, go_sem, r0, r1]) rfl ⟨rfl, ?_⟩
  exact (X3.out.setCell (by simp; omega) _).setCell (by simp; omega) _
section
variable {w0 w : World} {cb : Nat} {a' : Option Addr} {n' c' : Nat} {C : List Int} {base : Nat} {a : Option Addr} {n cap : Nat}
end
theorem Ints.oneS (w : World) (x : Int) (t : TypeId) (n : Nat) (hn : n = w.heap.size) : Ints (w.alloc (.cells #[.int .i64 x] t)) (some ⟨n, 0, none⟩) 1 1 [x] := by
 subst hn
 exact Ints.one w x t
theorem OwnI.madeS (w : World) (base n : Nat) (hn : n = w.heap.size) (hb : base ≤ w.heap.size) : OwnI (w.alloc (.cells #[] 3)) base (.slice (some ⟨n, 0, none⟩) 0 0) [] := by
 subst hn
 exact OwnI.made w base hb
theorem Ints.drop' {w : World} {b off n cap : Nat} {l : List Int} (h : Ints w (some ⟨b, off, none⟩) n cap l) {k : Nat} (hk : k ≤ n) : Ints w (some ⟨b, off + k, none⟩) (n - k) (cap - k) (l.drop k) :=
 ⟨by have := h.hlen; simp; omega, by have := h.hcap; omega, by have := h.hmax; omega, fun j hj => by
  obtain ⟨b', off', e, hc⟩ := h.cell (j + k) (by omega)
  simp only [Option.some.injEq, Addr.mk.injEq, and_true] at e
  obtain ⟨rfl, rfl⟩ := e
  refine ⟨b, off + k, rfl, fun i hi => ?_⟩
  have := hc (i + k) (by omega)
  rw [show off + k + i = off + (i + k) by omega, this, List.getElem?_drop, Nat.add_comm k i]⟩
theorem Ints.dropIf {w : World} {b n cap : Nat} {l : List Int} (h : Ints w (some ⟨b, 0, none⟩) n cap l) {k : Nat} (hk : k ≤ n) : Ints w (if cap = k then some ⟨b, 0, none⟩ else some ⟨b, k, none⟩) (n - k) (cap - k) (l.drop k) := by
 have hc := h.hcap
 split
 ·exact ⟨by have := h.hlen; simp; omega, by omega, by have := h.hmax; omega, fun j hj => absurd hj (by omega)⟩
 ·have := h.drop' hk
  rwa [Nat.zero_add] at this
end Go.Proofs.Ytgohdmnbnhehnaa
namespace Go.Proofs.Ytgohdmnbnhehnaa
set_option linter.unusedVariables false
open Go.RowKit
structure Boxed (w W : World) (g : Nat) (p q : Int) : Prop where
 ext : Ext w W
 ge : w.heap.size ≤ g
 cell : W.heap[g]? = some (.cells #[.int .i64 p, .int .i64 q] 34 (0, 0))
theorem Boxed.lt {w W : World} {g : Nat} {p q : Int} (h : Boxed w W g p q) : g < W.heap.size := lt_of_block h.cell
theorem Boxed.grow {w W W' : World} {g : Nat} {p q : Int} (h : Boxed w W g p q) (hx : Ext W W') : Boxed w W' g p q :=
 ⟨h.ext.trans hx, h.ge, (hx.block _ h.lt).trans h.cell⟩
theorem Boxed.more {w0 w W : World} {g : Nat} {p q : Int} (h : Boxed w W g p q) (hx : Ext w0 w) : Boxed w0 W g p q :=
 ⟨hx.trans h.ext, Nat.le_trans hx.size h.ge, h.cell⟩
theorem Boxed.c0 {w W : World} {g : Nat} {p q : Int} (h : Boxed w W g p q) : W.cell? ⟨g, 0, none⟩ = some (.int .i64 p) := (rcell h.cell).1
theorem Boxed.c1 {w W : World} {g : Nat} {p q : Int} (h : Boxed w W g p q) : W.cell? ⟨g, 1, none⟩ = some (.int .i64 q) := (rcell h.cell).2.1
theorem Boxed.free {w W : World} {g : Nat} {p q : Int} (h : Boxed w W g p q) (o : Nat) : W.frozen? ⟨g, o, none⟩ = false := (rcell h.cell).2.2 o
theorem Boxed.new {w W : World} (h : Ext w W) (p q : Int) : Boxed w (W.alloc (.cells #[.int .i64 p, .int .i64 q] 34)) W.heap.size p q :=
 ⟨h.trans (Ext.alloc _ _), h.size, heap_alloc_new _ _⟩
theorem Boxed.new' {w W : World} (h : Ext w W) (p q : Int) {n : Nat} (hn : n = W.heap.size) : Boxed w (W.alloc (.cells #[.int .i64 p, .int .i64 q] 34)) n p q := by
 subst hn; exact Boxed.new h p q
theorem Boxed.put {w W : World} {g : Nat} {p q : Int} (h : Boxed w W g p q) (p' q' : Int) : Boxed w ((W.setCell ⟨g, 0, none⟩ (.int .i64 p')).setCell ⟨g, 1, none⟩ (.int .i64 q')) g p' q' :=
 ⟨(h.ext.setCell (p := ⟨g, 0, none⟩) h.ge (.int .i64 p')).setCell (p := ⟨g, 1, none⟩) h.ge (.int .i64 q'), h.ge, by rw [heap_setCell_same _ _ _ _ _ _ (heap_setCell_same _ _ _ _ _ _ h.cell)]; rfl⟩
theorem Boxed.rats {w W : World} {g : Nat} {p q : Int} (h : Boxed w W g p q) : Rats W (some ⟨g, 0, none⟩) 1 1 [(p, q)] :=
 ⟨rfl, Nat.le_refl _, by omega, fun k hk => ⟨_, 0, rfl, fun k hk => by
  obtain rfl : k = 0 := by omega
  exact ⟨h.c0, h.c1⟩⟩⟩
theorem Boxed.firstD {w w' : World} (h : Ext (w.alloc (.cells #[.int .i64 0, .int .i64 0] 34)).drew w') : Boxed w w' w.heap.size 0 0 :=
 Boxed.grow ⟨(Ext.alloc _ _).trans (Ext.drew _), Nat.le_refl _, heap_alloc_new w _⟩ h
theorem Boxed.laterD {w W w' : World} (h : Ext w W) (hx : Ext (W.alloc (.cells #[.int .i64 0, .int .i64 0] 34)) w') : Boxed w w' W.heap.size 0 0 :=
 Boxed.grow (Boxed.new h 0 0) hx
def runT (f : Nat → Option (Int × Int)) : Nat → Option (List (Int × Int))
 | 0 => some []
 | m + 1 => (runT f m).bind fun l => (f m).map fun x => l ++ [x]
theorem runT_some {f : Nat → Option (Int × Int)} {k : Nat} {r : List (Int × Int)} {x : Int × Int} (h : runT f k = some r) (hx : f k = some x) : runT f (k + 1) = some (r ++ [x]) := by simp [runT, h, hx]
theorem runT_stuck {f : Nat → Option (Int × Int)} {k : Nat} (h : runT f k = none) : ∀ {n : Nat}, k ≤ n → runT f n = none
 | n, hn => by
   obtain ⟨d, rfl⟩ : ∃ d, n = k + d := ⟨n - k, by omega⟩
   clear hn
   induction d with
   | zero => exact h
   | succ d ih => show (runT f (k + d)).bind _ = none; rw [ih]; rfl
theorem runT_fail {f : Nat → Option (Int × Int)} {k n : Nat} {r : List (Int × Int)} (h : runT f k = some r) (hx : f k = none) (hn : k < n) : runT f n = none :=
 runT_stuck (k := k + 1) (by simp [runT, h, hx]) (by omega)
theorem runT_len {f : Nat → Option (Int × Int)} : ∀ {k : Nat} {r : List (Int × Int)}, runT f k = some r → r.length = k
 | 0, r, h => by simp only [runT, Option.some.injEq] at h; rw [← h]; rfl
 | k + 1, r, h => by
   cases hk : runT f k with
   | none => simp [runT, hk] at h
   | some l =>
     cases hf : f k with
     | none => simp [runT, hk, hf] at h
     | some x =>
       rw [runT_some hk hf] at h
       simp only [Option.some.injEq] at h
       rw [← h, List.length_append, runT_len hk]
       rfl
theorem runT_at {f : Nat → Option (Int × Int)} : ∀ {k : Nat} {r : List (Int × Int)}, runT f k = some r → ∀ i, i < k → f i = some (r[i]?.getD (0, 0))
 | 0, r, h => fun i hi => absurd hi (by omega)
 | k + 1, r, h => fun i hi => by
   cases hk : runT f k with
   | none => simp [runT, hk] at h
   | some l =>
     cases hf : f k with
     | none => simp [runT, hk, hf] at h
     | some x =>
       rw [runT_some hk hf] at h
       simp only [Option.some.injEq] at h
       subst h
       have hl := runT_len hk
       by_cases hik : i < k
       ·rw [List.getElem?_append_left (by omega)]; exact runT_at hk i hik
       ·obtain rfl : i = k := by omega
        rw [← hl, List.getElem?_concat_length, Option.getD_some, hl, hf]
end Go.Proofs.Ytgohdmnbnhehnaa
