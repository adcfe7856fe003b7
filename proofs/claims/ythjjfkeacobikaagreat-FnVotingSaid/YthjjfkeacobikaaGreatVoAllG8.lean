import Derived.Test.YthjjfkeacobikaaGreatVoAllG7
import Derived.Test.YthjjfkeacobikaaGreatVoAllG4
import Derived.Test.YthjjfkeacobikaaGreatVoAllG6
import Derived.Test.YthjjfkeacobikaaGreatVoAllG3
import Derived.Deep.DeepCutAuto
namespace Go.Proofs.YthjjfkeacobikaaGreat
set_option linter.unusedVariables false
set_option linter.unusedSimpArgs false
set_option maxRecDepth 100000
open Go.RowKit
def prBx (t : TypeId) (r b : Nat) (x : Int) (a : Option Addr) (n c : Nat) : Bx := (Bx.nil.upd r (#[.int .i64 0, .slice none 0 0], t)).upd b (#[.int .i64 x, .slice a n c], t)
section
variable {t : TypeId} {r b : Nat} {x : Int} {a : Option Addr} {n c : Nat}
theorem prBx_b : prBx t r b x a n c b = some (#[.int .i64 x, .slice a n c], t) := Bx.same _ _ _
theorem prBx_r (h : r ≠ b) : prBx t r b x a n c r = some (#[.int .i64 0, .slice none 0 0], t) := (Bx.other _ _ h).trans (Bx.same _ _ _)
theorem prBx_o {k : Nat} (h : k ≠ r) (h' : k ≠ b) : prBx t r b x a n c k = none := (Bx.other _ _ h').trans (Bx.other _ _ h)
theorem Bx.ext {f g : Bx} (h : ∀ k, f k = g k) : f = g := funext h
theorem prBx_set (x' : Int) (a' : Option Addr) (n' c' : Nat) : (prBx t r b x a n c).upd b (#[.int .i64 x', .slice a' n' c'], t) = prBx t r b x' a' n' c' := by
 refine Bx.ext fun k => ?_
 by_cases e : k = b
 ·subst e; rw [Bx.same, prBx_b]
 ·rw [Bx.other _ _ e]; unfold prBx; rw [Bx.other _ _ e, Bx.other _ _ e]
end
def Few (l : List Int) : Prop := ∀ x ∈ l, 0 ≤ x ∧ x ≤ 100
theorem sumW_few : ∀ (l : List Int) (acc : Int), Few l → 0 ≤ acc → acc + 100 * l.length ≤ 1000000 → l.foldl (fun a x => wrap64 (a + x)) acc = acc + l.sum ∧ acc + l.sum ≤ acc + 100 * l.length ∧ acc ≤ acc + l.sum
 | [], acc, _, h0, h1 => by simp
 | x :: l, acc, h, h0, h1 => by
   have hx := h x List.mem_cons_self
   simp only [List.length_cons, Int.natCast_add, Int.natCast_one] at h1
   have ih := sumW_few l (acc + x) (fun y hy => h y (List.mem_cons_of_mem _ hy)) (by omega) (by omega)
   simp only [List.foldl_cons, List.sum_cons, List.length_cons, Int.natCast_add, Int.natCast_one]
   rw [show wrap64 (acc + x) = acc + x by unfold wrap64; omega]
   omega
theorem sumW_few' {l : List Int} (h : Few l) (hl : l.length ≤ 100) : sumW l = l.sum ∧ 0 ≤ sumW l ∧ sumW l ≤ 100 * l.length := by
 have := sumW_few l 0 h (by omega) (by omega)
 unfold sumW
 omega
def FewB (l : List Int) : Prop := ∀ x ∈ l, -1 ≤ x ∧ x ≤ 101
theorem Few.b {l : List Int} (h : Few l) : FewB l := fun x hx => by have := h x hx; omega
theorem FewB.set {l : List Int} (h : FewB l) (k : Nat) {y : Int} (hy : -1 ≤ y ∧ y ≤ 101) : FewB (l.set k y) := fun x hx => by
 rcases List.mem_or_eq_of_mem_set hx with h1 | h1
 ·exact h x h1
 ·rw [h1]; exact hy
end Go.Proofs.YthjjfkeacobikaaGreat
namespace Go.Proofs.YthjjfkeacobikaaGreat
set_option linter.unusedVariables false
set_option linter.unusedSimpArgs false
set_option maxRecDepth 100000
open Go.RowKit
theorem box3 {w W : World} {a b c : Obj} (hx : Ext (((w.alloc a).alloc b).alloc c) W) : W.heap[w.heap.size]? = some a ∧ W.heap[w.heap.size + 1]? = some b ∧ W.heap[w.heap.size + 1 + 1]? = some c :=
 ⟨(hx.block _ (by simp; omega)).trans (by rw [heapA_old _ _ _ (by simp; omega), heapA_old _ _ _ (by simp)]; exact heapA_new _ _ _ rfl),
  (hx.block _ (by simp)).trans (by rw [heapA_old _ _ _ (by simp)]; exact heapA_new _ _ _ (by simp)), (hx.block _ (by simp)).trans (heapA_new _ _ _ (by simp))⟩
theorem box2 {w W : World} {a b : Obj} (hx : Ext ((w.alloc a).alloc b) W) : W.heap[w.heap.size]? = some a ∧ W.heap[w.heap.size + 1]? = some b :=
 ⟨(hx.block _ (by simp; omega)).trans (by rw [heapA_old _ _ _ (by simp)]; exact heapA_new _ _ _ rfl), (hx.block _ (by simp)).trans (heapA_new _ _ _ (by simp))⟩
theorem rcell {w : World} {b : Nat} {x y : Int} {t : TypeId} (h : w.heap[b]? = some (.cells #[.int .i64 x, .int .i64 y] t (0, 0))) : w.cell? ⟨b, 0, none⟩ = some (.int .i64 x) ∧ w.cell? ⟨b, 1, none⟩ = some (.int .i64 y) ∧ ∀ o, w.frozen? ⟨b, o, none⟩ = false :=
 ⟨by rw [cell_of_row _ _ _ _ _ _ h]; rfl, by rw [cell_of_row _ _ _ _ _ _ h]; rfl, fun o => frozen_of_row _ _ _ _ _ h⟩
theorem val_in {x y : Int} (h : valR (x, y) = true) : -1000000000 ≤ x ∧ x ≤ 1000000000 ∧ -1000000000 ≤ y ∧ y ≤ 1000000000 := by have := valR_bd h; simp only at this; omega
theorem mul_w {x y : Int} (h : -1000000000 ≤ x ∧ x ≤ 1000000000) (h' : -1000000000 ≤ y ∧ y ≤ 1000000000) : in18 (x * y) := mul_bd h.1 h.2 h'.1 h'.2
set_option maxHeartbeats 1000000 in
theorem s_AddRat (x y u v : Int) (w : World) :
 Calls Tryz.prog 37 #[ratV x y, ratV u v] w fun e w' => e = .returned (resR (addR (x, y) (u, v))) ∧ Ext w w' := by
 have HX := Lib.hid (show Ext w (((w.alloc (.cells #[.int .i64 x, .int .i64 y] 43)).alloc (.cells #[.int .i64 u, .int .i64 v] 43)).alloc (.cells #[.int .i64 0, .int .i64 0] 43)) from ((Ext.alloc _ _).trans (Ext.alloc _ _)).trans (Ext.alloc _ _))
 cases ha : valR (x, y)
 ·have HA := Lib.hid ha
  have HR := Lib.hid (show addR (x, y) (u, v) = ((0, 0), false) by simp [addR, ha])
  clear ha
  go_enter Tryz.func37, Tryz.ntmps37
  go_wp2_with fail
  refine (s_IsValidRat x y _).mono ?_
  rw [HA.out]
  rintro e w1 ⟨rfl, hx⟩
  obtain ⟨bA, bB, bR⟩ := box3 hx
  obtain ⟨a0, a1, fa⟩ := rcell bA
  obtain ⟨b0, b1, fb⟩ := rcell bB
  obtain ⟨r0, r1, fr⟩ := rcell bR
  have X1 := Lib.hid hx
  clear hx bA bB bR
  go_wp2
  rw [HR.out]
  refine bodyPost_ret (v := .tuple #[.agg #[.int .i64 0, .int .i64 0], .bool false]) (by simp [results, Tryz.results37, go_sem, r0, r1]) rfl ⟨rfl, ?_⟩
  exact ((HX.out.trans X1.out).setCell (by simp; omega) _).setCell (by simp; omega) _
 cases hb : valR (u, v)
 ·have HA := Lib.hid ha
  have HB := Lib.hid hb
  have HR := Lib.hid (show addR (x, y) (u, v) = ((0, 0), false) by simp [addR, hb])
  clear ha hb
  go_enter Tryz.func37, Tryz.ntmps37
  go_wp2_with fail
  refine (s_IsValidRat x y _).mono ?_
  rw [HA.out]
  rintro e w1 ⟨rfl, hx⟩
  obtain ⟨bA, bB, bR⟩ := box3 hx
  obtain ⟨a0, a1, fa⟩ := rcell bA
  obtain ⟨b0, b1, fb⟩ := rcell bB
  obtain ⟨r0, r1, fr⟩ := rcell bR
  have X1 := Lib.hid hx
  clear hx bA bB bR
  go_wp2_with fail
  refine (s_IsValidRat u v _).mono ?_
  rw [HB.out]
  rintro e w2 ⟨rfl, hx⟩
  clear a0 a1 fa b0 b1 fb r0 r1 fr
  have X2 := Lib.hid (X1.out.trans hx)
  obtain ⟨bA, bB, bR⟩ := box3 X2.out
  obtain ⟨a0, a1, fa⟩ := rcell bA
  obtain ⟨b0, b1, fb⟩ := rcell bB
  obtain ⟨r0, r1, fr⟩ := rcell bR
  clear hx bA bB bR
  go_wp2
  rw [HR.out]
  refine bodyPost_ret (v := .tuple #[.agg #[.int .i64 0, .int .i64 0], .bool false]) (by simp [results, Tryz.results37, go_sem, r0, r1]) rfl ⟨rfl, ?_⟩
  exact ((HX.out.trans X2.out).setCell (by simp; omega) _).setCell (by simp; omega) _
 have HA := Lib.hid ha
 have HB := Lib.hid hb
 obtain ⟨x1, x2, y1, y2⟩ := val_in ha
 obtain ⟨u1, u2, v1, v2⟩ := val_in hb
 have q1 : in18 (x * v) := mul_w (by omega) (by omega)
 obtain ⟨e1, g1⟩ := kwrap_in q1
 have q2 : in18 (u * y) := mul_w (by omega) (by omega)
 obtain ⟨e2, g2⟩ := kwrap_in q2
 have q3 : in18 (y * v) := mul_w (by omega) (by omega)
 obtain ⟨e3, g3⟩ := kwrap_in q3
 have e4 : IntKind.i64.wrap (x * v + u * y) = x * v + u * y := by rw [IntKind.wrap_i64]; unfold in18 at *; omega
 have g4 : wrap64 (x * v + u * y) = x * v + u * y := by unfold wrap64; unfold in18 at *; omega
 obtain ⟨p, q, ok, hpq⟩ : ∃ p q ok, ratOf (x * v + u * y) (y * v) = ((p, q), ok) := ⟨_, _, _, rfl⟩
 have HPQ := Lib.hid hpq
 have HR := Lib.hid (show addR (x, y) (u, v) = ((p, q), ok) by simp [addR, ha, hb, hpq])
 clear ha hb hpq
 ·go_enter Tryz.func37, Tryz.ntmps37
  go_wp2_with fail
  refine (s_IsValidRat x y _).mono ?_
  rw [HA.out]
  rintro e w1 ⟨rfl, hx⟩
  obtain ⟨bA, bB, bR⟩ := box3 hx
  obtain ⟨a0, a1, fa⟩ := rcell bA
  obtain ⟨b0, b1, fb⟩ := rcell bB
  obtain ⟨r0, r1, fr⟩ := rcell bR
  have X1 := Lib.hid hx
  clear hx bA bB bR
  go_wp2_with fail
  refine (s_IsValidRat u v _).mono ?_
  rw [HB.out]
  rintro e w2 ⟨rfl, hx⟩
  clear a0 a1 fa b0 b1 fb r0 r1 fr
  have X2 := Lib.hid (X1.out.trans hx)
  obtain ⟨bA, bB, bR⟩ := box3 X2.out
  obtain ⟨a0, a1, fa⟩ := rcell bA
  obtain ⟨b0, b1, fb⟩ := rcell bB
  obtain ⟨r0, r1, fr⟩ := rcell bR
  clear hx bA bB bR
  go_wp2_with fail
  refine (s_RatOf _ _ _).mono ?_
  rw [HPQ.out]
  rintro e w3 ⟨rfl, hx⟩
  clear a0 a1 fa b0 b1 fb r0 r1 fr
  have X3 := Lib.hid (X2.out.trans hx)
  obtain ⟨bA, bB, bR⟩ := box3 X3.out
  obtain ⟨a0, a1, fa⟩ := rcell bA
  obtain ⟨b0, b1, fb⟩ := rcell bB
  obtain ⟨r0, r1, fr⟩ := rcell bR
  clear hx bA bB bR
  go_wp2
  rw [HR.out]
  refine bodyPost_ret (v := .tuple #[.agg #[.int .i64 p, .int .i64 q], .bool ok]) (by simp [results, Tryz.results37, go_sem, r0, r1]) rfl ⟨rfl, ?_⟩
  exact ((HX.out.trans X3.out).setCell (by simp; omega) _).setCell (by simp; omega) _
set_option maxHeartbeats 1000000 in
theorem s_MulRat (x y u v : Int) (w : World) :
 Calls Tryz.prog 211 #[ratV x y, ratV u v] w fun e w' => e = .returned (resR (mulR (x, y) (u, v))) ∧ Ext w w' := by
 have HX := Lib.hid (show Ext w (((w.alloc (.cells #[.int .i64 x, .int .i64 y] 43)).alloc (.cells #[.int .i64 u, .int .i64 v] 43)).alloc (.cells #[.int .i64 0, .int .i64 0] 43)) from ((Ext.alloc _ _).trans (Ext.alloc _ _)).trans (Ext.alloc _ _))
 cases ha : valR (x, y)
 ·have HA := Lib.hid ha
  have HR := Lib.hid (show mulR (x, y) (u, v) = ((0, 0), false) by simp [mulR, ha])
  clear ha
  go_enter Tryz.func211, Tryz.ntmps211
  go_wp2_with fail
  refine (s_IsValidRat x y _).mono ?_
  rw [HA.out]
  rintro e w1 ⟨rfl, hx⟩
  obtain ⟨bA, bB, bR⟩ := box3 hx
  obtain ⟨a0, a1, fa⟩ := rcell bA
  obtain ⟨b0, b1, fb⟩ := rcell bB
  obtain ⟨r0, r1, fr⟩ := rcell bR
  have X1 := Lib.hid hx
  clear hx bA bB bR
  go_wp2
  rw [HR.out]
  refine bodyPost_ret (v := .tuple #[.agg #[.int .i64 0, .int .i64 0], .bool false]) (by simp [results, Tryz.results211, go_sem, r0, r1]) rfl ⟨rfl, ?_⟩
  exact ((HX.out.trans X1.out).setCell (by simp; omega) _).setCell (by simp; omega) _
 cases hb : valR (u, v)
 ·have HA := Lib.hid ha
  have HB := Lib.hid hb
  have HR := Lib.hid (show mulR (x, y) (u, v) = ((0, 0), false) by simp [mulR, hb])
  clear ha hb
  go_enter Tryz.func211, Tryz.ntmps211
  go_wp2_with fail
  refine (s_IsValidRat x y _).mono ?_
  rw [HA.out]
  rintro e w1 ⟨rfl, hx⟩
  obtain ⟨bA, bB, bR⟩ := box3 hx
  obtain ⟨a0, a1, fa⟩ := rcell bA
  obtain ⟨b0, b1, fb⟩ := rcell bB
  obtain ⟨r0, r1, fr⟩ := rcell bR
  have X1 := Lib.hid hx
  clear hx bA bB bR
  go_wp2_with fail
  refine (s_IsValidRat u v _).mono ?_
  rw [HB.out]
  rintro e w2 ⟨rfl, hx⟩
  clear a0 a1 fa b0 b1 fb r0 r1 fr
  have X2 := Lib.hid (X1.out.trans hx)
  obtain ⟨bA, bB, bR⟩ := box3 X2.out
  obtain ⟨a0, a1, fa⟩ := rcell bA
  obtain ⟨b0, b1, fb⟩ := rcell bB
  obtain ⟨r0, r1, fr⟩ := rcell bR
  clear hx bA bB bR
  go_wp2
  rw [HR.out]
  refine bodyPost_ret (v := .tuple #[.agg #[.int .i64 0, .int .i64 0], .bool false]) (by simp [results, Tryz.results211, go_sem, r0, r1]) rfl ⟨rfl, ?_⟩
  exact ((HX.out.trans X2.out).setCell (by simp; omega) _).setCell (by simp; omega) _
 have HA := Lib.hid ha
 have HB := Lib.hid hb
 obtain ⟨x1, x2, y1, y2⟩ := val_in ha
 obtain ⟨u1, u2, v1, v2⟩ := val_in hb
 have q1 : in18 (x * u) := mul_w (by omega) (by omega)
 obtain ⟨e1, g1⟩ := kwrap_in q1
 have q2 : in18 (y * v) := mul_w (by omega) (by omega)
 obtain ⟨e2, g2⟩ := kwrap_in q2
 obtain ⟨p, q, ok, hpq⟩ : ∃ p q ok, ratOf (x * u) (y * v) = ((p, q), ok) := ⟨_, _, _, rfl⟩
 have HPQ := Lib.hid hpq
 have HR := Lib.hid (show mulR (x, y) (u, v) = ((p, q), ok) by simp [mulR, ha, hb, hpq])
 clear ha hb hpq
 ·go_enter Tryz.func211, Tryz.ntmps211
  go_wp2_with fail
  refine (s_IsValidRat x y _).mono ?_
  rw [HA.out]
  rintro e w1 ⟨rfl, hx⟩
  obtain ⟨bA, bB, bR⟩ := box3 hx
  obtain ⟨a0, a1, fa⟩ := rcell bA
  obtain ⟨b0, b1, fb⟩ := rcell bB
  obtain ⟨r0, r1, fr⟩ := rcell bR
  have X1 := Lib.hid hx
  clear hx bA bB bR
  go_wp2_with fail
  refine (s_IsValidRat u v _).mono ?_
  rw [HB.out]
  rintro e w2 ⟨rfl, hx⟩
  clear a0 a1 fa b0 b1 fb r0 r1 fr
  have X2 := Lib.hid (X1.out.trans hx)
  obtain ⟨bA, bB, bR⟩ := box3 X2.out
  obtain ⟨a0, a1, fa⟩ := rcell bA
  obtain ⟨b0, b1, fb⟩ := rcell bB
  obtain ⟨r0, r1, fr⟩ := rcell bR
  clear hx bA bB bR
  go_wp2_with fail
  refine (s_RatOf _ _ _).mono ?_
  rw [HPQ.out]
  rintro e w3 ⟨rfl, hx⟩
  clear a0 a1 fa b0 b1 fb r0 r1 fr
  have X3 := Lib.hid (X2.out.trans hx)
  obtain ⟨bA, bB, bR⟩ := box3 X3.out
  obtain ⟨a0, a1, fa⟩ := rcell bA
  obtain ⟨b0, b1, fb⟩ := rcell bB
  obtain ⟨r0, r1, fr⟩ := rcell bR
  clear hx bA bB bR
  go_wp2
  rw [HR.out]
  refine bodyPost_ret (v := .tuple #[.agg #[.int .i64 p, .int .i64 q], .bool ok]) (by simp [results, Tryz.results211, go_sem, r0, r1]) rfl ⟨rfl, ?_⟩
  exact ((HX.out.trans X3.out).setCell (by simp; omega) _).setCell (by simp; omega) _
set_option maxHeartbeats 1000000 in
theorem s_DivRat (x y u v : Int) (w : World) :
 Calls Tryz.prog 183 #[ratV x y, ratV u v] w fun e w' => e = .returned (resR (divR (x, y) (u, v))) ∧ Ext w w' := by
 have HX := Lib.hid (show Ext w (((w.alloc (.cells #[.int .i64 x, .int .i64 y] 43)).alloc (.cells #[.int .i64 u, .int .i64 v] 43)).alloc (.cells #[.int .i64 0, .int .i64 0] 43)) from ((Ext.alloc _ _).trans (Ext.alloc _ _)).trans (Ext.alloc _ _))
 cases ha : valR (x, y)
 ·have HA := Lib.hid ha
  have HR := Lib.hid (show divR (x, y) (u, v) = ((0, 0), false) by simp [divR, ha])
  clear ha
  go_enter Tryz.func183, Tryz.ntmps183
  go_wp2_with fail
  refine (s_IsValidRat x y _).mono ?_
  rw [HA.out]
  rintro e w1 ⟨rfl, hx⟩
  obtain ⟨bA, bB, bR⟩ := box3 hx
  obtain ⟨a0, a1, fa⟩ := rcell bA
  obtain ⟨b0, b1, fb⟩ := rcell bB
  obtain ⟨r0, r1, fr⟩ := rcell bR
  have X1 := Lib.hid hx
  clear hx bA bB bR
  go_wp2
  rw [HR.out]
  refine bodyPost_ret (v := .tuple #[.agg #[.int .i64 0, .int .i64 0], .bool false]) (by simp [results, Tryz.results183, go_sem, r0, r1]) rfl ⟨rfl, ?_⟩
  exact ((HX.out.trans X1.out).setCell (by simp; omega) _).setCell (by simp; omega) _
 cases hb : valR (u, v)
 ·have HA := Lib.hid ha
  have HB := Lib.hid hb
  have HR := Lib.hid (show divR (x, y) (u, v) = ((0, 0), false) by simp [divR, hb])
  clear ha hb
  go_enter Tryz.func183, Tryz.ntmps183
  go_wp2_with fail
  refine (s_IsValidRat x y _).mono ?_
  rw [HA.out]
  rintro e w1 ⟨rfl, hx⟩
  obtain ⟨bA, bB, bR⟩ := box3 hx
  obtain ⟨a0, a1, fa⟩ := rcell bA
  obtain ⟨b0, b1, fb⟩ := rcell bB
  obtain ⟨r0, r1, fr⟩ := rcell bR
  have X1 := Lib.hid hx
  clear hx bA bB bR
  go_wp2_with fail
  refine (s_IsValidRat u v _).mono ?_
  rw [HB.out]
  rintro e w2 ⟨rfl, hx⟩
  clear a0 a1 fa b0 b1 fb r0 r1 fr
  have X2 := Lib.hid (X1.out.trans hx)
  obtain ⟨bA, bB, bR⟩ := box3 X2.out
  obtain ⟨a0, a1, fa⟩ := rcell bA
  obtain ⟨b0, b1, fb⟩ := rcell bB
  obtain ⟨r0, r1, fr⟩ := rcell bR
  clear hx bA bB bR
  go_wp2
  rw [HR.out]
  refine bodyPost_ret (v := .tuple #[.agg #[.int .i64 0, .int .i64 0], .bool false]) (by simp [results, Tryz.results183, go_sem, r0, r1]) rfl ⟨rfl, ?_⟩
  exact ((HX.out.trans X2.out).setCell (by simp; omega) _).setCell (by simp; omega) _
 have HA := Lib.hid ha
 have HB := Lib.hid hb
 obtain ⟨x1, x2, y1, y2⟩ := val_in ha
 obtain ⟨u1, u2, v1, v2⟩ := val_in hb
 have q1 : in18 (x * v) := mul_w (by omega) (by omega)
 obtain ⟨e1, g1⟩ := kwrap_in q1
 have q2 : in18 (y * u) := mul_w (by omega) (by omega)
 obtain ⟨e2, g2⟩ := kwrap_in q2
 obtain ⟨p, q, ok, hpq⟩ : ∃ p q ok, ratOf (x * v) (y * u) = ((p, q), ok) := ⟨_, _, _, rfl⟩
 have HPQ := Lib.hid hpq
 have HR := Lib.hid (show divR (x, y) (u, v) = ((p, q), ok) by simp [divR, ha, hb, hpq])
 clear ha hb hpq
 ·go_enter Tryz.func183, Tryz.ntmps183
  go_wp2_with fail
  refine (s_IsValidRat x y _).mono ?_
  rw [HA.out]
  rintro e w1 ⟨rfl, hx⟩
  obtain ⟨bA, bB, bR⟩ := box3 hx
  obtain ⟨a0, a1, fa⟩ := rcell bA
  obtain ⟨b0, b1, fb⟩ := rcell bB
  obtain ⟨r0, r1, fr⟩ := rcell bR
  have X1 := Lib.hid hx
  clear hx bA bB bR
  go_wp2_with fail
  refine (s_IsValidRat u v _).mono ?_
  rw [HB.out]
  rintro e w2 ⟨rfl, hx⟩
  clear a0 a1 fa b0 b1 fb r0 r1 fr
  have X2 := Lib.hid (X1.out.trans hx)
  obtain ⟨bA, bB, bR⟩ := box3 X2.out
  obtain ⟨a0, a1, fa⟩ := rcell bA
  obtain ⟨b0, b1, fb⟩ := rcell bB
  obtain ⟨r0, r1, fr⟩ := rcell bR
  clear hx bA bB bR
  go_wp2_with fail
  refine (s_RatOf _ _ _).mono ?_
  rw [HPQ.out]
  rintro e w3 ⟨rfl, hx⟩
  clear a0 a1 fa b0 b1 fb r0 r1 fr
  have X3 := Lib.hid (X2.out.trans hx)
  obtain ⟨bA, bB, bR⟩ := box3 X3.out
  obtain ⟨a0, a1, fa⟩ := rcell bA
  obtain ⟨b0, b1, fb⟩ := rcell bB
  obtain ⟨r0, r1, fr⟩ := rcell bR
  clear hx bA bB bR
  go_wp2
  rw [HR.out]
  refine bodyPost_ret (v := .tuple #[.agg #[.int .i64 p, .int .i64 q], .bool ok]) (by simp [results, Tryz.results183, go_sem, r0, r1]) rfl ⟨rfl, ?_⟩
  exact ((HX.out.trans X3.out).setCell (by simp; omega) _).setCell (by simp; omega) _
set_option maxHeartbeats 1000000 in
theorem s_CompareRat (x y u v : Int) (w : World) :
 Calls Tryz.prog 147 #[ratV x y, ratV u v] w fun e w' => e = .returned (.int .i64 (cmpR (x, y) (u, v))) ∧ Ext w w' := by
 have HX := Lib.hid (show Ext w ((w.alloc (.cells #[.int .i64 x, .int .i64 y] 43)).alloc (.cells #[.int .i64 u, .int .i64 v] 43)) from (Ext.alloc _ _).trans (Ext.alloc _ _))
 cases ha : valR (x, y)
 ·have HA := Lib.hid ha
  have HR := Lib.hid (show cmpR (x, y) (u, v) = 0 by simp [cmpR, ha])
  clear ha
  go_enter Tryz.func147, Tryz.ntmps147
  go_wp2_with fail
  refine (s_IsValidRat x y _).mono ?_
  rw [HA.out]
  rintro e w1 ⟨rfl, hx⟩
  obtain ⟨bA, bB⟩ := box2 hx
  obtain ⟨a0, a1, fa⟩ := rcell bA
  obtain ⟨b0, b1, fb⟩ := rcell bB
  have X1 := Lib.hid hx
  clear hx bA bB
  go_wp2
  go_ret
  exact ⟨ret_int HR.out.symm, HX.out.trans X1.out⟩
 cases hb : valR (u, v)
 ·have HA := Lib.hid ha
  have HB := Lib.hid hb
  have HR := Lib.hid (show cmpR (x, y) (u, v) = 0 by simp [cmpR, hb])
  clear ha hb
  go_enter Tryz.func147, Tryz.ntmps147
  go_wp2_with fail
  refine (s_IsValidRat x y _).mono ?_
  rw [HA.out]
  rintro e w1 ⟨rfl, hx⟩
  obtain ⟨bA, bB⟩ := box2 hx
  obtain ⟨a0, a1, fa⟩ := rcell bA
  obtain ⟨b0, b1, fb⟩ := rcell bB
  have X1 := Lib.hid hx
  clear hx bA bB
  go_wp2_with fail
  refine (s_IsValidRat u v _).mono ?_
  rw [HB.out]
  rintro e w2 ⟨rfl, hx⟩
  clear a0 a1 fa b0 b1 fb
  have X2 := Lib.hid (X1.out.trans hx)
  obtain ⟨bA, bB⟩ := box2 X2.out
  obtain ⟨a0, a1, fa⟩ := rcell bA
  obtain ⟨b0, b1, fb⟩ := rcell bB
  clear hx bA bB
  go_wp2
  go_ret
  exact ⟨ret_int HR.out.symm, HX.out.trans X2.out⟩
 have HA := Lib.hid ha
 have HB := Lib.hid hb
 obtain ⟨x1, x2, y1, y2⟩ := val_in ha
 obtain ⟨u1, u2, v1, v2⟩ := val_in hb
 have q1 : in18 (x * v) := mul_w (by omega) (by omega)
 have q2 : in18 (u * y) := mul_w (by omega) (by omega)
 obtain ⟨e1, g1⟩ := kwrap_in q1
 obtain ⟨e2, g2⟩ := kwrap_in q2
 have hR : cmpR (x, y) (u, v) = (if x * v < u * y then -1 else if u * y < x * v then 1 else 0) := by simp [cmpR, ha, hb]
 obtain ⟨P, hP⟩ : ∃ P, P = x * v := ⟨_, rfl⟩
 obtain ⟨Q, hQ⟩ : ∃ Q, Q = u * y := ⟨_, rfl⟩
 rw [← hP, ← hQ] at hR
 rw [← hP] at e1 g1
 rw [← hQ] at e2 g2
 have HR := Lib.hid hR
 have hP' := hP.symm
 have hQ' := hQ.symm
 clear ha hb hR q1 q2 hP hQ
 by_cases h1 : P < Q
 ·go_enter Tryz.func147, Tryz.ntmps147
  go_wp2_with fail
  refine (s_IsValidRat x y _).mono ?_
  rw [HA.out]
  rintro e w1 ⟨rfl, hx⟩
  obtain ⟨bA, bB⟩ := box2 hx
  obtain ⟨a0, a1, fa⟩ := rcell bA
  obtain ⟨b0, b1, fb⟩ := rcell bB
  have X1 := Lib.hid hx
  clear hx bA bB
  go_wp2_with fail
  refine (s_IsValidRat u v _).mono ?_
  rw [HB.out]
  rintro e w2 ⟨rfl, hx⟩
  clear a0 a1 fa b0 b1 fb
  have X2 := Lib.hid (X1.out.trans hx)
  obtain ⟨bA, bB⟩ := box2 X2.out
  obtain ⟨a0, a1, fa⟩ := rcell bA
  obtain ⟨b0, b1, fb⟩ := rcell bB
  clear hx bA bB
  go_wp2
  go_ret
  exact ⟨ret_int (by rw [HR.out, if_pos (by omega)]), HX.out.trans X2.out⟩
 by_cases h2 : Q < P
 ·go_enter Tryz.func147, Tryz.ntmps147
  go_wp2_with fail
  refine (s_IsValidRat x y _).mono ?_
  rw [HA.out]
  rintro e w1 ⟨rfl, hx⟩
  obtain ⟨bA, bB⟩ := box2 hx
  obtain ⟨a0, a1, fa⟩ := rcell bA
  obtain ⟨b0, b1, fb⟩ := rcell bB
  have X1 := Lib.hid hx
  clear hx bA bB
  go_wp2_with fail
  refine (s_IsValidRat u v _).mono ?_
  rw [HB.out]
  rintro e w2 ⟨rfl, hx⟩
  clear a0 a1 fa b0 b1 fb
  have X2 := Lib.hid (X1.out.trans hx)
  obtain ⟨bA, bB⟩ := box2 X2.out
  obtain ⟨a0, a1, fa⟩ := rcell bA
  obtain ⟨b0, b1, fb⟩ := rcell bB
  clear hx bA bB
  go_wp2
  go_ret
  exact ⟨ret_int (by rw [HR.out, if_neg (by omega), if_pos (by omega)]), HX.out.trans X2.out⟩
 ·go_enter Tryz.func147, Tryz.ntmps147
  go_wp2_with fail
  refine (s_IsValidRat x y _).mono ?_
  rw [HA.out]
  rintro e w1 ⟨rfl, hx⟩
  obtain ⟨bA, bB⟩ := box2 hx
  obtain ⟨a0, a1, fa⟩ := rcell bA
  obtain ⟨b0, b1, fb⟩ := rcell bB
  have X1 := Lib.hid hx
  clear hx bA bB
  go_wp2_with fail
  refine (s_IsValidRat u v _).mono ?_
  rw [HB.out]
  rintro e w2 ⟨rfl, hx⟩
  clear a0 a1 fa b0 b1 fb
  have X2 := Lib.hid (X1.out.trans hx)
  obtain ⟨bA, bB⟩ := box2 X2.out
  obtain ⟨a0, a1, fa⟩ := rcell bA
  obtain ⟨b0, b1, fb⟩ := rcell bB
  clear hx bA bB
  go_wp2
  go_ret
  exact ⟨ret_int (by rw [HR.out, if_neg (by omega), if_neg (by omega)]), HX.out.trans X2.out⟩
set_option maxHeartbeats 1000000 in
theorem s_SubRat (x y u v : Int) (w : World) :
 Calls Tryz.prog 184 #[ratV x y, ratV u v] w fun e w' => e = .returned (resR (subR (x, y) (u, v))) ∧ Ext w w' := by
 have HX := Lib.hid (show Ext w (((w.alloc (.cells #[.int .i64 x, .int .i64 y] 43)).alloc (.cells #[.int .i64 u, .int .i64 v] 43)).alloc (.cells #[.int .i64 0, .int .i64 0] 43)) from ((Ext.alloc _ _).trans (Ext.alloc _ _)).trans (Ext.alloc _ _))
 cases hb : valR (u, v)
 ·have HB := Lib.hid hb
  have HR := Lib.hid (show subR (x, y) (u, v) = ((0, 0), false) by simp [subR, hb])
  clear hb
  go_enter Tryz.func184, Tryz.ntmps184
  go_wp2_with fail
  refine (s_IsValidRat u v _).mono ?_
  rw [HB.out]
  rintro e w1 ⟨rfl, hx⟩
  obtain ⟨bA, bB, bR⟩ := box3 hx
  obtain ⟨a0, a1, fa⟩ := rcell bA
  obtain ⟨b0, b1, fb⟩ := rcell bB
  obtain ⟨r0, r1, fr⟩ := rcell bR
  have X1 := Lib.hid hx
  clear hx bA bB bR
  go_wp2
  rw [HR.out]
  refine bodyPost_ret (v := .tuple #[.agg #[.int .i64 0, .int .i64 0], .bool false]) (by simp [results, Tryz.results184, go_sem, r0, r1]) rfl ⟨rfl, ?_⟩
  exact ((HX.out.trans X1.out).setCell (by simp; omega) _).setCell (by simp; omega) _
 ·have HB := Lib.hid hb
  obtain ⟨u1, u2, v1, v2⟩ := val_in hb
  obtain ⟨p, q, ok, hpq⟩ : ∃ p q ok, addR (x, y) (-u, v) = ((p, q), ok) := ⟨_, _, _, rfl⟩
  have HPQ := Lib.hid hpq
  have HR := Lib.hid (show subR (x, y) (u, v) = ((p, q), ok) by rw [← subR_add]; exact hpq)
  clear hb hpq
  go_enter Tryz.func184, Tryz.ntmps184
  go_wp2_with fail
  refine (s_IsValidRat u v _).mono ?_
  rw [HB.out]
  rintro e w1 ⟨rfl, hx⟩
  obtain ⟨bA, bB, bR⟩ := box3 hx
  obtain ⟨a0, a1, fa⟩ := rcell bA
  obtain ⟨b0, b1, fb⟩ := rcell bB
  obtain ⟨r0, r1, fr⟩ := rcell bR
  have X1 := Lib.hid hx
  have HBA := Lib.hid bA
  have HBR := Lib.hid bR
  have hl := lt_of_block bR
  clear hx bA bB bR
  go_wp2_with fail
  refine (s_AddRat _ _ _ _ _).mono ?_
  rw [HPQ.out]
  rintro e w3 ⟨rfl, hx⟩
  have hz : Ext w (w1.setCell ⟨w.heap.size + 1, 0, none⟩ (.int .i64 (-u))) := (HX.out.trans X1.out).setCell (by simp) _
  have X3 := Lib.hid (hz.trans hx)
  clear hz
  have bR : w3.heap[w.heap.size + 1 + 1]? = some (.cells #[.int .i64 0, .int .i64 0] 43 (0, 0)) := (hx.block _ (by simp; omega)).trans ((heap_setCell_other _ _ _ _ (by simp)).trans HBR.out)
  clear a0 a1 fa b0 b1 fb r0 r1 fr
  obtain ⟨r0, r1, fr⟩ := rcell bR
  clear hx bR
  go_wp2
  rw [HR.out]
  refine bodyPost_ret (v := .tuple #[.agg #[.int .i64 p, .int .i64 q], .bool ok]) (by simp [results, Tryz.results184, go_sem, r0, r1]) rfl ⟨rfl, ?_⟩
  exact (X3.out.setCell (by simp; omega) _).setCell (by simp; omega) _
structure Boxed (w W : World) (g : Nat) (p q : Int) : Prop where
 ext : Ext w W
 ge : w.heap.size ≤ g
 cell : W.heap[g]? = some (.cells #[.int .i64 p, .int .i64 q] 43 (0, 0))
theorem Boxed.lt {w W : World} {g : Nat} {p q : Int} (h : Boxed w W g p q) : g < W.heap.size := lt_of_block h.cell
theorem Boxed.grow {w W W' : World} {g : Nat} {p q : Int} (h : Boxed w W g p q) (hx : Ext W W') : Boxed w W' g p q :=
 ⟨h.ext.trans hx, h.ge, (hx.block _ h.lt).trans h.cell⟩
theorem Boxed.c0 {w W : World} {g : Nat} {p q : Int} (h : Boxed w W g p q) : W.cell? ⟨g, 0, none⟩ = some (.int .i64 p) := (rcell h.cell).1
theorem Boxed.c1 {w W : World} {g : Nat} {p q : Int} (h : Boxed w W g p q) : W.cell? ⟨g, 1, none⟩ = some (.int .i64 q) := (rcell h.cell).2.1
theorem Boxed.free {w W : World} {g : Nat} {p q : Int} (h : Boxed w W g p q) (o : Nat) : W.frozen? ⟨g, o, none⟩ = false := (rcell h.cell).2.2 o
theorem Boxed.new {w W : World} (h : Ext w W) (p q : Int) : Boxed w (W.alloc (.cells #[.int .i64 p, .int .i64 q] 43)) W.heap.size p q :=
 ⟨h.trans (Ext.alloc _ _), h.size, heap_alloc_new _ _⟩
theorem Boxed.new' {w W : World} (h : Ext w W) (p q : Int) {n : Nat} (hn : n = W.heap.size) : Boxed w (W.alloc (.cells #[.int .i64 p, .int .i64 q] 43)) n p q := by
 subst hn; exact Boxed.new h p q
theorem Boxed.put {w W : World} {g : Nat} {p q : Int} (h : Boxed w W g p q) (p' q' : Int) : Boxed w ((W.setCell ⟨g, 0, none⟩ (.int .i64 p')).setCell ⟨g, 1, none⟩ (.int .i64 q')) g p' q' :=
 ⟨(h.ext.setCell (p := ⟨g, 0, none⟩) h.ge (.int .i64 p')).setCell (p := ⟨g, 1, none⟩) h.ge (.int .i64 q'), h.ge, by rw [heap_setCell_same _ _ _ _ _ _ (heap_setCell_same _ _ _ _ _ _ h.cell)]; rfl⟩
theorem Boxed.firstD {w w' : World} (h : Ext (w.alloc (.cells #[.int .i64 0, .int .i64 0] 43)).drew w') : Boxed w w' w.heap.size 0 0 :=
 Boxed.grow ⟨(Ext.alloc _ _).trans (Ext.drew _), Nat.le_refl _, heap_alloc_new w _⟩ h
theorem Boxed.laterD {w W w' : World} (h : Ext w W) (hx : Ext (W.alloc (.cells #[.int .i64 0, .int .i64 0] 43)) w') : Boxed w w' W.heap.size 0 0 :=
 Boxed.grow (Boxed.new h 0 0) hx
def runT (f : Nat → Option (Int × Int)) : Nat → Option (List (Int × Int))
 | 0 => some []
 | m + 1 => (runT f m).bind fun l => (f m).map fun x => l ++ [x]
theorem runT_some {f : Nat → Option (Int × Int)} {k : Nat} {r : List (Int × Int)} {x : Int × Int} (h : runT f k = some r) (hx : f k = some x) : runT f (k + 1) = some (r ++ [x]) := by simp [runT, h, hx]
theorem runT_stuck {f : Nat → Option (Int × Int)} {k : Nat} (h : runT f k = none) : ∀ {n : Nat}, k ≤ n → runT f n = none
 | n, hn => by
   obtain ⟨d, rfl⟩ : ∃ d, n = k + d := ⟨n - k, by omega⟩
   clear hn
   induction d with
   | zero => exact h
   | succ d ih => show (runT f (k + d)).bind _ = none; rw [ih]; rfl
theorem runT_fail {f : Nat → Option (Int × Int)} {k n : Nat} {r : List (Int × Int)} (h : runT f k = some r) (hx : f k = none) (hn : k < n) : runT f n = none :=
 runT_stuck (k := k + 1) (by simp [runT, h, hx]) (by omega)
theorem runT_len {f : Nat → Option (Int × Int)} : ∀ {k : Nat} {r : List (Int × Int)}, runT f k = some r → r.length = k
 | 0, r, h => by simp only [runT, Option.some.injEq] at h; rw [← h]; rfl
 | k + 1, r, h => by
   cases hk : runT f k with
   | none => simp [runT, hk] at h
   | some l =>
     cases hf : f k with
     | none => simp [runT, hk, hf] at h
     | some x =>
       rw [runT_some hk hf] at h
       simp only [Option.some.injEq] at h
       rw [← h, List.length_append, runT_len hk]
       rfl
theorem runT_at {f : Nat → Option (Int × Int)} : ∀ {k : Nat} {r : List (Int × Int)}, runT f k = some r → ∀ i, i < k → f i = some (r[i]?.getD (0, 0))
 | 0, r, h => fun i hi => absurd hi (by omega)
 | k + 1, r, h => fun i hi => by
   cases hk : runT f k with
   | none => simp [runT, hk] at h
   | some l =>
     cases hf : f k with
     | none => simp [runT, hk, hf] at h
     | some x =>
       rw [runT_some hk hf] at h
       simp only [Option.some.injEq] at h
       subst h
       have hl := runT_len hk
       by_cases hik : i < k
       ·rw [List.getElem?_append_left (by omega)]; exact runT_at hk i hik
       ·obtain rfl : i = k := by omega
        rw [← hl, List.getElem?_concat_length, Option.getD_some, hl, hf]
theorem runT_all {f : Nat → Option (Int × Int)} {F : Nat → Int × Int} : ∀ {k : Nat}, (∀ i, i < k → f i = some (F i)) → runT f k = some ((List.range k).map F)
 | 0, _ => rfl
 | k + 1, h => by
   rw [runT_some (runT_all fun i hi => h i (by omega)) (h k (by omega)), List.range_succ, List.map_append]
   rfl
def sclF (A : List (Int × Int)) (k : Int × Int) (B : List (Int × Int)) (i : Nat) : Option (Int × Int) :=
 if (mulR k (B[i]?.getD (0, 0))).2 = true ∧ (addR (A[i]?.getD (0, 0)) (mulR k (B[i]?.getD (0, 0))).1).2 = true then some (addR (A[i]?.getD (0, 0)) (mulR k (B[i]?.getD (0, 0))).1).1 else none
def sclL (A : List (Int × Int)) (k : Int × Int) (B : List (Int × Int)) : Option (List (Int × Int)) := if A.length = B.length then runT (sclF A k B) A.length else none
def wholeL (C : List Int) : List (Int × Int) := C.map fun c => (c, 1)
theorem wholeL_len (C : List Int) : (wholeL C).length = C.length := by simp [wholeL]
theorem wholeL_at {C : List Int} {k : Nat} (h : k < C.length) : (wholeL C)[k]?.getD (0, 0) = (C[k]?.getD 0, 1) := by simp [wholeL, h]
def fitL (C : List Int) : Bool := C.all fun c => inB c (-1000000000) 1000000000
end Go.Proofs.YthjjfkeacobikaaGreat
