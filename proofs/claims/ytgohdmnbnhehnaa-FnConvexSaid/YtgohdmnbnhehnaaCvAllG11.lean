import Derived.Test.YtgohdmnbnhehnaaCvAllG7
import Derived.Test.YtgohdmnbnhehnaaCvAllG6
import Derived.Test.YtgohdmnbnhehnaaCvAllG3
import Derived.Deep.DeepCutAuto
import Derived.Test.YtgohdmnbnhehnaaCvAllG0
import Derived.Deep.RegionHeld3
namespace Go.Proofs.Ytgohdmnbnhehnaa
set_option linter.unusedVariables false
set_option linter.unusedSimpArgs false
set_option maxRecDepth 100000
open Go.RowKit
theorem box3 {w W : World} {a b c : Obj} (hx : Ext (((w.alloc a).alloc b).alloc c) W) : W.heap[w.heap.size]? = some a ∧ W.heap[w.heap.size + 1]? = some b ∧ W.heap[w.heap.size + 1 + 1]? = some c :=
  ⟨(hx.block _ (by simp; omega)).trans (by rw [heapA_old _ _ _ (by simp; omega), heapA_old _ _ _ (by simp)]; exact heapA_new _ _ _ rfl),
   (hx.block _ (by simp)).trans (by rw [heapA_old _ _ _ (by simp)]; exact heapA_new _ _ _ (by simp)), (hx.block _ (by simp)).trans (heapA_new _ _ _ (by simp))⟩
theorem rcell {w : World} {b : Nat} {x y : Int} {t : TypeId} (h : w.heap[b]? = some (.cells #[.int .i64 x, .int .i64 y] t (0, 0))) : w.cell? ⟨b, 0, none⟩ = some (.int .i64 x) ∧ w.cell? ⟨b, 1, none⟩ = some (.int .i64 y) ∧ ∀ o, w.frozen? ⟨b, o, none⟩ = false :=
  ⟨by rw [cell_of_row _ _ _ _ _ _ h]; rfl, by rw [cell_of_row _ _ _ _ _ _ h]; rfl, fun o => frozen_of_row _ _ _ _ _ h⟩
theorem val_in {x y : Int} (h : valR (x, y) = true) : -1000000000 ≤ x ∧ x ≤ 1000000000 ∧ -1000000000 ≤ y ∧ y ≤ 1000000000 := by have := valR_bd h; simp only at this; omega
theorem mul_w {x y : Int} (h : -1000000000 ≤ x ∧ x ≤ 1000000000) (h' : -1000000000 ≤ y ∧ y ≤ 1000000000) : in18 (x * y) := mul_bd h.1 h.2 h'.1 h'.2
set_option maxHeartbeats 1000000 in
theorem s_AddRat (x y u v : Int) (w : World) :
    Calls Try.prog 104 #[ratV x y, ratV u v] w fun e w' => e = .returned (resR (addR (x, y) (u, v))) ∧ Ext w w' := by
  have HX := Lib.hid (show Ext w (((w.alloc (.cells #[.int .i64 x, .int .i64 y] 34)).alloc (.cells #[.int .i64 u, .int .i64 v] 34)).alloc (.cells #[.int .i64 0, .int .i64 0] 34)) from ((Ext.alloc _ _).trans (Ext.alloc _ _)).trans (Ext.alloc _ _))
  cases ha : valR (x, y)
  · have HA := Lib.hid ha
    have HR := Lib.hid (show addR (x, y) (u, v) = ((0, 0), false) by simp [addR, ha])
    clear ha
    go_enter Try.func104, Try.ntmps104
    go_wp2_with fail
    refine (s_IsValidRat x y _).mono ?_
    rw [HA.out]
    rintro e w1 ⟨rfl, hx⟩
    obtain ⟨bA, bB, bR⟩ := box3 hx
    obtain ⟨a0, a1, fa⟩ := rcell bA
    obtain ⟨b0, b1, fb⟩ := rcell bB
    obtain ⟨r0, r1, fr⟩ := rcell bR
    have X1 := Lib.hid hx
    clear hx bA bB bR
    go_wp2
    rw [HR.out]
    refine bodyPost_ret (v := .tuple #[.agg #[.int .i64 0, .int .i64 0], .bool false]) (by simp [results, Try.results104, go_sem, r0, r1]) rfl ⟨rfl, ?_⟩
    exact ((HX.out.trans X1.out).setCell (by simp; omega) _).setCell (by simp; omega) _
  cases hb : valR (u, v)
  · have HA := Lib.hid ha
    have HB := Lib.hid hb
    have HR := Lib.hid (show addR (x, y) (u, v) = ((0, 0), false) by simp [addR, hb])
    clear ha hb
    go_enter Try.func104, Try.ntmps104
    go_wp2_with fail
    refine (s_IsValidRat x y _).mono ?_
    rw [HA.out]
    rintro e w1 ⟨rfl, hx⟩
    obtain ⟨bA, bB, bR⟩ := box3 hx
    obtain ⟨a0, a1, fa⟩ := rcell bA
    obtain ⟨b0, b1, fb⟩ := rcell bB
    obtain ⟨r0, r1, fr⟩ := rcell bR
    have X1 := Lib.hid hx
    clear hx bA bB bR
    go_wp2_with fail
    refine (s_IsValidRat u v _).mono ?_
    rw [HB.out]
    rintro e w2 ⟨rfl, hx⟩
    clear a0 a1 fa b0 b1 fb r0 r1 fr
    have X2 := Lib.hid (X1.out.trans hx)
    obtain ⟨bA, bB, bR⟩ := box3 X2.out
    obtain ⟨a0, a1, fa⟩ := rcell bA
    obtain ⟨b0, b1, fb⟩ := rcell bB
    obtain ⟨r0, r1, fr⟩ := rcell bR
    clear hx bA bB bR
    go_wp2
    rw [HR.out]
    refine bodyPost_ret (v := .tuple #[.agg #[.int .i64 0, .int .i64 0], .bool false]) (by simp [results, Try.results104, go_sem, r0, r1]) rfl ⟨rfl, ?_⟩
    exact ((HX.out.trans X2.out).setCell (by simp; omega) _).setCell (by simp; omega) _
  have HA := Lib.hid ha
  have HB := Lib.hid hb
  obtain ⟨x1, x2, y1, y2⟩ := val_in ha
  obtain ⟨u1, u2, v1, v2⟩ := val_in hb
  have q1 : in18 (x * v) := mul_w (by omega) (by omega)
  obtain ⟨e1, g1⟩ := kwrap_in q1
  have q2 : in18 (u * y) := mul_w (by omega) (by omega)
  obtain ⟨e2, g2⟩ := kwrap_in q2
  have q3 : in18 (y * v) := mul_w (by omega) (by omega)
  obtain ⟨e3, g3⟩ := kwrap_in q3
  have e4 : IntKind.i64.wrap (x * v + u * y) = x * v + u * y := by rw [IntKind.wrap_i64]; unfold in18 at *; omega
  have g4 : wrap64 (x * v + u * y) = x * v + u * y := by unfold wrap64; unfold in18 at *; omega
  obtain ⟨p, q, ok, hpq⟩ : ∃ p q ok, ratOf (x * v + u * y) (y * v) = ((p, q), ok) := ⟨_, _, _, rfl⟩
  have HPQ := Lib.hid hpq
  have HR := Lib.hid (show addR (x, y) (u, v) = ((p, q), ok) by simp [addR, ha, hb, hpq])
  clear ha hb hpq
  · go_enter Try.func104, Try.ntmps104
    go_wp2_with fail
    refine (s_IsValidRat x y _).mono ?_
    rw [HA.out]
    rintro e w1 ⟨rfl, hx⟩
    obtain ⟨bA, bB, bR⟩ := box3 hx
    obtain ⟨a0, a1, fa⟩ := rcell bA
    obtain ⟨b0, b1, fb⟩ := rcell bB
    obtain ⟨r0, r1, fr⟩ := rcell bR
    have X1 := Lib.hid hx
    clear hx bA bB bR
    go_wp2_with fail
    refine (s_IsValidRat u v _).mono ?_
    rw [HB.out]
    rintro e w2 ⟨rfl, hx⟩
    clear a0 a1 fa b0 b1 fb r0 r1 fr
    have X2 := Lib.hid (X1.out.trans hx)
    obtain ⟨bA, bB, bR⟩ := box3 X2.out
    obtain ⟨a0, a1, fa⟩ := rcell bA
    obtain ⟨b0, b1, fb⟩ := rcell bB
    obtain ⟨r0, r1, fr⟩ := rcell bR
    clear hx bA bB bR
    go_wp2_with fail
    refine (s_RatOf _ _ _).mono ?_
    rw [HPQ.out]
    rintro e w3 ⟨rfl, hx⟩
    clear a0 a1 fa b0 b1 fb r0 r1 fr
    have X3 := Lib.hid (X2.out.trans hx)
    obtain ⟨bA, bB, bR⟩ := box3 X3.out
    obtain ⟨a0, a1, fa⟩ := rcell bA
    obtain ⟨b0, b1, fb⟩ := rcell bB
    obtain ⟨r0, r1, fr⟩ := rcell bR
    clear hx bA bB bR
    go_wp2
    rw [HR.out]
    refine bodyPost_ret (v := .tuple #[.agg #[.int .i64 p, .int .i64 q], .bool ok]) (by simp [results, Try.results104, go_sem, r0, r1]) rfl ⟨rfl, ?_⟩
    exact ((HX.out.trans X3.out).setCell (by simp; omega) _).setCell (by simp; omega) _
set_option maxHeartbeats 1000000 in
theorem s_SubRat (x y u v : Int) (w : World) :
    Calls Try.prog 98 #[ratV x y, ratV u v] w fun e w' => e = .returned (resR (subR (x, y) (u, v))) ∧ Ext w w' := by
  have HX := Lib.hid (show Ext w (((w.alloc (.cells #[.int .i64 x, .int .i64 y] 34)).alloc (.cells #[.int .i64 u, .int .i64 v] 34)).alloc (.cells #[.int .i64 0, .int .i64 0] 34)) from ((Ext.alloc _ _).trans (Ext.alloc _ _)).trans (Ext.alloc _ _))
  cases hb : valR (u, v)
  · have HB := Lib.hid hb
    have HR := Lib.hid (show subR (x, y) (u, v) = ((0, 0), false) by simp [subR, hb])
    clear hb
    go_enter Try.func98, Try.ntmps98
    go_wp2_with fail
    refine (s_IsValidRat u v _).mono ?_
    rw [HB.out]
    rintro e w1 ⟨rfl, hx⟩
    obtain ⟨bA, bB, bR⟩ := box3 hx
    obtain ⟨a0, a1, fa⟩ := rcell bA
    obtain ⟨b0, b1, fb⟩ := rcell bB
    obtain ⟨r0, r1, fr⟩ := rcell bR
    have X1 := Lib.hid hx
    clear hx bA bB bR
    go_wp2
    rw [HR.out]
    refine bodyPost_ret (v := .tuple #[.agg #[.int .i64 0, .int .i64 0], .bool false]) (by simp [results, Try.results98, go_sem, r0, r1]) rfl ⟨rfl, ?_⟩
    exact ((HX.out.trans X1.out).setCell (by simp; omega) _).setCell (by simp; omega) _
  · have HB := Lib.hid hb
    obtain ⟨u1, u2, v1, v2⟩ := val_in hb
    obtain ⟨p, q, ok, hpq⟩ : ∃ p q ok, addR (x, y) (-u, v) = ((p, q), ok) := ⟨_, _, _, rfl⟩
    have HPQ := Lib.hid hpq
    have HR := Lib.hid (show subR (x, y) (u, v) = ((p, q), ok) by rw [← subR_add]; exact hpq)
    clear hb hpq
    go_enter Try.func98, Try.ntmps98
    go_wp2_with fail
    refine (s_IsValidRat u v _).mono ?_
    rw [HB.out]
    rintro e w1 ⟨rfl, hx⟩
    obtain ⟨bA, bB, bR⟩ := box3 hx
    obtain ⟨a0, a1, fa⟩ := rcell bA
    obtain ⟨b0, b1, fb⟩ := rcell bB
    obtain ⟨r0, r1, fr⟩ := rcell bR
    have X1 := Lib.hid hx
    have HBA := Lib.hid bA
    have HBR := Lib.hid bR
    have hl := lt_of_block bR
    clear hx bA bB bR
    go_wp2_with fail
    refine (s_AddRat _ _ _ _ _).mono ?_
    rw [HPQ.out]
    rintro e w3 ⟨rfl, hx⟩
    have hz : Ext w (w1.setCell ⟨w.heap.size + 1, 0, none⟩ (.int .i64 (-u))) := (HX.out.trans X1.out).setCell (by simp) _
    have X3 := Lib.hid (hz.trans hx)
    clear hz
    have bR : w3.heap[w.heap.size + 1 + 1]? = some (.cells #[.int .i64 0, .int .i64 0] 34 (0, 0)) := (hx.block _ (by simp; omega)).trans ((heap_setCell_other _ _ _ _ (by simp)).trans HBR.out)
    clear a0 a1 fa b0 b1 fb r0 r1 fr
    obtain ⟨r0, r1, fr⟩ := rcell bR
    clear hx bR
    go_wp2
    rw [HR.out]
    refine bodyPost_ret (v := .tuple #[.agg #[.int .i64 p, .int .i64 q], .bool ok]) (by simp [results, Try.results98, go_sem, r0, r1]) rfl ⟨rfl, ?_⟩
    exact (X3.out.setCell (by simp; omega) _).setCell (by simp; omega) _
end Go.Proofs.Ytgohdmnbnhehnaa
namespace Go.Proofs.Ytgohdmnbnhehnaa
set_option linter.unusedVariables false
open Go.RowKit
structure Boxed (w W : World) (g : Nat) (p q : Int) : Prop where
  ext : Ext w W
  ge : w.heap.size ≤ g
  cell : W.heap[g]? = some (.cells #[.int .i64 p, .int .i64 q] 34 (0, 0))
theorem Boxed.lt {w W : World} {g : Nat} {p q : Int} (h : Boxed w W g p q) : g < W.heap.size := lt_of_block h.cell
theorem Boxed.grow {w W W' : World} {g : Nat} {p q : Int} (h : Boxed w W g p q) (hx : Ext W W') : Boxed w W' g p q :=
  ⟨h.ext.trans hx, h.ge, (hx.block _ h.lt).trans h.cell⟩
theorem Boxed.c0 {w W : World} {g : Nat} {p q : Int} (h : Boxed w W g p q) : W.cell? ⟨g, 0, none⟩ = some (.int .i64 p) := (rcell h.cell).1
theorem Boxed.c1 {w W : World} {g : Nat} {p q : Int} (h : Boxed w W g p q) : W.cell? ⟨g, 1, none⟩ = some (.int .i64 q) := (rcell h.cell).2.1
theorem Boxed.free {w W : World} {g : Nat} {p q : Int} (h : Boxed w W g p q) (o : Nat) : W.frozen? ⟨g, o, none⟩ = false := (rcell h.cell).2.2 o
theorem Boxed.new {w W : World} (h : Ext w W) (p q : Int) : Boxed w (W.alloc (.cells #[.int .i64 p, .int .i64 q] 34)) W.heap.size p q :=
  ⟨h.trans (Ext.alloc _ _), h.size, heap_alloc_new _ _⟩
theorem Boxed.new' {w W : World} (h : Ext w W) (p q : Int) {n : Nat} (hn : n = W.heap.size) : Boxed w (W.alloc (.cells #[.int .i64 p, .int .i64 q] 34)) n p q := by
  subst hn; exact Boxed.new h p q
theorem Boxed.put {w W : World} {g : Nat} {p q : Int} (h : Boxed w W g p q) (p' q' : Int) : Boxed w ((W.setCell ⟨g, 0, none⟩ (.int .i64 p')).setCell ⟨g, 1, none⟩ (.int .i64 q')) g p' q' :=
  ⟨(h.ext.setCell (p := ⟨g, 0, none⟩) h.ge (.int .i64 p')).setCell (p := ⟨g, 1, none⟩) h.ge (.int .i64 q'), h.ge, by rw [heap_setCell_same _ _ _ _ _ _ (heap_setCell_same _ _ _ _ _ _ h.cell)]; rfl⟩
theorem Boxed.rats {w W : World} {g : Nat} {p q : Int} (h : Boxed w W g p q) : Rats W (some ⟨g, 0, none⟩) 1 1 [(p, q)] :=
  ⟨rfl, Nat.le_refl _, by omega, fun k hk => ⟨_, 0, rfl, fun k hk => by
    obtain rfl : k = 0 := by omega
    exact ⟨h.c0, h.c1⟩⟩⟩
theorem Boxed.firstD {w w' : World} (h : Ext (w.alloc (.cells #[.int .i64 0, .int .i64 0] 34)).drew w') : Boxed w w' w.heap.size 0 0 :=
  Boxed.grow ⟨(Ext.alloc _ _).trans (Ext.drew _), Nat.le_refl _, heap_alloc_new w _⟩ h
theorem Boxed.laterD {w W w' : World} (h : Ext w W) (hx : Ext (W.alloc (.cells #[.int .i64 0, .int .i64 0] 34)) w') : Boxed w w' W.heap.size 0 0 :=
  Boxed.grow (Boxed.new h 0 0) hx
def runT (f : Nat → Option (Int × Int)) : Nat → Option (List (Int × Int))
  | 0 => some []
  | m + 1 => (runT f m).bind fun l => (f m).map fun x => l ++ [x]
theorem runT_some {f : Nat → Option (Int × Int)} {k : Nat} {r : List (Int × Int)} {x : Int × Int} (h : runT f k = some r) (hx : f k = some x) : runT f (k + 1) = some (r ++ [x]) := by simp [runT, h, hx]
theorem runT_stuck {f : Nat → Option (Int × Int)} {k : Nat} (h : runT f k = none) : ∀ {n : Nat}, k ≤ n → runT f n = none
  | n, hn => by
    obtain ⟨d, rfl⟩ : ∃ d, n = k + d := ⟨n - k, by omega⟩
    clear hn
    induction d with
    | zero => exact h
    | succ d ih => show (runT f (k + d)).bind _ = none; rw [ih]; rfl
theorem runT_fail {f : Nat → Option (Int × Int)} {k n : Nat} {r : List (Int × Int)} (h : runT f k = some r) (hx : f k = none) (hn : k < n) : runT f n = none :=
  runT_stuck (k := k + 1) (by simp [runT, h, hx]) (by omega)
theorem runT_len {f : Nat → Option (Int × Int)} : ∀ {k : Nat} {r : List (Int × Int)}, runT f k = some r → r.length = k
  | 0, r, h => by simp only [runT, Option.some.injEq] at h; rw [← h]; rfl
  | k + 1, r, h => by
    cases hk : runT f k with
    | none => simp [runT, hk] at h
    | some l =>
      cases hf : f k with
      | none => simp [runT, hk, hf] at h
      | some x =>
        rw [runT_some hk hf] at h
        simp only [Option.some.injEq] at h
        rw [← h, List.length_append, runT_len hk]
        rfl
theorem runT_all {f : Nat → Option (Int × Int)} {F : Nat → Int × Int} : ∀ {k : Nat}, (∀ i, i < k → f i = some (F i)) → runT f k = some ((List.range k).map F)
  | 0, _ => rfl
  | k + 1, h => by
    rw [runT_some (runT_all fun i hi => h i (by omega)) (h k (by omega)), List.range_succ, List.map_append]
    rfl
def wholeL (C : List Int) : List (Int × Int) := C.map fun c => (c, 1)
theorem wholeL_len (C : List Int) : (wholeL C).length = C.length := by simp [wholeL]
theorem wholeL_at {C : List Int} {k : Nat} (h : k < C.length) : (wholeL C)[k]?.getD (0, 0) = (C[k]?.getD 0, 1) := by simp [wholeL, h]
end Go.Proofs.Ytgohdmnbnhehnaa
namespace Go.Proofs.Ytgohdmnbnhehnaa
set_option linter.unusedVariables false
open Go.RowKit
def allV (l : List (Int × Int)) : Bool := l.all valR
theorem all_takeR {p : Int × Int → Bool} {l : List (Int × Int)} {k : Nat} (h : k < l.length) : (l.take (k + 1)).all p = ((l.take k).all p && p (l[k]?.getD (0, 0))) := by
  rw [take_snocR h]; simp
theorem all_falseR {p : Int × Int → Bool} {l : List (Int × Int)} {k : Nat} (h : k < l.length) (hb : p (l[k]?.getD (0, 0)) = false) : l.all p = false := by
  rw [List.all_eq_false]
  exact ⟨l[k], List.getElem_mem h, by rw [List.getElem?_eq_getElem h] at hb; simpa using hb⟩
set_option maxHeartbeats 1000000 in
theorem s_AllValid {w : World} {a : Option Addr} {n cap : Nat} {l : List (Int × Int)} (h : Rats w a n cap l) :
    Calls Try.prog 73 #[.slice a n cap] w fun e w' => e = .returned (.bool (allV l)) ∧ Ext w w' := by
  have hcap := h.hcap
  have hmax := h.hmax
  have HL := Lib.hid h.hlen
  have HI := Lib.hid h
  clear h
  go_enter Try.func73, Try.ntmps73
  go_wp2_with fail
  go_loopg [3] n (fun gk ii wr => ∃ k : Nat, Hid (gk + k = n) ∧ ii = .int .i64 (k : Int) ∧ Hid ((l.take k).all valR = true) ∧ Hid (Ext w wr))
  case atStart => exact ⟨0, Lib.hid (by omega), rfl, Lib.hid rfl, Lib.hid (Ext.refl _)⟩
  case round =>
    obtain ⟨g1, h_g1⟩ : ∃ x, x = gk := ⟨_, rfl⟩
    subst h_g1
    obtain ⟨wr1, h_wr1⟩ : ∃ x, x = wr := ⟨_, rfl⟩
    subst h_wr1
    obtain ⟨k, HK, rfl, HA, HX⟩ := hrel
    by_cases hlt : k < n
    · obtain ⟨b, off, x, y, rfl, hxy, hc0, hc1⟩ := (HI.out.ext HX.out).at hlt
      have HC := Lib.hid (s_IsValidRat x y wr1)
      cases hb : valR (x, y)
      all_goals
        rw [hb] at HC
      · have HF := Lib.hid (show allV l = false from all_falseR (by rw [HL.out]; exact hlt) (by rw [hxy]; exact hb))
        clear hxy hb
        go_wp2_with fail
        refine HC.out.mono ?_
        rintro e w2 ⟨rfl, hx2⟩
        go_wp2_with fail
        go_ret
        exact ⟨ret_bool HF.out.symm, HX.out.trans hx2⟩
      · have HT := Lib.hid (show (l.take (k + 1)).all valR = true by rw [all_takeR (by rw [HL.out]; exact hlt), HA.out, hxy, hb]; rfl)
        clear hxy hb
        go_wp2_with fail
        refine HC.out.mono ?_
        rintro e w2 ⟨rfl, hx2⟩
        go_wp2_with fail
        go_roundg (g1 - 1)
        case measure => have := HK.out; omega
        case rel => exact ⟨k + 1, Lib.hid (by have := HK.out; omega), by go_num, HT, Lib.hid (HX.out.trans hx2)⟩
    · have HT := Lib.hid (show l.take k = l from List.take_of_length_le (by rw [HL.out]; have := HK.out; omega))
      go_wp2_with fail
      go_ret
      exact ⟨ret_bool (by have := HA.out; rw [HT.out] at this; exact this.symm), HX.out⟩
end Go.Proofs.Ytgohdmnbnhehnaa
namespace Go.Proofs.Ytgohdmnbnhehnaa
set_option linter.unusedVariables false
set_option linter.unusedSimpArgs false
set_option maxRecDepth 100000
open Go.RowKit
theorem s_l3Int (n : Int) (w : World) : Calls Try.prog 74 #[.int .i64 n] w fun e w' => e = .returned (ratV n 1) ∧ Ext w w' := by
  have HX := Lib.hid (Ext.alloc w (.cells #[.int .i64 n, .int .i64 1] 34))
  go_enter Try.func74, Try.ntmps74
  go_wp2
  refine bodyPost_ret (v := ratV n 1) (by simp [results, Try.results74, go_sem]) rfl ⟨rfl, HX.out⟩
end Go.Proofs.Ytgohdmnbnhehnaa
