import Derived.Test.YthjjfkeacobikaaGreatTaAllG10
import Derived.Test.YthjjfkeacobikaaGreatTaAllG2
import Derived.Deep.RegionWith
import Derived.Test.YthjjfkeacobikaaGreatTaAllG4
import Derived.Test.YthjjfkeacobikaaGreatTaAllG6
import Derived.Test.YthjjfkeacobikaaGreatTaAllG8
import Derived.Test.YthjjfkeacobikaaGreatTaAllG3
import Derived.Deep.DeepCutAuto
set_option linter.unusedVariables false
set_option linter.unusedSimpArgs false
namespace Go.Proofs.YthjjfkeacobikaaGreat
open Go.RowKit
theorem bit_big_nat : ∀ n : Fin 6, ∀ s : Fin 32, ∀ k : Fin 5, s.val < cN n.val → n.val ≤ k.val → bit ((s.val : Nat) : Int) k.val = false := by decide +kernel
theorem bit_big (n s k : Nat) (hn : n ≤ 5) (hs : s < cN n) (hk : n ≤ k) (hk5 : k < 5) : bit (s : Int) k = false :=
 bit_big_nat ⟨n, by omega⟩ ⟨s, by have := cN_le n hn; omega⟩ ⟨k, hk5⟩ hs hk
def memN (s : Int) (m : Nat) : List Nat := (List.range m).filter fun (k : Nat) => bit s k
def memI (s : Int) (m : Nat) : List Int := (memN s m).map fun (k : Nat) => (k : Int)
theorem memI_succ (s : Int) (m : Nat) : memI s (m + 1) = memI s m ++ (if bit s m then [(m : Int)] else []) := by
 unfold memI memN
 cases h : bit s m <;> simp [List.range_succ, h]
theorem memI_len (s : Int) (m : Nat) : (memI s m).length ≤ m := by
 unfold memI memN
 simpa using List.length_filter_le (fun (k : Nat) => bit s k) (List.range m)
theorem memI_at (s : Int) (i : Nat) (h : i < (memI s 5).length) : ∃ k : Nat, (memI s 5)[i]?.getD 0 = (k : Int) ∧ k < 5 ∧ bit s k = true ∧ (memN s 5)[i]? = some k := by
 have h' : i < (memN s 5).length := by simpa [memI] using h
 refine ⟨(memN s 5)[i], ?_, ?_⟩
 ·simp [memI, h']
 ·have hm : (memN s 5)[i] ∈ memN s 5 := List.getElem_mem h'
  have h2 := List.mem_filter.1 hm
  exact ⟨List.mem_range.1 h2.1, h2.2, by simp [h']⟩
set_option maxRecDepth 100000
def grandV (p : Int) (V : List Int) : Int := if gameOk p V = true then V[V.length - 1]?.getD 0 else 0
theorem grandV_no {p : Int} {V : List Int} (h : gameOk p V = false) : grandV p V = 0 := by unfold grandV; rw [h]; rfl
theorem grandV_ok {p : Int} {V : List Int} (h : gameOk p V = true) : grandV p V = V[V.length - 1]?.getD 0 := by unfold grandV; rw [if_pos h]
set_option maxHeartbeats 1000000 in
theorem s_GrandValue {w : World} {p : Int} {a : Option Addr} {n cap : Nat} {V : List Int} (h : Ints w a n cap V) :
 Calls Tryz.prog 87 #[pair p a n cap] w fun e w' => e = .returned (.int .i64 (grandV p V)) ∧ Ext w w' := by
 have hi := h.alloc (.cells #[.int .i64 p, .slice a n cap] 29)
 have HX := Lib.hid (Ext.alloc w (.cells #[.int .i64 p, .slice a n cap] 29))
 have HL := Lib.hid h.hlen
 have HI := Lib.hid hi
 have HV := Lib.hid (s_IsValidGame (p := p) hi)
 clear h hi
 cases hv : gameOk p V
 ·rw [hv] at HV
  have HG := Lib.hid (grandV_no hv)
  clear hv
  go_enter Tryz.func87, Tryz.ntmps87
  go_wp2_with fail
  refine HV.out.mono ?_
  rintro e w1 ⟨rfl, hx⟩
  have X1 := Lib.hid (HX.out.trans hx)
  clear hx
  go_wp2_with fail
  go_ret
  exact ⟨ret_int HG.out.symm, X1.out⟩
 ·rw [hv] at HV
  obtain ⟨q, rfl, h1, h5, hlen, _, hbd⟩ := gameOk_len hv
  have hN := cN_le q h5
  obtain ⟨u, rfl⟩ : ∃ u, n = u + 1 := ⟨n - 1, by have := HL.out; omega⟩
  have HG := Lib.hid (show grandV (q : Int) V = V[u]?.getD 0 by rw [grandV_ok hv, HL.out]; rfl)
  have hu32 : u ≤ 31 := by have := HL.out; omega
  clear hv hlen hbd hN
  go_enter Tryz.func87, Tryz.ntmps87
  go_wp2_with fail
  refine HV.out.mono ?_
  rintro e w1 ⟨rfl, hx⟩
  have c1 : w1.cell? ⟨w.heap.size, 1, none⟩ = some (.slice a (u + 1) cap) := hx.cellSome (by simp)
  obtain ⟨b, off, rfl, hc⟩ := (HI.out.ext hx).at (show u < u + 1 by omega)
  have hlen1 : ((u + 1 : Nat) : Int) - 1 = (u : Int) := by omega
  have X1 := Lib.hid (HX.out.trans hx)
  clear hx
  go_wp2_with fail
  go_ret
  exact ⟨ret_int HG.out.symm, X1.out⟩
structure Boxed (w W : World) (g : Nat) (p q : Int) : Prop where
 ext : Ext w W
 ge : w.heap.size ≤ g
 cell : W.heap[g]? = some (.cells #[.int .i64 p, .int .i64 q] 43 (0, 0))
theorem Boxed.lt {w W : World} {g : Nat} {p q : Int} (h : Boxed w W g p q) : g < W.heap.size := lt_of_block h.cell
theorem Boxed.grow {w W W' : World} {g : Nat} {p q : Int} (h : Boxed w W g p q) (hx : Ext W W') : Boxed w W' g p q :=
 ⟨h.ext.trans hx, h.ge, (hx.block _ h.lt).trans h.cell⟩
theorem Boxed.c0 {w W : World} {g : Nat} {p q : Int} (h : Boxed w W g p q) : W.cell? ⟨g, 0, none⟩ = some (.int .i64 p) := (rcell h.cell).1
theorem Boxed.c1 {w W : World} {g : Nat} {p q : Int} (h : Boxed w W g p q) : W.cell? ⟨g, 1, none⟩ = some (.int .i64 q) := (rcell h.cell).2.1
theorem Boxed.free {w W : World} {g : Nat} {p q : Int} (h : Boxed w W g p q) (o : Nat) : W.frozen? ⟨g, o, none⟩ = false := (rcell h.cell).2.2 o
theorem Boxed.new {w W : World} (h : Ext w W) (p q : Int) : Boxed w (W.alloc (.cells #[.int .i64 p, .int .i64 q] 43)) W.heap.size p q :=
 ⟨h.trans (Ext.alloc _ _), h.size, heap_alloc_new _ _⟩
theorem Boxed.new' {w W : World} (h : Ext w W) (p q : Int) {n : Nat} (hn : n = W.heap.size) : Boxed w (W.alloc (.cells #[.int .i64 p, .int .i64 q] 43)) n p q := by
 subst hn; exact Boxed.new h p q
theorem Boxed.put {w W : World} {g : Nat} {p q : Int} (h : Boxed w W g p q) (p' q' : Int) : Boxed w ((W.setCell ⟨g, 0, none⟩ (.int .i64 p')).setCell ⟨g, 1, none⟩ (.int .i64 q')) g p' q' :=
 ⟨(h.ext.setCell (p := ⟨g, 0, none⟩) h.ge (.int .i64 p')).setCell (p := ⟨g, 1, none⟩) h.ge (.int .i64 q'), h.ge, by rw [heap_setCell_same _ _ _ _ _ _ (heap_setCell_same _ _ _ _ _ _ h.cell)]; rfl⟩
theorem Boxed.firstD {w w' : World} (h : Ext (w.alloc (.cells #[.int .i64 0, .int .i64 0] 43)).drew w') : Boxed w w' w.heap.size 0 0 :=
 Boxed.grow ⟨(Ext.alloc _ _).trans (Ext.drew _), Nat.le_refl _, heap_alloc_new w _⟩ h
theorem Boxed.laterD {w W w' : World} (h : Ext w W) (hx : Ext (W.alloc (.cells #[.int .i64 0, .int .i64 0] 43)) w') : Boxed w w' W.heap.size 0 0 :=
 Boxed.grow (Boxed.new h 0 0) hx
def runT (f : Nat → Option (Int × Int)) : Nat → Option (List (Int × Int))
 | 0 => some []
 | m + 1 => (runT f m).bind fun l => (f m).map fun x => l ++ [x]
theorem runT_some {f : Nat → Option (Int × Int)} {k : Nat} {r : List (Int × Int)} {x : Int × Int} (h : runT f k = some r) (hx : f k = some x) : runT f (k + 1) = some (r ++ [x]) := by simp [runT, h, hx]
theorem runT_stuck {f : Nat → Option (Int × Int)} {k : Nat} (h : runT f k = none) : ∀ {n : Nat}, k ≤ n → runT f n = none
 | n, hn => by
   obtain ⟨d, rfl⟩ : ∃ d, n = k + d := ⟨n - k, by omega⟩
   clear hn
   induction d with
   | zero => exact h
   | succ d ih => show (runT f (k + d)).bind _ = none; rw [ih]; rfl
theorem runT_fail {f : Nat → Option (Int × Int)} {k n : Nat} {r : List (Int × Int)} (h : runT f k = some r) (hx : f k = none) (hn : k < n) : runT f n = none :=
 runT_stuck (k := k + 1) (by simp [runT, h, hx]) (by omega)
theorem runT_len {f : Nat → Option (Int × Int)} : ∀ {k : Nat} {r : List (Int × Int)}, runT f k = some r → r.length = k
 | 0, r, h => by simp only [runT, Option.some.injEq] at h; rw [← h]; rfl
 | k + 1, r, h => by
   cases hk : runT f k with
   | none => simp [runT, hk] at h
   | some l =>
     cases hf : f k with
     | none => simp [runT, hk, hf] at h
     | some x =>
       rw [runT_some hk hf] at h
       simp only [Option.some.injEq] at h
       rw [← h, List.length_append, runT_len hk]
       rfl
theorem runT_at {f : Nat → Option (Int × Int)} : ∀ {k : Nat} {r : List (Int × Int)}, runT f k = some r → ∀ i, i < k → f i = some (r[i]?.getD (0, 0))
 | 0, r, h => fun i hi => absurd hi (by omega)
 | k + 1, r, h => fun i hi => by
   cases hk : runT f k with
   | none => simp [runT, hk] at h
   | some l =>
     cases hf : f k with
     | none => simp [runT, hk, hf] at h
     | some x =>
       rw [runT_some hk hf] at h
       simp only [Option.some.injEq] at h
       subst h
       have hl := runT_len hk
       by_cases hik : i < k
       ·rw [List.getElem?_append_left (by omega)]; exact runT_at hk i hik
       ·obtain rfl : i = k := by omega
        rw [← hl, List.getElem?_concat_length, Option.getD_some, hl, hf]
theorem runT_congr {f g : Nat → Option (Int × Int)} : ∀ {k : Nat}, (∀ i, i < k → f i = g i) → runT f k = runT g k
 | 0, _ => rfl
 | k + 1, h => by
   show (runT f k).bind _ = (runT g k).bind _
   rw [runT_congr (fun i hi => h i (by omega)), h k (by omega)]
theorem runT_all {f : Nat → Option (Int × Int)} {F : Nat → Int × Int} : ∀ {k : Nat}, (∀ i, i < k → f i = some (F i)) → runT f k = some ((List.range k).map F)
 | 0, _ => rfl
 | k + 1, h => by
   rw [runT_some (runT_all fun i hi => h i (by omega)) (h k (by omega)), List.range_succ, List.map_append]
   rfl
def sclF (A : List (Int × Int)) (k : Int × Int) (B : List (Int × Int)) (i : Nat) : Option (Int × Int) :=
 if (mulR k (B[i]?.getD (0, 0))).2 = true ∧ (addR (A[i]?.getD (0, 0)) (mulR k (B[i]?.getD (0, 0))).1).2 = true then some (addR (A[i]?.getD (0, 0)) (mulR k (B[i]?.getD (0, 0))).1).1 else none
def sclL (A : List (Int × Int)) (k : Int × Int) (B : List (Int × Int)) : Option (List (Int × Int)) := if A.length = B.length then runT (sclF A k B) A.length else none
def loseF (C : List Int) (L : List (Int × Int)) (i : Nat) : Option (Int × Int) :=
 if (subR (C[i]?.getD 0, 1) (L[i]?.getD (0, 0))).2 = true then some (subR (C[i]?.getD 0, 1) (L[i]?.getD (0, 0))).1 else none
def wholeL (C : List Int) : List (Int × Int) := C.map fun c => (c, 1)
theorem wholeL_len (C : List Int) : (wholeL C).length = C.length := by simp [wholeL]
theorem wholeL_at {C : List Int} {k : Nat} (h : k < C.length) : (wholeL C)[k]?.getD (0, 0) = (C[k]?.getD 0, 1) := by simp [wholeL, h]
def fitL (C : List Int) : Bool := C.all fun c => inB c (-1000000000) 1000000000
end Go.Proofs.YthjjfkeacobikaaGreat
