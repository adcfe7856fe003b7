import Derived.Test.YthjjfkeacobikaaGreatMkAllG2
import Derived.Test.YthjjfkeacobikaaGreatMkAllG0
import Derived.Deep.DeepCutAuto
import Derived.Deep.RegionHeld3
import Derived.Deep.RegionLaw
import Derived.StillTailTactics
namespace Go.Proofs.YthjjfkeacobikaaGreat
set_option linter.unusedVariables false
set_option linter.unusedSimpArgs false
set_option maxRecDepth 100000
open Go.RowKit
def Tiny (V : List Int) : Prop := ∀ k : Nat, -100 ≤ V[k]?.getD 0 ∧ V[k]?.getD 0 ≤ 100
theorem grown_block {w w' : World} {cb b : Nat} (hg : w.grownBy w' (some cb)) (hb : b < w.heap.size) (hne : b ≠ cb) : w'.heap[b]? = w.heap[b]? := hg.block b hb fun e => hne (Option.some.inj e)
structure Dealt (w w' : World) (cb most n vb : Nat) (V : List Int) : Prop where
 lo : 1 ≤ n
 hi : n ≤ most
 len : V.length = cN n
 tiny : Tiny V
 zero : V[0]?.getD 0 = 0
 row : Row w' vb 3 V
 new : w.heap.size ≤ vb
 ne : vb ≠ cb
structure DS (w wr : World) (cb vb gb rb n : Nat) (V : List Int) : Prop where
 row : Row wr vb 3 V
 cur : Cur wr cb
 gbk : wr.heap[gb]? = some (.cells #[.int .i64 (n : Int), .slice (some ⟨vb, 0, none⟩) (cN n) (cN n)] 29 (0, 0))
 rbk : wr.heap[rb]? = some (.cells #[.int .i64 0, .slice none 0 0] 29 (0, 0))
 grown : w.grownBy wr (some cb)
 apart : vb ≠ cb ∧ gb ≠ cb ∧ rb ≠ cb ∧ gb ≠ vb ∧ rb ≠ vb ∧ rb ≠ gb ∧ w.heap.size ≤ vb ∧ w.heap.size ≤ gb ∧ w.heap.size ≤ rb
theorem Cur.put' {w : World} {cb b : Nat} (h : Cur w cb) (hne : b ≠ cb) (hno : ∀ j x, w.cell? ⟨b, j, none⟩ ≠ some (.int .u8 x)) (k : Nat) (v : Value) : Cur (w.setCell ⟨b, k, none⟩ v) cb := by
 obtain ⟨ba, bn, bc, i, x, h1, h2, h3, h4, h5⟩ := h
 refine ⟨ba, bn, bc, i, x, (heap_setCell_other _ _ _ _ (Ne.symm hne)).trans h1, ⟨h2.hcap, h2.hmax, fun j hj => ?_⟩, h3, h4, h5⟩
 obtain ⟨b', off, e, hc⟩ := h2.cell j hj
 refine ⟨b', off, e, fun j hj => ?_⟩
 obtain ⟨y, hy, hy1⟩ := hc j hj
 refine ⟨y, (cell_same (heap_setCell_other _ _ _ _ ?_) _).trans hy, hy1⟩
 intro e2
 subst e2
 exact hno _ _ hy
theorem Ints.lit (w : World) (l : List Int) (t : TypeId) (hl : l.length ≤ 9223372036854775807) : Ints (w.alloc (.cells (intCells l) t)) (some ⟨w.heap.size, 0, none⟩) l.length l.length l :=
 Row.ints (heap_alloc_new w _) rfl (Nat.le_refl _) hl
theorem OwnI.made (w : World) (base : Nat) (hb : base ≤ w.heap.size) : OwnI (w.alloc (.cells #[] 3)) base (.slice (some ⟨w.heap.size, 0, none⟩) 0 0) [] :=
 World.ownsRow_lit w #[] 0 hb (by omega) rfl
set_option maxHeartbeats 400000 in
theorem clone_ints {w : World} {a : Option Addr} {n cap : Nat} {l : List Int} (h : Ints w a n cap l) (hb : n ≤ 1099511627776) :
 Calls Tryz.prog 109 #[.slice a n cap] w fun e w' => ∃ v, e = .returned v ∧ OwnI w' w.heap.size v l ∧ Ext w w' := by
 have heq : ∀ w' : World, (binOp .eql 24 (.slice a n cap) (.slice none 0 0)).run Tryz.prog w' = .ok (.bool a.isNone) w' := fun w' => Lib.run_eql_slice_nil w' _ _ a n cap 0 0 Tryz.underlying24
 have HL := Lib.hid h.hlen
 cases a with
 | none =>
   have hl : l = [] := by
    have : ¬ 0 < n := fun hn => by obtain ⟨b, off, e, _⟩ := h.cell 0 hn; cases e
    exact List.eq_nil_of_length_eq_zero (by have := HL.out; omega)
   simp only [Option.isNone_none] at heq
   go_enter Tryz.func109, Tryz.ntmps109
   go_wp2
   go_ret
   exact ⟨_, rfl, by rw [hl]; exact OwnI.nil w _, Ext.refl _⟩
 | some ad =>
   simp only [Option.isNone_some] at heq
   have HI := Lib.hid (h.alloc (.cells #[] 3))
   have HO := Lib.hid (OwnI.made w w.heap.size (Nat.le_refl _))
   clear h
   go_enter Tryz.func109, Tryz.ntmps109
   go_wp2_with (first | (at_builtin; refine append_ints rfl _ _ rfl w.heap.size _ _ rfl HO.out _ n _ l rfl HI.out (by simpa using hb) (by simp) ?_; intro v' w1 ho hg hnear))
   go_ret
   exact ⟨_, rfl, ho, ext_grown (Ext.alloc _ _) hg (fun k hk => Nat.le_of_eq (Option.some.inj (show some w.heap.size = some k from hk)))⟩
def hasI (l : List Int) (x : Int) : Bool := l.contains x
set_option maxHeartbeats 400000 in
theorem s_l1HasInt {w : World} {a : Option Addr} {n cap : Nat} {l : List Int} (x : Int) (h : Ints w a n cap l) :
 Calls Tryz.prog 170 #[.slice a n cap, .int .i64 x] w fun e w' => e = .returned (.bool (hasI l x)) ∧ w = w' := by
 have hn := h.hcap
 have hm := h.hmax
 go_enter Tryz.func170, Tryz.ntmps170
 go_wp2
 go_loop [5] (fun i => ∃ k : Nat, k ≤ n ∧ i = .int .i64 k ∧ Hid (hasI (l.take k) x = false)) (fun i => n - (intOf i).toNat)
 case atStart => exact ⟨0, Nat.zero_le _, rfl, Lib.hid rfl⟩
 case round =>
  obtain ⟨k, hk, rfl, HA⟩ := hrel
  by_cases hlt : k < n
  ·obtain ⟨b, off, rfl, hc⟩ := h.at hlt
   have HL := Lib.hid h.hlen
   by_cases hb : l[k]?.getD 0 = x
   ·have hb1 : (l[k]?.getD 0 == x) = true := by simpa using hb
    have HB := Lib.hid hb
    clear hb
    go_wp2
    go_ret
    refine ⟨ret_bool ?_, rfl⟩
    symm
    have hkl : k < l.length := by have := HL.out; omega
    have := HB.out
    simp only [hkl, List.getElem?_eq_getElem, Option.getD_some] at this
    unfold hasI
    rw [List.contains_iff_mem]
    exact this ▸ List.getElem_mem hkl
   ·have hb1 : (l[k]?.getD 0 == x) = false := by simpa using hb
    have HB := Lib.hid hb
    clear hb
    go_wp2
    go_round
    case rel => exact ⟨k + 1, by omega, by go_num, Lib.hid (by rw [take_snoc (by have := HL.out; omega)]; have h1 := HA.out; unfold hasI at h1 ⊢; rw [List.contains_append, h1]; simpa using fun e => HB.out e.symm)⟩
    case measure => simp [intOf]; omega
  ·have HL := Lib.hid h.hlen
   go_wp2
   go_ret
   refine ⟨ret_bool ?_, rfl⟩
   have := HA.out
   rw [List.take_of_length_le (by have := HL.out; omega)] at this
   exact this.symm
theorem RowsI.grown {w w' : World} {base base' : Nat} {v : Value} {vs : List Value} {L : List (List Int)} (h : RowsI w base vs L) {us : List Value} (hv : OwnV w base' v us) (hg : w.grownBy w' v.ownBlock) : RowsI w' base vs L :=
 h.keep fun i k hi hk => hg.block k ((h.row i hi).lt k hk).2 fun e => (h.row i hi).apart hv k hk e.symm
section
variable {w0 w : World} {cb : Nat} {a' : Option Addr} {n' c' : Nat} {C : List Int} {base : Nat} {a : Option Addr} {n cap : Nat}
end
theorem Ints.oneS (w : World) (x : Int) (t : TypeId) (n : Nat) (hn : n = w.heap.size) : Ints (w.alloc (.cells #[.int .i64 x] t)) (some ⟨n, 0, none⟩) 1 1 [x] := by
 subst hn
 exact Ints.one w x t
theorem OwnI.madeS (w : World) (base n : Nat) (hn : n = w.heap.size) (hb : base ≤ w.heap.size) : OwnI (w.alloc (.cells #[] 3)) base (.slice (some ⟨n, 0, none⟩) 0 0) [] := by
 subst hn
 exact OwnI.made w base hb
end Go.Proofs.YthjjfkeacobikaaGreat
