import Derived.Test.YtgohdmnbnhehnaaGreatSgAllG11
namespace Go.Proofs.YtgohdmnbnhehnaaGreat
set_option linter.unusedVariables false
set_option linter.unusedSimpArgs false
open Go.RowKit
abbrev nuc (o : Bool) (a : Option Addr) (n cap : Nat) (b : Option Addr) (m dap : Nat) (x : Int) : Value := .agg #[.bool o, .slice a n cap, .slice b m dap, .int .i64 x]
def sameN (o : Bool) (l : List (Int × Int)) (r : List (Int × Int × Int)) (x : Int) (o' : Bool) (l' : List (Int × Int)) (r' : List (Int × Int × Int)) (x' : Int) : Bool :=
 decide (o = o') && (decide (l = l') && (decide (r = r') && decide (x = x')))
set_option maxHeartbeats 2000000 in
theorem i_EqualNucleolus {w : World} {o o' : Bool} {x x' : Int} {a a' b b' : Option Addr} {n n' m m' cap cap' dap dap' : Nat} {l l' : List (Int × Int)} {r r' : List (Int × Int × Int)} (h : Rats w a n cap l) (hr : Fixs w b m dap r) (h' : Rats w a' n' cap' l') (hr' : Fixs w b' m' dap' r') :
 Calls Tryz.prog 49 #[nuc o a n cap b m dap x, nuc o' a' n' cap' b' m' dap' x'] w fun e w' => e = .returned (.bool (sameN o l r x o' l' r' x')) ∧ Ext w w' := by
 have hx0 : Ext w ((w.alloc (.cells #[.bool o, .slice a n cap, .slice b m dap, .int .i64 x] 45)).alloc (.cells #[.bool o', .slice a' n' cap', .slice b' m' dap', .int .i64 x'] 45)) := (Ext.alloc _ _).trans (Ext.alloc _ _)
 have HX0 := Lib.hid hx0
 have HE := Lib.hid (equal_rats (h.ext hx0) (h'.ext hx0))
 have HR := Lib.hid (hr.ext hx0)
 have HR' := Lib.hid (hr'.ext hx0)
 clear hx0 h h' hr hr'
 by_cases ho : o = o'
 ·subst ho
  cases hl : decide (l = l')
  ·have HLL := Lib.hid hl
   rw [hl] at HE
   clear hl
   go_enter Tryz.func49, Tryz.ntmps49
   go_wp2_with fail
   refine HE.out.mono ?_
   rintro e w1 ⟨rfl, hx⟩
   have X1 := Lib.hid (HX0.out.trans hx.ext)
   clear hx
   go_wp2
   go_ret
   exact ⟨ret_bool (by unfold sameN; rw [HLL.out]; simp), X1.out⟩
  ·have HLL := Lib.hid hl
   rw [hl] at HE
   clear hl
   cases hq : decide (r = r')
   all_goals
    have HQ := Lib.hid hq
    go_enter Tryz.func49, Tryz.ntmps49
    go_wp2_with fail
    refine HE.out.mono ?_
    rintro e w1 ⟨rfl, hx⟩
    have hx' := hx.ext
    have c2 : w1.cell? ⟨w.heap.size, 2, none⟩ = some (.slice b m dap) := hx'.cellSome (by simp)
    have c3 : w1.cell? ⟨w.heap.size, 3, none⟩ = some (.int .i64 x) := hx'.cellSome (by simp)
    have d2 : w1.cell? ⟨w.heap.size + 1, 2, none⟩ = some (.slice b' m' dap') := hx'.cellSome (by simp)
    have d3 : w1.cell? ⟨w.heap.size + 1, 3, none⟩ = some (.int .i64 x') := hx'.cellSome (by simp)
    have X1 := Lib.hid (HX0.out.trans hx')
    have HF := Lib.hid (equal_fixs (HR.out.ext hx') (HR'.out.ext hx'))
    rw [hq] at HF
    clear hx hx' hq
    go_wp2_with fail
    refine HF.out.mono ?_
    rintro e w2 ⟨rfl, hx⟩
    have hx' := hx.ext
    replace c3 := hx'.cellSome c3
    replace d3 := hx'.cellSome d3
    have X2 := Lib.hid (X1.out.trans hx')
    clear hx hx'
    go_wp2
    go_ret
   ·exact ⟨ret_bool (by unfold sameN; rw [HLL.out, HQ.out]; simp), X2.out⟩
   ·exact ⟨ret_bool (by unfold sameN; rw [HLL.out, HQ.out]; by_cases h : x = x' <;> simp [h]), X2.out⟩
 ·have HO := Lib.hid ho
  have hob : (o == o') = false := by simpa using ho
  clear ho
  go_enter Tryz.func49, Tryz.ntmps49
  go_wp2_with fail
  go_ret
  exact ⟨ret_bool (by unfold sameN; simp [HO.out]), HX0.out⟩
end Go.Proofs.YtgohdmnbnhehnaaGreat
