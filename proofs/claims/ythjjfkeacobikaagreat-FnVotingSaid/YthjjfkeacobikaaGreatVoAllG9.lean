import Derived.Test.YthjjfkeacobikaaGreatVoAllG8
import Derived.Test.YthjjfkeacobikaaGreatVoAllG0
import Derived.Deep.RegionHeld3
import Derived.Test.YthjjfkeacobikaaGreatVoAllG6
import Derived.Test.YthjjfkeacobikaaGreatVoAllG7
import Derived.Deep.DeepCutAuto
namespace Go.Proofs.YthjjfkeacobikaaGreat
set_option linter.unusedVariables false
set_option linter.unusedSimpArgs false
set_option maxRecDepth 100000
open Go.RowKit
theorem s_l3Int (n : Int) (w : World) : Calls Tryz.prog 86 #[.int .i64 n] w fun e w' => e = .returned (ratV n 1) ∧ Ext w w' := by
 have HX := Lib.hid (Ext.alloc w (.cells #[.int .i64 n, .int .i64 1] 43))
 go_enter Tryz.func86, Tryz.ntmps86
 go_wp2
 refine bodyPost_ret (v := ratV n 1) (by simp [results, Tryz.results86, go_sem]) rfl ⟨rfl, HX.out⟩
theorem wholeL_snoc {C : List Int} {k : Nat} (h : k < C.length) : wholeL (C.take k) ++ [(C[k]?.getD 0, 1)] = wholeL (C.take (k + 1)) := by
 rw [take_snoc h]; simp [wholeL]
def ratsL (C : List Int) : List (Int × Int) := if fitL C = true then wholeL C else []
def allV (l : List (Int × Int)) : Bool := l.all valR
theorem all_takeR {p : Int × Int → Bool} {l : List (Int × Int)} {k : Nat} (h : k < l.length) : (l.take (k + 1)).all p = ((l.take k).all p && p (l[k]?.getD (0, 0))) := by
 rw [take_snocR h]; simp
theorem all_falseR {p : Int × Int → Bool} {l : List (Int × Int)} {k : Nat} (h : k < l.length) (hb : p (l[k]?.getD (0, 0)) = false) : l.all p = false := by
 rw [List.all_eq_false]
 exact ⟨l[k], List.getElem_mem h, by rw [List.getElem?_eq_getElem h] at hb; simpa using hb⟩
set_option maxHeartbeats 1000000 in
theorem s_AllValid {w : World} {a : Option Addr} {n cap : Nat} {l : List (Int × Int)} (h : Rats w a n cap l) :
 Calls Tryz.prog 148 #[.slice a n cap] w fun e w' => e = .returned (.bool (allV l)) ∧ Ext w w' := by
 have hcap := h.hcap
 have hmax := h.hmax
 have HL := Lib.hid h.hlen
 have HI := Lib.hid h
 clear h
 go_enter Tryz.func148, Tryz.ntmps148
 go_wp2_with fail
 go_loopg [3] n (fun gk ii wr => ∃ k : Nat, Hid (gk + k = n) ∧ ii = .int .i64 (k : Int) ∧ Hid ((l.take k).all valR = true) ∧ Hid (Ext w wr))
 case atStart => exact ⟨0, Lib.hid (by omega), rfl, Lib.hid rfl, Lib.hid (Ext.refl _)⟩
 case round =>
  obtain ⟨g1, h_g1⟩ : ∃ x, x = gk := ⟨_, rfl⟩
  subst h_g1
  obtain ⟨wr1, h_wr1⟩ : ∃ x, x = wr := ⟨_, rfl⟩
  subst h_wr1
  obtain ⟨k, HK, rfl, HA, HX⟩ := hrel
  by_cases hlt : k < n
  ·obtain ⟨b, off, x, y, rfl, hxy, hc0, hc1⟩ := (HI.out.ext HX.out).at hlt
   have HC := Lib.hid (s_IsValidRat x y wr1)
   cases hb : valR (x, y)
   all_goals
    rw [hb] at HC
   ·have HF := Lib.hid (show allV l = false from all_falseR (by rw [HL.out]; exact hlt) (by rw [hxy]; exact hb))
    clear hxy hb
    go_wp2_with fail
    refine HC.out.mono ?_
    rintro e w2 ⟨rfl, hx2⟩
    go_wp2_with fail
    go_ret
    exact ⟨ret_bool HF.out.symm, HX.out.trans hx2⟩
   ·have HT := Lib.hid (show (l.take (k + 1)).all valR = true by rw [all_takeR (by rw [HL.out]; exact hlt), HA.out, hxy, hb]; rfl)
    clear hxy hb
    go_wp2_with fail
    refine HC.out.mono ?_
    rintro e w2 ⟨rfl, hx2⟩
    go_wp2_with fail
    go_roundg (g1 - 1)
    case measure => have := HK.out; omega
    case rel => exact ⟨k + 1, Lib.hid (by have := HK.out; omega), by go_num, HT, Lib.hid (HX.out.trans hx2)⟩
  ·have HT := Lib.hid (show l.take k = l from List.take_of_length_le (by rw [HL.out]; have := HK.out; omega))
   go_wp2_with fail
   go_ret
   exact ⟨ret_bool (by have := HA.out; rw [HT.out] at this; exact this.symm), HX.out⟩
end Go.Proofs.YthjjfkeacobikaaGreat
