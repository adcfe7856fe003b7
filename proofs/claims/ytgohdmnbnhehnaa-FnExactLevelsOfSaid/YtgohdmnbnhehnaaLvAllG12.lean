import Derived.Test.YtgohdmnbnhehnaaLvAllG10
import Derived.Test.YtgohdmnbnhehnaaLvAllG1
import Derived.Test.YtgohdmnbnhehnaaLvAllG11
namespace Go.Proofs.Ytgohdmnbnhehnaa
set_option linter.unusedVariables false
set_option linter.unusedSimpArgs false
set_option maxRecDepth 100000
open Go.RowKit
def AsksR (P : Program) (w : World) (fid : FuncId) (ca : Array Value) (p : Int × Int → Bool) : Prop :=
 ∀ x y (w1 : World), Ext w w1 → Calls P fid (#[ratV x y] ++ ca) w1 fun e w2 => e = .returned (.bool (p (x, y))) ∧ Ext w1 w2
set_option maxHeartbeats 1000000 in
theorem indexFunc_rats {w : World} {a : Option Addr} {n cap : Nat} {l : List (Int × Int)} {fid : FuncId} {ca : Array Value} {p : Int × Int → Bool} (h : Rats w a n cap l) (hg : IsGo Try.prog fid) (hf : AsksR Try.prog w fid ca p) :
 Calls Try.prog 172 #[.slice a n cap, .func (.func fid) #[] ca] w fun e w' => e = .returned (.int .i64 (indexF p l)) ∧ Ext w w' := by
 have hn := h.hcap
 have hm := h.hmax
 have HL := Lib.hid h.hlen
 have HI := Lib.hid h
 have HF0 := Lib.hid hf
 clear h hf
 have hcf : ∀ (args : Array Value) (w : World), (callFunc fid args).run Try.prog w = .ok (.enter fid args) w := hg
 go_enter Try.func172, Try.ntmps172
 go_wp2_with fail
 go_loopg [8] n (fun gk ii wr => ∃ k : Nat, Hid (gk + k = n) ∧ ii = .int .i64 (k : Int) ∧ Hid ((l.take k).all (fun x => !p x) = true) ∧ Hid (Ext w wr))
 case atStart => exact ⟨0, Lib.hid (by omega), rfl, Lib.hid rfl, Lib.hid (Ext.refl _)⟩
 case round =>
  obtain ⟨g1, h_g1⟩ : ∃ x, x = gk := ⟨_, rfl⟩
  subst h_g1
  obtain ⟨wr1, h_wr1⟩ : ∃ x, x = wr := ⟨_, rfl⟩
  subst h_wr1
  obtain ⟨k, HK, rfl, HA, HX⟩ := hrel
  by_cases hlt : k < n
  ·obtain ⟨b, off, x, y, rfl, hxy, hc0, hc1⟩ := (HI.out.ext HX.out).at hlt
   have HF := Lib.hid (HF0.out x y wr1 HX.out)
   cases hb : p (x, y)
   all_goals
    rw [hb] at HF
   ·have HT := Lib.hid (show (l.take (k + 1)).all (fun x => !p x) = true by
     rw [List.take_succ_eq_append_getElem (by rw [HL.out]; exact hlt), List.all_append, HA.out]
     have : l[k]'(by rw [HL.out]; exact hlt) = (x, y) := by rw [List.getElem?_eq_getElem (by rw [HL.out]; exact hlt)] at hxy; simpa using hxy
     rw [this]; simp [hb])
    clear hxy hb
    go_wp2_with fail
    refine HF.out.mono ?_
    rintro e w2 ⟨rfl, hx2⟩
    go_wp2_with fail
    go_roundg (g1 - 1)
    case measure => have := HK.out; omega
    case rel => exact ⟨k + 1, Lib.hid (by have := HK.out; omega), by go_num, HT, Lib.hid (HX.out.trans hx2)⟩
   ·have HB := Lib.hid (show indexF p l = k from indexF_at (d := (0, 0)) (by rw [HL.out]; exact hlt) HA.out (by rw [hxy]; exact hb))
    clear hxy hb
    go_wp2_with fail
    refine HF.out.mono ?_
    rintro e w2 ⟨rfl, hx2⟩
    go_wp2_with fail
    go_ret
    exact ⟨ret_int HB.out.symm, HX.out.trans hx2⟩
  ·have HT := Lib.hid (show indexF p l = -1 by
    have h2 := HA.out
    rw [List.take_of_length_le (by rw [HL.out]; have := HK.out; omega)] at h2
    exact indexF_none h2)
   go_wp2_with fail
   go_ret
   exact ⟨ret_int HT.out.symm, HX.out⟩
set_option maxHeartbeats 400000 in
theorem containsFunc_rats {w : World} {a : Option Addr} {n cap : Nat} {l : List (Int × Int)} {fid : FuncId} {ca : Array Value} {p : Int × Int → Bool} (h : Rats w a n cap l) (hg : IsGo Try.prog fid) (hf : AsksR Try.prog w fid ca p) :
 Calls Try.prog 158 #[.slice a n cap, .func (.func fid) #[] ca] w fun e w' => e = .returned (.bool (l.any p)) ∧ Ext w w' := by
 have HC := Lib.hid (indexFunc_rats h hg hf)
 clear h hf
 go_enter Try.func158, Try.ntmps158
 go_wp2_with fail
 refine HC.out.mono ?_
 rintro e w2 ⟨rfl, hx2⟩
 go_wp2
 all_goals go_ret; refine ⟨ret_bool ?_, hx2⟩; rw [← indexF_any]
theorem i_AllValid1 (x y : Int) (w : World) : Calls Try.prog 159 #[ratV x y] w fun e w' => e = .returned (.bool (!valR (x, y))) ∧ Ext w w' := by
 have HX := Lib.hid (Ext.alloc w (.cells #[.int .i64 x, .int .i64 y] 34))
 go_enter Try.func159, Try.ntmps159
 go_wp2_with fail
 refine (i_IsValidRat x y _).mono ?_
 rintro e w1 ⟨rfl, hx⟩
 have X1 := Lib.hid (HX.out.trans hx)
 clear hx
 go_wp2_with fail
 go_ret
 exact ⟨rfl, X1.out⟩
theorem go_AllValid1 : IsGo Try.prog 159 := isGo Try.func159 (by kernel_rfl) (by kernel_rfl)
theorem i_AllValid {w : World} {a : Option Addr} {n cap : Nat} {l : List (Int × Int)} (h : Rats w a n cap l) :
 Calls Try.prog 152 #[.slice a n cap] w fun e w' => e = .returned (.bool (allV l)) ∧ Ext w w' := by
 have HC := Lib.hid (containsFunc_rats h go_AllValid1 (ca := #[]) (p := fun r => !valR r) (fun x y w1 _ => i_AllValid1 x y w1))
 have HE := Lib.hid (show (!l.any (fun r => !valR r)) = allV l by unfold allV; rw [List.not_any_eq_all_not]; simp)
 clear h
 go_enter Try.func152, Try.ntmps152
 go_wp2_with fail
 refine HC.out.mono ?_
 rintro e w1 ⟨rfl, hx⟩
 have X1 := Lib.hid hx
 clear hx
 go_wp2_with fail
 go_ret
 exact ⟨ret_bool HE.out, X1.out⟩
theorem subR_badz {a b : Int × Int} (h : (subR a b).2 = false) : (subR a b).1 = (0, 0) := by
 unfold subR at h ⊢
 split
 ·next hv => rw [if_pos hv] at h; exact ratOf_no h
 ·rfl
end Go.Proofs.Ytgohdmnbnhehnaa
