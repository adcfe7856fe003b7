import Derived.Test.YthjjfkeacobikaaGreatMkAllG29
import Derived.Test.YthjjfkeacobikaaGreatMkAllG22
set_option linter.unusedVariables false
set_option linter.unusedSimpArgs false
namespace Go.Proofs.YthjjfkeacobikaaGreat
set_option maxRecDepth 100000
open Go.RowKit
theorem codeI_one (g : Int) (r : LpR) : codeI true g r = 1 ↔ (stabI g r).isSome = true := by
 unfold codeI stabI
 rw [if_neg (by simp)]
 by_cases h : r.status = 1
 ·rw [if_neg (fun hn => hn h), if_pos h]
  by_cases h2 : 0 < cmpR (negR r.value) (g, 1)
  ·rw [if_pos h2, if_pos h2]; simp
  ·rw [if_neg h2, if_neg h2]
   split <;> simp
 ·rw [if_pos h, if_neg h]; simp
theorem codeS_one (g : Int) (r : LpR) : codeS true g r = 1 ↔ (stabS g r).isSome = true := by
 unfold codeS stabS
 rw [if_neg (by simp)]
 by_cases h : r.status = 1
 ·rw [if_neg (fun hn => hn h), if_pos h]
  cases h2 : (slackR g r).2
  ·simp
  ·rw [if_neg (by simp), if_pos rfl]
   by_cases h3 : (slackR g r).1.1 < 0
   ·rw [if_pos h3, if_pos h3]; simp
   ·rw [if_neg h3, if_neg h3]
    split <;> simp
 ·rw [if_pos h, if_neg h]; simp
theorem code_same (ok : Bool) (g : Int) (r : LpR) : codeI ok g r = 1 ↔ codeS ok g r = 1 := by
 cases ok
 ·unfold codeI codeS; simp
 ·rw [codeI_one, codeS_one, stab_same]
def mktR (x y : Int) (G : List (List Int)) : LpR := solveG boundI (coreA (asgP x y G : Int).toNat (asgL x y G).length) (coreB (asgP x y G : Int).toNat) (coreC (asgL x y G))
def mktG (x y : Int) (G : List (List Int)) : Int := grandV (asgP x y G) (asgL x y G)
def stabOk (x y : Int) (G : List (List Int)) : Bool := validM x y G && decide (codeI (gameOk (asgP x y G) (asgL x y G)) (mktG x y G) (mktR x y G) = 1)
def stabL (x y : Int) (G : List (List Int)) : List (Int × Int) := if stabOk x y G = true then ptR (mktG x y G) (mktR x y G) else []
theorem stabOk_S (x y : Int) (G : List (List Int)) : stabOk x y G = (validM x y G && decide (codeS (gameOk (asgP x y G) (asgL x y G)) (mktG x y G) (mktR x y G) = 1)) := by
 unfold stabOk
 congr 1
 exact decide_eq_decide.2 (code_same _ _ _)
theorem stabL_no {x y : Int} {G : List (List Int)} (h : stabOk x y G = false) : stabL x y G = [] := by unfold stabL; rw [if_neg (by rw [h]; simp)]
theorem stabL_yes {x y : Int} {G : List (List Int)} (h : stabOk x y G = true) : stabL x y G = ptR (mktG x y G) (mktR x y G) := by unfold stabL; rw [if_pos h]
theorem ret_tupZ {v : Value} {a b : Bool} (h : a = b) : Ending.returned (.tuple #[v, .bool a]) = .returned (.tuple #[v, .bool b]) := by rw [h]
theorem OwnR.madeZ (w : World) (base n : Nat) (hn : n = w.heap.size) (hb : base ≤ w.heap.size) : OwnR (w.alloc (.cells #[] 43)) base (.slice (some ⟨n, 0, none⟩) 0 0) [] := by subst hn; exact OwnR.made w base hb
set_option maxHeartbeats 4000000 in
theorem i_StablePrices {w : World} {x y : Int} {a : Option Addr} {n cap : Nat} {G : List (List Int)} (h : IntSS w a n cap G) :
 Calls Tryz.prog 31 #[triple x y a n cap] w fun e w' => (∃ v, e = .returned (.tuple #[v, .bool (stabOk x y G)]) ∧ OwnR w' w.heap.size v (stabL x y G)) ∧ Ext w w' := by
 have HX := Lib.hid (Ext.alloc w (.cells #[.int .i64 x, .int .i64 y, .slice a n cap] 52))
 have HA := Lib.hid (i_AssignmentGame (x := x) (y := y) (h.ext HX.out))
 have HOK := Lib.hid (show stabOk x y G = (validM x y G && decide (codeI (gameOk (asgP x y G) (asgL x y G)) (mktG x y G) (mktR x y G) = 1)) from rfl)
 clear h
 go_enter Tryz.func31, Tryz.ntmps31
 go_wp2_with fail
 refine HA.out.mono ?_
 rintro e w1 ⟨⟨v, rfl, ho⟩, hx⟩
 obtain ⟨a1, n1, p1, rfl, HN1⟩ := ho.var
 obtain ⟨P, hP⟩ : ∃ P : Int, P = (asgP x y G : Int) := ⟨_, rfl⟩
 obtain ⟨V, hV⟩ : ∃ V, V = asgL x y G := ⟨_, rfl⟩
 obtain ⟨vm, hvm⟩ : ∃ z, z = validM x y G := ⟨_, rfl⟩
 rw [← hV] at ho HN1
 rw [← hP, ← hvm]
 obtain ⟨w2, hw2⟩ : ∃ E, E = w1.alloc (.cells #[.int .i64 P, .slice a1 n1 p1] 29) := ⟨_, rfl⟩
 have hx2 : Ext w1 w2 := by rw [hw2]; exact Ext.alloc _ _
 have X2 := Lib.hid ((HX.out.trans hx).trans hx2)
 have c0 : w2.cell? ⟨w1.heap.size, 0, none⟩ = some (.int .i64 P) := by rw [hw2]; simp
 have c1 : w2.cell? ⟨w1.heap.size, 1, none⟩ = some (.slice a1 n1 p1) := by rw [hw2]; simp
 have HF := Lib.hid (i_FindCore (p := P) (ho.ext hx2).ints)
 have HR := Lib.hid (show mktR x y G = solveG boundI (coreA P.toNat n1) (coreB P.toNat) (coreC V) by rw [← HN1.out, hP, hV]; rfl)
 have HG := Lib.hid (show mktG x y G = grandV P V by rw [hP, hV]; rfl)
 rw [← HR.out, ← HG.out] at HF
 rw [← hP, ← hV, ← hvm] at HOK
 obtain ⟨code, hcode⟩ : ∃ c, c = codeI (gameOk P V) (mktG x y G) (mktR x y G) := ⟨_, rfl⟩
 rw [← hcode] at HF HOK
 clear hx hx2 ho hP hV hvm hcode
 go_upto_region 2 with fail
 rw [← hw2]
 clear hw2
 go_wp2_with fail
 refine HF.out.mono ?_
 rintro e w3 ⟨⟨pa, pn, pc, wa, wn, wc, rfl, hpt⟩, hx⟩
 have X3 := Lib.hid (X2.out.trans hx)
 obtain ⟨w4, hw4⟩ : ∃ E, E = w3.alloc (.cells #[.int .i64 code, .slice pa pn pc, .slice wa wn wc] 38) := ⟨_, rfl⟩
 have hx4 : Ext w3 w4 := by rw [hw4]; exact Ext.alloc _ _
 have X4 := Lib.hid (X3.out.trans hx4)
 obtain ⟨d0, d1, d2, df⟩ := cbox3 (show w4.heap[w3.heap.size]? = some (.cells #[.int .i64 code, .slice pa pn pc, .slice wa wn wc] 38 (0, 0)) by rw [hw4]; exact heapA_new _ _ _ rfl)
 have HPT := Lib.hid (fun (hc : code = 1) => ((hpt hc).ext hx4).mono (show w.heap.size ≤ w2.heap.size from X2.out.size))
 have hsz4 := X4.out.size
 go_upto_region 3 with fail
 rw [← hw4]
 clear hw4 hx4 hx hpt c0 c1
 cases vm
 ·have HN := Lib.hid (show stabOk x y G = false by rw [HOK.out]; rfl)
  have HNL := Lib.hid (stabL_no HN.out)
  go_wp2_with fail
  go_ret2
  exact ⟨⟨_, ret_tupZ (by rw [HN.out]), by rw [HNL.out]; exact OwnR.nil _ _⟩, X4.out⟩
 by_cases hc : code = 1
 ·have HN := Lib.hid (show stabOk x y G = true by rw [HOK.out, hc]; rfl)
  have HNL := Lib.hid (stabL_yes HN.out)
  have HPP := Lib.hid (HPT.out hc)
  subst hc
  go_wp2_with fail
  go_ret2
  exact ⟨⟨_, ret_tupZ (by rw [HN.out]), by rw [HNL.out]; exact HPP.out⟩, X4.out⟩
 ·have HN := Lib.hid (show stabOk x y G = false by rw [HOK.out, decide_eq_false hc]; rfl)
  have HNL := Lib.hid (stabL_no HN.out)
  have hcb : (code != 1) = true := by simp [hc]
  go_wp2_with fail
  go_ret2
  exact ⟨⟨_, ret_tupZ (by rw [HN.out]), by rw [HNL.out]; exact OwnR.nil _ _⟩, X4.out⟩
set_option maxHeartbeats 4000000 in
theorem s_StablePrices {w : World} {x y : Int} {a : Option Addr} {n cap : Nat} {G : List (List Int)} (h : IntSS w a n cap G) :
 Calls Tryz.prog 32 #[triple x y a n cap] w fun e w' => (∃ v, e = .returned (.tuple #[v, .bool (stabOk x y G)]) ∧ OwnR w' w.heap.size v (stabL x y G)) ∧ Ext w w' := by
 have HX := Lib.hid (Ext.alloc w (.cells #[.int .i64 x, .int .i64 y, .slice a n cap] 52))
 have HA := Lib.hid (s_AssignmentGame (x := x) (y := y) (h.ext HX.out))
 have HOK := Lib.hid (show stabOk x y G = (validM x y G && decide (codeS (gameOk (asgP x y G) (asgL x y G)) (mktG x y G) (mktR x y G) = 1)) from stabOk_S _ _ _)
 clear h
 go_enter Tryz.func32, Tryz.ntmps32
 go_wp2_with fail
 refine HA.out.mono ?_
 rintro e w1 ⟨⟨v, rfl, ho⟩, hx⟩
 obtain ⟨a1, n1, p1, rfl, HN1⟩ := ho.var
 obtain ⟨P, hP⟩ : ∃ P : Int, P = (asgP x y G : Int) := ⟨_, rfl⟩
 obtain ⟨V, hV⟩ : ∃ V, V = asgL x y G := ⟨_, rfl⟩
 obtain ⟨vm, hvm⟩ : ∃ z, z = validM x y G := ⟨_, rfl⟩
 rw [← hV] at ho HN1
 rw [← hP, ← hvm]
 obtain ⟨w2, hw2⟩ : ∃ E, E = w1.alloc (.cells #[.int .i64 P, .slice a1 n1 p1] 29) := ⟨_, rfl⟩
 have hx2 : Ext w1 w2 := by rw [hw2]; exact Ext.alloc _ _
 have X2 := Lib.hid ((HX.out.trans hx).trans hx2)
 have c0 : w2.cell? ⟨w1.heap.size, 0, none⟩ = some (.int .i64 P) := by rw [hw2]; simp
 have c1 : w2.cell? ⟨w1.heap.size, 1, none⟩ = some (.slice a1 n1 p1) := by rw [hw2]; simp
 have HF := Lib.hid (s_FindCore (p := P) (ho.ext hx2).ints)
 have HR := Lib.hid (show mktR x y G = solveG boundI (coreA P.toNat n1) (coreB P.toNat) (coreC V) by rw [← HN1.out, hP, hV]; rfl)
 have HG := Lib.hid (show mktG x y G = grandV P V by rw [hP, hV]; rfl)
 rw [← HR.out, ← HG.out] at HF
 rw [← hP, ← hV, ← hvm] at HOK
 obtain ⟨code, hcode⟩ : ∃ c, c = codeS (gameOk P V) (mktG x y G) (mktR x y G) := ⟨_, rfl⟩
 rw [← hcode] at HF HOK
 clear hx hx2 ho hP hV hvm hcode
 go_upto_region 2 with fail
 rw [← hw2]
 clear hw2
 go_wp2_with fail
 refine HF.out.mono ?_
 rintro e w3 ⟨⟨pa, pn, pc, wa, wn, wc, rfl, hpt⟩, hx⟩
 have X3 := Lib.hid (X2.out.trans hx)
 obtain ⟨w4, hw4⟩ : ∃ E, E = w3.alloc (.cells #[.int .i64 code, .slice pa pn pc, .slice wa wn wc] 38) := ⟨_, rfl⟩
 have hx4 : Ext w3 w4 := by rw [hw4]; exact Ext.alloc _ _
 have X4 := Lib.hid (X3.out.trans hx4)
 obtain ⟨d0, d1, d2, df⟩ := cbox3 (show w4.heap[w3.heap.size]? = some (.cells #[.int .i64 code, .slice pa pn pc, .slice wa wn wc] 38 (0, 0)) by rw [hw4]; exact heapA_new _ _ _ rfl)
 have HPT := Lib.hid (fun (hc : code = 1) => ((hpt hc).ext hx4).mono (show w.heap.size ≤ w2.heap.size from X2.out.size))
 have hsz4 := X4.out.size
 go_upto_region 3 with fail
 rw [← hw4]
 clear hw4 hx4 hx hpt c0 c1
 cases vm
 ·have HN := Lib.hid (show stabOk x y G = false by rw [HOK.out]; rfl)
  have HNL := Lib.hid (stabL_no HN.out)
  go_wp2_with fail
  go_ret2
  exact ⟨⟨_, ret_tupZ (by rw [HN.out]), by rw [HNL.out]; exact OwnR.madeZ _ _ _ (by simp) (by omega)⟩, X4.out.trans (Ext.alloc _ _)⟩
 by_cases hc : code = 1
 ·have HN := Lib.hid (show stabOk x y G = true by rw [HOK.out, hc]; rfl)
  have HNL := Lib.hid (stabL_yes HN.out)
  have HPP := Lib.hid (HPT.out hc)
  subst hc
  go_wp2_with fail
  go_ret2
  exact ⟨⟨_, ret_tupZ (by rw [HN.out]), by rw [HNL.out]; exact HPP.out⟩, X4.out⟩
 ·have HN := Lib.hid (show stabOk x y G = false by rw [HOK.out, decide_eq_false hc]; rfl)
  have HNL := Lib.hid (stabL_no HN.out)
  have hcb : (code != 1) = true := by simp [hc]
  go_wp2_with fail
  go_ret2
  exact ⟨⟨_, ret_tupZ (by rw [HN.out]), by rw [HNL.out]; exact OwnR.madeZ _ _ _ (by simp) (by omega)⟩, X4.out.trans (Ext.alloc _ _)⟩
end Go.Proofs.YthjjfkeacobikaaGreat
