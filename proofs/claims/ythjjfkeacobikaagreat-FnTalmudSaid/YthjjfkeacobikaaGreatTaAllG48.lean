import Derived.Test.YthjjfkeacobikaaGreatTaAllG8
import Derived.Test.YthjjfkeacobikaaGreatTaAllG46
import Derived.Test.YthjjfkeacobikaaGreatTaAllG34
import Derived.Test.YthjjfkeacobikaaGreatTaAllG15
import Derived.Test.YthjjfkeacobikaaGreatTaAllG47
import Derived.Test.YthjjfkeacobikaaGreatTaAllG35
import Derived.Test.YthjjfkeacobikaaGreatTaAllG44
set_option linter.unusedVariables false
set_option linter.unusedSimpArgs false
namespace Go.Proofs.YthjjfkeacobikaaGreat
set_option maxRecDepth 100000
open Go.RowKit
theorem tal_parts {x : Int} {C : List Int} {m : Nat} (hm : C.length = m) (h3 : m ≤ 3) (h : validPair 0 x C = true) :
 convOk (bankP x C : Int) (bankL x C) = true ∧ coreS (bankP x C : Int) (bankL x C) (talL x C) = true ∧ ((nucR (bankP x C : Int) (bankL x C)).ok = true → talL x C = (nucR (bankP x C : Int) (bankL x C)).pt) := by
 have hp : bankP x C = C.length := by unfold bankP; rw [if_pos h]
 rw [hp]
 obtain ⟨F, S, T, hF⟩ := tal_fr h (by omega)
 exact ⟨bank_conv h, tal_core h hF, tal_nuc h (by omega)⟩
set_option maxHeartbeats 8000000 in
theorem l_FnTalmud {w : World} {a : Option Addr} {n cap : Nat} (h : Bytes w a n cap) :
 Calls Tryz.prog 5 #[.slice a n cap] w fun e w' => e = .returned (.bool true) ∧ Ext w w' := by
 have hcap := h.hcap
 have hmax := h.hmax
 have H := Lib.hid h
 clear h
 by_cases hbig : 1048576 < n
 ·go_enter Tryz.func5, Tryz.ntmps5
  go_wp2_with fail
  go_in
  go_wp2_with fail
  go_ret
  exact ⟨rfl, Ext.refl _⟩
 have hb : n ≤ 1048576 := by omega
 go_enter Tryz.func5, Tryz.ntmps5
 go_wp2_with fail
 go_in
 go_wp2_with fail
 refine (s_DrawTalmudShares H.out hb).mono ?_
 rintro e w1 ⟨⟨x, b, m, c, M, rfl, hL, hm⟩, hx⟩
 obtain ⟨W, hW⟩ : ∃ W, W = w1.alloc (.cells #[.int .i64 x, .slice b m c] 66) := ⟨_, rfl⟩
 have hxW : Ext w1 W := by rw [hW]; exact Ext.alloc _ _
 have XA := Lib.hid (hx.trans hxW)
 have HL := Lib.hid (hL.ext hxW)
 have g0 : W.cell? ⟨w1.heap.size, 0, none⟩ = some (.int .i64 x) := by rw [hW]; simp
 have g1 : W.cell? ⟨w1.heap.size, 1, none⟩ = some (.slice b m c) := by rw [hW]; simp
 obtain ⟨ok, hok⟩ : ∃ o, o = validPair 0 x M := ⟨_, rfl⟩
 have HOK := Lib.hid hok
 have hbb : (ok != ok) = false := by simp
 obtain ⟨P, hP⟩ : ∃ P, P = bankP x M := ⟨_, rfl⟩
 have HPP := Lib.hid hP
 obtain ⟨VL, hVL⟩ : ∃ l, l = bankL x M := ⟨_, rfl⟩
 have HVL := Lib.hid hVL
 obtain ⟨SL, hSL⟩ : ∃ l, l = talL x M := ⟨_, rfl⟩
 have HSL := Lib.hid hSL
 have HML := Lib.hid hL.hlen
 clear hL hx hxW hok hP hVL hSL
 go_upto_region 4 with fail
 rw [← hW]
 clear hW
 generalize w1.heap.size = bg at g0 g1 ⊢
 go_wp2_with fail
 have HC := Lib.hid (i_TalmudShares (x := x) HL.out)
 rw [← HOK.out, ← HSL.out] at HC
 refine HC.out.mono ?_
 rintro e w2 ⟨⟨v, rfl, ho⟩, hx⟩
 obtain ⟨a2, n2, c2, rfl, HN2⟩ := ho.var
 have R2 := Lib.hid ho.rats
 have X2 := Lib.hid hx
 replace g0 := hx.cellSome g0
 replace g1 := hx.cellSome g1
 clear ho hx HC
 go_wp2_with fail
 have HC := Lib.hid (s_TalmudShares (x := x) (HL.out.ext X2.out))
 rw [← HOK.out, ← HSL.out] at HC
 refine HC.out.mono ?_
 rintro e w3 ⟨⟨v, rfl, ho⟩, hx⟩
 obtain ⟨a3, n3, c3, rfl, HN3⟩ := ho.var
 have R3 := Lib.hid ho.rats
 have R23 := Lib.hid (R2.out.ext hx)
 have X3 := Lib.hid (X2.out.trans hx)
 replace g0 := hx.cellSome g0
 replace g1 := hx.cellSome g1
 clear ho hx HC R2 X2
 go_wp2_with fail
 have HC := Lib.hid (i_BankruptcyGame (q := x) (HL.out.ext X3.out))
 rw [← HPP.out, ← HVL.out, ← HOK.out] at HC
 refine HC.out.mono ?_
 rintro e w4 ⟨⟨v, rfl, ho⟩, hx⟩
 obtain ⟨a4, n4, c4, rfl, HN4⟩ := ho.var
 obtain ⟨W4, hW4⟩ : ∃ W, W = w4.alloc (.cells #[.int .i64 (P : Int), .slice a4 n4 c4] 29) := ⟨_, rfl⟩
 have hxW : Ext w4 W4 := by rw [hW4]; exact Ext.alloc _ _
 have hx4 := hx.trans hxW
 have X4 := Lib.hid (X3.out.trans hx4)
 have I4 := Lib.hid (ho.ints.ext hxW)
 have R24 := Lib.hid (R23.out.ext hx4)
 have R34 := Lib.hid (R3.out.ext hx4)
 have p0 : W4.cell? ⟨w4.heap.size, 0, none⟩ = some (.int .i64 (P : Int)) := by rw [hW4]; simp
 have p1 : W4.cell? ⟨w4.heap.size, 1, none⟩ = some (.slice a4 n4 c4) := by rw [hW4]; simp
 replace g0 := hx4.cellSome g0
 replace g1 := hx4.cellSome g1
 clear ho hx hxW HC hx4 R23 R3 X3
 go_upto_region 7 with fail
 rw [← hW4]
 clear hW4
 generalize w4.heap.size = b4g at p0 p1 ⊢
 go_wp2_with fail
 have HC := Lib.hid (s_BankruptcyGame (q := x) (HL.out.ext X4.out))
 rw [← HPP.out, ← HVL.out, ← HOK.out] at HC
 refine HC.out.mono ?_
 rintro e w5 ⟨⟨v, rfl, ho⟩, hx⟩
 obtain ⟨a5, n5, c5, rfl, HN5⟩ := ho.var
 obtain ⟨W5, hW5⟩ : ∃ W, W = w5.alloc (.cells #[.int .i64 (P : Int), .slice a5 n5 c5] 29) := ⟨_, rfl⟩
 have hxW : Ext w5 W5 := by rw [hW5]; exact Ext.alloc _ _
 have hx5 := hx.trans hxW
 have X5 := Lib.hid (X4.out.trans hx5)
 have I5 := Lib.hid (ho.ints.ext hxW)
 have I45 := Lib.hid (I4.out.ext hx5)
 have R25 := Lib.hid (R24.out.ext hx5)
 have HEV := Lib.hid (s_EqualVector (R24.out.ext hx5) (R34.out.ext hx5))
 rw [decide_eq_true rfl] at HEV
 have q0 : W5.cell? ⟨w5.heap.size, 0, none⟩ = some (.int .i64 (P : Int)) := by rw [hW5]; simp
 have q1 : W5.cell? ⟨w5.heap.size, 1, none⟩ = some (.slice a5 n5 c5) := by rw [hW5]; simp
 replace g0 := hx5.cellSome g0
 replace g1 := hx5.cellSome g1
 replace p0 := hx5.cellSome p0
 replace p1 := hx5.cellSome p1
 clear ho hx hxW HC hx5 R24 R34 X4 I4
 go_upto_region 8 with fail
 rw [← hW5]
 clear hW5
 generalize w5.heap.size = b5g at q0 q1 ⊢
 go_wp2_with fail
 refine HEV.out.mono ?_
 rintro e w6 ⟨rfl, hx⟩
 have hx6 := hx.ext
 have HE := Lib.hid (s_EqualGame (x := (P : Int)) (x' := (P : Int)) (I45.out.ext hx6) (I5.out.ext hx6))
 rw [decide_eq_true rfl, decide_eq_true rfl, Bool.true_and] at HE
 have X6 := Lib.hid (X5.out.trans hx6)
 have X56 := Lib.hid hx6
 replace g0 := hx6.cellSome g0
 replace g1 := hx6.cellSome g1
 replace p0 := hx6.cellSome p0
 replace p1 := hx6.cellSome p1
 replace q0 := hx6.cellSome q0
 replace q1 := hx6.cellSome q1
 clear hx hx6 HEV
 go_wp2_with fail
 refine HE.out.mono ?_
 rintro e w7 ⟨rfl, hx⟩
 have X7 := Lib.hid (X6.out.trans hx)
 have X57 := Lib.hid (X56.out.trans hx)
 replace g0 := hx.cellSome g0
 replace g1 := hx.cellSome g1
 replace p0 := hx.cellSome p0
 replace p1 := hx.cellSome p1
 clear hx HE q0 q1 X6 X56
 go_wp2_with fail
 have HC := Lib.hid (i_IsValidClaims (x := x) (HL.out.ext X7.out))
 rw [← HOK.out] at HC
 refine HC.out.mono ?_
 rintro e w8 ⟨rfl, hx⟩
 have X8 := Lib.hid (X7.out.trans hx)
 have I8 := Lib.hid (I45.out.ext (X57.out.trans hx))
 have R8 := Lib.hid (R25.out.ext (X57.out.trans hx))
 replace p0 := hx.cellSome p0
 replace p1 := hx.cellSome p1
 clear hx HC X7 X57 X5 I5 I45 R25 HN3 HN5 g0 g1
 cases ok with
 | false =>
   go_wp2_with fail
   go_ret
   exact ⟨rfl, XA.out.trans X8.out⟩
 | true =>
   obtain ⟨hconv, hcore, hnuc⟩ := tal_parts HML.out hm HOK.out.symm
   rw [← HPP.out, ← HVL.out] at hconv hcore hnuc
   rw [← HSL.out] at hcore hnuc
   go_wp2_with fail
   refine (s_FindNucleolus (p := (P : Int)) I8.out).mono ?_
   obtain ⟨NR, hNR⟩ : ∃ R, R = nucR (P : Int) VL := ⟨_, rfl⟩
   rw [← hNR] at hnuc ⊢
   obtain ⟨ro, rp, rs, rk⟩ := NR
   have HNUC := Lib.hid (show ro = true → SL = rp from hnuc)
   have HCONV := Lib.hid hconv
   have HCORE := Lib.hid hcore
   clear hconv hcore hnuc hNR
   rintro e w9 ⟨⟨na, nn, nc, sa, sn, sc, rfl, hpt, hst⟩, hx⟩
   obtain ⟨W9, hW9⟩ : ∃ W, W = w9.alloc (.cells #[.bool ro, .slice na nn nc, .slice sa sn sc, .int .i64 (rk : Int)] 73) := ⟨_, rfl⟩
   have hxW : Ext w9 W9 := by rw [hW9]; exact Ext.alloc _ _
   have X9 := Lib.hid (hx.trans hxW)
   have RP := Lib.hid (hpt.rats.ext hxW)
   have n0 : W9.cell? ⟨w9.heap.size, 0, none⟩ = some (.bool ro) := by rw [hW9]; simp
   have n1 : W9.cell? ⟨w9.heap.size, 1, none⟩ = some (.slice na nn nc) := by rw [hW9]; simp
   replace p0 := X9.out.cellSome p0
   replace p1 := X9.out.cellSome p1
   clear hx hxW hpt hst
   go_upto_region 13 with fail
   rw [← hW9]
   clear hW9
   generalize w9.heap.size = bn at n0 n1 ⊢
   go_wp2_with fail
   have HC := Lib.hid (s_IsConvex (p := (P : Int)) (I8.out.ext X9.out))
   rw [HCONV.out] at HC
   refine HC.out.mono ?_
   rintro e w10 ⟨rfl, hx⟩
   have X10 := Lib.hid (X9.out.trans hx)
   have RP10 := Lib.hid (RP.out.ext hx)
   replace p0 := hx.cellSome p0
   replace p1 := hx.cellSome p1
   replace n0 := hx.cellSome n0
   replace n1 := hx.cellSome n1
   clear hx HC
   go_wp2_with fail
   have HC := Lib.hid (s_InCore (p := (P : Int)) (I8.out.ext X10.out) (R8.out.ext X10.out))
   rw [HCORE.out] at HC
   refine HC.out.mono ?_
   rintro e w11 ⟨rfl, hx⟩
   have X11 := Lib.hid (X10.out.trans hx)
   have RP11 := Lib.hid (RP10.out.ext hx)
   replace n0 := hx.cellSome n0
   replace n1 := hx.cellSome n1
   clear hx HC p0 p1
   cases ro with
   | false =>
     go_wp2_with fail
     go_ret
     exact ⟨rfl, XA.out.trans (X8.out.trans X11.out)⟩
   | true =>
     have hsr := HNUC.out rfl
     subst hsr
     go_wp2_with fail
     have HC := Lib.hid (s_EqualVector (R8.out.ext X11.out) RP11.out)
     rw [decide_eq_true rfl] at HC
     refine HC.out.mono ?_
     rintro e w12 ⟨rfl, hx⟩
     have X12 := Lib.hid (X11.out.trans hx.ext)
     clear hx HC
     go_wp2_with fail
     go_ret
     exact ⟨rfl, XA.out.trans (X8.out.trans X12.out)⟩
end Go.Proofs.YthjjfkeacobikaaGreat
