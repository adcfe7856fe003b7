import Derived.Test.YtgohdmnbnhehnaaGreatKnAllG5
import Derived.Test.YtgohdmnbnhehnaaGreatKnAllG7
import Derived.Test.YtgohdmnbnhehnaaGreatKnAllG8
import Derived.Test.YtgohdmnbnhehnaaGreatKnAllG0
namespace Go.Proofs.YtgohdmnbnhehnaaGreat
set_option linter.unusedVariables false
set_option linter.unusedSimpArgs false
set_option maxRecDepth 100000
open Go.RowKit
set_option maxHeartbeats 1000000 in
theorem i_GrandValue {w : World} {p : Int} {a : Option Addr} {n cap : Nat} {V : List Int} (h : Ints w a n cap V) :
 Calls Tryz.prog 88 #[pair p a n cap] w fun e w' => e = .returned (.int .i64 (grandV p V)) ∧ Ext w w' := by
 have hi := h.alloc (.cells #[.int .i64 p, .slice a n cap] 47)
 have HX := Lib.hid (Ext.alloc w (.cells #[.int .i64 p, .slice a n cap] 47))
 have HL := Lib.hid h.hlen
 have HI := Lib.hid hi
 have HV := Lib.hid (i_IsValidGame (p := p) hi)
 clear h hi
 cases hv : gameOk p V
 ·rw [hv] at HV
  have HG := Lib.hid (grandV_no hv)
  clear hv
  go_enter Tryz.func88, Tryz.ntmps88
  go_wp2_with fail
  refine HV.out.mono ?_
  rintro e w1 ⟨rfl, hx⟩
  have X1 := Lib.hid (HX.out.trans hx)
  clear hx
  go_wp2_with fail
  go_ret
  exact ⟨ret_int HG.out.symm, X1.out⟩
 ·rw [hv] at HV
  obtain ⟨q, rfl, h1, h5, hlen, _, hbd⟩ := gameOk_len hv
  have hN := cN_le q h5
  obtain ⟨u, rfl⟩ : ∃ u, n = u + 1 := ⟨n - 1, by have := HL.out; omega⟩
  have HG := Lib.hid (show grandV (q : Int) V = V[u]?.getD 0 by rw [grandV_ok hv, HL.out]; rfl)
  have hu32 : u ≤ 31 := by have := HL.out; omega
  clear hv hlen hbd hN
  go_enter Tryz.func88, Tryz.ntmps88
  go_wp2_with fail
  refine HV.out.mono ?_
  rintro e w1 ⟨rfl, hx⟩
  have c1 : w1.cell? ⟨w.heap.size, 1, none⟩ = some (.slice a (u + 1) cap) := hx.cellSome (by simp)
  obtain ⟨b, off, rfl, hc⟩ := (HI.out.ext hx).at (show u < u + 1 by omega)
  have hlen1 : ((u + 1 : Nat) : Int) - 1 = (u : Int) := by omega
  have X1 := Lib.hid (HX.out.trans hx)
  clear hx
  go_wp2_with fail
  go_ret
  exact ⟨ret_int HG.out.symm, X1.out⟩
set_option maxHeartbeats 4000000 in
theorem i_AddScaled {w : World} {k1 k2 : Int} {a b : Option Addr} {n cap n' cap' : Nat} {A B : List (Int × Int)} (h : Rats w a n cap A) (h' : Rats w b n' cap' B) (hbig : n ≤ 1048576) :
 Calls Tryz.prog 248 #[.slice a n cap, ratV k1 k2, .slice b n' cap'] w fun e w' => (∃ v, e = .returned (.tuple #[v, .bool (sclL A (k1, k2) B).isSome]) ∧ OwnR w' w.heap.size v ((sclL A (k1, k2) B).getD [])) ∧ Ext w w' := by
 have HL := Lib.hid h.hlen
 have HL' := Lib.hid h'.hlen
 have hmax := h.hmax
 have hcap := h.hcap
 have hmax' := h'.hmax
 have hcap' := h'.hcap
 have HA := Lib.hid h
 have HB' := Lib.hid h'
 have HX := Lib.hid (Ext.alloc w (.cells #[.int .i64 k1, .int .i64 k2] 85))
 clear h h'
 by_cases hne : n = n'
 ·subst hne
  have HS := Lib.hid (show sclL A (k1, k2) B = runT (sclF A (k1, k2) B) n by unfold sclL; rw [HL.out, HL'.out, if_pos rfl])
  have HO := Lib.hid (OwnR.made (w.alloc (.cells #[.int .i64 k1, .int .i64 k2] 85)) (w.heap.size + 1) (by simp))
  go_enter Tryz.func248, Tryz.ntmps248
  go_wp2_with fail
  go_loopg [8, 22] n (fun gk o i wr => ∃ (k : Nat) (a1 : Option Addr) (n1 p1 : Nat) (r : List (Int × Int)), Hid (gk + k = n) ∧ i = .int .i64 (k : Int) ∧ o = .slice a1 n1 p1 ∧ Hid (runT (sclF A (k1, k2) B) k = some r) ∧ Hid (OwnR wr (w.heap.size + 1) (.slice a1 n1 p1) r) ∧ Hid (Ext (w.alloc (.cells #[.int .i64 k1, .int .i64 k2] 85)) wr))
  case atStart => exact ⟨0, _, _, _, [], Lib.hid (by omega), rfl, rfl, Lib.hid rfl, Lib.hid (by simpa using HO.out), Lib.hid (Ext.alloc _ _)⟩
  case round =>
   obtain ⟨k, a1, n1, p1, r, HK, rfl, rfl, HR, HO1, HX1⟩ := hrel
   have hszr := HX1.out.size
   rw [World.size_alloc] at hszr
   by_cases hlt : k < n
   ·have hkc0 : wr.cell? ⟨w.heap.size, 0, none⟩ = some (.int .i64 k1) := HX1.out.cellSome (by simp)
    have hkc1 : wr.cell? ⟨w.heap.size, 1, none⟩ = some (.int .i64 k2) := HX1.out.cellSome (by simp)
    obtain ⟨ab, aoff, ax, ay, ha, hax, hac0, hac1⟩ := ((HA.out.ext HX.out).ext HX1.out).at hlt
    obtain ⟨bb, boff, bx, by', hb, hbx, hbc0, hbc1⟩ := ((HB'.out.ext HX.out).ext HX1.out).at hlt
    subst ha hb
    have HAX := Lib.hid hax
    have HBX := Lib.hid hbx
    obtain ⟨p, q, one, hm⟩ : ∃ p q ok, mulR (k1, k2) (bx, by') = ((p, q), ok) := ⟨_, _, _, rfl⟩
    have HM := Lib.hid hm
    obtain ⟨p2, q2, two, hs2⟩ : ∃ u v ok, addR (ax, ay) (p, q) = ((u, v), ok) := ⟨_, _, _, rfl⟩
    have HS2 := Lib.hid hs2
    clear hax hbx hm hs2
    go_upto_region 7 with fail
    go_cut [10, 11] (fun sx so wx => ∃ g : Nat, sx = .pointer (some ⟨g, 0, none⟩) ∧ so = .bool one ∧ Hid (Boxed wr wx g p q))
    case first =>
     have hk2 : Ext wr wr.drew := Ext.drew wr
     have hka : Ext wr (wr.alloc (.cells #[.int .i64 0, .int .i64 0] 85)).drew := (Ext.alloc _ _).trans (Ext.drew _)
     have HKEEP := Lib.hid (fun (w' : World) (h : Ext wr w') => (⟨h.cellSome hkc0, h.cellSome hkc1, h.cellSome hbc0, h.cellSome hbc1, h⟩ : w'.cell? ⟨w.heap.size, 0, none⟩ = some (.int .i64 k1) ∧ w'.cell? ⟨w.heap.size, 1, none⟩ = some (.int .i64 k2) ∧ w'.cell? ⟨bb, boff + k * 2, none⟩ = some (.int .i64 bx) ∧ w'.cell? ⟨bb, boff + k * 2 + 1, none⟩ = some (.int .i64 by') ∧ Ext wr w'))
     go_region_held3 (fun w' => w'.cell? ⟨w.heap.size, 0, none⟩ = some (.int .i64 k1) ∧ w'.cell? ⟨w.heap.size, 1, none⟩ = some (.int .i64 k2) ∧ w'.cell? ⟨bb, boff + k * 2, none⟩ = some (.int .i64 bx) ∧ w'.cell? ⟨bb, boff + k * 2 + 1, none⟩ = some (.int .i64 by') ∧ Ext wr w')
      (first
        | with_reducible exact HKEEP.out _ hk2
        | with_reducible exact HKEEP.out _ hka
        | with_reducible exact HKEEP.out _ ((hk2.setCell (by first | (simp; done) | (simp; omega)) _).setCell (by first | (simp; done) | (simp; omega)) _)
        | with_reducible exact HKEEP.out _ (hk2.trans (Ext.alloc _ _))
        | with_reducible exact HKEEP.out _ (hBB.put _ _).ext)
      (first
        | (go_at_call 229
           (with_reducible refine (i_MulRat k1 k2 bx by' _).mono ?_)
           rw [HM.out]
           rintro e w3 ⟨rfl, hx_w3⟩
           first | (with_reducible have hBB := Boxed.grow hBB hx_w3) | (with_reducible have hBB := Boxed.firstD hx_w3) | (with_reducible have hBB := Boxed.laterD hk2 hx_w3) | skip
           first | (have b0_ := hBB.c0; have b1_ := hBB.c1; have fb_ := hBB.free) | skip
           have hk2 : Ext wr w3 := by first | with_reducible exact hk2.trans hx_w3 | with_reducible exact hka.trans hx_w3 | with_reducible exact (hk2.trans (Ext.alloc _ _)).trans hx_w3
           have hk2s := hk2.size)
        | fail)
     all_goals (go_wp2_with fail; go_meet; first | exact ⟨_, rfl, rfl, Lib.hid (hBB.put _ _)⟩ | exact ⟨_, rfl, rfl, Lib.hid (Boxed.new hk2 _ _)⟩ | exact ⟨_, rfl, rfl, Lib.hid (Boxed.new' hk2 _ _ (by simp))⟩)
    obtain ⟨g, rfl, rfl, HB1⟩ := hcut
    have g0 := HB1.out.c0
    have g1 := HB1.out.c1
    replace hac0 := HB1.out.ext.cellSome hac0
    replace hac1 := HB1.out.ext.cellSome hac1
    clear hkc0 hkc1 hbc0 hbc1
    go_upto_region 8 with fail
    go_cut [12, 13] (fun sx so wx => ∃ g2 : Nat, sx = .pointer (some ⟨g2, 0, none⟩) ∧ so = .bool two ∧ Hid (Boxed wc wx g2 p2 q2))
    case first =>
     have hk2 : Ext wc wc.drew := Ext.drew wc
     have hka : Ext wc (wc.alloc (.cells #[.int .i64 0, .int .i64 0] 85)).drew := (Ext.alloc _ _).trans (Ext.drew _)
     have HKEEP := Lib.hid (fun (w' : World) (h : Ext wc w') => (⟨h.cellSome hac0, h.cellSome hac1, h.cellSome g0, h.cellSome g1, h⟩ : w'.cell? ⟨ab, aoff + k * 2, none⟩ = some (.int .i64 ax) ∧ w'.cell? ⟨ab, aoff + k * 2 + 1, none⟩ = some (.int .i64 ay) ∧ w'.cell? ⟨g, 0, none⟩ = some (.int .i64 p) ∧ w'.cell? ⟨g, 1, none⟩ = some (.int .i64 q) ∧ Ext wc w'))
     go_region_held3 (fun w' => w'.cell? ⟨ab, aoff + k * 2, none⟩ = some (.int .i64 ax) ∧ w'.cell? ⟨ab, aoff + k * 2 + 1, none⟩ = some (.int .i64 ay) ∧ w'.cell? ⟨g, 0, none⟩ = some (.int .i64 p) ∧ w'.cell? ⟨g, 1, none⟩ = some (.int .i64 q) ∧ Ext wc w')
      (first
        | with_reducible exact HKEEP.out _ hk2
        | with_reducible exact HKEEP.out _ hka
        | with_reducible exact HKEEP.out _ ((hk2.setCell (by first | (simp; done) | (simp; omega)) _).setCell (by first | (simp; done) | (simp; omega)) _)
        | with_reducible exact HKEEP.out _ (hk2.trans (Ext.alloc _ _))
        | with_reducible exact HKEEP.out _ (hBB.put _ _).ext)
      (first
        | (go_at_call 147
           (with_reducible refine (i_AddRat ax ay p q _).mono ?_)
           rw [HS2.out]
           rintro e w4 ⟨rfl, hx_w4⟩
           first | (with_reducible have hBB := Boxed.grow hBB hx_w4) | (with_reducible have hBB := Boxed.firstD hx_w4) | (with_reducible have hBB := Boxed.laterD hk2 hx_w4) | skip
           first | (have b0_ := hBB.c0; have b1_ := hBB.c1; have fb_ := hBB.free) | skip
           have hk2 : Ext wc w4 := by first | with_reducible exact hk2.trans hx_w4 | with_reducible exact hka.trans hx_w4 | with_reducible exact (hk2.trans (Ext.alloc _ _)).trans hx_w4
           have hk2s := hk2.size)
        | fail)
     all_goals (go_wp2_with fail; go_meet; first | exact ⟨_, rfl, rfl, Lib.hid (hBB.put _ _)⟩ | exact ⟨_, rfl, rfl, Lib.hid (Boxed.new hk2 _ _)⟩ | exact ⟨_, rfl, rfl, Lib.hid (Boxed.new' hk2 _ _ (by simp))⟩)
    obtain ⟨g2, rfl, rfl, HB2⟩ := hcut
    have X2 := Lib.hid ((HX1.out.trans HB1.out.ext).trans HB2.out.ext)
    have HO2 := Lib.hid ((HO1.out.ext HB1.out.ext).ext HB2.out.ext)
    have h0 := HB2.out.c0
    have h1 := HB2.out.c1
    have HF := Lib.hid (show sclF A (k1, k2) B k = if (one && two) = true then some (p2, q2) else none by unfold sclF; rw [HAX.out, HBX.out, HM.out]; simp only; rw [HS2.out]; simp only [Bool.and_eq_true])
    clear hac0 hac1 g0 g1
    cases hb12 : (one && two)
    ·have HN := Lib.hid (show runT (sclF A (k1, k2) B) n = none from runT_fail HR.out (by rw [HF.out, hb12]; rfl) hlt)
     cases one
     case' true => (have h2 : two = false := by simpa using hb12); subst h2
     all_goals
      clear hb12
      go_wp2_with fail
      refine bodyPost_ret (v := .tuple #[.slice none 0 0, .bool false]) (by simp [results, Tryz.results248, go_sem]) rfl ⟨⟨.slice none 0 0, by rw [HS.out, HN.out]; rfl, by rw [HS.out, HN.out]; exact OwnR.nil _ _⟩, HX.out.trans X2.out⟩
    ·obtain ⟨rfl, rfl⟩ : one = true ∧ two = true := by simpa using hb12
     have HR2 := Lib.hid (runT_some (x := (p2, q2)) HR.out (by rw [HF.out]; rfl))
     have HLR := Lib.hid (runT_len HR.out)
     have hszc := X2.out.size
     rw [World.size_alloc] at hszc
     clear hb12
     go_wp2_with (first
      | (at_builtin; refine append_rats rfl _ _ rfl (w.heap.size + 1) (.slice a1 n1 p1) _ rfl (HO2.out.ext (Ext.alloc _ _)) _ 1 _ [(p2, q2)] rfl (Rats.one' _ _ _ _ _ (by simp)) (by rw [HLR.out]; omega) (by simp; omega) ?_; intro v2 w4 ho hg hnear; obtain ⟨a2, n2, c2, rfl, HN2⟩ := ho.var; have HO4 := Lib.hid ho; have X5 := Lib.hid (ext_grown (X2.out.trans (Ext.alloc _ _)) hg (fun j hj => by have := (HO2.out.lt j hj).1; simpa using this)); clear ho hg hnear))
     go_roundg (gk - 1)
     case measure => have := HK.out; omega
     case rel => exact ⟨k + 1, a2, n2, c2, _, Lib.hid (by have := HK.out; omega), by go_num, rfl, HR2, HO4, X5⟩
   ·have hkn : k = n := by have := HK.out; omega
    subst hkn
    go_wp2_with fail
    refine bodyPost_ret (v := .tuple #[.slice a1 n1 p1, .bool true]) (by simp [results, Tryz.results248, go_sem]) rfl ⟨⟨.slice a1 n1 p1, by rw [HS.out, HR.out]; rfl, by rw [HS.out, HR.out]; exact HO1.out.mono (Nat.le_succ _)⟩, HX.out.trans HX1.out⟩
 ·have HN := Lib.hid (show sclL A (k1, k2) B = none by unfold sclL; rw [HL.out, HL'.out, if_neg hne])
  go_enter Tryz.func248, Tryz.ntmps248
  go_wp2_with fail
  refine bodyPost_ret (v := .tuple #[.slice none 0 0, .bool false]) (by simp [results, Tryz.results248, go_sem]) rfl ⟨⟨.slice none 0 0, by rw [HN.out]; rfl, by rw [HN.out]; exact OwnR.nil _ _⟩, HX.out⟩
theorem wholeL_snoc {C : List Int} {k : Nat} (h : k < C.length) : wholeL (C.take k) ++ [(C[k]?.getD 0, 1)] = wholeL (C.take (k + 1)) := by
 rw [take_snoc h]; simp [wholeL]
def ratsL (C : List Int) : List (Int × Int) := if fitL C = true then wholeL C else []
set_option maxHeartbeats 4000000 in
theorem i_IntsToRats {w : World} {a : Option Addr} {n cap : Nat} {C : List Int} (h : Ints w a n cap C) (hbig : n ≤ 1048576) :
 Calls Tryz.prog 134 #[.slice a n cap] w fun e w' => (∃ v, e = .returned (.tuple #[v, .bool (fitL C)]) ∧ OwnR w' w.heap.size v (ratsL C)) ∧ Ext w w' := by
 have HL := Lib.hid h.hlen
 have hmax := h.hmax
 have hcap := h.hcap
 have HC := Lib.hid h
 clear h
 have HO := Lib.hid (OwnR.made w w.heap.size (Nat.le_refl _))
 go_enter Tryz.func134, Tryz.ntmps134
 go_wp2_with fail
 go_loopg [4, 10] n (fun gk o i wr => ∃ (k : Nat) (a1 : Option Addr) (n1 p1 : Nat), Hid (gk + k = n) ∧ i = .int .i64 (k : Int) ∧ o = .slice a1 n1 p1 ∧ Hid (fitL (C.take k) = true) ∧ Hid (OwnR wr w.heap.size (.slice a1 n1 p1) (wholeL (C.take k))) ∧ Hid (Ext w wr))
 case atStart => exact ⟨0, _, _, _, Lib.hid (by omega), rfl, rfl, Lib.hid rfl, HO, Lib.hid (Ext.alloc _ _)⟩
 case round =>
  obtain ⟨k, a1, n1, p1, HK, rfl, rfl, HF, HO1, HX1⟩ := hrel
  by_cases hlt : k < n
  ·obtain ⟨b, off, ha, hc⟩ := (HC.out.ext HX1.out).at hlt
   subst ha
   obtain ⟨c, hcc⟩ : ∃ c, c = C[k]?.getD 0 := ⟨_, rfl⟩
   rw [← hcc] at hc
   have HCC := Lib.hid hcc
   have hszr := HX1.out.size
   clear hcc
   have HKL := Lib.hid (show k < C.length by have := HL.out; omega)
   cases hin : inB c (-1000000000) 1000000000
   ·have HN := Lib.hid (show fitL C = false by
     rw [← Bool.not_eq_true]; intro hh
     have := all_get (k := k) hh HKL.out
     rw [← HCC.out, hin] at this; cases this)
    have HI := Lib.hid (i_within c (-1000000000) 1000000000 wr)
    rw [hin] at HI
    clear hin
    go_wp2_with fail
    refine HI.out.mono ?_
    rintro e w2 ⟨rfl, rfl⟩
    go_wp2_with fail
    refine bodyPost_ret (v := .tuple #[.slice none 0 0, .bool false]) (by simp [results, Tryz.results134, go_sem]) rfl ⟨⟨.slice none 0 0, by rw [HN.out], by unfold ratsL; rw [HN.out]; exact OwnR.nil _ _⟩, HX1.out⟩
   ·have HF2 := Lib.hid (show fitL (C.take (k + 1)) = true by
     unfold fitL
     rw [take_snoc HKL.out, List.all_append]
     have := HF.out; unfold fitL at this
     rw [this, ← HCC.out]
     simp only [List.all_cons, List.all_nil, hin, Bool.and_self])
    have HI := Lib.hid (i_within c (-1000000000) 1000000000 wr)
    rw [hin] at HI
    clear hin
    go_wp2_with fail
    refine HI.out.mono ?_
    rintro e w2 ⟨rfl, rfl⟩
    have HLW := Lib.hid (show (wholeL (C.take k)).length = k by rw [wholeL_len, List.length_take]; have := HKL.out; omega)
    go_wp2_with (first
     | (go_at_call 87; refine (i_whole c _).mono ?_; rintro e w3 ⟨rfl, hx3⟩; have HX3 := Lib.hid hx3; have HO3 := Lib.hid (HO1.out.ext hx3); have hsz3 := hx3.size; clear hx3)
     | (at_builtin; refine append_rats rfl _ _ rfl w.heap.size (.slice a1 n1 p1) _ rfl (HO3.out.ext (Ext.alloc _ _)) _ 1 _ [(c, 1)] rfl (Rats.one' _ _ _ _ _ (by simp)) (by rw [HLW.out]; omega) (by simp; omega) ?_; intro v2 w4 ho hg hnear; obtain ⟨a2, n2, c2, rfl, HN2⟩ := ho.var; have HO4 := Lib.hid ho; have X4 := Lib.hid (ext_grown ((HX1.out.trans HX3.out).trans (Ext.alloc _ _)) hg (fun j hj => (HO3.out.lt j hj).1)); clear ho hg hnear))
    go_roundg (gk - 1)
    case measure => have := HK.out; omega
    case rel => exact ⟨k + 1, a2, n2, c2, Lib.hid (by have := HK.out; omega), by go_num, rfl, HF2, Lib.hid (by have := HO4.out; rw [HCC.out, wholeL_snoc HKL.out] at this; exact this), X4⟩
  ·have hkn : k = n := by have := HK.out; omega
   subst hkn
   have HT := Lib.hid (show C.take k = C from List.take_of_length_le (by rw [HL.out]; exact Nat.le_refl _))
   go_wp2_with fail
   refine bodyPost_ret (v := .tuple #[.slice a1 n1 p1, .bool true]) (by simp [results, Tryz.results134, go_sem]) rfl ⟨⟨.slice a1 n1 p1, ?_, ?_⟩, HX1.out⟩
   ·have := HF.out; rw [HT.out] at this; rw [this]
   ·have h1 := HF.out; have h2 := HO1.out; rw [HT.out] at h1 h2; unfold ratsL; rw [if_pos h1]; exact h2
set_option maxHeartbeats 400000 in
theorem i_rats {w : World} {a : Option Addr} {n cap : Nat} {C : List Int} (h : Ints w a n cap C) (hbig : n ≤ 1048576) :
 Calls Tryz.prog 67 #[.slice a n cap] w fun e w' => (∃ v, e = .returned v ∧ OwnR w' w.heap.size v (ratsL C)) ∧ Ext w w' := by
 have HI := Lib.hid (i_IntsToRats h hbig)
 clear h
 go_enter Tryz.func67, Tryz.ntmps67
 go_wp2_with fail
 refine HI.out.mono ?_
 rintro e w1 ⟨⟨v, rfl, ho⟩, hx⟩
 have HO := Lib.hid ho
 have HX := Lib.hid hx
 clear ho hx
 go_wp2_with fail
 go_ret
 exact ⟨⟨v, rfl, HO.out⟩, HX.out⟩
def negR (r : Int × Int) : Int × Int := (-r.1, r.2)
structure Tb where
 rows : List (List (Int × Int))
 basis : List Int
 cols : Int
def Tb.row (t : Tb) (i : Nat) : List (Int × Int) := t.rows[i]?.getD []
def Tb.at (t : Tb) (i j : Nat) : Int × Int := (t.row i)[j]?.getD (0, 0)
def tbOk (t : Tb) : Bool :=
 inB t.cols 0 1000 && (decide (t.basis.length = t.rows.length) && (t.basis.all (fun b => inB b 0 (t.cols + t.rows.length - 1)) && t.rows.all (fun r => decide ((r.length : Int) = t.cols + t.rows.length + 1))))
def divF (A : List (Int × Int)) (p : Int × Int) (i : Nat) : Option (Int × Int) := if (divR (A[i]?.getD (0, 0)) p).2 = true then some (divR (A[i]?.getD (0, 0)) p).1 else none
def divL (A : List (Int × Int)) (p : Int × Int) : Option (List (Int × Int)) := runT (divF A p) A.length
def pivF (t : Tb) (row col : Nat) (main : List (Int × Int)) (st : List (List (Int × Int))) (i : Nat) : Option (List (List (Int × Int))) :=
 if (i = row ∨ t.at i col = (0, 1)) then some st else (sclL (t.row i) (negR (t.at i col)) main).map fun r => st.set i r
def pivN (t : Tb) (row col : Nat) (main : List (Int × Int)) : Nat → Option (List (List (Int × Int)))
 | 0 => some (t.rows.set row main)
 | k + 1 => (pivN t row col main k).bind fun st => pivF t row col main st k
def pivotG (t : Tb) (row col : Nat) : Option Tb :=
 (divL (t.row row) (t.at row col)).bind fun main => (pivN t row col main t.rows.length).map fun rs => ⟨rs, t.basis.set row (col : Int), t.cols⟩
def pivArgs (t : Tb) (row col : Int) : Bool := tbOk t && (inB row 0 (t.rows.length - 1) && inB col 0 (t.cols + t.rows.length - 1))
def pivotT (t : Tb) (row col : Int) : Option Tb := if pivArgs t row col = true then pivotG t row.toNat col.toNat else none
def costN (t : Tb) (cost : List (Int × Int)) : Nat → Option (List (Int × Int))
 | 0 => some (cost ++ [(0, 1)])
 | k + 1 => (costN t cost k).bind fun out => sclL out (negR (cost[(t.basis[k]?.getD 0).toNat]?.getD (0, 0))) (t.row k)
def costOk (t : Tb) (cost : List (Int × Int)) : Bool := tbOk t && (decide ((cost.length : Int) = t.cols + t.rows.length) && allV cost)
def costT (t : Tb) (cost : List (Int × Int)) : Option (List (Int × Int)) := if costOk t cost = true then costN t cost t.rows.length else none
def solN (t : Tb) : Nat → List (Int × Int)
 | 0 => List.replicate (t.cols.toNat + t.rows.length) (0, 1)
 | k + 1 => (solN t k).set (t.basis[k]?.getD 0).toNat (t.at k (t.cols.toNat + t.rows.length))
def solT (t : Tb) : List (Int × Int) := if tbOk t = true then solN t t.rows.length else []
def belowZ (c : Int × Int) : Bool := decide (cmpR c (0, 1) < 0)
def enterT (costs : List (Int × Int)) (last : Int) : Int := if (costs.length : Int) < last then -1 else indexF belowZ (costs.take last.toNat)
def leaveF (t : Tb) (col : Nat) (st : Int × (Int × Int)) (i : Nat) : Int × (Int × Int) :=
 if cmpR (t.at i col) (0, 1) ≤ 0 then st
 else if (divR (t.at i (t.cols.toNat + t.rows.length)) (t.at i col)).2 = false then st
 else if st.1 < 0 ∨ cmpR (divR (t.at i (t.cols.toNat + t.rows.length)) (t.at i col)).1 st.2 < 0 ∨ (cmpR (divR (t.at i (t.cols.toNat + t.rows.length)) (t.at i col)).1 st.2 = 0 ∧ t.basis[i]?.getD 0 < t.basis[st.1.toNat]?.getD 0)
  then ((i : Int), (divR (t.at i (t.cols.toNat + t.rows.length)) (t.at i col)).1) else st
def leaveN (t : Tb) (col : Nat) : Nat → Int × (Int × Int)
 | 0 => (-1, (0, 0))
 | k + 1 => leaveF t col (leaveN t col k) k
def leaveT (t : Tb) (col : Int) : Int := if (tbOk t && inB col 0 (t.cols + t.rows.length - 1)) = true then (leaveN t col.toNat t.rows.length).1 else -1
structure Ph where
 t : Tb
 left : Nat
 costs : List (Int × Int)
 col : Int
def phaseT (cost : List (Int × Int)) : Nat → Tb → Option Ph
 | f, t => match costT t cost with
   | none => none
   | some cs =>
     if enterT cs t.cols < 0 then some ⟨t, f, cs, -1⟩
     else if leaveT t (enterT cs t.cols) < 0 then some ⟨t, f, cs, enterT cs t.cols⟩
     else match f with
      | 0 => none
      | f + 1 => match pivotT t (leaveT t (enterT cs t.cols)) (enterT cs t.cols) with
        | none => none
        | some t' => phaseT cost f t'
def offZ (c : Int × Int) : Bool := decide (c ≠ (0, 1))
def driveF (n : Nat) (s : Tb × Nat) (k : Nat) : Option (Tb × Nat) :=
 if s.1.basis[k]?.getD 0 < n then some s
 else if indexF offZ ((s.1.row k).take n) < 0 then some s
 else match s.2 with
  | 0 => none
  | f + 1 => (pivotT s.1 k (indexF offZ ((s.1.row k).take n))).map fun t => (t, f)
def driveN (n : Nat) (s : Tb × Nat) : Nat → Option (Tb × Nat)
 | 0 => some s
 | k + 1 => (driveN n s k).bind fun s' => driveF n s' k
def sideI (b : Int) : Int := if b < 0 then -1 else 1
def unitL (m i : Nat) : List (Int × Int) := (List.range m).map fun k => if k = i then (1, 1) else (0, 1)
def startRow (A : List (List Int)) (B : List Int) (i : Nat) : List (Int × Int) :=
 ((A[i]?.getD []).map fun x => (sideI (B[i]?.getD 0) * x, 1)) ++ unitL A.length i ++ [(sideI (B[i]?.getD 0) * B[i]?.getD 0, 1)]
def startT (A : List (List Int)) (B : List Int) (n : Nat) : Tb := ⟨(List.range A.length).map (startRow A B), (List.range A.length).map fun i => ((n + i : Nat) : Int), n⟩
def dotN (A B : List (Int × Int)) : Nat → Option (Int × Int)
 | 0 => some (0, 1)
 | k + 1 => (dotN A B k).bind fun s => if (mulR (A[k]?.getD (0, 0)) (B[k]?.getD (0, 0))).2 = true ∧ (addR s (mulR (A[k]?.getD (0, 0)) (B[k]?.getD (0, 0))).1).2 = true
     then some (addR s (mulR (A[k]?.getD (0, 0)) (B[k]?.getD (0, 0))).1).1 else none
def dotL (A B : List (Int × Int)) : Option (Int × Int) := if A.length = B.length then dotN A B A.length else none
def okLP (A : List (List Int)) (B : List Int) (C : List (Int × Int)) : Bool :=
 decide (C.length ≤ 70) && (decide (A.length ≤ 8) && (decide (B.length = A.length) && (allV C && (A.all (fun r => decide (r.length = C.length) && r.all (inB · (-5000) 5000)) && B.all (inB · (-5000) 5000)))))
def colL (A : List (List Int)) (j : Nat) : List Int := A.map fun r => r[j]?.getD 0
def posV (x : List (Int × Int)) : Bool := x.all fun r => valR r && decide (0 ≤ r.1)
def givesB (A : List (List Int)) (x : List (Int × Int)) (B : List Int) : Bool := (List.range A.length).all fun i => decide (dotL (wholeL (A[i]?.getD [])) x = some (B[i]?.getD 0, 1))
def feasB (A : List (List Int)) (B : List Int) (n : Nat) (x : List (Int × Int)) : Bool := decide (x.length = n) && (posV x && givesB A x B)
structure LpR where
 status : Int
 X : List (Int × Int)
 Y : List (Int × Int)
 ray : List (Int × Int)
 value : Int × Int
 pivots : Int
deriving DecidableEq
def lpZero (s : Int) : LpR := ⟨s, [], [], [], (0, 0), 0⟩
def boundI (A : List (List Int)) (Y C : List (Int × Int)) (j : Nat) : Bool :=
 match dotL Y (wholeL (colL A j)) with
 | none => false
 | some v => (subR (C[j]?.getD (0, 0)) v).2 && decide (0 ≤ (subR (C[j]?.getD (0, 0)) v).1.1)
def boundS (A : List (List Int)) (Y C : List (Int × Int)) (j : Nat) : Bool :=
 match dotL Y (wholeL (colL A j)) with
 | none => false
 | some v => decide (0 ≤ cmpR (C[j]?.getD (0, 0)) v)
def meetB (B : List Int) (C : List (Int × Int)) (r : LpR) : Bool :=
 match dotL C r.X, dotL r.Y (wholeL B) with
 | some x, some y => decide (x = y) && decide (x = r.value)
 | _, _ => false
def proofNo (A : List (List Int)) (B : List Int) (n : Nat) (Y : List (Int × Int)) : Bool :=
 (List.range n).all (fun j => match dotL Y (wholeL (colL A j)) with | none => false | some v => decide (v.1 ≤ 0)) && (match dotL Y (wholeL B) with | none => false | some v => decide (0 < v.1))
def rayB (A : List (List Int)) (B : List Int) (C : List (Int × Int)) (ray : List (Int × Int)) : Bool :=
 decide (ray.length = C.length) && (posV ray && (givesB A ray (List.replicate B.length 0) && (match dotL C ray with | none => false | some v => decide (v.1 < 0))))
def checkG (bound : List (List Int) → List (Int × Int) → List (Int × Int) → Nat → Bool) (A : List (List Int)) (B : List Int) (C : List (Int × Int)) (r : LpR) : Bool :=
 if r.status = 1 then feasB A B C.length r.X && (decide (r.Y.length = B.length) && ((List.range C.length).all (bound A r.Y C) && meetB B C r))
 else if r.status = 2 then decide (r.Y.length = B.length) && proofNo A B C.length r.Y
 else if r.status = 3 then feasB A B C.length r.X && rayB A B C r.ray
 else false
def sgnR (b : Int) (y : Int × Int) : Int × Int := if b < 0 then negR y else y
def dualF (B : List Int) (base : Int × Int) (cs : List (Int × Int)) (n i : Nat) : Option (Int × Int) :=
 if (subR base (cs[n + i]?.getD (0, 0))).2 = true then some (sgnR (B[i]?.getD 0) (subR base (cs[n + i]?.getD (0, 0))).1) else none
def dualO (B : List Int) (cs : List (Int × Int)) (n i : Nat) : Int × Int := sgnR (B[i]?.getD 0) (negR (cs[n + i]?.getD (0, 0)))
def rayN (t : Tb) (n col : Nat) : Nat → List (Int × Int)
 | 0 => (List.range n).map fun j => if j = col then (1, 1) else (0, 1)
 | k + 1 => if t.basis[k]?.getD 0 < n then (rayN t n col k).set (t.basis[k]?.getD 0).toNat (negR (t.at k col)) else rayN t n col k
def costs1 (n m : Nat) : List (Int × Int) := List.replicate n (0, 1) ++ List.replicate m (1, 1)
def costs2 (C : List (Int × Int)) (m : Nat) : List (Int × Int) := C ++ List.replicate m (0, 1)
def rawT (A : List (List Int)) (B : List Int) (C : List (Int × Int)) : Option LpR :=
 (phaseT (costs1 C.length B.length) 1000 (startT A B C.length)).bind fun p1 =>
   if (p1.costs[C.length + B.length]?.getD (0, 0)).1 < 0 then
    (runT (dualF B (1, 1) p1.costs C.length) B.length).map fun Y => ⟨2, [], Y, [], (0, 0), 1000 - p1.left⟩
   else (driveN C.length (p1.t, p1.left) B.length).bind fun s => (phaseT (costs2 C B.length) s.2 s.1).map fun p2 =>
    if 0 ≤ p2.col then ⟨3, (solT p2.t).take C.length, [], rayN p2.t C.length p2.col.toNat B.length, (0, 0), 1000 - p2.left⟩
    else ⟨1, (solT p2.t).take C.length, (List.range B.length).map (dualO B p2.costs C.length), [], negR (p2.costs[C.length + B.length]?.getD (0, 0)), 1000 - p2.left⟩
def solveG (bound : List (List Int) → List (Int × Int) → List (Int × Int) → Nat → Bool) (A : List (List Int)) (B : List Int) (C : List (Int × Int)) : LpR :=
 if okLP A B C = true then
  match rawT A B C with
  | none => lpZero 4
  | some r => if checkG bound A B C r = true then r else lpZero 4
 else lpZero 0
end Go.Proofs.YtgohdmnbnhehnaaGreat
