import Derived.Test.YthjjfkeacobikaaGreatTaAllG9
import Derived.Test.YthjjfkeacobikaaGreatTaAllG12
import Derived.Test.YthjjfkeacobikaaGreatTaAllG11
import Derived.Test.YthjjfkeacobikaaGreatTaAllG8
import Derived.Test.YthjjfkeacobikaaGreatTaAllG6
set_option linter.unusedVariables false
set_option linter.unusedSimpArgs false
namespace Go.Proofs.YthjjfkeacobikaaGreat
open Go.RowKit
theorem sum_congrN {F G : Nat → Int} : ∀ n, (∀ k, k < n → F k = G k) → ((List.range n).map F).sum = ((List.range n).map G).sum
 | n, h => by
   congr 1
   exact List.map_congr_left fun k hk => h k (List.mem_range.1 hk)
set_option maxRecDepth 100000
set_option maxHeartbeats 4000000 in
theorem i_AddScaled {w : World} {k1 k2 : Int} {a b : Option Addr} {n cap n' cap' : Nat} {A B : List (Int × Int)} (h : Rats w a n cap A) (h' : Rats w b n' cap' B) (hbig : n ≤ 1048576) :
 Calls Tryz.prog 141 #[.slice a n cap, ratV k1 k2, .slice b n' cap'] w fun e w' => (∃ v, e = .returned (.tuple #[v, .bool (sclL A (k1, k2) B).isSome]) ∧ OwnR w' w.heap.size v ((sclL A (k1, k2) B).getD [])) ∧ Ext w w' := by
 have HL := Lib.hid h.hlen
 have HL' := Lib.hid h'.hlen
 have hmax := h.hmax
 have hcap := h.hcap
 have hmax' := h'.hmax
 have hcap' := h'.hcap
 have HA := Lib.hid h
 have HB' := Lib.hid h'
 have HX := Lib.hid (Ext.alloc w (.cells #[.int .i64 k1, .int .i64 k2] 43))
 clear h h'
 by_cases hne : n = n'
 ·subst hne
  have HS := Lib.hid (show sclL A (k1, k2) B = runT (sclF A (k1, k2) B) n by unfold sclL; rw [HL.out, HL'.out, if_pos rfl])
  have HO := Lib.hid (OwnR.made (w.alloc (.cells #[.int .i64 k1, .int .i64 k2] 43)) (w.heap.size + 1) (by simp))
  go_enter Tryz.func141, Tryz.ntmps141
  go_wp2_with fail
  go_loopg [8, 22] n (fun gk o i wr => ∃ (k : Nat) (a1 : Option Addr) (n1 p1 : Nat) (r : List (Int × Int)), Hid (gk + k = n) ∧ i = .int .i64 (k : Int) ∧ o = .slice a1 n1 p1 ∧ Hid (runT (sclF A (k1, k2) B) k = some r) ∧ Hid (OwnR wr (w.heap.size + 1) (.slice a1 n1 p1) r) ∧ Hid (Ext (w.alloc (.cells #[.int .i64 k1, .int .i64 k2] 43)) wr))
  case atStart => exact ⟨0, _, _, _, [], Lib.hid (by omega), rfl, rfl, Lib.hid rfl, Lib.hid (by simpa using HO.out), Lib.hid (Ext.alloc _ _)⟩
  case round =>
   obtain ⟨k, a1, n1, p1, r, HK, rfl, rfl, HR, HO1, HX1⟩ := hrel
   have hszr := HX1.out.size
   rw [World.size_alloc] at hszr
   by_cases hlt : k < n
   ·have hkc0 : wr.cell? ⟨w.heap.size, 0, none⟩ = some (.int .i64 k1) := HX1.out.cellSome (by simp)
    have hkc1 : wr.cell? ⟨w.heap.size, 1, none⟩ = some (.int .i64 k2) := HX1.out.cellSome (by simp)
    obtain ⟨ab, aoff, ax, ay, ha, hax, hac0, hac1⟩ := ((HA.out.ext HX.out).ext HX1.out).at hlt
    obtain ⟨bb, boff, bx, by', hb, hbx, hbc0, hbc1⟩ := ((HB'.out.ext HX.out).ext HX1.out).at hlt
    subst ha hb
    have HAX := Lib.hid hax
    have HBX := Lib.hid hbx
    obtain ⟨p, q, one, hm⟩ : ∃ p q ok, mulR (k1, k2) (bx, by') = ((p, q), ok) := ⟨_, _, _, rfl⟩
    have HM := Lib.hid hm
    obtain ⟨p2, q2, two, hs2⟩ : ∃ u v ok, addR (ax, ay) (p, q) = ((u, v), ok) := ⟨_, _, _, rfl⟩
    have HS2 := Lib.hid hs2
    clear hax hbx hm hs2
    go_upto_region 7 with fail
    go_cut [10, 11] (fun sx so wx => ∃ g : Nat, sx = .pointer (some ⟨g, 0, none⟩) ∧ so = .bool one ∧ Hid (Boxed wr wx g p q))
    case first =>
     have hk2 : Ext wr wr.drew := Ext.drew wr
     have hka : Ext wr (wr.alloc (.cells #[.int .i64 0, .int .i64 0] 43)).drew := (Ext.alloc _ _).trans (Ext.drew _)
     have HKEEP := Lib.hid (fun (w' : World) (h : Ext wr w') => (⟨h.cellSome hkc0, h.cellSome hkc1, h.cellSome hbc0, h.cellSome hbc1, h⟩ : w'.cell? ⟨w.heap.size, 0, none⟩ = some (.int .i64 k1) ∧ w'.cell? ⟨w.heap.size, 1, none⟩ = some (.int .i64 k2) ∧ w'.cell? ⟨bb, boff + k * 2, none⟩ = some (.int .i64 bx) ∧ w'.cell? ⟨bb, boff + k * 2 + 1, none⟩ = some (.int .i64 by') ∧ Ext wr w'))
     go_region_held3 (fun w' => w'.cell? ⟨w.heap.size, 0, none⟩ = some (.int .i64 k1) ∧ w'.cell? ⟨w.heap.size, 1, none⟩ = some (.int .i64 k2) ∧ w'.cell? ⟨bb, boff + k * 2, none⟩ = some (.int .i64 bx) ∧ w'.cell? ⟨bb, boff + k * 2 + 1, none⟩ = some (.int .i64 by') ∧ Ext wr w')
      (first
        | with_reducible exact HKEEP.out _ hk2
        | with_reducible exact HKEEP.out _ hka
        | with_reducible exact HKEEP.out _ ((hk2.setCell (by first | (simp; done) | (simp; omega)) _).setCell (by first | (simp; done) | (simp; omega)) _)
        | with_reducible exact HKEEP.out _ (hk2.trans (Ext.alloc _ _))
        | with_reducible exact HKEEP.out _ (hBB.put _ _).ext)
      (first
        | (go_at_call 210
           (with_reducible refine (i_MulRat k1 k2 bx by' _).mono ?_)
           rw [HM.out]
           rintro e w3 ⟨rfl, hx_w3⟩
           first | (with_reducible have hBB := Boxed.grow hBB hx_w3) | (with_reducible have hBB := Boxed.firstD hx_w3) | (with_reducible have hBB := Boxed.laterD hk2 hx_w3) | skip
           first | (have b0_ := hBB.c0; have b1_ := hBB.c1; have fb_ := hBB.free) | skip
           have hk2 : Ext wr w3 := by first | with_reducible exact hk2.trans hx_w3 | with_reducible exact hka.trans hx_w3 | with_reducible exact (hk2.trans (Ext.alloc _ _)).trans hx_w3
           have hk2s := hk2.size)
        | fail)
     all_goals (go_wp2_with fail; go_meet; first | exact ⟨_, rfl, rfl, Lib.hid (hBB.put _ _)⟩ | exact ⟨_, rfl, rfl, Lib.hid (Boxed.new hk2 _ _)⟩ | exact ⟨_, rfl, rfl, Lib.hid (Boxed.new' hk2 _ _ (by simp))⟩)
    obtain ⟨g, rfl, rfl, HB1⟩ := hcut
    have g0 := HB1.out.c0
    have g1 := HB1.out.c1
    replace hac0 := HB1.out.ext.cellSome hac0
    replace hac1 := HB1.out.ext.cellSome hac1
    clear hkc0 hkc1 hbc0 hbc1
    go_upto_region 8 with fail
    go_cut [12, 13] (fun sx so wx => ∃ g2 : Nat, sx = .pointer (some ⟨g2, 0, none⟩) ∧ so = .bool two ∧ Hid (Boxed wc wx g2 p2 q2))
    case first =>
     have hk2 : Ext wc wc.drew := Ext.drew wc
     have hka : Ext wc (wc.alloc (.cells #[.int .i64 0, .int .i64 0] 43)).drew := (Ext.alloc _ _).trans (Ext.drew _)
     have HKEEP := Lib.hid (fun (w' : World) (h : Ext wc w') => (⟨h.cellSome hac0, h.cellSome hac1, h.cellSome g0, h.cellSome g1, h⟩ : w'.cell? ⟨ab, aoff + k * 2, none⟩ = some (.int .i64 ax) ∧ w'.cell? ⟨ab, aoff + k * 2 + 1, none⟩ = some (.int .i64 ay) ∧ w'.cell? ⟨g, 0, none⟩ = some (.int .i64 p) ∧ w'.cell? ⟨g, 1, none⟩ = some (.int .i64 q) ∧ Ext wc w'))
     go_region_held3 (fun w' => w'.cell? ⟨ab, aoff + k * 2, none⟩ = some (.int .i64 ax) ∧ w'.cell? ⟨ab, aoff + k * 2 + 1, none⟩ = some (.int .i64 ay) ∧ w'.cell? ⟨g, 0, none⟩ = some (.int .i64 p) ∧ w'.cell? ⟨g, 1, none⟩ = some (.int .i64 q) ∧ Ext wc w')
      (first
        | with_reducible exact HKEEP.out _ hk2
        | with_reducible exact HKEEP.out _ hka
        | with_reducible exact HKEEP.out _ ((hk2.setCell (by first | (simp; done) | (simp; omega)) _).setCell (by first | (simp; done) | (simp; omega)) _)
        | with_reducible exact HKEEP.out _ (hk2.trans (Ext.alloc _ _))
        | with_reducible exact HKEEP.out _ (hBB.put _ _).ext)
      (first
        | (go_at_call 169
           (with_reducible refine (i_AddRat ax ay p q _).mono ?_)
           rw [HS2.out]
           rintro e w4 ⟨rfl, hx_w4⟩
           first | (with_reducible have hBB := Boxed.grow hBB hx_w4) | (with_reducible have hBB := Boxed.firstD hx_w4) | (with_reducible have hBB := Boxed.laterD hk2 hx_w4) | skip
           first | (have b0_ := hBB.c0; have b1_ := hBB.c1; have fb_ := hBB.free) | skip
           have hk2 : Ext wc w4 := by first | with_reducible exact hk2.trans hx_w4 | with_reducible exact hka.trans hx_w4 | with_reducible exact (hk2.trans (Ext.alloc _ _)).trans hx_w4
           have hk2s := hk2.size)
        | fail)
     all_goals (go_wp2_with fail; go_meet; first | exact ⟨_, rfl, rfl, Lib.hid (hBB.put _ _)⟩ | exact ⟨_, rfl, rfl, Lib.hid (Boxed.new hk2 _ _)⟩ | exact ⟨_, rfl, rfl, Lib.hid (Boxed.new' hk2 _ _ (by simp))⟩)
    obtain ⟨g2, rfl, rfl, HB2⟩ := hcut
    have X2 := Lib.hid ((HX1.out.trans HB1.out.ext).trans HB2.out.ext)
    have HO2 := Lib.hid ((HO1.out.ext HB1.out.ext).ext HB2.out.ext)
    have h0 := HB2.out.c0
    have h1 := HB2.out.c1
    have HF := Lib.hid (show sclF A (k1, k2) B k = if (one && two) = true then some (p2, q2) else none by unfold sclF; rw [HAX.out, HBX.out, HM.out]; simp only; rw [HS2.out]; simp only [Bool.and_eq_true])
    clear hac0 hac1 g0 g1
    cases hb12 : (one && two)
    ·have HN := Lib.hid (show runT (sclF A (k1, k2) B) n = none from runT_fail HR.out (by rw [HF.out, hb12]; rfl) hlt)
     cases one
     case' true => (have h2 : two = false := by simpa using hb12); subst h2
     all_goals
      clear hb12
      go_wp2_with fail
      refine bodyPost_ret (v := .tuple #[.slice none 0 0, .bool false]) (by simp [results, Tryz.results141, go_sem]) rfl ⟨⟨.slice none 0 0, by rw [HS.out, HN.out]; rfl, by rw [HS.out, HN.out]; exact OwnR.nil _ _⟩, HX.out.trans X2.out⟩
    ·obtain ⟨rfl, rfl⟩ : one = true ∧ two = true := by simpa using hb12
     have HR2 := Lib.hid (runT_some (x := (p2, q2)) HR.out (by rw [HF.out]; rfl))
     have HLR := Lib.hid (runT_len HR.out)
     have hszc := X2.out.size
     rw [World.size_alloc] at hszc
     clear hb12
     go_wp2_with (first
      | (at_builtin; refine append_rats rfl _ _ rfl (w.heap.size + 1) (.slice a1 n1 p1) _ rfl (HO2.out.ext (Ext.alloc _ _)) _ 1 _ [(p2, q2)] rfl (Rats.one' _ _ _ _ _ (by simp)) (by rw [HLR.out]; omega) (by simp; omega) ?_; intro v2 w4 ho hg hnear; obtain ⟨a2, n2, c2, rfl, HN2⟩ := ho.var; have HO4 := Lib.hid ho; have X5 := Lib.hid (ext_grown (X2.out.trans (Ext.alloc _ _)) hg (fun j hj => by have := (HO2.out.lt j hj).1; simpa using this)); clear ho hg hnear))
     go_roundg (gk - 1)
     case measure => have := HK.out; omega
     case rel => exact ⟨k + 1, a2, n2, c2, _, Lib.hid (by have := HK.out; omega), by go_num, rfl, HR2, HO4, X5⟩
   ·have hkn : k = n := by have := HK.out; omega
    subst hkn
    go_wp2_with fail
    refine bodyPost_ret (v := .tuple #[.slice a1 n1 p1, .bool true]) (by simp [results, Tryz.results141, go_sem]) rfl ⟨⟨.slice a1 n1 p1, by rw [HS.out, HR.out]; rfl, by rw [HS.out, HR.out]; exact HO1.out.mono (Nat.le_succ _)⟩, HX.out.trans HX1.out⟩
 ·have HN := Lib.hid (show sclL A (k1, k2) B = none by unfold sclL; rw [HL.out, HL'.out, if_neg hne])
  go_enter Tryz.func141, Tryz.ntmps141
  go_wp2_with fail
  refine bodyPost_ret (v := .tuple #[.slice none 0 0, .bool false]) (by simp [results, Tryz.results141, go_sem]) rfl ⟨⟨.slice none 0 0, by rw [HN.out]; rfl, by rw [HN.out]; exact OwnR.nil _ _⟩, HX.out⟩
theorem wholeL_snoc {C : List Int} {k : Nat} (h : k < C.length) : wholeL (C.take k) ++ [(C[k]?.getD 0, 1)] = wholeL (C.take (k + 1)) := by
 rw [take_snoc h]; simp [wholeL]
def ratsL (C : List Int) : List (Int × Int) := if fitL C = true then wholeL C else []
set_option maxHeartbeats 4000000 in
theorem i_IntsToRats {w : World} {a : Option Addr} {n cap : Nat} {C : List Int} (h : Ints w a n cap C) (hbig : n ≤ 1048576) :
 Calls Tryz.prog 240 #[.slice a n cap] w fun e w' => (∃ v, e = .returned (.tuple #[v, .bool (fitL C)]) ∧ OwnR w' w.heap.size v (ratsL C)) ∧ Ext w w' := by
 have HL := Lib.hid h.hlen
 have hmax := h.hmax
 have hcap := h.hcap
 have HC := Lib.hid h
 clear h
 have HO := Lib.hid (OwnR.made w w.heap.size (Nat.le_refl _))
 go_enter Tryz.func240, Tryz.ntmps240
 go_wp2_with fail
 go_loopg [4, 10] n (fun gk o i wr => ∃ (k : Nat) (a1 : Option Addr) (n1 p1 : Nat), Hid (gk + k = n) ∧ i = .int .i64 (k : Int) ∧ o = .slice a1 n1 p1 ∧ Hid (fitL (C.take k) = true) ∧ Hid (OwnR wr w.heap.size (.slice a1 n1 p1) (wholeL (C.take k))) ∧ Hid (Ext w wr))
 case atStart => exact ⟨0, _, _, _, Lib.hid (by omega), rfl, rfl, Lib.hid rfl, HO, Lib.hid (Ext.alloc _ _)⟩
 case round =>
  obtain ⟨k, a1, n1, p1, HK, rfl, rfl, HF, HO1, HX1⟩ := hrel
  by_cases hlt : k < n
  ·obtain ⟨b, off, ha, hc⟩ := (HC.out.ext HX1.out).at hlt
   subst ha
   obtain ⟨c, hcc⟩ : ∃ c, c = C[k]?.getD 0 := ⟨_, rfl⟩
   rw [← hcc] at hc
   have HCC := Lib.hid hcc
   have hszr := HX1.out.size
   clear hcc
   have HKL := Lib.hid (show k < C.length by have := HL.out; omega)
   cases hin : inB c (-1000000000) 1000000000
   ·have HN := Lib.hid (show fitL C = false by
     rw [← Bool.not_eq_true]; intro hh
     have := all_get (k := k) hh HKL.out
     rw [← HCC.out, hin] at this; cases this)
    have HI := Lib.hid (i_within c (-1000000000) 1000000000 wr)
    rw [hin] at HI
    clear hin
    go_wp2_with fail
    refine HI.out.mono ?_
    rintro e w2 ⟨rfl, rfl⟩
    go_wp2_with fail
    refine bodyPost_ret (v := .tuple #[.slice none 0 0, .bool false]) (by simp [results, Tryz.results240, go_sem]) rfl ⟨⟨.slice none 0 0, by rw [HN.out], by unfold ratsL; rw [HN.out]; exact OwnR.nil _ _⟩, HX1.out⟩
   ·have HF2 := Lib.hid (show fitL (C.take (k + 1)) = true by
     unfold fitL
     rw [take_snoc HKL.out, List.all_append]
     have := HF.out; unfold fitL at this
     rw [this, ← HCC.out]
     simp only [List.all_cons, List.all_nil, hin, Bool.and_self])
    have HI := Lib.hid (i_within c (-1000000000) 1000000000 wr)
    rw [hin] at HI
    clear hin
    go_wp2_with fail
    refine HI.out.mono ?_
    rintro e w2 ⟨rfl, rfl⟩
    have HLW := Lib.hid (show (wholeL (C.take k)).length = k by rw [wholeL_len, List.length_take]; have := HKL.out; omega)
    go_wp2_with (first
     | (go_at_call 112; refine (i_whole c _).mono ?_; rintro e w3 ⟨rfl, hx3⟩; have HX3 := Lib.hid hx3; have HO3 := Lib.hid (HO1.out.ext hx3); have hsz3 := hx3.size; clear hx3)
     | (at_builtin; refine append_rats rfl _ _ rfl w.heap.size (.slice a1 n1 p1) _ rfl (HO3.out.ext (Ext.alloc _ _)) _ 1 _ [(c, 1)] rfl (Rats.one' _ _ _ _ _ (by simp)) (by rw [HLW.out]; omega) (by simp; omega) ?_; intro v2 w4 ho hg hnear; obtain ⟨a2, n2, c2, rfl, HN2⟩ := ho.var; have HO4 := Lib.hid ho; have X4 := Lib.hid (ext_grown ((HX1.out.trans HX3.out).trans (Ext.alloc _ _)) hg (fun j hj => (HO3.out.lt j hj).1)); clear ho hg hnear))
    go_roundg (gk - 1)
    case measure => have := HK.out; omega
    case rel => exact ⟨k + 1, a2, n2, c2, Lib.hid (by have := HK.out; omega), by go_num, rfl, HF2, Lib.hid (by have := HO4.out; rw [HCC.out, wholeL_snoc HKL.out] at this; exact this), X4⟩
  ·have hkn : k = n := by have := HK.out; omega
   subst hkn
   have HT := Lib.hid (show C.take k = C from List.take_of_length_le (by rw [HL.out]; exact Nat.le_refl _))
   go_wp2_with fail
   refine bodyPost_ret (v := .tuple #[.slice a1 n1 p1, .bool true]) (by simp [results, Tryz.results240, go_sem]) rfl ⟨⟨.slice a1 n1 p1, ?_, ?_⟩, HX1.out⟩
   ·have := HF.out; rw [HT.out] at this; rw [this]
   ·have h1 := HF.out; have h2 := HO1.out; rw [HT.out] at h1 h2; unfold ratsL; rw [if_pos h1]; exact h2
set_option maxHeartbeats 400000 in
theorem i_rats {w : World} {a : Option Addr} {n cap : Nat} {C : List Int} (h : Ints w a n cap C) (hbig : n ≤ 1048576) :
 Calls Tryz.prog 179 #[.slice a n cap] w fun e w' => (∃ v, e = .returned v ∧ OwnR w' w.heap.size v (ratsL C)) ∧ Ext w w' := by
 have HI := Lib.hid (i_IntsToRats h hbig)
 clear h
 go_enter Tryz.func179, Tryz.ntmps179
 go_wp2_with fail
 refine HI.out.mono ?_
 rintro e w1 ⟨⟨v, rfl, ho⟩, hx⟩
 have HO := Lib.hid ho
 have HX := Lib.hid hx
 clear ho hx
 go_wp2_with fail
 go_ret
 exact ⟨⟨v, rfl, HO.out⟩, HX.out⟩
def lessL (C : List Int) (L : List (Int × Int)) : Option (List (Int × Int)) := sclL (ratsL C) (-1, 1) L
theorem ratsL_len (C : List Int) : (ratsL C).length ≤ C.length := by unfold ratsL; split <;> simp [wholeL_len]
set_option maxHeartbeats 400000 in
theorem i_claimsLess {w : World} {a b : Option Addr} {n cap m cap' : Nat} {C : List Int} {L : List (Int × Int)} (h : Ints w a n cap C) (h' : Rats w b m cap' L) (hbig : n ≤ 1048576) :
 Calls Tryz.prog 114 #[.slice a n cap, .slice b m cap'] w fun e w' => (∃ v, e = .returned (.tuple #[v, .bool (lessL C L).isSome]) ∧ OwnR w' w.heap.size v ((lessL C L).getD [])) ∧ Ext w w' := by
 have HI := Lib.hid (i_rats h hbig)
 have HC := Lib.hid (ratsL_len C)
 have HL := Lib.hid h.hlen
 have HB := Lib.hid h'
 clear h h'
 go_enter Tryz.func114, Tryz.ntmps114
 go_wp2_with fail
 refine HI.out.mono ?_
 rintro e w1 ⟨⟨v, rfl, ho⟩, hx⟩
 obtain ⟨a1, n1, p1, rfl, HN⟩ := ho.var
 have HO := Lib.hid ho
 have HX := Lib.hid hx
 clear ho hx
 go_wp2_with fail
 refine (i_whole _ _).mono ?_
 rintro e w2 ⟨rfl, hx⟩
 have HX2 := Lib.hid (HX.out.trans hx)
 have HO2 := Lib.hid (HO.out.ext hx)
 clear hx
 have HA := Lib.hid (i_AddScaled (k1 := -1) (k2 := 1) HO2.out.rats (HB.out.ext HX2.out) (by have := HC.out; have := HL.out; have := HN.out; omega))
 go_wp2_with fail
 refine HA.out.mono ?_
 rintro e w3 ⟨⟨v, rfl, ho⟩, hx⟩
 have HO3 := Lib.hid (ho.mono HX2.out.size)
 have HX3 := Lib.hid (HX2.out.trans hx)
 clear ho hx
 go_wp2_with fail
 refine bodyPost_ret (v := .tuple #[v, .bool (lessL C L).isSome]) (by simp [results, Tryz.results114, go_sem, lessL]) rfl ⟨⟨v, rfl, HO3.out⟩, HX3.out⟩
set_option maxHeartbeats 4000000 in
theorem s_l18Lose {w : World} {a b : Option Addr} {n cap m cap' : Nat} {C : List Int} {L : List (Int × Int)} (h : Ints w a n cap C) (h' : Rats w b m cap' L) (hmn : m ≤ n) (hbig : n ≤ 1048576) :
 Calls Tryz.prog 119 #[.slice a n cap, .slice b m cap'] w fun e w' => (∃ v, e = .returned (.tuple #[v, .bool (runT (loseF C L) m).isSome]) ∧ OwnR w' w.heap.size v ((runT (loseF C L) m).getD [])) ∧ Ext w w' := by
 have HL := Lib.hid h.hlen
 have hmax := h.hmax
 have hcap := h.hcap
 have hmax' := h'.hmax
 have hcap' := h'.hcap
 have HC := Lib.hid h
 have HB := Lib.hid h'
 clear h h'
 have HO := Lib.hid (OwnR.made w w.heap.size (Nat.le_refl _))
 go_enter Tryz.func119, Tryz.ntmps119
 go_wp2_with fail
 go_loopg [6, 7] m (fun gk o i wr => ∃ (k : Nat) (a1 : Option Addr) (n1 p1 : Nat) (r : List (Int × Int)), Hid (gk + k = m) ∧ i = .int .i64 (k : Int) ∧ o = .slice a1 n1 p1 ∧ Hid (runT (loseF C L) k = some r) ∧ Hid (OwnR wr w.heap.size (.slice a1 n1 p1) r) ∧ Hid (Ext w wr))
 case atStart => exact ⟨0, _, _, _, [], Lib.hid (by omega), rfl, rfl, Lib.hid rfl, HO, Lib.hid (Ext.alloc _ _)⟩
 case round =>
  obtain ⟨k, a1, n1, p1, r, HK, rfl, rfl, HR, HO1, HX1⟩ := hrel
  have hszr := HX1.out.size
  by_cases hlt : k < m
  ·have hltn : k < n := by omega
   obtain ⟨ab, aoff, ha, hac⟩ := (HC.out.ext HX1.out).at hltn
   obtain ⟨bb, boff, bx, by', hb, hbx, hbc0, hbc1⟩ := (HB.out.ext HX1.out).at hlt
   subst ha hb
   obtain ⟨c, hcc⟩ : ∃ c, c = C[k]?.getD 0 := ⟨_, rfl⟩
   rw [← hcc] at hac
   obtain ⟨p, q, ok, hm⟩ : ∃ p q ok, subR (c, 1) (bx, by') = ((p, q), ok) := ⟨_, _, _, rfl⟩
   have HM := Lib.hid hm
   have HF := Lib.hid (show loseF C L k = if ok = true then some (p, q) else none by unfold loseF; rw [← hcc, hbx, hm])
   clear hcc hbx hm
   go_upto_region 5 with fail
   go_cut [8, 9] (fun sx so wx => ∃ g : Nat, sx = .pointer (some ⟨g, 0, none⟩) ∧ so = .bool ok ∧ Hid (Boxed wr wx g p q))
   case first =>
    have hk2 : Ext wr wr.drew := Ext.drew wr
    have hka : Ext wr (wr.alloc (.cells #[.int .i64 0, .int .i64 0] 43)).drew := (Ext.alloc _ _).trans (Ext.drew _)
    have HKEEP := Lib.hid (fun (w' : World) (h : Ext wr w') => (⟨h.cellSome hac, h.cellSome hbc0, h.cellSome hbc1, h⟩ : w'.cell? ⟨ab, aoff + k, none⟩ = some (.int .i64 c) ∧ w'.cell? ⟨bb, boff + k * 2, none⟩ = some (.int .i64 bx) ∧ w'.cell? ⟨bb, boff + k * 2 + 1, none⟩ = some (.int .i64 by') ∧ Ext wr w'))
    go_region_held3 (fun w' => w'.cell? ⟨ab, aoff + k, none⟩ = some (.int .i64 c) ∧ w'.cell? ⟨bb, boff + k * 2, none⟩ = some (.int .i64 bx) ∧ w'.cell? ⟨bb, boff + k * 2 + 1, none⟩ = some (.int .i64 by') ∧ Ext wr w')
     (first
       | with_reducible exact HKEEP.out _ hk2
       | with_reducible exact HKEEP.out _ hka
       | with_reducible exact HKEEP.out _ ((hk2.setCell (by first | (simp; done) | (simp; omega)) _).setCell (by first | (simp; done) | (simp; omega)) _)
       | with_reducible exact HKEEP.out _ (hk2.trans (Ext.alloc _ _))
       | with_reducible exact HKEEP.out _ (hBB.put _ _).ext)
     (first
       | (go_at_call 86
          (with_reducible refine (s_l3Int c _).mono ?_)
          rintro e w2 ⟨rfl, hx_w2⟩
          first | (with_reducible have hBB := Boxed.grow hBB hx_w2) | (with_reducible have hBB := Boxed.firstD hx_w2) | (with_reducible have hBB := Boxed.laterD hk2 hx_w2) | skip
          first | (have b0_ := hBB.c0; have b1_ := hBB.c1; have fb_ := hBB.free) | skip
          have hk2 : Ext wr w2 := by first | with_reducible exact hk2.trans hx_w2 | with_reducible exact hka.trans hx_w2 | with_reducible exact (hk2.trans (Ext.alloc _ _)).trans hx_w2
          have hk2s := hk2.size)
       | (go_at_call 184
          (with_reducible refine (s_SubRat c 1 bx by' _).mono ?_)
          rw [HM.out]
          rintro e w3 ⟨rfl, hx_w3⟩
          first | (with_reducible have hBB := Boxed.grow hBB hx_w3) | (with_reducible have hBB := Boxed.firstD hx_w3) | (with_reducible have hBB := Boxed.laterD hk2 hx_w3) | skip
          first | (have b0_ := hBB.c0; have b1_ := hBB.c1; have fb_ := hBB.free) | skip
          have hk2 : Ext wr w3 := by first | with_reducible exact hk2.trans hx_w3 | with_reducible exact hka.trans hx_w3 | with_reducible exact (hk2.trans (Ext.alloc _ _)).trans hx_w3
          have hk2s := hk2.size)
       | fail)
    all_goals (go_wp2_with fail; go_meet; first | exact ⟨_, rfl, rfl, Lib.hid (hBB.put _ _)⟩ | exact ⟨_, rfl, rfl, Lib.hid (Boxed.new hk2 _ _)⟩ | exact ⟨_, rfl, rfl, Lib.hid (Boxed.new' hk2 _ _ (by simp))⟩)
   obtain ⟨g, rfl, rfl, HB1⟩ := hcut
   have g0 := HB1.out.c0
   have g1 := HB1.out.c1
   have X2 := Lib.hid (HX1.out.trans HB1.out.ext)
   have HO2 := Lib.hid (HO1.out.ext HB1.out.ext)
   clear hac hbc0 hbc1
   have hszc := X2.out.size
   cases ok
   ·have HN := Lib.hid (show runT (loseF C L) m = none from runT_fail HR.out (by rw [HF.out]; rfl) hlt)
    have HM2 := Lib.hid (OwnR.made wc w.heap.size hszc)
    go_wp2_with fail
    refine bodyPost_ret (v := .tuple #[.slice (some ⟨wc.heap.size, 0, none⟩) 0 0, .bool false]) (by simp [results, Tryz.results119, go_sem]) rfl ⟨⟨_, by rw [HN.out]; rfl, by rw [HN.out]; exact HM2.out⟩, X2.out.trans (Ext.alloc _ _)⟩
   ·have HR2 := Lib.hid (runT_some (x := (p, q)) HR.out (by rw [HF.out]; rfl))
    have HLR := Lib.hid (runT_len HR.out)
    go_wp2_with (first
     | (at_builtin; refine append_rats rfl _ _ rfl w.heap.size (.slice a1 n1 p1) _ rfl (HO2.out.ext (Ext.alloc _ _)) _ 1 _ [(p, q)] rfl (Rats.one' _ _ _ _ _ (by simp)) (by rw [HLR.out]; omega) (by simp; omega) ?_; intro v2 w4 ho hg hnear; obtain ⟨a2, n2, c2, rfl, HN2⟩ := ho.var; have HO4 := Lib.hid ho; have X5 := Lib.hid (ext_grown (X2.out.trans (Ext.alloc _ _)) hg (fun j hj => (HO2.out.lt j hj).1)); clear ho hg hnear))
    go_roundg (gk - 1)
    case measure => have := HK.out; omega
    case rel => exact ⟨k + 1, a2, n2, c2, _, Lib.hid (by have := HK.out; omega), by go_num, rfl, HR2, HO4, X5⟩
  ·have hkn : k = m := by have := HK.out; omega
   subst hkn
   go_wp2_with fail
   refine bodyPost_ret (v := .tuple #[.slice a1 n1 p1, .bool true]) (by simp [results, Tryz.results119, go_sem]) rfl ⟨⟨.slice a1 n1 p1, by rw [HR.out]; rfl, by rw [HR.out]; exact HO1.out⟩, HX1.out⟩
theorem fits_good {C : List Int} {x y : Int} (h : fitsR C x y = true) : 1 ≤ C.length ∧ C.length ≤ 5 ∧ ∀ k : Nat, 0 ≤ C[k]?.getD 0 ∧ C[k]?.getD 0 ≤ 100000 := by
 simp only [fitsR, small, Bool.and_eq_true, inB, decide_eq_true_eq, List.all_eq_true] at h
 obtain ⟨⟨h1, h2⟩, _⟩ := h
 refine ⟨by omega, by omega, fun k => ?_⟩
 by_cases hk : k < C.length
 ·have := h1 _ (List.getElem_mem hk); simpa [hk] using this
 ·simp [List.getElem?_eq_none (by omega : C.length ≤ k)]
theorem rrow_other {w : World} {b : Nat} {t : TypeId} {l : List (Int × Int)} (h : RRow w b t l) {a : Addr} (hne : b ≠ a.block) (v : Value) : RRow (w.setCell a v) b t l := (heap_setCell_other w a b v hne).trans h
theorem seqI_snoc (k : Int) (m : Nat) : seqI k m ++ [k + (m : Int)] = seqI k (m + 1) := by simp [seqI, List.range_succ]
set_option maxHeartbeats 8000000 in
theorem i_EqualAwards {w : World} {x y : Int} {a : Option Addr} {n cap : Nat} {C : List Int} (h : Ints w a n cap C) :
 Calls Tryz.prog 111 #[.slice a n cap, ratV x y] w fun e w' => (∃ v, e = .returned (.tuple #[v, .bool (awardOk C x y)]) ∧ OwnR w' w.heap.size v (awardL C x y)) ∧ Ext w w' := by
 obtain ⟨W, hW⟩ : ∃ W, W = (w.alloc (.cells #[.slice a n cap] 24)).alloc (.cells #[.int .i64 x, .int .i64 y] 43) := ⟨_, rfl⟩
 have hX : Ext w W := by rw [hW]; exact (Ext.alloc _ _).trans (Ext.alloc _ _)
 have HX := Lib.hid hX
 have HI := Lib.hid (h.ext hX)
 have hb0 : W.heap[w.heap.size]? = some (.cells #[.slice a n cap] 24 (0, 0)) := by rw [hW, heapA_old _ _ _ (by simp)]; exact heapA_new _ _ _ rfl
 have hb1 : W.heap[w.heap.size + 1]? = some (.cells #[.int .i64 x, .int .i64 y] 43 (0, 0)) := by rw [hW]; exact heapA_new _ _ _ (by simp)
 have hsz : W.heap.size = w.heap.size + 1 + 1 := by rw [hW]; simp
 have c0 := cell_of_one hb0
 obtain ⟨d0, d1, _⟩ := rcell hb1
 have HW := Lib.hid hW
 have HSZ := Lib.hid hsz
 have HF := Lib.hid (i_divisible (x := x) (y := y) HI.out)
 have HL := Lib.hid h.hlen
 have hmax := h.hmax
 have hcap := h.hcap
 clear h hX hb0 hb1 hsz hW
 cases hfit : fitsR C x y
 ·have HN := Lib.hid (show awardOk C x y = false by simp [awardOk, hfit])
  have HNL := Lib.hid (show awardL C x y = [] by simp [awardL, hfit])
  rw [hfit] at HF
  clear hfit
  go_enter Tryz.func111, Tryz.ntmps111
  go_wp2_with fail
  rw [← HW.out]
  refine HF.out.mono ?_
  rintro e w1 ⟨rfl, hx⟩
  go_wp2
  rw [HN.out, HNL.out]
  refine bodyPost_ret (v := .tuple #[.slice none 0 0, .bool false]) (by simp [results, Tryz.results111, go_sem]) rfl ⟨⟨_, rfl, OwnR.nil _ _⟩, HX.out.trans hx⟩
 ·rw [hfit] at HF
  obtain ⟨h1, h5, hbd⟩ := fits_good hfit
  have HBD := Lib.hid hbd
  have hn1 : 1 ≤ n := by have := HL.out; omega
  have hn5 : n ≤ 5 := by have := HL.out; omega
  have HFIT := Lib.hid hfit
  have hmk := mk_rats n (by omega)
  clear hfit hbd h1 h5
  go_enter Tryz.func111, Tryz.ntmps111
  go_wp2_with fail
  rw [← HW.out]
  refine HF.out.mono ?_
  rintro e w1 ⟨rfl, hx⟩
  replace c0 := hx.cellSome c0
  replace d0 := hx.cellSome d0
  replace d1 := hx.cellSome d1
  have X1 := Lib.hid hx
  have C1 := Lib.hid c0
  have D0 := Lib.hid d0
  have D1 := Lib.hid d1
  have hs1 : w.heap.size + 1 < w1.heap.size := World.block_lt_of_cell? _ _ d0
  have hs0 : w.heap.size < w1.heap.size := by omega
  have HO := Lib.hid (OwnI.madeS w1 w1.heap.size _ rfl (Nat.le_refl _))
  clear hx
  go_wp2
  go_loopw [6, 23] (fun o i wr => ∃ (k : Nat) (a1 : Option Addr) (n1 p1 : Nat), k ≤ n ∧ i = .int .i64 (k : Int) ∧ o = .slice a1 n1 p1 ∧ Hid (OwnI wr w1.heap.size (.slice a1 n1 p1) (seqI 0 k)) ∧ Hid (Ext w1 wr)) (fun _ i _ => n - (intOf i).toNat)
  case atStart => exact ⟨0, _, _, _, Nat.zero_le _, rfl, rfl, HO, Lib.hid (Ext.alloc _ _)⟩
  case round =>
   obtain ⟨k, a1, n1, p1, hk, rfl, rfl, HO1, HX1⟩ := hrel
   have hszr := HX1.out.size
   by_cases hlt : k < n
   ·go_wp2_with (first
     | (at_builtin; refine append_ints rfl _ _ rfl w1.heap.size (.slice a1 n1 p1) _ rfl (HO1.out.ext (Ext.alloc _ _)) _ 1 _ [(k : Int)] rfl (Ints.one _ _ _) (by rw [seqI_len]; omega) (by simp; omega) ?_; intro v2 w4 ho hg hnear; obtain ⟨a2, n2, c2, rfl, HN2⟩ := ho.var; have HO4 := Lib.hid ho; have X4 := Lib.hid (ext_grown (HX1.out.trans (Ext.alloc _ _)) hg (fun j hj => (HO1.out.lt j hj).1)); clear ho hg hnear))
    go_roundw
    case rel => exact ⟨k + 1, a2, n2, c2, by omega, by go_num, rfl, Lib.hid (by have := HO4.out; rw [show (k : Int) = 0 + (k : Int) by omega, seqI_snoc] at this; exact this), X4⟩
    case measure => simp [intOf]; omega
   ·have hkn : k = n := by omega
    subst hkn
    have hn1' : n1 = k := by have := HO1.out.ints.hlen; rw [seqI_len] at this; omega
    subst hn1'
    replace c0 := HX1.out.cellSome c0
    replace d0 := HX1.out.cellSome d0
    replace d1 := HX1.out.cellSome d1
    have C0 := Lib.hid c0
    have HIS := Lib.hid (i_sortS (C := C) (w0 := w1) (cb := w.heap.size) C1.out (HI.out.ext X1.out) HBD.out rfl hn1 hn5 HX1.out (Nat.le_refl _) HO1.out)
    have hcf : ∀ (args : Array Value) (w : World), (callFunc 176 args).run Tryz.prog w = .ok (.enter 176 args) w := go_EqualAwards1
    go_wp2_with fail
    refine HIS.out.mono ?_
    rintro e w2 ⟨rfl, ho, hx⟩
    have HO2 := Lib.hid ho
    have X2 := Lib.hid hx
    have c0' := hx.cellSome C1.out
    clear d0 d1 c0
    have d0 : w2.cell? ⟨w.heap.size + 1, 0, none⟩ = some (.int .i64 x) := hx.cellSome D0.out
    have d1 : w2.cell? ⟨w.heap.size + 1, 1, none⟩ = some (.int .i64 y) := hx.cellSome D1.out
    have hlw2 : w.heap.size + 1 < w2.heap.size := World.block_lt_of_cell? _ _ d0
    have hlw3 : w.heap.size < w2.heap.size := by omega
    clear ho hx
    go_wp2
    go_loopw [40] (fun i wr => ∃ (k : Nat) (l1 l2 : Int) (r : List (Int × Int)), k ≤ n1 ∧ i = .int .i64 (k : Int) ∧ Hid (runA C n1 (x, y) (List.replicate n1 (0, 0)) k = some ((l1, l2), r)) ∧ Hid (RRow wr w2.heap.size 43 r) ∧ Hid (wr.heap[w2.heap.size + 1]? = some (.cells #[.int .i64 l1, .int .i64 l2] 43 (0, 0))) ∧ Hid (Ext w2 wr)) (fun i _ => n1 - (intOf i).toNat)
    case atStart => exact ⟨0, x, y, _, Nat.zero_le _, rfl, Lib.hid rfl, Lib.hid (by unfold RRow; rw [heapA_old _ _ _ (by simp)]; exact heapA_new _ _ _ rfl), Lib.hid (heapA_new _ _ _ (by simp)), Lib.hid ((Ext.alloc _ _).trans (Ext.alloc _ _))⟩
    case round =>
     obtain ⟨k, l1, l2, r, hk, rfl, HR, HRR, HLF, HXr⟩ := hrel
     obtain ⟨e0, e1, fe⟩ := rcell HLF.out
     have hszr := HXr.out.size
     have hleft : w2.heap.size + 1 < wr.heap.size := lt_of_block HLF.out
     by_cases hlt : k < n1
     ·obtain ⟨hoi, hoe⟩ := ordA_lt C n1 hlt
      obtain ⟨oi, hoi'⟩ : ∃ i, i = ordA C n1 k := ⟨_, rfl⟩
      rw [← hoi'] at hoi hoe
      have HOI := Lib.hid hoi'
      obtain ⟨ob, ooff, hoa, hoc⟩ := (HO2.out.ext HXr.out).ints.at (k := k) hlt
      rw [hoe] at hoc
      obtain ⟨m, hm⟩ : ∃ m : Nat, m = n1 - k := ⟨_, rfl⟩
      have hmi : (n1 : Int) - (k : Int) = (m : Int) := by omega
      have hmw : IntKind.i64.wrap ((n1 : Int) - (k : Int)) = (m : Int) := by rw [hmi, IntKind.wrap_i64]; omega
      have hmw2 : IntKind.i64.wrap (m : Int) = (m : Int) := by rw [IntKind.wrap_i64]; omega
      obtain ⟨p, q, ok, hpq⟩ : ∃ p q ok, divR (l1, l2) ((m : Int), 1) = ((p, q), ok) := ⟨_, _, _, rfl⟩
      have HPQ := Lib.hid hpq
      have HM := Lib.hid hm
      subst hoa
      clear hoe hoi' hm hpq
      have hk2 : Ext wr wr.drew := Ext.drew wr
      have hka : Ext wr (wr.alloc (.cells #[.int .i64 0, .int .i64 0] 43)).drew := (Ext.alloc _ _).trans (Ext.drew _)
      have HKEEP := Lib.hid (fun (w' : World) (h : Ext wr w') => (⟨h.cellSome e0, h.cellSome e1, h⟩ : w'.cell? ⟨w2.heap.size + 1, 0, none⟩ = some (.int .i64 l1) ∧ w'.cell? ⟨w2.heap.size + 1, 1, none⟩ = some (.int .i64 l2) ∧ Ext wr w'))
      go_wp2
      go_region_held3 (fun w' => w'.cell? ⟨w2.heap.size + 1, 0, none⟩ = some (.int .i64 l1) ∧ w'.cell? ⟨w2.heap.size + 1, 1, none⟩ = some (.int .i64 l2) ∧ Ext wr w')
       (first
         | with_reducible exact HKEEP.out _ hk2
         | with_reducible exact HKEEP.out _ hka
         | with_reducible exact HKEEP.out _ ((hk2.setCell (by first | (simp; done) | (simp; omega)) _).setCell (by first | (simp; done) | (simp; omega)) _)
         | with_reducible exact HKEEP.out _ (hk2.trans (Ext.alloc _ _)))
       (first
         | (go_at_call 112
            refine (i_whole _ _).mono ?_
            rintro e w3 ⟨rfl, hx3⟩
            have hk2 : Ext wr w3 := by first | with_reducible exact hk2.trans hx3 | with_reducible exact hka.trans hx3
            have hs3 := hk2.size
            first | (have hA1 : w3.heap[wr.heap.size]? = some (.cells #[.int .i64 0, .int .i64 0] 43 (0, 0)) := (hx3.block _ (by simp)).trans (heap_alloc_new wr (.cells #[.int .i64 0, .int .i64 0] 43))) | skip)
         | (go_at_call 113
            refine (i_DivRat l1 l2 (m : Int) 1 _).mono ?_
            rw [HPQ.out]
            rintro e w4 ⟨rfl, hx4⟩
            have hk2 : Ext wr w4 := by first | with_reducible exact hk2.trans hx4 | with_reducible exact (hk2.trans (Ext.alloc _ _)).trans hx4
            have hs4 := hk2.size
            first | (have hB1 := (hx4.block _ (lt_of_block hA1)).trans hA1; obtain ⟨b0, b1, fb⟩ := rcell hB1) | (have hB2 : w4.heap[w3.heap.size]? = some (.cells #[.int .i64 0, .int .i64 0] 43 (0, 0)) := (hx4.block _ (by simp)).trans (heap_alloc_new w3 (.cells #[.int .i64 0, .int .i64 0] 43)); obtain ⟨b0, b1, fb⟩ := rcell hB2) | skip)
         | fail)
      all_goals
       have hE := (‹_ ∧ _ ∧ Ext wr _›).2.2
       first
        | (have hbx : ((w4.setCell ⟨wr.heap.size, 0, none⟩ (.int .i64 p)).setCell ⟨wr.heap.size, 1, none⟩ (.int .i64 q)).heap[wr.heap.size]? = some (.cells #[.int .i64 p, .int .i64 q] 43 (0, 0)) := by rw [heap_setCell_same _ _ _ _ _ _ (heap_setCell_same _ _ _ _ _ _ hB1)]; rfl
           generalize (w4.setCell ⟨wr.heap.size, 0, none⟩ (.int .i64 p)).setCell ⟨wr.heap.size, 1, none⟩ (.int .i64 q) = wF at hbx hE ⊢
           obtain ⟨bx, hbX⟩ : ∃ b, b = wr.heap.size := ⟨_, rfl⟩
           rw [← hbX] at hbx ⊢
           have hge : wr.heap.size ≤ bx := by omega
           clear hbX)
        | (have hbx : ((w4.setCell ⟨w3.heap.size, 0, none⟩ (.int .i64 p)).setCell ⟨w3.heap.size, 1, none⟩ (.int .i64 q)).heap[w3.heap.size]? = some (.cells #[.int .i64 p, .int .i64 q] 43 (0, 0)) := by rw [heap_setCell_same _ _ _ _ _ _ (heap_setCell_same _ _ _ _ _ _ hB2)]; rfl
           generalize (w4.setCell ⟨w3.heap.size, 0, none⟩ (.int .i64 p)).setCell ⟨w3.heap.size, 1, none⟩ (.int .i64 q) = wF at hbx hE ⊢
           have hge := hs3
           generalize w3.heap.size = bx at hbx hge ⊢)
        | (have hbx := heap_alloc_new w4 (.cells #[.int .i64 p, .int .i64 q] 43)
           generalize w4.alloc (.cells #[.int .i64 p, .int .i64 q] 43) = wF at hbx hE ⊢
           have hge := hs4
           generalize w4.heap.size = bx at hbx hge ⊢)
       obtain ⟨v0, v1, fv⟩ := rcell hbx
       have HBX := Lib.hid hbx
       have XF := Lib.hid (HXr.out.trans hE)
       have HIF := Lib.hid (HI.out.ext ((X1.out.trans X2.out).trans XF.out))
       have cF := XF.out.cellSome c0'
       have e0F := hE.cellSome e0
       have e1F := hE.cellSome e1
       have XALL := Lib.hid (HX.out.trans ((X1.out.trans X2.out).trans XF.out))
       clear hbx
       cases ok
       ·have HN := Lib.hid (show runA C n1 (x, y) (List.replicate n1 (0, 0)) n1 = none by
         have h1 : runA C n1 (x, y) (List.replicate n1 (0, 0)) (k + 1) = none := by
          rw [runA_succ C n1 HR.out]
          unfold stepA
          rw [if_neg]
          simp only [← HM.out, HPQ.out]
          simp
         have h2 := runA_none C n1 h1 (n1 - (k + 1))
         rwa [show k + 1 + (n1 - (k + 1)) = n1 by omega] at h2)
        go_wp2
        have hO : awardOk C x y = false := by unfold awardOk; rw [HL.out, HN.out]; simp
        have hL : awardL C x y = [] := by unfold awardL; rw [HL.out, HN.out]; simp
        rw [hO, hL]
        refine bodyPost_ret (v := .tuple #[.slice none 0 0, .bool false]) (by simp [results, Tryz.results111, go_sem]) rfl ⟨⟨_, rfl, OwnR.nil _ _⟩, XALL.out⟩
       ·obtain ⟨cb, coff, hca, hcc⟩ := HIF.out.at hoi
        obtain ⟨cv, hcv⟩ : ∃ c, c = C[oi]?.getD 0 := ⟨_, rfl⟩
        rw [← hcv] at hcc
        obtain ⟨cc, hcmp⟩ : ∃ c, c = cmpR (cv, 1) (p, q) := ⟨_, rfl⟩
        have HCMP := Lib.hid hcmp
        have HCV := Lib.hid hcv
        subst hca
        have HKF := Lib.hid (fun (w' : World) (h : Ext wF w') => (⟨h.cellSome cF, h.cellSome hcc, h.cellSome v0, h.cellSome v1, h⟩ : w'.cell? ⟨w.heap.size, 0, none⟩ = some (.slice (some ⟨cb, coff, none⟩) n1 cap) ∧ w'.cell? ⟨cb, coff + oi, none⟩ = some (.int .i64 cv) ∧ w'.cell? ⟨bx, 0, none⟩ = some (.int .i64 p) ∧ w'.cell? ⟨bx, 1, none⟩ = some (.int .i64 q) ∧ Ext wF w'))
        have hk3 : Ext wF wF.drew := Ext.drew wF
        clear hcmp hcv
        go_wp2
        go_region_held3 (fun w' => w'.cell? ⟨w.heap.size, 0, none⟩ = some (.slice (some ⟨cb, coff, none⟩) n1 cap) ∧ w'.cell? ⟨cb, coff + oi, none⟩ = some (.int .i64 cv) ∧ w'.cell? ⟨bx, 0, none⟩ = some (.int .i64 p) ∧ w'.cell? ⟨bx, 1, none⟩ = some (.int .i64 q) ∧ Ext wF w')
         (first | with_reducible exact HKF.out _ hk3)
         (first
           | (go_at_call 112; refine (i_whole _ _).mono ?_; rintro e w5 ⟨rfl, hx5⟩; have hk3 := hk3.trans hx5)
           | (go_at_call 38; refine (i_CompareRat cv 1 p q _).mono ?_; rw [← HCMP.out]; rintro e w6 ⟨rfl, hx6⟩; have hk3 := hk3.trans hx6)
           | fail)
        have hge2 : w2.heap.size ≤ bx := Nat.le_trans hszr hge
        have hne1 : bx ≠ w2.heap.size := by omega
        have hne2 : bx ≠ w2.heap.size + 1 := by omega
        have hne3 : w2.heap.size + 1 ≠ bx := by omega
        by_cases hlt0 : cc < 0
        case' pos =>
         have HSH0 := Lib.hid (show shareA C (l1, l2) m oi = (cv, 1) by unfold shareA; rw [HPQ.out]; simp only; rw [← HCV.out, ← HCMP.out, if_pos hlt0])
         go_wp2_with fail
         refine (i_whole _ _).mono ?_
         rintro e w7 ⟨rfl, hx7⟩
         have hk3 := hk3.trans hx7
         have hB7 := (hk3.block _ (lt_of_block HBX.out)).trans HBX.out
         clear v0 v1 fv
         obtain ⟨v0, v1, fv⟩ := rcell hB7
         have hG7 : Ext wr w7 := (by assumption : Ext wr wF).trans hk3
         have e07 := hG7.cellSome e0
         have e17 := hG7.cellSome e1
         have hG : Ext wr ((w7.setCell ⟨bx, 0, none⟩ (.int .i64 cv)).setCell ⟨bx, 1, none⟩ (.int .i64 1)) := (hG7.setCell hge _).setCell hge _
         have hbxG : ((w7.setCell ⟨bx, 0, none⟩ (.int .i64 cv)).setCell ⟨bx, 1, none⟩ (.int .i64 1)).heap[bx]? = some (.cells #[.int .i64 cv, .int .i64 1] 43 (0, 0)) := by rw [heap_setCell_same _ _ _ _ _ _ (heap_setCell_same _ _ _ _ _ _ hB7)]; rfl
         go_wp2_with fail
         generalize (w7.setCell ⟨bx, 0, none⟩ (.int .i64 cv)).setCell ⟨bx, 1, none⟩ (.int .i64 1) = wG at hG hbxG ⊢
         generalize (1 : Int) = one1 at HSH0 hbxG ⊢
         obtain ⟨SP, SQ, rfl, rfl⟩ : ∃ u v, u = cv ∧ v = one1 := ⟨_, _, rfl, rfl⟩
         have HSH := HSH0
        case' neg =>
         have HSH := Lib.hid (show shareA C (l1, l2) m oi = (p, q) by unfold shareA; rw [HPQ.out]; simp only; rw [← HCV.out, ← HCMP.out, if_neg hlt0])
         obtain ⟨wG, hwG⟩ : ∃ W, W = w6 := ⟨_, rfl⟩
         subst hwG
         have hG : Ext wr wG := (by assumption : Ext wr wF).trans hk3
         have hbxG := (hk3.block _ (lt_of_block HBX.out)).trans HBX.out
         have e07 := hG.cellSome e0
         have e17 := hG.cellSome e1
         obtain ⟨v0G, v1G, fvG⟩ := rcell hbxG
         clear v0 v1 fv
         go_wp2_with fail
         obtain ⟨SP, SQ, rfl, rfl⟩ : ∃ u v, u = p ∧ v = q := ⟨_, _, rfl, rfl⟩
        all_goals
         obtain ⟨p2, q2, ok2, hs2⟩ : ∃ u v b, subR (l1, l2) (SP, SQ) = ((u, v), b) := ⟨_, _, _, rfl⟩
         have HS2 := Lib.hid hs2
         have HSTEP := Lib.hid (show stepA C n1 ((l1, l2), r) k = if ok2 = true then some ((p2, q2), r.set oi (SP, SQ)) else none by
          unfold stepA
          simp only [← HM.out, HPQ.out, ← HOI.out, HSH.out, hs2]
          simp)
         have HLG := Lib.hid ((hG.block _ hleft).trans HLF.out)
         have HRG := Lib.hid (HRR.out.ext hG)
         have XG := Lib.hid (HXr.out.trans hG)
         have HBG := Lib.hid hbxG
         have hltG : bx < wG.heap.size := lt_of_block hbxG
         have hlg2 : w2.heap.size + 1 < wG.heap.size := lt_of_block HLG.out
         clear hs2 hG hbxG
         refine (i_SubRat l1 l2 SP SQ _).mono ?_
         rw [HS2.out]
         rintro e w8 ⟨rfl, hx8⟩
         have X8 := Lib.hid (XG.out.trans hx8)
         have HL8 := Lib.hid ((hx8.block _ hlg2).trans HLG.out)
         have HB8 := Lib.hid ((hx8.block _ hltG).trans HBG.out)
         have HR8 := Lib.hid (HRG.out.ext hx8)
         have hlg8 := lt_of_block HL8.out
         have hlb8 := lt_of_block HB8.out
         clear hx8
         cases ok2
         ·have HN := Lib.hid (show runA C n1 (x, y) (List.replicate n1 (0, 0)) n1 = none by
           have h1 : runA C n1 (x, y) (List.replicate n1 (0, 0)) (k + 1) = none := by rw [runA_succ C n1 HR.out, HSTEP.out]; simp
           have h2 := runA_none C n1 h1 (n1 - (k + 1))
           rwa [show k + 1 + (n1 - (k + 1)) = n1 by omega] at h2)
          have XALL2 := Lib.hid (HX.out.trans ((X1.out.trans X2.out).trans X8.out))
          obtain ⟨s0, s1, fs⟩ := rcell HB8.out
          obtain ⟨g0, g1, fg⟩ := rcell HL8.out
          go_wp2
          have hO : awardOk C x y = false := by unfold awardOk; rw [HL.out, HN.out]; simp
          have hL : awardL C x y = [] := by unfold awardL; rw [HL.out, HN.out]; simp
          rw [hO, hL]
          refine bodyPost_ret (v := .tuple #[.slice none 0 0, .bool false]) (by simp [results, Tryz.results111, go_sem]) rfl ⟨⟨_, rfl, OwnR.nil _ _⟩, XALL2.out.trans (Ext.alloc _ _)⟩
         ·obtain ⟨s0, s1, fs⟩ := rcell HB8.out
          obtain ⟨g0, g1, fg⟩ := rcell HL8.out
          have HLR := Lib.hid (show r.length = n1 by have := runA_len C n1 k HR.out; simpa using this)
          have hr8 := HR8.out.free
          obtain ⟨hr80, hr81⟩ := HR8.out.cell (k := oi) (by rw [HLR.out]; exact hoi)
          have hlr8 := HR8.out.lt
          have hra := HR8.out.set (k := oi) (by rw [HLR.out]; exact hoi) SP SQ
          have hrl := HL8.out
          rw [← heap_setCell_other w8 ⟨w2.heap.size, oi * 2, none⟩ (w2.heap.size + 1) (.int .i64 SP) (by simp), ← heap_setCell_other (w8.setCell ⟨w2.heap.size, oi * 2, none⟩ (.int .i64 SP)) ⟨w2.heap.size, oi * 2 + 1, none⟩ (w2.heap.size + 1) (.int .i64 SQ) (by simp)] at hrl
          have hrl2 : (((((w8.setCell ⟨w2.heap.size, oi * 2, none⟩ (.int .i64 SP)).setCell ⟨w2.heap.size, oi * 2 + 1, none⟩ (.int .i64 SQ)).setCell ⟨w2.heap.size + 1, 0, none⟩ (.int .i64 p2)).setCell ⟨w2.heap.size + 1, 1, none⟩ (.int .i64 q2))).heap[w2.heap.size + 1]? = some (.cells #[.int .i64 p2, .int .i64 q2] 43 (0, 0)) := by rw [heap_setCell_same _ _ _ _ _ _ (heap_setCell_same _ _ _ _ _ _ hrl)]; rfl
          have HRA := Lib.hid (rrow_other (rrow_other hra (a := ⟨w2.heap.size + 1, 0, none⟩) (by simp) (.int .i64 p2)) (a := ⟨w2.heap.size + 1, 1, none⟩) (by simp) (.int .i64 q2))
          have HRL := Lib.hid hrl2
          have XW := Lib.hid ((((X8.out.setCell (p := ⟨w2.heap.size, oi * 2, none⟩) (Nat.le_refl _) (.int .i64 SP)).setCell (p := ⟨w2.heap.size, oi * 2 + 1, none⟩) (Nat.le_refl _) (.int .i64 SQ)).setCell (p := ⟨w2.heap.size + 1, 0, none⟩) (Nat.le_succ _) (.int .i64 p2)).setCell (p := ⟨w2.heap.size + 1, 1, none⟩) (Nat.le_succ _) (.int .i64 q2))
          clear hra hrl hrl2
          go_wp2
          go_roundw
          case rel =>
           refine ⟨k + 1, p2, q2, r.set oi (SP, SQ), by omega, by go_num, ?_, ?_, ?_, ?_⟩
           ·exact Lib.hid (by rw [runA_succ C n1 HR.out, HSTEP.out]; simp)
           ·exact Lib.hid (HRA.out.ext (Ext.alloc _ _))
           ·exact Lib.hid (((Ext.alloc _ _).block _ (lt_of_block HRL.out)).trans HRL.out)
           ·exact Lib.hid (Ext.trans XW.out (Ext.alloc _ _))
          case measure => simp [intOf]; omega
     ·have hkn : k = n1 := by omega
      have XALL := Lib.hid (HX.out.trans ((X1.out.trans X2.out).trans HXr.out))
      have hR := HR.out
      have HLR := runA_len C n1 k hR
      rw [List.length_replicate] at HLR
      rw [hkn] at hR
      have HO1 := Lib.hid (show awardOk C x y = true by unfold awardOk; rw [HL.out, hR, HFIT.out]; rfl)
      have HL1 := Lib.hid (show awardL C x y = r by unfold awardL; rw [HL.out, hR, if_pos HFIT.out]; rfl)
      have HOW := Lib.hid (HRR.out.own (base := w.heap.size) (by omega) HLR (by omega))
      clear hR HLR
      go_wp2
      rw [HO1.out, HL1.out]
      refine bodyPost_ret (v := .tuple #[.slice (some ⟨w2.heap.size, 0, none⟩) n1 n1, .bool true]) (by simp [results, Tryz.results111, go_sem]) rfl ⟨⟨_, rfl, HOW.out⟩, XALL.out⟩
end Go.Proofs.YthjjfkeacobikaaGreat
