import Derived.Test.YtgohdmnbnhehnaaGreatBalAllG5
import Derived.Test.YtgohdmnbnhehnaaGreatBalAllG4
import Derived.Test.YtgohdmnbnhehnaaGreatBalAllG1
import Derived.Deep.RegionHeld3
namespace Go.Proofs.YtgohdmnbnhehnaaGreat
set_option linter.unusedVariables false
set_option linter.unusedSimpArgs false
set_option maxRecDepth 100000
open Go.RowKit
set_option maxHeartbeats 4000000 in
theorem i_AddScaled {w : World} {k1 k2 : Int} {a b : Option Addr} {n cap n' cap' : Nat} {A B : List (Int × Int)} (h : Rats w a n cap A) (h' : Rats w b n' cap' B) (hbig : n ≤ 1048576) :
    Calls Tryz.prog 248 #[.slice a n cap, ratV k1 k2, .slice b n' cap'] w fun e w' => (∃ v, e = .returned (.tuple #[v, .bool (sclL A (k1, k2) B).isSome]) ∧ OwnR w' w.heap.size v ((sclL A (k1, k2) B).getD [])) ∧ Ext w w' := by
  have HL := Lib.hid h.hlen
  have HL' := Lib.hid h'.hlen
  have hmax := h.hmax
  have hcap := h.hcap
  have hmax' := h'.hmax
  have hcap' := h'.hcap
  have HA := Lib.hid h
  have HB' := Lib.hid h'
  have HX := Lib.hid (Ext.alloc w (.cells #[.int .i64 k1, .int .i64 k2] 85))
  clear h h'
  by_cases hne : n = n'
  · subst hne
    have HS := Lib.hid (show sclL A (k1, k2) B = runT (sclF A (k1, k2) B) n by unfold sclL; rw [HL.out, HL'.out, if_pos rfl])
    have HO := Lib.hid (OwnR.made (w.alloc (.cells #[.int .i64 k1, .int .i64 k2] 85)) (w.heap.size + 1) (by simp))
    go_enter Tryz.func248, Tryz.ntmps248
    go_wp2_with fail
    go_loopg [8, 22] n (fun gk o i wr => ∃ (k : Nat) (a1 : Option Addr) (n1 p1 : Nat) (r : List (Int × Int)), Hid (gk + k = n) ∧ i = .int .i64 (k : Int) ∧ o = .slice a1 n1 p1 ∧ Hid (runT (sclF A (k1, k2) B) k = some r) ∧ Hid (OwnR wr (w.heap.size + 1) (.slice a1 n1 p1) r) ∧ Hid (Ext (w.alloc (.cells #[.int .i64 k1, .int .i64 k2] 85)) wr))
    case atStart => exact ⟨0, _, _, _, [], Lib.hid (by omega), rfl, rfl, Lib.hid rfl, Lib.hid (by simpa using HO.out), Lib.hid (Ext.alloc _ _)⟩
    case round =>
      obtain ⟨k, a1, n1, p1, r, HK, rfl, rfl, HR, HO1, HX1⟩ := hrel
      have hszr := HX1.out.size
      rw [World.size_alloc] at hszr
      by_cases hlt : k < n
      · have hkc0 : wr.cell? ⟨w.heap.size, 0, none⟩ = some (.int .i64 k1) := HX1.out.cellSome (by simp)
        have hkc1 : wr.cell? ⟨w.heap.size, 1, none⟩ = some (.int .i64 k2) := HX1.out.cellSome (by simp)
        obtain ⟨ab, aoff, ax, ay, ha, hax, hac0, hac1⟩ := ((HA.out.ext HX.out).ext HX1.out).at hlt
        obtain ⟨bb, boff, bx, by', hb, hbx, hbc0, hbc1⟩ := ((HB'.out.ext HX.out).ext HX1.out).at hlt
        subst ha hb
        have HAX := Lib.hid hax
        have HBX := Lib.hid hbx
        obtain ⟨p, q, one, hm⟩ : ∃ p q ok, mulR (k1, k2) (bx, by') = ((p, q), ok) := ⟨_, _, _, rfl⟩
        have HM := Lib.hid hm
        obtain ⟨p2, q2, two, hs2⟩ : ∃ u v ok, addR (ax, ay) (p, q) = ((u, v), ok) := ⟨_, _, _, rfl⟩
        have HS2 := Lib.hid hs2
        clear hax hbx hm hs2
        go_upto_region 7 with fail
        go_cut [10, 11] (fun sx so wx => ∃ g : Nat, sx = .pointer (some ⟨g, 0, none⟩) ∧ so = .bool one ∧ Hid (Boxed wr wx g p q))
        case first =>
          have hk2 : Ext wr wr.drew := Ext.drew wr
          have hka : Ext wr (wr.alloc (.cells #[.int .i64 0, .int .i64 0] 85)).drew := (Ext.alloc _ _).trans (Ext.drew _)
          have HKEEP := Lib.hid (fun (w' : World) (h : Ext wr w') => (⟨h.cellSome hkc0, h.cellSome hkc1, h.cellSome hbc0, h.cellSome hbc1, h⟩ : w'.cell? ⟨w.heap.size, 0, none⟩ = some (.int .i64 k1) ∧ w'.cell? ⟨w.heap.size, 1, none⟩ = some (.int .i64 k2) ∧ w'.cell? ⟨bb, boff + k * 2, none⟩ = some (.int .i64 bx) ∧ w'.cell? ⟨bb, boff + k * 2 + 1, none⟩ = some (.int .i64 by') ∧ Ext wr w'))
          go_region_held3 (fun w' => w'.cell? ⟨w.heap.size, 0, none⟩ = some (.int .i64 k1) ∧ w'.cell? ⟨w.heap.size, 1, none⟩ = some (.int .i64 k2) ∧ w'.cell? ⟨bb, boff + k * 2, none⟩ = some (.int .i64 bx) ∧ w'.cell? ⟨bb, boff + k * 2 + 1, none⟩ = some (.int .i64 by') ∧ Ext wr w')
            (first
              | with_reducible exact HKEEP.out _ hk2
              | with_reducible exact HKEEP.out _ hka
              | with_reducible exact HKEEP.out _ ((hk2.setCell (by first | (simp; done) | (simp; omega)) _).setCell (by first | (simp; done) | (simp; omega)) _)
              | with_reducible exact HKEEP.out _ (hk2.trans (Ext.alloc _ _))
              | with_reducible exact HKEEP.out _ (hBB.put _ _).ext)
            (first
              | (go_at_call 229
                 (with_reducible refine (i_MulRat k1 k2 bx by' _).mono ?_)
                 rw [HM.out]
                 rintro e w3 ⟨rfl, hx_w3⟩
                 first | (with_reducible have hBB := Boxed.grow hBB hx_w3) | (with_reducible have hBB := Boxed.firstD hx_w3) | (with_reducible have hBB := Boxed.laterD hk2 hx_w3) | skip
                 first | (have b0_ := hBB.c0; have b1_ := hBB.c1; have fb_ := hBB.free) | skip
                 have hk2 : Ext wr w3 := by first | with_reducible exact hk2.trans hx_w3 | with_reducible exact hka.trans hx_w3 | with_reducible exact (hk2.trans (Ext.alloc _ _)).trans hx_w3
                 have hk2s := hk2.size)
              | fail)
          all_goals (go_wp2_with fail; go_meet; first | exact ⟨_, rfl, rfl, Lib.hid (hBB.put _ _)⟩ | exact ⟨_, rfl, rfl, Lib.hid (Boxed.new hk2 _ _)⟩ | exact ⟨_, rfl, rfl, Lib.hid (Boxed.new' hk2 _ _ (by simp))⟩)
        obtain ⟨g, rfl, rfl, HB1⟩ := hcut
        have g0 := HB1.out.c0
        have g1 := HB1.out.c1
        replace hac0 := HB1.out.ext.cellSome hac0
        replace hac1 := HB1.out.ext.cellSome hac1
        clear hkc0 hkc1 hbc0 hbc1
        go_upto_region 8 with fail
        go_cut [12, 13] (fun sx so wx => ∃ g2 : Nat, sx = .pointer (some ⟨g2, 0, none⟩) ∧ so = .bool two ∧ Hid (Boxed wc wx g2 p2 q2))
        case first =>
          have hk2 : Ext wc wc.drew := Ext.drew wc
          have hka : Ext wc (wc.alloc (.cells #[.int .i64 0, .int .i64 0] 85)).drew := (Ext.alloc _ _).trans (Ext.drew _)
          have HKEEP := Lib.hid (fun (w' : World) (h : Ext wc w') => (⟨h.cellSome hac0, h.cellSome hac1, h.cellSome g0, h.cellSome g1, h⟩ : w'.cell? ⟨ab, aoff + k * 2, none⟩ = some (.int .i64 ax) ∧ w'.cell? ⟨ab, aoff + k * 2 + 1, none⟩ = some (.int .i64 ay) ∧ w'.cell? ⟨g, 0, none⟩ = some (.int .i64 p) ∧ w'.cell? ⟨g, 1, none⟩ = some (.int .i64 q) ∧ Ext wc w'))
          go_region_held3 (fun w' => w'.cell? ⟨ab, aoff + k * 2, none⟩ = some (.int .i64 ax) ∧ w'.cell? ⟨ab, aoff + k * 2 + 1, none⟩ = some (.int .i64 ay) ∧ w'.cell? ⟨g, 0, none⟩ = some (.int .i64 p) ∧ w'.cell? ⟨g, 1, none⟩ = some (.int .i64 q) ∧ Ext wc w')
            (first
              | with_reducible exact HKEEP.out _ hk2
              | with_reducible exact HKEEP.out _ hka
              | with_reducible exact HKEEP.out _ ((hk2.setCell (by first | (simp; done) | (simp; omega)) _).setCell (by first | (simp; done) | (simp; omega)) _)
              | with_reducible exact HKEEP.out _ (hk2.trans (Ext.alloc _ _))
              | with_reducible exact HKEEP.out _ (hBB.put _ _).ext)
            (first
              | (go_at_call 147
                 (with_reducible refine (i_AddRat ax ay p q _).mono ?_)
                 rw [HS2.out]
                 rintro e w4 ⟨rfl, hx_w4⟩
                 first | (with_reducible have hBB := Boxed.grow hBB hx_w4) | (with_reducible have hBB := Boxed.firstD hx_w4) | (with_reducible have hBB := Boxed.laterD hk2 hx_w4) | skip
                 first | (have b0_ := hBB.c0; have b1_ := hBB.c1; have fb_ := hBB.free) | skip
                 have hk2 : Ext wc w4 := by first | with_reducible exact hk2.trans hx_w4 | with_reducible exact hka.trans hx_w4 | with_reducible exact (hk2.trans (Ext.alloc _ _)).trans hx_w4
                 have hk2s := hk2.size)
              | fail)
          all_goals (go_wp2_with fail; go_meet; first | exact ⟨_, rfl, rfl, Lib.hid (hBB.put _ _)⟩ | exact ⟨_, rfl, rfl, Lib.hid (Boxed.new hk2 _ _)⟩ | exact ⟨_, rfl, rfl, Lib.hid (Boxed.new' hk2 _ _ (by simp))⟩)
        obtain ⟨g2, rfl, rfl, HB2⟩ := hcut
        have X2 := Lib.hid ((HX1.out.trans HB1.out.ext).trans HB2.out.ext)
        have HO2 := Lib.hid ((HO1.out.ext HB1.out.ext).ext HB2.out.ext)
        have h0 := HB2.out.c0
        have h1 := HB2.out.c1
        have HF := Lib.hid (show sclF A (k1, k2) B k = if (one && two) = true then some (p2, q2) else none by unfold sclF; rw [HAX.out, HBX.out, HM.out]; simp only; rw [HS2.out]; simp only [Bool.and_eq_true])
        clear hac0 hac1 g0 g1
        cases hb12 : (one && two)
        · have HN := Lib.hid (show runT (sclF A (k1, k2) B) n = none from runT_fail HR.out (by rw [HF.out, hb12]; rfl) hlt)
          cases one
          case' true => (have h2 : two = false := by simpa using hb12); subst h2
          all_goals
            clear hb12
            go_wp2_with fail
            refine bodyPost_ret (v := .tuple #[.slice none 0 0, .bool false]) (by simp [results, Tryz.results248, go_sem]) rfl ⟨⟨.slice none 0 0, by rw [HS.out, HN.out]; rfl, by rw [HS.out, HN.out]; exact OwnR.nil _ _⟩, HX.out.trans X2.out⟩
        · obtain ⟨rfl, rfl⟩ : one = true ∧ two = true := by simpa using hb12
          have HR2 := Lib.hid (runT_some (x := (p2, q2)) HR.out (by rw [HF.out]; rfl))
          have HLR := Lib.hid (runT_len HR.out)
          have hszc := X2.out.size
          rw [World.size_alloc] at hszc
          clear hb12
          go_wp2_with (first
            | (at_builtin; refine append_rats rfl _ _ rfl (w.heap.size + 1) (.slice a1 n1 p1) _ rfl (HO2.out.ext (Ext.alloc _ _)) _ 1 _ [(p2, q2)] rfl (Rats.one' _ _ _ _ _ (by simp)) (by rw [HLR.out]; omega) (by simp; omega) ?_; intro v2 w4 ho hg hnear; obtain ⟨a2, n2, c2, rfl, HN2⟩ := ho.var; have HO4 := Lib.hid ho; have X5 := Lib.hid (ext_grown (X2.out.trans (Ext.alloc _ _)) hg (fun j hj => by have := (HO2.out.lt j hj).1; simpa using this)); clear ho hg hnear))
          go_roundg (gk - 1)
          case measure => have := HK.out; omega
          case rel => exact ⟨k + 1, a2, n2, c2, _, Lib.hid (by have := HK.out; omega), by go_num, rfl, HR2, HO4, X5⟩
      · have hkn : k = n := by have := HK.out; omega
        subst hkn
        go_wp2_with fail
        refine bodyPost_ret (v := .tuple #[.slice a1 n1 p1, .bool true]) (by simp [results, Tryz.results248, go_sem]) rfl ⟨⟨.slice a1 n1 p1, by rw [HS.out, HR.out]; rfl, by rw [HS.out, HR.out]; exact HO1.out.mono (Nat.le_succ _)⟩, HX.out.trans HX1.out⟩
  · have HN := Lib.hid (show sclL A (k1, k2) B = none by unfold sclL; rw [HL.out, HL'.out, if_neg hne])
    go_enter Tryz.func248, Tryz.ntmps248
    go_wp2_with fail
    refine bodyPost_ret (v := .tuple #[.slice none 0 0, .bool false]) (by simp [results, Tryz.results248, go_sem]) rfl ⟨⟨.slice none 0 0, by rw [HN.out]; rfl, by rw [HN.out]; exact OwnR.nil _ _⟩, HX.out⟩
end Go.Proofs.YtgohdmnbnhehnaaGreat
namespace Go.Proofs.YtgohdmnbnhehnaaGreat
set_option linter.unusedVariables false
set_option linter.unusedSimpArgs false
set_option maxRecDepth 100000
open Go.RowKit
theorem i_whole (n : Int) (w : World) : Calls Tryz.prog 87 #[.int .i64 n] w fun e w' => e = .returned (ratV n 1) ∧ Ext w w' := by
  have HX := Lib.hid (Ext.alloc w (.cells #[.int .i64 n, .int .i64 1] 85))
  go_enter Tryz.func87, Tryz.ntmps87
  go_wp2
  refine bodyPost_ret (v := ratV n 1) (by simp [results, Tryz.results87, go_sem]) rfl ⟨rfl, HX.out⟩
theorem s_l3Int (n : Int) (w : World) : Calls Tryz.prog 81 #[.int .i64 n] w fun e w' => e = .returned (ratV n 1) ∧ Ext w w' := by
  have HX := Lib.hid (Ext.alloc w (.cells #[.int .i64 n, .int .i64 1] 85))
  go_enter Tryz.func81, Tryz.ntmps81
  go_wp2
  refine bodyPost_ret (v := ratV n 1) (by simp [results, Tryz.results81, go_sem]) rfl ⟨rfl, HX.out⟩
end Go.Proofs.YtgohdmnbnhehnaaGreat
namespace Go.Proofs.YtgohdmnbnhehnaaGreat
set_option linter.unusedVariables false
set_option linter.unusedSimpArgs false
set_option maxRecDepth 100000
open Go.RowKit
theorem wholeL_snoc {C : List Int} {k : Nat} (h : k < C.length) : wholeL (C.take k) ++ [(C[k]?.getD 0, 1)] = wholeL (C.take (k + 1)) := by
  rw [take_snoc h]; simp [wholeL]
def ratsL (C : List Int) : List (Int × Int) := if fitL C = true then wholeL C else []
set_option maxHeartbeats 4000000 in
theorem i_IntsToRats {w : World} {a : Option Addr} {n cap : Nat} {C : List Int} (h : Ints w a n cap C) (hbig : n ≤ 1048576) :
    Calls Tryz.prog 134 #[.slice a n cap] w fun e w' => (∃ v, e = .returned (.tuple #[v, .bool (fitL C)]) ∧ OwnR w' w.heap.size v (ratsL C)) ∧ Ext w w' := by
  have HL := Lib.hid h.hlen
  have hmax := h.hmax
  have hcap := h.hcap
  have HC := Lib.hid h
  clear h
  have HO := Lib.hid (OwnR.made w w.heap.size (Nat.le_refl _))
  go_enter Tryz.func134, Tryz.ntmps134
  go_wp2_with fail
  go_loopg [4, 10] n (fun gk o i wr => ∃ (k : Nat) (a1 : Option Addr) (n1 p1 : Nat), Hid (gk + k = n) ∧ i = .int .i64 (k : Int) ∧ o = .slice a1 n1 p1 ∧ Hid (fitL (C.take k) = true) ∧ Hid (OwnR wr w.heap.size (.slice a1 n1 p1) (wholeL (C.take k))) ∧ Hid (Ext w wr))
  case atStart => exact ⟨0, _, _, _, Lib.hid (by omega), rfl, rfl, Lib.hid rfl, HO, Lib.hid (Ext.alloc _ _)⟩
  case round =>
    obtain ⟨k, a1, n1, p1, HK, rfl, rfl, HF, HO1, HX1⟩ := hrel
    by_cases hlt : k < n
    · obtain ⟨b, off, ha, hc⟩ := (HC.out.ext HX1.out).at hlt
      subst ha
      obtain ⟨c, hcc⟩ : ∃ c, c = C[k]?.getD 0 := ⟨_, rfl⟩
      rw [← hcc] at hc
      have HCC := Lib.hid hcc
      have hszr := HX1.out.size
      clear hcc
      have HKL := Lib.hid (show k < C.length by have := HL.out; omega)
      cases hin : inB c (-1000000000) 1000000000
      · have HN := Lib.hid (show fitL C = false by
          rw [← Bool.not_eq_true]; intro hh
          have := all_get (k := k) hh HKL.out
          rw [← HCC.out, hin] at this; cases this)
        have HI := Lib.hid (i_within c (-1000000000) 1000000000 wr)
        rw [hin] at HI
        clear hin
        go_wp2_with fail
        refine HI.out.mono ?_
        rintro e w2 ⟨rfl, rfl⟩
        go_wp2_with fail
        refine bodyPost_ret (v := .tuple #[.slice none 0 0, .bool false]) (by simp [results, Tryz.results134, go_sem]) rfl ⟨⟨.slice none 0 0, by rw [HN.out], by unfold ratsL; rw [HN.out]; exact OwnR.nil _ _⟩, HX1.out⟩
      · have HF2 := Lib.hid (show fitL (C.take (k + 1)) = true by
          unfold fitL
          rw [take_snoc HKL.out, List.all_append]
          have := HF.out; unfold fitL at this
          rw [this, ← HCC.out]
          simp only [List.all_cons, List.all_nil, hin, Bool.and_self])
        have HI := Lib.hid (i_within c (-1000000000) 1000000000 wr)
        rw [hin] at HI
        clear hin
        go_wp2_with fail
        refine HI.out.mono ?_
        rintro e w2 ⟨rfl, rfl⟩
        have HLW := Lib.hid (show (wholeL (C.take k)).length = k by rw [wholeL_len, List.length_take]; have := HKL.out; omega)
        go_wp2_with (first
          | (go_at_call 87; refine (i_whole c _).mono ?_; rintro e w3 ⟨rfl, hx3⟩; have HX3 := Lib.hid hx3; have HO3 := Lib.hid (HO1.out.ext hx3); have hsz3 := hx3.size; clear hx3)
          | (at_builtin; refine append_rats rfl _ _ rfl w.heap.size (.slice a1 n1 p1) _ rfl (HO3.out.ext (Ext.alloc _ _)) _ 1 _ [(c, 1)] rfl (Rats.one' _ _ _ _ _ (by simp)) (by rw [HLW.out]; omega) (by simp; omega) ?_; intro v2 w4 ho hg hnear; obtain ⟨a2, n2, c2, rfl, HN2⟩ := ho.var; have HO4 := Lib.hid ho; have X4 := Lib.hid (ext_grown ((HX1.out.trans HX3.out).trans (Ext.alloc _ _)) hg (fun j hj => (HO3.out.lt j hj).1)); clear ho hg hnear))
        go_roundg (gk - 1)
        case measure => have := HK.out; omega
        case rel => exact ⟨k + 1, a2, n2, c2, Lib.hid (by have := HK.out; omega), by go_num, rfl, HF2, Lib.hid (by have := HO4.out; rw [HCC.out, wholeL_snoc HKL.out] at this; exact this), X4⟩
    · have hkn : k = n := by have := HK.out; omega
      subst hkn
      have HT := Lib.hid (show C.take k = C from List.take_of_length_le (by rw [HL.out]; exact Nat.le_refl _))
      go_wp2_with fail
      refine bodyPost_ret (v := .tuple #[.slice a1 n1 p1, .bool true]) (by simp [results, Tryz.results134, go_sem]) rfl ⟨⟨.slice a1 n1 p1, ?_, ?_⟩, HX1.out⟩
      · have := HF.out; rw [HT.out] at this; rw [this]
      · have h1 := HF.out; have h2 := HO1.out; rw [HT.out] at h1 h2; unfold ratsL; rw [if_pos h1]; exact h2
set_option maxHeartbeats 400000 in
theorem i_rats {w : World} {a : Option Addr} {n cap : Nat} {C : List Int} (h : Ints w a n cap C) (hbig : n ≤ 1048576) :
    Calls Tryz.prog 67 #[.slice a n cap] w fun e w' => (∃ v, e = .returned v ∧ OwnR w' w.heap.size v (ratsL C)) ∧ Ext w w' := by
  have HI := Lib.hid (i_IntsToRats h hbig)
  clear h
  go_enter Tryz.func67, Tryz.ntmps67
  go_wp2_with fail
  refine HI.out.mono ?_
  rintro e w1 ⟨⟨v, rfl, ho⟩, hx⟩
  have HO := Lib.hid ho
  have HX := Lib.hid hx
  clear ho hx
  go_wp2_with fail
  go_ret
  exact ⟨⟨v, rfl, HO.out⟩, HX.out⟩
end Go.Proofs.YtgohdmnbnhehnaaGreat
