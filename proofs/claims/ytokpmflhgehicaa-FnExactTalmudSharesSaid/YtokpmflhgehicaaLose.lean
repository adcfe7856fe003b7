/- Whole numbers as fractions; claims less losses, on both sides. -/
import Derived.Test.YtokpmflhgehicaaVec
import Derived.Test.YtokpmflhgehicaaFits
namespace Go.Proofs.Ytokpmflhgehicaa
set_option linter.unusedVariables false
set_option linter.unusedSimpArgs false
set_option maxRecDepth 100000
open Go.RowKit

theorem wholeL_snoc {C : List Int} {k : Nat} (h : k < C.length) : wholeL (C.take k) ++ [(C[k]?.getD 0, 1)] = wholeL (C.take (k + 1)) := by
  rw [take_snoc h]; simp [wholeL]
/-- What rats gives. -/
def ratsL (C : List Int) : List (Int × Int) := if fitL C = true then wholeL C else []

set_option maxHeartbeats 4000000 in
theorem i_IntsToRats {w : World} {a : Option Addr} {n cap : Nat} {C : List Int} (h : Ints w a n cap C) (hbig : n ≤ 1048576) :
    Calls Try.prog 189 #[.slice a n cap] w fun e w' => (∃ v, e = .returned (.tuple #[v, .bool (fitL C)]) ∧ OwnR w' w.heap.size v (ratsL C)) ∧ Ext w w' := by
  have HL := Lib.hid h.hlen
  have hmax := h.hmax
  have hcap := h.hcap
  have HC := Lib.hid h
  clear h
  have HO := Lib.hid (OwnR.made w w.heap.size (Nat.le_refl _))
  go_enter Try.func189, Try.ntmps189
  go_wp2_with fail
  go_loopg [4, 10] n (fun gk o i wr => ∃ (k : Nat) (a1 : Option Addr) (n1 p1 : Nat), Hid (gk + k = n) ∧ i = .int .i64 (k : Int) ∧ o = .slice a1 n1 p1 ∧ Hid (fitL (C.take k) = true) ∧ Hid (OwnR wr w.heap.size (.slice a1 n1 p1) (wholeL (C.take k))) ∧ Hid (Ext w wr))
  case atStart => exact ⟨0, _, _, _, Lib.hid (by omega), rfl, rfl, Lib.hid rfl, HO, Lib.hid (Ext.alloc _ _)⟩
  case round =>
    obtain ⟨k, a1, n1, p1, HK, rfl, rfl, HF, HO1, HX1⟩ := hrel
    by_cases hlt : k < n
    · obtain ⟨b, off, ha, hc⟩ := (HC.out.ext HX1.out).at hlt
      subst ha
      obtain ⟨c, hcc⟩ : ∃ c, c = C[k]?.getD 0 := ⟨_, rfl⟩
      rw [← hcc] at hc
      have HCC := Lib.hid hcc
      have hszr := HX1.out.size
      clear hcc
      have HKL := Lib.hid (show k < C.length by have := HL.out; omega)
      cases hin : inB c (-1000000000) 1000000000
      · have HN := Lib.hid (show fitL C = false by
          rw [← Bool.not_eq_true]; intro hh
          have := all_get (k := k) hh HKL.out
          rw [← HCC.out, hin] at this; cases this)
        have HI := Lib.hid (i_within c (-1000000000) 1000000000 wr)
        rw [hin] at HI
        clear hin
        go_wp2_with fail
        refine HI.out.mono ?_
        rintro e w2 ⟨rfl, rfl⟩
        go_wp2_with fail
        refine bodyPost_ret (v := .tuple #[.slice none 0 0, .bool false]) (by simp [results, Try.results189, go_sem]) rfl ⟨⟨.slice none 0 0, by rw [HN.out], by unfold ratsL; rw [HN.out]; exact OwnR.nil _ _⟩, HX1.out⟩
      · have HF2 := Lib.hid (show fitL (C.take (k + 1)) = true by
          unfold fitL
          rw [take_snoc HKL.out, List.all_append]
          have := HF.out; unfold fitL at this
          rw [this, ← HCC.out]
          simp only [List.all_cons, List.all_nil, hin, Bool.and_self])
        have HI := Lib.hid (i_within c (-1000000000) 1000000000 wr)
        rw [hin] at HI
        clear hin
        go_wp2_with fail
        refine HI.out.mono ?_
        rintro e w2 ⟨rfl, rfl⟩
        have HLW := Lib.hid (show (wholeL (C.take k)).length = k by rw [wholeL_len, List.length_take]; have := HKL.out; omega)
        go_wp2_with (first
          | (go_at_call 122; refine (i_whole c _).mono ?_; rintro e w3 ⟨rfl, hx3⟩; have HX3 := Lib.hid hx3; have HO3 := Lib.hid (HO1.out.ext hx3); have hsz3 := hx3.size; clear hx3)
          | (at_builtin; refine append_rats rfl _ _ rfl w.heap.size (.slice a1 n1 p1) _ rfl (HO3.out.ext (Ext.alloc _ _)) _ 1 _ [(c, 1)] rfl (Rats.one' _ _ _ _ _ (by simp)) (by rw [HLW.out]; omega) (by simp; omega) ?_; intro v2 w4 ho hg hnear; obtain ⟨a2, n2, c2, rfl, HN2⟩ := ho.var; have HO4 := Lib.hid ho; have X4 := Lib.hid (ext_grown ((HX1.out.trans HX3.out).trans (Ext.alloc _ _)) hg (fun j hj => (HO3.out.lt j hj).1)); clear ho hg hnear))
        go_roundg (gk - 1)
        case measure => have := HK.out; omega
        case rel => exact ⟨k + 1, a2, n2, c2, Lib.hid (by have := HK.out; omega), by go_num, rfl, HF2, Lib.hid (by have := HO4.out; rw [HCC.out, wholeL_snoc HKL.out] at this; exact this), X4⟩
    · have hkn : k = n := by have := HK.out; omega
      subst hkn
      have HT := Lib.hid (show C.take k = C from List.take_of_length_le (by rw [HL.out]; exact Nat.le_refl _))
      go_wp2_with fail
      refine bodyPost_ret (v := .tuple #[.slice a1 n1 p1, .bool true]) (by simp [results, Try.results189, go_sem]) rfl ⟨⟨.slice a1 n1 p1, ?_, ?_⟩, HX1.out⟩
      · have := HF.out; rw [HT.out] at this; rw [this]
      · have h1 := HF.out; have h2 := HO1.out; rw [HT.out] at h1 h2; unfold ratsL; rw [if_pos h1]; exact h2

set_option maxHeartbeats 400000 in
theorem i_rats {w : World} {a : Option Addr} {n cap : Nat} {C : List Int} (h : Ints w a n cap C) (hbig : n ≤ 1048576) :
    Calls Try.prog 169 #[.slice a n cap] w fun e w' => (∃ v, e = .returned v ∧ OwnR w' w.heap.size v (ratsL C)) ∧ Ext w w' := by
  have HI := Lib.hid (i_IntsToRats h hbig)
  clear h
  go_enter Try.func169, Try.ntmps169
  go_wp2_with fail
  refine HI.out.mono ?_
  rintro e w1 ⟨⟨v, rfl, ho⟩, hx⟩
  have HO := Lib.hid ho
  have HX := Lib.hid hx
  clear ho hx
  go_wp2_with fail
  go_ret
  exact ⟨⟨v, rfl, HO.out⟩, HX.out⟩

/-- Claims less losses, as the program has it. -/
def lessL (C : List Int) (L : List (Int × Int)) : Option (List (Int × Int)) := sclL (ratsL C) (-1, 1) L
theorem ratsL_len (C : List Int) : (ratsL C).length ≤ C.length := by unfold ratsL; split <;> simp [wholeL_len]

set_option maxHeartbeats 400000 in
theorem i_claimsLess {w : World} {a b : Option Addr} {n cap m cap' : Nat} {C : List Int} {L : List (Int × Int)} (h : Ints w a n cap C) (h' : Rats w b m cap' L) (hbig : n ≤ 1048576) :
    Calls Try.prog 126 #[.slice a n cap, .slice b m cap'] w fun e w' => (∃ v, e = .returned (.tuple #[v, .bool (lessL C L).isSome]) ∧ OwnR w' w.heap.size v ((lessL C L).getD [])) ∧ Ext w w' := by
  have HI := Lib.hid (i_rats h hbig)
  have HC := Lib.hid (ratsL_len C)
  have HL := Lib.hid h.hlen
  have HB := Lib.hid h'
  clear h h'
  go_enter Try.func126, Try.ntmps126
  go_wp2_with fail
  refine HI.out.mono ?_
  rintro e w1 ⟨⟨v, rfl, ho⟩, hx⟩
  obtain ⟨a1, n1, p1, rfl, HN⟩ := ho.var
  have HO := Lib.hid ho
  have HX := Lib.hid hx
  clear ho hx
  go_wp2_with fail
  refine (i_whole _ _).mono ?_
  rintro e w2 ⟨rfl, hx⟩
  have HX2 := Lib.hid (HX.out.trans hx)
  have HO2 := Lib.hid (HO.out.ext hx)
  clear hx
  have HA := Lib.hid (i_AddScaled (k1 := -1) (k2 := 1) HO2.out.rats (HB.out.ext HX2.out) (by have := HC.out; have := HL.out; have := HN.out; omega))
  go_wp2_with fail
  refine HA.out.mono ?_
  rintro e w3 ⟨⟨v, rfl, ho⟩, hx⟩
  have HO3 := Lib.hid (ho.mono HX2.out.size)
  have HX3 := Lib.hid (HX2.out.trans hx)
  clear ho hx
  go_wp2_with fail
  refine bodyPost_ret (v := .tuple #[v, .bool (lessL C L).isSome]) (by simp [results, Try.results126, go_sem, lessL]) rfl ⟨⟨v, rfl, HO3.out⟩, HX3.out⟩

set_option maxHeartbeats 4000000 in
theorem s_l18Lose {w : World} {a b : Option Addr} {n cap m cap' : Nat} {C : List Int} {L : List (Int × Int)} (h : Ints w a n cap C) (h' : Rats w b m cap' L) (hmn : m ≤ n) (hbig : n ≤ 1048576) :
    Calls Try.prog 125 #[.slice a n cap, .slice b m cap'] w fun e w' => (∃ v, e = .returned (.tuple #[v, .bool (runT (loseF C L) m).isSome]) ∧ OwnR w' w.heap.size v ((runT (loseF C L) m).getD [])) ∧ Ext w w' := by
  have HL := Lib.hid h.hlen
  have hmax := h.hmax
  have hcap := h.hcap
  have hmax' := h'.hmax
  have hcap' := h'.hcap
  have HC := Lib.hid h
  have HB := Lib.hid h'
  clear h h'
  have HO := Lib.hid (OwnR.made w w.heap.size (Nat.le_refl _))
  go_enter Try.func125, Try.ntmps125
  go_wp2_with fail
  go_loopg [6, 7] m (fun gk o i wr => ∃ (k : Nat) (a1 : Option Addr) (n1 p1 : Nat) (r : List (Int × Int)), Hid (gk + k = m) ∧ i = .int .i64 (k : Int) ∧ o = .slice a1 n1 p1 ∧ Hid (runT (loseF C L) k = some r) ∧ Hid (OwnR wr w.heap.size (.slice a1 n1 p1) r) ∧ Hid (Ext w wr))
  case atStart => exact ⟨0, _, _, _, [], Lib.hid (by omega), rfl, rfl, Lib.hid rfl, HO, Lib.hid (Ext.alloc _ _)⟩
  case round =>
    obtain ⟨k, a1, n1, p1, r, HK, rfl, rfl, HR, HO1, HX1⟩ := hrel
    have hszr := HX1.out.size
    by_cases hlt : k < m
    · have hltn : k < n := by omega
      obtain ⟨ab, aoff, ha, hac⟩ := (HC.out.ext HX1.out).at hltn
      obtain ⟨bb, boff, bx, by', hb, hbx, hbc0, hbc1⟩ := (HB.out.ext HX1.out).at hlt
      subst ha hb
      obtain ⟨c, hcc⟩ : ∃ c, c = C[k]?.getD 0 := ⟨_, rfl⟩
      rw [← hcc] at hac
      obtain ⟨p, q, ok, hm⟩ : ∃ p q ok, subR (c, 1) (bx, by') = ((p, q), ok) := ⟨_, _, _, rfl⟩
      have HM := Lib.hid hm
      have HF := Lib.hid (show loseF C L k = if ok = true then some (p, q) else none by unfold loseF; rw [← hcc, hbx, hm])
      clear hcc hbx hm
      go_upto_region 5 with fail
      go_cut [8, 9] (fun sx so wx => ∃ g : Nat, sx = .pointer (some ⟨g, 0, none⟩) ∧ so = .bool ok ∧ Hid (Boxed wr wx g p q))
      case first =>
        have hk2 : Ext wr wr.drew := Ext.drew wr
        have hka : Ext wr (wr.alloc (.cells #[.int .i64 0, .int .i64 0] 76)).drew := (Ext.alloc _ _).trans (Ext.drew _)
        have HKEEP := Lib.hid (fun (w' : World) (h : Ext wr w') => (⟨h.cellSome hac, h.cellSome hbc0, h.cellSome hbc1, h⟩ : w'.cell? ⟨ab, aoff + k, none⟩ = some (.int .i64 c) ∧ w'.cell? ⟨bb, boff + k * 2, none⟩ = some (.int .i64 bx) ∧ w'.cell? ⟨bb, boff + k * 2 + 1, none⟩ = some (.int .i64 by') ∧ Ext wr w'))
        go_region_held3 (fun w' => w'.cell? ⟨ab, aoff + k, none⟩ = some (.int .i64 c) ∧ w'.cell? ⟨bb, boff + k * 2, none⟩ = some (.int .i64 bx) ∧ w'.cell? ⟨bb, boff + k * 2 + 1, none⟩ = some (.int .i64 by') ∧ Ext wr w')
          (first
            | with_reducible exact HKEEP.out _ hk2
            | with_reducible exact HKEEP.out _ hka
            | with_reducible exact HKEEP.out _ ((hk2.setCell (by first | (simp; done) | (simp; omega)) _).setCell (by first | (simp; done) | (simp; omega)) _)
            | with_reducible exact HKEEP.out _ (hk2.trans (Ext.alloc _ _))
            | with_reducible exact HKEEP.out _ (hBB.put _ _).ext)
          (first
            | (go_at_call 115
               refine (s_l3Int c _).mono ?_
               rintro e w2 ⟨rfl, hx_w2⟩
               first | (with_reducible have hBB := Boxed.grow hBB hx_w2) | (with_reducible have hBB := Boxed.firstD hx_w2) | (with_reducible have hBB := Boxed.laterD hk2 hx_w2) | skip
               first | (have b0_ := hBB.c0; have b1_ := hBB.c1; have fb_ := hBB.free) | skip
               have hk2 : Ext wr w2 := by first | with_reducible exact hk2.trans hx_w2 | with_reducible exact hka.trans hx_w2 | with_reducible exact (hk2.trans (Ext.alloc _ _)).trans hx_w2
               have hk2s := hk2.size)
            | (go_at_call 117
               refine (s_SubRat c 1 bx by' _).mono ?_
               rw [HM.out]
               rintro e w3 ⟨rfl, hx_w3⟩
               first | (with_reducible have hBB := Boxed.grow hBB hx_w3) | (with_reducible have hBB := Boxed.firstD hx_w3) | (with_reducible have hBB := Boxed.laterD hk2 hx_w3) | skip
               first | (have b0_ := hBB.c0; have b1_ := hBB.c1; have fb_ := hBB.free) | skip
               have hk2 : Ext wr w3 := by first | with_reducible exact hk2.trans hx_w3 | with_reducible exact hka.trans hx_w3 | with_reducible exact (hk2.trans (Ext.alloc _ _)).trans hx_w3
               have hk2s := hk2.size)
            | fail)
        all_goals (go_wp2_with fail; go_meet; first | exact ⟨_, rfl, rfl, Lib.hid (hBB.put _ _)⟩ | exact ⟨_, rfl, rfl, Lib.hid (Boxed.new hk2 _ _)⟩ | exact ⟨_, rfl, rfl, Lib.hid (Boxed.new' hk2 _ _ (by simp))⟩)
      obtain ⟨g, rfl, rfl, HB1⟩ := hcut
      have g0 := HB1.out.c0
      have g1 := HB1.out.c1
      have X2 := Lib.hid (HX1.out.trans HB1.out.ext)
      have HO2 := Lib.hid (HO1.out.ext HB1.out.ext)
      clear hac hbc0 hbc1
      have hszc := X2.out.size
      cases ok
      · have HN := Lib.hid (show runT (loseF C L) m = none from runT_fail HR.out (by rw [HF.out]; rfl) hlt)
        have HM2 := Lib.hid (OwnR.made wc w.heap.size hszc)
        go_wp2_with fail
        refine bodyPost_ret (v := .tuple #[.slice (some ⟨wc.heap.size, 0, none⟩) 0 0, .bool false]) (by simp [results, Try.results125, go_sem]) rfl ⟨⟨_, by rw [HN.out]; rfl, by rw [HN.out]; exact HM2.out⟩, X2.out.trans (Ext.alloc _ _)⟩
      · have HR2 := Lib.hid (runT_some (x := (p, q)) HR.out (by rw [HF.out]; rfl))
        have HLR := Lib.hid (runT_len HR.out)
        go_wp2_with (first
          | (at_builtin; refine append_rats rfl _ _ rfl w.heap.size (.slice a1 n1 p1) _ rfl (HO2.out.ext (Ext.alloc _ _)) _ 1 _ [(p, q)] rfl (Rats.one' _ _ _ _ _ (by simp)) (by rw [HLR.out]; omega) (by simp; omega) ?_; intro v2 w4 ho hg hnear; obtain ⟨a2, n2, c2, rfl, HN2⟩ := ho.var; have HO4 := Lib.hid ho; have X5 := Lib.hid (ext_grown (X2.out.trans (Ext.alloc _ _)) hg (fun j hj => (HO2.out.lt j hj).1)); clear ho hg hnear))
        go_roundg (gk - 1)
        case measure => have := HK.out; omega
        case rel => exact ⟨k + 1, a2, n2, c2, _, Lib.hid (by have := HK.out; omega), by go_num, rfl, HR2, HO4, X5⟩
    · have hkn : k = m := by have := HK.out; omega
      subst hkn
      go_wp2_with fail
      refine bodyPost_ret (v := .tuple #[.slice a1 n1 p1, .bool true]) (by simp [results, Try.results125, go_sem]) rfl ⟨⟨.slice a1 n1 p1, by rw [HR.out]; rfl, by rw [HR.out]; exact HO1.out⟩, HX1.out⟩

end Go.Proofs.Ytokpmflhgehicaa
