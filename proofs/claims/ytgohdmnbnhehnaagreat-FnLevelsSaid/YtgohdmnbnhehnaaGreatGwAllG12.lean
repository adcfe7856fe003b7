import Derived.Test.YtgohdmnbnhehnaaGreatGwAllG11
import Derived.Test.YtgohdmnbnhehnaaGreatGwAllG1
import Derived.Test.YtgohdmnbnhehnaaGreatGwAllG10
namespace Go.Proofs.YtgohdmnbnhehnaaGreat
set_option linter.unusedVariables false
set_option linter.unusedSimpArgs false
set_option maxRecDepth 100000
open Go.RowKit
theorem ret_tupE {v : Value} {a b : Bool} (h : a = b) : Ending.returned (.tuple #[v, .bool a]) = .returned (.tuple #[v, .bool b]) := by rw [h]
theorem OwnR.madeE (w : World) (base n : Nat) (hn : n = w.heap.size) (hb : base ≤ w.heap.size) : OwnR (w.alloc (.cells #[] 85)) base (.slice (some ⟨n, 0, none⟩) 0 0) [] := by subst hn; exact OwnR.made w base hb
set_option maxHeartbeats 4000000 in
theorem s_ExcessOf {w : World} {p : Int} {a : Option Addr} {n cap : Nat} {V : List Int} (h : Ints w a n cap V) {b : Option Addr} {m mcap : Nat} {X : List (Int × Int)} (hx : Rats w b m mcap X) (hg : gameOk p V = true) {s : Nat} (hs : s < n) :
 Calls Tryz.prog 125 #[pair p a n cap, .slice b m mcap, .int .i64 (s : Int)] w fun e w' => e = .returned (resR ((excS V X s).getD (0, 0), (excS V X s).isSome)) ∧ Ext w w' := by
 obtain ⟨W, hW⟩ : ∃ W, W = (w.alloc (.cells #[.int .i64 p, .slice a n cap] 47)).alloc (.cells #[.int .i64 0, .int .i64 0] 85) := ⟨_, rfl⟩
 have HWS := Lib.hid (show W.heap.size = w.heap.size + 2 by rw [hW]; simp)
 have hX : Ext w W := by rw [hW]; exact (Ext.alloc _ _).trans (Ext.alloc _ _)
 have HRB := Lib.hid (show W.heap[w.heap.size + 1]? = some (.cells #[.int .i64 0, .int .i64 0] 85 (0, 0)) by rw [hW]; exact heapA_new _ _ _ (by simp))
 have HP0 := Lib.hid (show W.cell? ⟨w.heap.size, 0, none⟩ = some (.int .i64 p) by rw [hW]; exact Ext.cellSome (Ext.alloc _ _) (by simp))
 have HP1 := Lib.hid (show W.cell? ⟨w.heap.size, 1, none⟩ = some (.slice a n cap) by rw [hW]; exact Ext.cellSome (Ext.alloc _ _) (by simp))
 have HI := Lib.hid (h.ext hX)
 have HR := Lib.hid (hx.ext hX)
 have HX := Lib.hid hX
 have HV := Lib.hid (s_IsValidGame (p := p) HI.out)
 rw [hg, hW] at HV
 have HL := Lib.hid h.hlen
 obtain ⟨q, rfl, hq1, hq5, hVl, _, hVb⟩ := gameOk_len hg
 have hc := cN_le q hq5
 have hn32 : n ≤ 32 := by have := HL.out; omega
 have HVB := Lib.hid (fun i => getD_bd hVb i)
 have hcap := h.hcap
 have hmax := h.hmax
 have hin : inB (s : Int) 0 ((n : Int) - 1) = true := by unfold inB; simp; omega
 clear h hx hX hg hVl hVb
 go_enter Tryz.func125, Tryz.ntmps125
 go_wp2_with fail
 refine HV.out.mono ?_
 rw [← hW]
 rintro e w1 ⟨rfl, hx1⟩
 have X1 := Lib.hid hx1
 have b0 := hx1.cellSome HP0.out
 have b1 := hx1.cellSome HP1.out
 clear hx1 hW HV
 go_wp2_with fail
 refine (s_l1In _ _ _ _).mono ?_
 rw [hin]
 rintro e w2 ⟨rfl, rfl⟩
 clear hin
 go_wp2_with fail
 refine (s_ShareOf (HR.out.ext X1.out) s (by omega)).mono ?_
 obtain ⟨r1, r2, one, hr⟩ : ∃ r1 r2 one, ((shareP X s).getD (0, 0), (shareP X s).isSome) = (((r1, r2) : Int × Int), one) := ⟨_, _, _, rfl⟩
 rw [hr]
 have HSH := Lib.hid hr
 rintro e w3 ⟨rfl, hx3⟩
 obtain ⟨w4, hw4⟩ : ∃ E, E = w3.alloc (.cells #[.int .i64 r1, .int .i64 r2] 85) := ⟨_, rfl⟩
 have hx4 : Ext w3 w4 := by rw [hw4]; exact Ext.alloc _ _
 have X4 := Lib.hid ((X1.out.trans hx3).trans hx4)
 have c0 := (hx3.trans hx4).cellSome b0
 have c1 := (hx3.trans hx4).cellSome b1
 have d0 : w4.cell? ⟨w3.heap.size, 0, none⟩ = some (.int .i64 r1) := by rw [hw4]; simp
 have d1 : w4.cell? ⟨w3.heap.size, 1, none⟩ = some (.int .i64 r2) := by rw [hw4]; simp
 obtain ⟨vb, vo, rfl, hvc⟩ := (HI.out.ext X4.out).at hs
 obtain ⟨v, hv⟩ : ∃ v, v = V[s]?.getD 0 := ⟨_, rfl⟩
 rw [← hv] at hvc
 obtain ⟨p2, q2, ok, hpq⟩ : ∃ p2 q2 ok, subR (v, 1) (r1, r2) = ((p2, q2), ok) := ⟨_, _, _, rfl⟩
 have HPQ := Lib.hid hpq
 have HVV := Lib.hid hv
 clear hr hx3 hx4 b0 b1 hv hpq
 go_upto_region 4 with fail
 rw [← hw4]
 clear hw4
 go_upto_region 4 with fail
 go_cut [10, 11] (fun sx so wx => ∃ g : Nat, sx = .pointer (some ⟨g, 0, none⟩) ∧ so = .bool ok ∧ Hid (Boxed w4 wx g p2 q2))
 case first =>
  have hk2 : Ext w4 w4.drew := Ext.drew w4
  have hka : Ext w4 (w4.alloc (.cells #[.int .i64 0, .int .i64 0] 85)).drew := (Ext.alloc _ _).trans (Ext.drew _)
  have HKEEP := Lib.hid (fun (w' : World) (h : Ext w4 w') => (⟨h.cellSome c1, h.cellSome hvc, h.cellSome d0, h.cellSome d1, h⟩ : w'.cell? ⟨w.heap.size, 1, none⟩ = some (.slice (some ⟨vb, vo, none⟩) n cap) ∧ w'.cell? ⟨vb, vo + s, none⟩ = some (.int .i64 v) ∧ w'.cell? ⟨w3.heap.size, 0, none⟩ = some (.int .i64 r1) ∧ w'.cell? ⟨w3.heap.size, 1, none⟩ = some (.int .i64 r2) ∧ Ext w4 w'))
  go_region_held3 (fun w' => w'.cell? ⟨w.heap.size, 1, none⟩ = some (.slice (some ⟨vb, vo, none⟩) n cap) ∧ w'.cell? ⟨vb, vo + s, none⟩ = some (.int .i64 v) ∧ w'.cell? ⟨w3.heap.size, 0, none⟩ = some (.int .i64 r1) ∧ w'.cell? ⟨w3.heap.size, 1, none⟩ = some (.int .i64 r2) ∧ Ext w4 w')
   (first
     | with_reducible exact HKEEP.out _ hk2
     | with_reducible exact HKEEP.out _ hka
     | with_reducible exact HKEEP.out _ ((hk2.setCell (by first | (simp; done) | (simp; omega)) _).setCell (by first | (simp; done) | (simp; omega)) _)
     | with_reducible exact HKEEP.out _ (hk2.trans (Ext.alloc _ _))
     | with_reducible exact HKEEP.out _ (hBB.put _ _).ext)
   (first
     | (go_at_call 81
        (with_reducible refine (s_l3Int _ _).mono ?_)
        rintro e w5 ⟨rfl, hx_w5⟩
        first | (with_reducible have hBB := Boxed.grow hBB hx_w5) | (with_reducible have hBB := Boxed.firstD hx_w5) | (with_reducible have hBB := Boxed.laterD hk2 hx_w5) | skip
        first | (have b0_ := hBB.c0; have b1_ := hBB.c1; have fb_ := hBB.free) | skip
        have hk2 : Ext w4 w5 := by first | with_reducible exact hk2.trans hx_w5 | with_reducible exact hka.trans hx_w5 | with_reducible exact (hk2.trans (Ext.alloc _ _)).trans hx_w5
        have hk2s := hk2.size)
     | (go_at_call 165
        (with_reducible refine (s_SubRat _ _ _ _ _).mono ?_)
        rw [HPQ.out]
        rintro e w6 ⟨rfl, hx_w6⟩
        first | (with_reducible have hBB := Boxed.grow hBB hx_w6) | (with_reducible have hBB := Boxed.firstD hx_w6) | (with_reducible have hBB := Boxed.laterD hk2 hx_w6) | skip
        first | (have b0_ := hBB.c0; have b1_ := hBB.c1; have fb_ := hBB.free) | skip
        have hk2 : Ext w4 w6 := by first | with_reducible exact hk2.trans hx_w6 | with_reducible exact hka.trans hx_w6 | with_reducible exact (hk2.trans (Ext.alloc _ _)).trans hx_w6
        have hk2s := hk2.size)
     | fail)
  all_goals (go_wp2_with fail; go_meet; first | exact ⟨_, rfl, rfl, Lib.hid (hBB.put _ _)⟩ | exact ⟨_, rfl, rfl, Lib.hid (Boxed.new hk2 _ _)⟩ | exact ⟨_, rfl, rfl, Lib.hid (Boxed.new' hk2 _ _ (by simp))⟩)
 obtain ⟨g, rfl, rfl, HB⟩ := hcut
 have g0 := HB.out.c0
 have g1 := HB.out.c1
 have XC := Lib.hid (X4.out.trans HB.out.ext)
 have hr := rcell ((XC.out.block _ (by have := HWS.out; omega)).trans HRB.out)
 obtain ⟨hr0, hr1, hrf⟩ := hr
 have XF := Lib.hid (HX.out.trans XC.out)
 cases one
 ·have HN := Lib.hid (show excS V X s = none by
   have := HSH.out
   simp only [Prod.mk.injEq] at this
   unfold excS
   cases hsh : shareP X s with
   | none => rfl
   | some r => rw [hsh] at this; simp at this)
  go_wp2_with fail
  refine bodyPost_ret (v := .tuple #[.agg #[.int .i64 0, .int .i64 0], .bool false]) (by simp [results, Tryz.results125, go_sem, hr0, hr1]) rfl ⟨by rw [HN.out]; rfl, (XF.out.store 0 (by omega) _).store 1 (by omega) _⟩
 ·have HN := Lib.hid (show excS V X s = if ok = true then some (p2, q2) else none by
   have := HSH.out
   simp only [Prod.mk.injEq] at this
   unfold excS
   cases hsh : shareP X s with
   | none => rw [hsh] at this; simp at this
   | some r =>
     rw [hsh] at this
     simp only [Option.getD_some] at this
     rw [this.1]
     show excR (V[s]?.getD 0) (r1, r2) = _
     unfold excR
     rw [← HVV.out, HPQ.out])
  cases ok
  ·go_wp2_with fail
   refine bodyPost_ret (v := .tuple #[.agg #[.int .i64 0, .int .i64 0], .bool false]) (by simp [results, Tryz.results125, go_sem, hr0, hr1]) rfl ⟨by rw [HN.out]; rfl, (XF.out.store 0 (by omega) _).store 1 (by omega) _⟩
  ·go_wp2_with fail
   refine bodyPost_ret (v := .tuple #[.agg #[.int .i64 p2, .int .i64 q2], .bool true]) (by simp [results, Tryz.results125, go_sem, hr0, hr1]) rfl ⟨by rw [HN.out]; rfl, (XF.out.store 0 (by omega) _).store 1 (by omega) _⟩
set_option maxHeartbeats 4000000 in
theorem s_l11All {w : World} {p : Int} {a : Option Addr} {n cap : Nat} {V : List Int} (h : Ints w a n cap V) {b : Option Addr} {m mcap : Nat} {X : List (Int × Int)} (hx : Rats w b m mcap X) :
 Calls Tryz.prog 95 #[pair p a n cap, .slice b m mcap] w fun e w' => (∃ v, e = .returned (.tuple #[v, .bool (allX p V X).isSome]) ∧ OwnR w' w.heap.size v ((allX p V X).getD [])) ∧ Ext w w' := by
 have HX := Lib.hid (Ext.alloc w (.cells #[.int .i64 p, .slice a n cap] 47))
 have HI := Lib.hid (h.ext HX.out)
 have HR := Lib.hid (hx.ext HX.out)
 have HL := Lib.hid h.hlen
 have hcap := h.hcap
 have hmax := h.hmax
 have HP := Lib.hid (fun (w' : World) (hx' : Ext (w.alloc (.cells #[.int .i64 p, .slice a n cap] 47)) w') => s_IsPayoff (p := p) (HI.out.ext hx') (HR.out.ext hx'))
 have k0 : (w.alloc (.cells #[.int .i64 p, .slice a n cap] 47)).cell? ⟨w.heap.size, 0, none⟩ = some (.int .i64 p) := by simp
 have k1 : (w.alloc (.cells #[.int .i64 p, .slice a n cap] 47)).cell? ⟨w.heap.size, 1, none⟩ = some (.slice a n cap) := by simp
 obtain ⟨W, hW⟩ : ∃ W, W = w.alloc (.cells #[.int .i64 p, .slice a n cap] 47) := ⟨_, rfl⟩
 rw [← hW] at HX HI HR HP k0 k1
 have HWS := Lib.hid (show W.heap.size = w.heap.size + 1 by rw [hW]; simp)
 have k0' := (Ext.alloc W (.cells #[] 85)).cellSome k0
 have k1' := (Ext.alloc W (.cells #[] 85)).cellSome k1
 clear h hx
 go_enter Tryz.func95, Tryz.ntmps95
 go_upto_region 2 with fail
 rw [← hW]
 clear hW
 go_wp2_with fail
 refine (HP.out _ (Ext.alloc W (.cells #[] 85))).mono ?_
 rintro e w1 ⟨rfl, hx1⟩
 have X1 := Lib.hid ((Ext.alloc W (.cells #[] 85)).trans hx1)
 have HO1 := Lib.hid (show OwnR w1 W.heap.size (.slice (some ⟨w.heap.size + 1, 0, none⟩) 0 0) [] from HWS.out ▸ (OwnR.made W W.heap.size (Nat.le_refl _)).ext hx1)
 clear hx1 k0' k1'
 cases hp : payP p V X
 ·have HN := Lib.hid (allX_not hp)
  clear hp
  go_wp2_with fail
  go_ret2
  exact ⟨⟨_, ret_tupE (by rw [HN.out]; rfl), by rw [HN.out]; exact HO1.out.mono (by rw [HWS.out]; omega)⟩, HX.out.trans X1.out⟩
 have HA := Lib.hid (allX_ok hp)
 have HG := Lib.hid (payP_game hp)
 obtain ⟨q, hpq, hq1, hq5, hVl, _, hVb⟩ := gameOk_len HG.out
 have hc := cN_le q hq5
 have hn32 : n ≤ 32 := by have := HL.out; omega
 have hn2 : 2 ≤ n := by
  have : ∀ q : Fin 6, 1 ≤ q.val → 2 ≤ cN q.val := by decide
  have := this ⟨q, by omega⟩ hq1
  simp only at this
  have := HL.out
  omega
 rw [HL.out] at HA
 clear hp hpq hVl hVb
 go_wp2_with fail
 go_loopg [6, 7] (n - 2) (fun gk oo ii wr => ∃ (k s : Nat) (a1 : Option Addr) (n1 p1 : Nat) (r : List (Int × Int)), Hid (gk + k = n - 2) ∧ Hid (s = 1 + k) ∧ oo = .slice a1 n1 p1 ∧ ii = .int .i64 (s : Int) ∧ Hid (runT (fun k => excS V X (1 + k)) k = some r) ∧ Hid (OwnR wr W.heap.size (.slice a1 n1 p1) r) ∧ Hid (Ext W wr))
 case atStart => exact ⟨0, 1, _, _, _, [], Lib.hid (by omega), Lib.hid rfl, rfl, rfl, Lib.hid rfl, HO1, X1⟩
 case round =>
  obtain ⟨g1, h_g1⟩ : ∃ x, x = gk := ⟨_, rfl⟩
  subst h_g1
  obtain ⟨wr, h_wr⟩ : ∃ x, x = wr := ⟨_, rfl⟩
  subst h_wr
  obtain ⟨k, s, a1, n1, p1, r, HK, HS, rfl, rfl, HRR, HO, XR⟩ := hrel
  have c0 := XR.out.cellSome k0
  have c1 := XR.out.cellSome k1
  have hsz := XR.out.size
  have hs1 : 1 ≤ s := by have := HS.out; omega
  by_cases hlt : s + 1 < n
  ·have HE := Lib.hid (s_ExcessOf (p := p) (HI.out.ext XR.out) (HR.out.ext XR.out) HG.out (s := s) (by omega))
   obtain ⟨x, y, ok, hxy⟩ : ∃ x y ok, ((excS V X s).getD (0, 0), (excS V X s).isSome) = (((x, y) : Int × Int), ok) := ⟨_, _, _, rfl⟩
   rw [hxy] at HE
   have HXY := Lib.hid hxy
   clear hxy
   go_wp2_with fail
   refine HE.out.mono ?_
   rintro e w3 ⟨rfl, hx3⟩
   have X4 := Lib.hid ((XR.out.trans hx3).trans (Ext.alloc w3 (.cells #[.int .i64 x, .int .i64 y] 85)))
   have HO4 := Lib.hid ((HO.out.ext hx3).ext (Ext.alloc w3 (.cells #[.int .i64 x, .int .i64 y] 85)))
   have hs3 := (XR.out.trans hx3).size
   clear hx3
   cases ok
   ·have HN := Lib.hid (show allX p V X = none by
     rw [HA.out]
     unfold excL
     refine runT_fail HRR.out ?_ (show k < n - 2 by have := HS.out; omega)
     rw [← HS.out]
     have := HXY.out
     simp only [Prod.mk.injEq] at this
     cases hq : excS V X s with
     | none => rfl
     | some z => rw [hq] at this; simp at this)
    go_wp2_with fail
    go_ret2
    exact ⟨⟨_, ret_tupE (by rw [HN.out]; rfl), by rw [HN.out]; exact OwnR.madeE _ _ _ (by simp) (by have := X4.out.size; have := HX.out.size; omega)⟩, (HX.out.trans X4.out).trans (Ext.alloc _ _)⟩
   ·have HR2 := Lib.hid (runT_some (x := (x, y)) HRR.out (by
     rw [← HS.out]
     have := HXY.out
     simp only [Prod.mk.injEq] at this
     cases hq : excS V X s with
     | none => rw [hq] at this; simp at this
     | some z => rw [hq] at this; simp at this; rw [this]))
    have HLR := Lib.hid (runT_len HRR.out)
    have hk32 : k ≤ 32 := by have := HS.out; omega
    go_wp2_with (first
     | (at_builtin; refine append_rats rfl _ _ rfl W.heap.size (.slice a1 n1 p1) _ rfl (HO4.out.ext (Ext.alloc _ _)) _ 1 _ [(x, y)] rfl (Rats.one' _ _ _ _ _ (by simp)) (by rw [HLR.out]; omega) (by simp; omega) ?_; intro v2 w5 ho hg hnear; obtain ⟨a2, n2, c2, rfl, HN2⟩ := ho.var; have HO5 := Lib.hid ho; have X5 := Lib.hid (ext_grown (X4.out.trans (Ext.alloc _ _)) hg (fun j hj => (HO4.out.lt j hj).1)); clear ho hg hnear))
    go_roundg (g1 - 1)
    case measure => have := HK.out; have := HS.out; omega
    case rel => exact ⟨k + 1, s + 1, a2, n2, c2, _, Lib.hid (by have := HK.out; have := HS.out; omega), Lib.hid (by have := HS.out; omega), rfl, by go_num, HR2, HO5, X5⟩
  ·have hk2 : k = n - 2 := by have := HK.out; have := HS.out; omega
   subst hk2
   go_wp2_with fail
   go_ret2
   exact ⟨⟨_, ret_tupE (by rw [HA.out]; unfold excL; rw [HRR.out]; rfl), by rw [HA.out]; unfold excL; rw [HRR.out]; exact HO.out.mono (by rw [HWS.out]; omega)⟩, HX.out.trans XR.out⟩
set_option maxHeartbeats 400000 in
theorem l_sameInts {w : World} {a a' : Option Addr} {n n' cap cap' : Nat} {l l' : List Int} (h : Ints w a n cap l) (h' : Ints w a' n' cap' l') :
 Calls Tryz.prog 55 #[.slice a n cap, .slice a' n' cap'] w fun e w' => e = .returned (.bool (decide (l = l'))) ∧ Drew w w' := by
 have hn := h.hcap
 have hm := h.hmax
 have hn' := h'.hcap
 have hm' := h'.hmax
 have HL := Lib.hid h.hlen
 have HL' := Lib.hid h'.hlen
 by_cases hne : n = n'
 ·subst hne
  go_enter Tryz.func55, Tryz.ntmps55
  go_wp2
  go_loopw [5] (fun i wr => ∃ k : Nat, k ≤ n ∧ i = .int .i64 k ∧ l.take k = l'.take k ∧ Drew w wr) (fun i _ => n - (intOf i).toNat)
  case atStart => exact ⟨0, Nat.zero_le _, rfl, rfl, Drew.refl _⟩
  case round =>
   obtain ⟨k, hk, rfl, htk, hx⟩ := hrel
   have HT := Lib.hid htk
   clear htk
   by_cases hlt : k < n
   ·have h1 := h.ext hx.ext
    have h1' := h'.ext hx.ext
    obtain ⟨b, off, rfl, hc⟩ := h1.at hlt
    obtain ⟨b', off', rfl, hc'⟩ := h1'.at hlt
    by_cases hq : l[k]?.getD 0 = l'[k]?.getD 0
    ·have HQ := Lib.hid hq
     have hq1 : (l[k]?.getD 0 != l'[k]?.getD 0) = false := by simp [hq]
     clear hq
     go_wp2
     go_quiet (fail)
     go_wp2
     go_roundw
     case rel => exact ⟨k + 1, by omega, by go_num, by rw [take_snoc (by have := HL.out; omega), take_snoc (by have := HL'.out; omega), HT.out, HQ.out], hx.trans ⟨_, rfl⟩⟩
     case measure => simp [intOf]; omega
    ·have HQ := Lib.hid hq
     have hq1 : (l[k]?.getD 0 != l'[k]?.getD 0) = true := by simp [hq]
     clear hq
     go_wp2
     go_quiet (fail)
     go_wp2
     go_ret
     refine ⟨ret_bool ?_, hx.trans ⟨_, rfl⟩⟩
     symm
     rw [decide_eq_false_iff_not]
     intro e
     exact HQ.out (by rw [e])
   ·go_wp2
    go_ret
    refine ⟨ret_bool ?_, hx⟩
    symm
    rw [decide_eq_true_eq]
    have := HT.out
    rwa [List.take_of_length_le (by have := HL.out; omega), List.take_of_length_le (by have := HL'.out; omega)] at this
 ·have hne' : ((n : Int) != (n' : Int)) = true := by simp; omega
  have HN := Lib.hid hne
  clear hne
  go_enter Tryz.func55, Tryz.ntmps55
  go_wp2
  go_ret
  refine ⟨ret_bool ?_, Drew.refl _⟩
  symm
  rw [decide_eq_false_iff_not]
  intro e
  exact HN.out (by rw [← HL.out, ← HL'.out, e])
set_option maxHeartbeats 400000 in
theorem l_sameLists {w : World} {a a' : Option Addr} {n n' cap cap' : Nat} {L L' : List (List Int)} (h : IntSS w a n cap L) (h' : IntSS w a' n' cap' L') :
 Calls Tryz.prog 52 #[.slice a n cap, .slice a' n' cap'] w fun e w' => e = .returned (.bool (decide (L = L'))) ∧ Drew w w' := by
 have hn := h.hcap
 have hm := h.hmax
 have hn' := h'.hcap
 have hm' := h'.hmax
 have HL := Lib.hid h.hlen
 have HL' := Lib.hid h'.hlen
 by_cases hne : n = n'
 ·subst hne
  go_enter Tryz.func52, Tryz.ntmps52
  go_wp2
  go_loopw [5] (fun i wr => ∃ k : Nat, k ≤ n ∧ i = .int .i64 k ∧ Hid (L.take k = L'.take k) ∧ Drew w wr) (fun i _ => n - (intOf i).toNat)
  case atStart => exact ⟨0, Nat.zero_le _, rfl, Lib.hid rfl, Drew.refl _⟩
  case round =>
   obtain ⟨k, hk, rfl, HT, hx⟩ := hrel
   by_cases hlt : k < n
   ·obtain ⟨b, off, a1, n1, c1, rfl, hc, hr⟩ := (h.ext hx.ext).at hlt
    obtain ⟨b', off', a2, n2, c2, rfl, hc', hr'⟩ := (h'.ext hx.ext).at hlt
    have HE := Lib.hid fun m => quiet_drew (l_sameInts (hr.drewN m) (hr'.drewN m))
    clear hr hr'
    cases hq : decide (L[k]?.getD [] = L'[k]?.getD [])
    ·have HQ := Lib.hid hq
     rw [hq] at HE
     clear hq
     go_wp2
     go_quiet ((go_at_call 55; exact HE.out _))
     go_wp2
     go_ret
     refine ⟨ret_bool ?_, hx.trans ⟨_, rfl⟩⟩
     symm
     rw [decide_eq_false_iff_not]
     intro e
     have := HQ.out
     rw [decide_eq_false_iff_not] at this
     exact this (by rw [e])
    ·have HQ := Lib.hid hq
     rw [hq] at HE
     clear hq
     go_wp2
     go_quiet ((go_at_call 55; exact HE.out _))
     go_wp2
     go_roundw
     case rel => exact ⟨k + 1, by omega, by go_num, Lib.hid (by rw [takeL_snoc (by have := HL.out; omega), takeL_snoc (by have := HL'.out; omega), HT.out, of_decide_eq_true HQ.out]), hx.trans ⟨_, rfl⟩⟩
     case measure => simp [intOf]; omega
   ·go_wp2
    go_ret
    refine ⟨ret_bool ?_, hx⟩
    symm
    rw [decide_eq_true_eq]
    have := HT.out
    rwa [List.take_of_length_le (by have := HL.out; omega), List.take_of_length_le (by have := HL'.out; omega)] at this
 ·have hne' : ((n : Int) != (n' : Int)) = true := by simp; omega
  have HN := Lib.hid hne
  clear hne
  go_enter Tryz.func52, Tryz.ntmps52
  go_wp2
  go_ret
  refine ⟨ret_bool ?_, Drew.refl _⟩
  symm
  rw [decide_eq_false_iff_not]
  intro e
  exact HN.out (by rw [← HL.out, ← HL'.out, e])
set_option maxHeartbeats 4000000 in
theorem i_AddScaled {w : World} {k1 k2 : Int} {a b : Option Addr} {n cap n' cap' : Nat} {A B : List (Int × Int)} (h : Rats w a n cap A) (h' : Rats w b n' cap' B) (hbig : n ≤ 1048576) :
 Calls Tryz.prog 248 #[.slice a n cap, ratV k1 k2, .slice b n' cap'] w fun e w' => (∃ v, e = .returned (.tuple #[v, .bool (sclL A (k1, k2) B).isSome]) ∧ OwnR w' w.heap.size v ((sclL A (k1, k2) B).getD [])) ∧ Ext w w' := by
 have HL := Lib.hid h.hlen
 have HL' := Lib.hid h'.hlen
 have hmax := h.hmax
 have hcap := h.hcap
 have hmax' := h'.hmax
 have hcap' := h'.hcap
 have HA := Lib.hid h
 have HB' := Lib.hid h'
 have HX := Lib.hid (Ext.alloc w (.cells #[.int .i64 k1, .int .i64 k2] 85))
 clear h h'
 by_cases hne : n = n'
 ·subst hne
  have HS := Lib.hid (show sclL A (k1, k2) B = runT (sclF A (k1, k2) B) n by unfold sclL; rw [HL.out, HL'.out, if_pos rfl])
  have HO := Lib.hid (OwnR.made (w.alloc (.cells #[.int .i64 k1, .int .i64 k2] 85)) (w.heap.size + 1) (by simp))
  go_enter Tryz.func248, Tryz.ntmps248
  go_wp2_with fail
  go_loopg [8, 22] n (fun gk o i wr => ∃ (k : Nat) (a1 : Option Addr) (n1 p1 : Nat) (r : List (Int × Int)), Hid (gk + k = n) ∧ i = .int .i64 (k : Int) ∧ o = .slice a1 n1 p1 ∧ Hid (runT (sclF A (k1, k2) B) k = some r) ∧ Hid (OwnR wr (w.heap.size + 1) (.slice a1 n1 p1) r) ∧ Hid (Ext (w.alloc (.cells #[.int .i64 k1, .int .i64 k2] 85)) wr))
  case atStart => exact ⟨0, _, _, _, [], Lib.hid (by omega), rfl, rfl, Lib.hid rfl, Lib.hid (by simpa using HO.out), Lib.hid (Ext.alloc _ _)⟩
  case round =>
   obtain ⟨k, a1, n1, p1, r, HK, rfl, rfl, HR, HO1, HX1⟩ := hrel
   have hszr := HX1.out.size
   rw [World.size_alloc] at hszr
   by_cases hlt : k < n
   ·have hkc0 : wr.cell? ⟨w.heap.size, 0, none⟩ = some (.int .i64 k1) := HX1.out.cellSome (by simp)
    have hkc1 : wr.cell? ⟨w.heap.size, 1, none⟩ = some (.int .i64 k2) := HX1.out.cellSome (by simp)
    obtain ⟨ab, aoff, ax, ay, ha, hax, hac0, hac1⟩ := ((HA.out.ext HX.out).ext HX1.out).at hlt
    obtain ⟨bb, boff, bx, by', hb, hbx, hbc0, hbc1⟩ := ((HB'.out.ext HX.out).ext HX1.out).at hlt
    subst ha hb
    have HAX := Lib.hid hax
    have HBX := Lib.hid hbx
    obtain ⟨p, q, one, hm⟩ : ∃ p q ok, mulR (k1, k2) (bx, by') = ((p, q), ok) := ⟨_, _, _, rfl⟩
    have HM := Lib.hid hm
    obtain ⟨p2, q2, two, hs2⟩ : ∃ u v ok, addR (ax, ay) (p, q) = ((u, v), ok) := ⟨_, _, _, rfl⟩
    have HS2 := Lib.hid hs2
    clear hax hbx hm hs2
    go_upto_region 7 with fail
    go_cut [10, 11] (fun sx so wx => ∃ g : Nat, sx = .pointer (some ⟨g, 0, none⟩) ∧ so = .bool one ∧ Hid (Boxed wr wx g p q))
    case first =>
     have hk2 : Ext wr wr.drew := Ext.drew wr
     have hka : Ext wr (wr.alloc (.cells #[.int .i64 0, .int .i64 0] 85)).drew := (Ext.alloc _ _).trans (Ext.drew _)
     have HKEEP := Lib.hid (fun (w' : World) (h : Ext wr w') => (⟨h.cellSome hkc0, h.cellSome hkc1, h.cellSome hbc0, h.cellSome hbc1, h⟩ : w'.cell? ⟨w.heap.size, 0, none⟩ = some (.int .i64 k1) ∧ w'.cell? ⟨w.heap.size, 1, none⟩ = some (.int .i64 k2) ∧ w'.cell? ⟨bb, boff + k * 2, none⟩ = some (.int .i64 bx) ∧ w'.cell? ⟨bb, boff + k * 2 + 1, none⟩ = some (.int .i64 by') ∧ Ext wr w'))
     go_region_held3 (fun w' => w'.cell? ⟨w.heap.size, 0, none⟩ = some (.int .i64 k1) ∧ w'.cell? ⟨w.heap.size, 1, none⟩ = some (.int .i64 k2) ∧ w'.cell? ⟨bb, boff + k * 2, none⟩ = some (.int .i64 bx) ∧ w'.cell? ⟨bb, boff + k * 2 + 1, none⟩ = some (.int .i64 by') ∧ Ext wr w')
      (first
        | with_reducible exact HKEEP.out _ hk2
        | with_reducible exact HKEEP.out _ hka
        | with_reducible exact HKEEP.out _ ((hk2.setCell (by first | (simp; done) | (simp; omega)) _).setCell (by first | (simp; done) | (simp; omega)) _)
        | with_reducible exact HKEEP.out _ (hk2.trans (Ext.alloc _ _))
        | with_reducible exact HKEEP.out _ (hBB.put _ _).ext)
      (first
        | (go_at_call 229
           (with_reducible refine (i_MulRat k1 k2 bx by' _).mono ?_)
           rw [HM.out]
           rintro e w3 ⟨rfl, hx_w3⟩
           first | (with_reducible have hBB := Boxed.grow hBB hx_w3) | (with_reducible have hBB := Boxed.firstD hx_w3) | (with_reducible have hBB := Boxed.laterD hk2 hx_w3) | skip
           first | (have b0_ := hBB.c0; have b1_ := hBB.c1; have fb_ := hBB.free) | skip
           have hk2 : Ext wr w3 := by first | with_reducible exact hk2.trans hx_w3 | with_reducible exact hka.trans hx_w3 | with_reducible exact (hk2.trans (Ext.alloc _ _)).trans hx_w3
           have hk2s := hk2.size)
        | fail)
     all_goals (go_wp2_with fail; go_meet; first | exact ⟨_, rfl, rfl, Lib.hid (hBB.put _ _)⟩ | exact ⟨_, rfl, rfl, Lib.hid (Boxed.new hk2 _ _)⟩ | exact ⟨_, rfl, rfl, Lib.hid (Boxed.new' hk2 _ _ (by simp))⟩)
    obtain ⟨g, rfl, rfl, HB1⟩ := hcut
    have g0 := HB1.out.c0
    have g1 := HB1.out.c1
    replace hac0 := HB1.out.ext.cellSome hac0
    replace hac1 := HB1.out.ext.cellSome hac1
    clear hkc0 hkc1 hbc0 hbc1
    go_upto_region 8 with fail
    go_cut [12, 13] (fun sx so wx => ∃ g2 : Nat, sx = .pointer (some ⟨g2, 0, none⟩) ∧ so = .bool two ∧ Hid (Boxed wc wx g2 p2 q2))
    case first =>
     have hk2 : Ext wc wc.drew := Ext.drew wc
     have hka : Ext wc (wc.alloc (.cells #[.int .i64 0, .int .i64 0] 85)).drew := (Ext.alloc _ _).trans (Ext.drew _)
     have HKEEP := Lib.hid (fun (w' : World) (h : Ext wc w') => (⟨h.cellSome hac0, h.cellSome hac1, h.cellSome g0, h.cellSome g1, h⟩ : w'.cell? ⟨ab, aoff + k * 2, none⟩ = some (.int .i64 ax) ∧ w'.cell? ⟨ab, aoff + k * 2 + 1, none⟩ = some (.int .i64 ay) ∧ w'.cell? ⟨g, 0, none⟩ = some (.int .i64 p) ∧ w'.cell? ⟨g, 1, none⟩ = some (.int .i64 q) ∧ Ext wc w'))
     go_region_held3 (fun w' => w'.cell? ⟨ab, aoff + k * 2, none⟩ = some (.int .i64 ax) ∧ w'.cell? ⟨ab, aoff + k * 2 + 1, none⟩ = some (.int .i64 ay) ∧ w'.cell? ⟨g, 0, none⟩ = some (.int .i64 p) ∧ w'.cell? ⟨g, 1, none⟩ = some (.int .i64 q) ∧ Ext wc w')
      (first
        | with_reducible exact HKEEP.out _ hk2
        | with_reducible exact HKEEP.out _ hka
        | with_reducible exact HKEEP.out _ ((hk2.setCell (by first | (simp; done) | (simp; omega)) _).setCell (by first | (simp; done) | (simp; omega)) _)
        | with_reducible exact HKEEP.out _ (hk2.trans (Ext.alloc _ _))
        | with_reducible exact HKEEP.out _ (hBB.put _ _).ext)
      (first
        | (go_at_call 147
           (with_reducible refine (i_AddRat ax ay p q _).mono ?_)
           rw [HS2.out]
           rintro e w4 ⟨rfl, hx_w4⟩
           first | (with_reducible have hBB := Boxed.grow hBB hx_w4) | (with_reducible have hBB := Boxed.firstD hx_w4) | (with_reducible have hBB := Boxed.laterD hk2 hx_w4) | skip
           first | (have b0_ := hBB.c0; have b1_ := hBB.c1; have fb_ := hBB.free) | skip
           have hk2 : Ext wc w4 := by first | with_reducible exact hk2.trans hx_w4 | with_reducible exact hka.trans hx_w4 | with_reducible exact (hk2.trans (Ext.alloc _ _)).trans hx_w4
           have hk2s := hk2.size)
        | fail)
     all_goals (go_wp2_with fail; go_meet; first | exact ⟨_, rfl, rfl, Lib.hid (hBB.put _ _)⟩ | exact ⟨_, rfl, rfl, Lib.hid (Boxed.new hk2 _ _)⟩ | exact ⟨_, rfl, rfl, Lib.hid (Boxed.new' hk2 _ _ (by simp))⟩)
    obtain ⟨g2, rfl, rfl, HB2⟩ := hcut
    have X2 := Lib.hid ((HX1.out.trans HB1.out.ext).trans HB2.out.ext)
    have HO2 := Lib.hid ((HO1.out.ext HB1.out.ext).ext HB2.out.ext)
    have h0 := HB2.out.c0
    have h1 := HB2.out.c1
    have HF := Lib.hid (show sclF A (k1, k2) B k = if (one && two) = true then some (p2, q2) else none by unfold sclF; rw [HAX.out, HBX.out, HM.out]; simp only; rw [HS2.out]; simp only [Bool.and_eq_true])
    clear hac0 hac1 g0 g1
    cases hb12 : (one && two)
    ·have HN := Lib.hid (show runT (sclF A (k1, k2) B) n = none from runT_fail HR.out (by rw [HF.out, hb12]; rfl) hlt)
     cases one
     case' true => (have h2 : two = false := by simpa using hb12); subst h2
     all_goals
      clear hb12
      go_wp2_with fail
      refine bodyPost_ret (v := .tuple #[.slice none 0 0, .bool false]) (by simp [results, Tryz.results248, go_sem]) rfl ⟨⟨.slice none 0 0, by rw [HS.out, HN.out]; rfl, by rw [HS.out, HN.out]; exact OwnR.nil _ _⟩, HX.out.trans X2.out⟩
    ·obtain ⟨rfl, rfl⟩ : one = true ∧ two = true := by simpa using hb12
     have HR2 := Lib.hid (runT_some (x := (p2, q2)) HR.out (by rw [HF.out]; rfl))
     have HLR := Lib.hid (runT_len HR.out)
     have hszc := X2.out.size
     rw [World.size_alloc] at hszc
     clear hb12
     go_wp2_with (first
      | (at_builtin; refine append_rats rfl _ _ rfl (w.heap.size + 1) (.slice a1 n1 p1) _ rfl (HO2.out.ext (Ext.alloc _ _)) _ 1 _ [(p2, q2)] rfl (Rats.one' _ _ _ _ _ (by simp)) (by rw [HLR.out]; omega) (by simp; omega) ?_; intro v2 w4 ho hg hnear; obtain ⟨a2, n2, c2, rfl, HN2⟩ := ho.var; have HO4 := Lib.hid ho; have X5 := Lib.hid (ext_grown (X2.out.trans (Ext.alloc _ _)) hg (fun j hj => by have := (HO2.out.lt j hj).1; simpa using this)); clear ho hg hnear))
     go_roundg (gk - 1)
     case measure => have := HK.out; omega
     case rel => exact ⟨k + 1, a2, n2, c2, _, Lib.hid (by have := HK.out; omega), by go_num, rfl, HR2, HO4, X5⟩
   ·have hkn : k = n := by have := HK.out; omega
    subst hkn
    go_wp2_with fail
    refine bodyPost_ret (v := .tuple #[.slice a1 n1 p1, .bool true]) (by simp [results, Tryz.results248, go_sem]) rfl ⟨⟨.slice a1 n1 p1, by rw [HS.out, HR.out]; rfl, by rw [HS.out, HR.out]; exact HO1.out.mono (Nat.le_succ _)⟩, HX.out.trans HX1.out⟩
 ·have HN := Lib.hid (show sclL A (k1, k2) B = none by unfold sclL; rw [HL.out, HL'.out, if_neg hne])
  go_enter Tryz.func248, Tryz.ntmps248
  go_wp2_with fail
  refine bodyPost_ret (v := .tuple #[.slice none 0 0, .bool false]) (by simp [results, Tryz.results248, go_sem]) rfl ⟨⟨.slice none 0 0, by rw [HN.out]; rfl, by rw [HN.out]; exact OwnR.nil _ _⟩, HX.out⟩
end Go.Proofs.YtgohdmnbnhehnaaGreat
