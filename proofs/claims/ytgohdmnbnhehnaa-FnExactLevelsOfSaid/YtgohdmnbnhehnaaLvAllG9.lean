import Derived.Test.YtgohdmnbnhehnaaLvAllG8
import Derived.Test.YtgohdmnbnhehnaaLvAllG6
import Derived.Test.YtgohdmnbnhehnaaLvAllG7
namespace Go.Proofs.Ytgohdmnbnhehnaa
set_option linter.unusedVariables false
set_option linter.unusedSimpArgs false
set_option maxRecDepth 100000
open Go.RowKit
theorem getD_bd {V : List Int} (hV : ∀ x ∈ V, -500 ≤ x ∧ x ≤ 500) (k : Nat) : -500 ≤ V[k]?.getD 0 ∧ V[k]?.getD 0 ≤ 500 := by
 by_cases h : k < V.length
 ·have := hV _ (List.getElem_mem h); simpa [h] using this
 ·simp [List.getElem?_eq_none (by omega : V.length ≤ k)]
def payP (p : Int) (V : List Int) (X : List (Int × Int)) : Bool :=
 gameOk p V && (decide ((X.length : Int) = p) && (allV X && decide (shareP X (V.length - 1) = some (grandV p V, 1))))
set_option maxHeartbeats 4000000 in
theorem s_IsPayoff {w : World} {p : Int} {a : Option Addr} {n cap : Nat} {V : List Int} (h : Ints w a n cap V) {b : Option Addr} {m mcap : Nat} {X : List (Int × Int)} (hx : Rats w b m mcap X) :
 Calls Try.prog 21 #[pair p a n cap, .slice b m mcap] w fun e w' => e = .returned (.bool (payP p V X)) ∧ Ext w w' := by
 have HX := Lib.hid (Ext.alloc w (.cells #[.int .i64 p, .slice a n cap] 26))
 have HL := Lib.hid h.hlen
 have HLX := Lib.hid hx.hlen
 have HI := Lib.hid (h.ext HX.out)
 have HR := Lib.hid (hx.ext HX.out)
 have hxcap := hx.hcap
 have hxmax := hx.hmax
 have HV := Lib.hid (s_IsValidGame (p := p) HI.out)
 clear h hx
 cases hv : gameOk p V
 ·rw [hv] at HV
  have HP := Lib.hid (show payP p V X = false by unfold payP; rw [hv]; rfl)
  clear hv
  go_enter Try.func21, Try.ntmps21
  go_wp2_with fail
  refine HV.out.mono ?_
  rintro e w1 ⟨rfl, hx⟩
  have X1 := Lib.hid (HX.out.trans hx)
  clear hx
  go_wp2_with fail
  go_ret
  exact ⟨ret_bool HP.out.symm, X1.out⟩
 rw [hv] at HV
 obtain ⟨q, rfl, h1, h5, hlen, _, hbd⟩ := gameOk_len hv
 have HVV := Lib.hid hv
 have hN := cN_le q h5
 obtain ⟨u, rfl⟩ : ∃ u, n = u + 1 := ⟨n - 1, by have := HL.out; omega⟩
 have hu32 : u ≤ 31 := by have := HL.out; omega
 have HGB := Lib.hid (show -500 ≤ grandV (q : Int) V ∧ grandV (q : Int) V ≤ 500 by rw [grandV_ok hv]; exact getD_bd hbd _)
 clear hv hlen hbd hN
 by_cases hml : m = q
 ·subst hml
  have HAV := Lib.hid (fun (w' : World) (hx : Ext (w.alloc (.cells #[.int .i64 (m : Int), .slice a (u + 1) cap] 26)) w') => s_AllValid (HR.out.ext hx))
  cases hav : allV X
  ·have HP := Lib.hid (show payP (m : Int) V X = false by unfold payP; rw [hav]; simp)
   rw [hav] at HAV
   clear hav
   go_enter Try.func21, Try.ntmps21
   go_wp2_with fail
   refine HV.out.mono ?_
   rintro e w1 ⟨rfl, hx⟩
   have c0 : w1.cell? ⟨w.heap.size, 0, none⟩ = some (.int .i64 (m : Int)) := hx.cellSome (by simp)
   have hmm : ((m : Int) != (m : Int)) = false := by simp
   have HA1 := Lib.hid (HAV.out w1 hx)
   have X1 := Lib.hid (HX.out.trans hx)
   clear hx
   go_wp2_with fail
   refine HA1.out.mono ?_
   rintro e w2 ⟨rfl, hx2⟩
   have X2 := Lib.hid (X1.out.trans hx2)
   clear hx2
   go_wp2_with fail
   go_ret
   exact ⟨ret_bool HP.out.symm, X2.out⟩
  ·rw [hav] at HAV
   have HAVV := Lib.hid hav
   clear hav
   go_enter Try.func21, Try.ntmps21
   go_wp2_with fail
   refine HV.out.mono ?_
   rintro e w1 ⟨rfl, hx⟩
   have c0 : w1.cell? ⟨w.heap.size, 0, none⟩ = some (.int .i64 (m : Int)) := hx.cellSome (by simp)
   have c1 : w1.cell? ⟨w.heap.size, 1, none⟩ = some (.slice a (u + 1) cap) := hx.cellSome (by simp)
   have hmm : ((m : Int) != (m : Int)) = false := by simp
   have HA1 := Lib.hid (HAV.out w1 hx)
   have X1 := Lib.hid hx
   clear hx
   go_wp2_with fail
   refine HA1.out.mono ?_
   rintro e w2 ⟨rfl, hx2⟩
   have X2 := Lib.hid (X1.out.trans hx2)
   replace c0 := hx2.cellSome c0
   replace c1 := hx2.cellSome c1
   clear hx2
   have hlen1 : ((u + 1 : Nat) : Int) - 1 = (u : Int) := by omega
   have HSH := Lib.hid (s_ShareOf (HR.out.ext X2.out) u (by omega))
   have HPE := Lib.hid (show payP (m : Int) V X = decide (shareP X u = some (grandV (m : Int) V, 1)) by
    unfold payP; rw [HVV.out, HAVV.out, decide_eq_true (by rw [HLX.out]), HL.out]; rfl)
   cases hsh : shareP X u with
   | none =>
     have HF := Lib.hid (show payP (m : Int) V X = false by rw [HPE.out, hsh]; rfl)
     rw [hsh] at HSH
     clear hsh
     go_wp2_with fail
     refine HSH.out.mono ?_
     rintro e w3 ⟨rfl, hx3⟩
     have X3 := Lib.hid ((HX.out.trans X2.out).trans hx3)
     clear hx3
     go_wp2_with fail
     go_quiet (fail)
     go_wp2_with fail
     go_ret
     exact ⟨ret_bool HF.out.symm, (X3.out.trans (Ext.alloc _ _)).trans (Drew.ext ⟨_, rfl⟩)⟩
   | some r =>
     obtain ⟨r1, r2⟩ := r
     have HF := Lib.hid (show payP (m : Int) V X = (decide (r1 = grandV (m : Int) V) && decide (r2 = 1)) by
      rw [HPE.out, hsh]; simp)
     rw [hsh] at HSH
     clear hsh
     go_wp2_with fail
     refine HSH.out.mono ?_
     rintro e w3 ⟨rfl, hx3⟩
     replace c0 := hx3.cellSome c0
     replace c1 := hx3.cellSome c1
     have X3 := Lib.hid (X2.out.trans hx3)
     clear hx3
     obtain ⟨E, hE⟩ : ∃ E, E = w3.alloc (.cells #[.int .i64 r1, .int .i64 r2] 34) := ⟨_, rfl⟩
     have hxE : Ext w3 E := by rw [hE]; exact Ext.alloc _ _
     have XE := Lib.hid (X3.out.trans hxE)
     have e0 := hxE.cellSome c0
     have e1 := hxE.cellSome c1
     have b0 : E.cell? ⟨w3.heap.size, 0, none⟩ = some (.int .i64 r1) := by rw [hE]; simp
     have b1 : E.cell? ⟨w3.heap.size, 1, none⟩ = some (.int .i64 r2) := by rw [hE]; simp
     have HGV := Lib.hid (fun (w' : World) (hx : Ext E w') => s_GrandValue (p := (m : Int)) ((HI.out.ext XE.out).ext hx))
     obtain ⟨G, hG⟩ : ∃ G, G = grandV (m : Int) V := ⟨_, rfl⟩
     rw [← hG] at HF HGV
     clear hG
     go_upto_region 4 with fail
     rw [← hE]
     clear hE c0 c1 hxE
     have hk2 : Ext E E.drew := Ext.drew E
     have HKEEP := Lib.hid (fun (w' : World) (h : Ext E w') => (⟨h.cellSome e0, h.cellSome e1, h.cellSome b0, h.cellSome b1, h⟩ : w'.cell? ⟨w.heap.size, 0, none⟩ = some (.int .i64 (m : Int)) ∧ w'.cell? ⟨w.heap.size, 1, none⟩ = some (.slice a (u + 1) cap) ∧ w'.cell? ⟨w3.heap.size, 0, none⟩ = some (.int .i64 r1) ∧ w'.cell? ⟨w3.heap.size, 1, none⟩ = some (.int .i64 r2) ∧ Ext E w'))
     cases hx1 : (r1 == G)
     all_goals
      cases hy1 : (r2 == 1)
     all_goals
      have HF2 := Lib.hid (show payP (m : Int) V X = ((r1 == G) && (r2 == 1)) by rw [HF.out]; rw [Bool.eq_iff_iff]; simp)
      rw [hx1, hy1] at HF2
      go_region_held3 (fun w' => w'.cell? ⟨w.heap.size, 0, none⟩ = some (.int .i64 (m : Int)) ∧ w'.cell? ⟨w.heap.size, 1, none⟩ = some (.slice a (u + 1) cap) ∧ w'.cell? ⟨w3.heap.size, 0, none⟩ = some (.int .i64 r1) ∧ w'.cell? ⟨w3.heap.size, 1, none⟩ = some (.int .i64 r2) ∧ Ext E w')
       (first
         | with_reducible exact HKEEP.out _ hk2)
       (first
         | (go_at_call 75
            (with_reducible refine (HGV.out _ hk2).mono ?_)
            rintro e w4 ⟨rfl, hx4⟩
            have hk2 : Ext E w4 := hk2.trans hx4)
         | (go_at_call 74
            (with_reducible refine (s_l3Int _ _).mono ?_)
            rintro e w5 ⟨rfl, hx5⟩
            have hk2 : Ext E w5 := hk2.trans hx5)
         | fail)
      all_goals
       go_wp2_with fail
       go_ret
       exact ⟨ret_bool (by rw [HF2.out]; rfl), HX.out.trans (XE.out.trans hk2)⟩
 ·have HP := Lib.hid (show payP (q : Int) V X = false by unfold payP; rw [decide_eq_false (by rw [HLX.out]; omega : ¬ (X.length : Int) = (q : Int))]; simp)
  have hmm : ((m : Int) != (q : Int)) = true := by simp; omega
  go_enter Try.func21, Try.ntmps21
  go_wp2_with fail
  refine HV.out.mono ?_
  rintro e w1 ⟨rfl, hx⟩
  have c0 : w1.cell? ⟨w.heap.size, 0, none⟩ = some (.int .i64 (q : Int)) := hx.cellSome (by simp)
  have X1 := Lib.hid (HX.out.trans hx)
  clear hx
  go_wp2_with fail
  go_ret
  exact ⟨ret_bool HP.out.symm, X1.out⟩
def excR (v : Int) (r : Int × Int) : Option (Int × Int) := if (subR (v, 1) r).2 = true then some (subR (v, 1) r).1 else none
def excS (V : List Int) (X : List (Int × Int)) (s : Nat) : Option (Int × Int) := (shareP X s).bind (excR (V[s]?.getD 0))
def excL (V : List Int) (X : List (Int × Int)) (lo m : Nat) : Option (List (Int × Int)) := runT (fun k => excS V X (lo + k)) m
def allX (p : Int) (V : List Int) (X : List (Int × Int)) : Option (List (Int × Int)) := if payP p V X = true then excL V X 1 (V.length - 2) else none
theorem allX_not {p : Int} {V : List Int} {X : List (Int × Int)} (h : payP p V X = false) : allX p V X = none := by unfold allX; rw [if_neg (by rw [h]; simp)]
theorem allX_ok {p : Int} {V : List Int} {X : List (Int × Int)} (h : payP p V X = true) : allX p V X = excL V X 1 (V.length - 2) := by unfold allX; rw [if_pos h]
theorem allX_len {p : Int} {V : List Int} {X : List (Int × Int)} {l : List (Int × Int)} (h : allX p V X = some l) : payP p V X = true ∧ l.length = V.length - 2 := by
 unfold allX at h
 split at h
 ·next h1 => exact ⟨h1, runT_len h⟩
 ·cases h
theorem payP_game {p : Int} {V : List Int} {X : List (Int × Int)} (h : payP p V X = true) : gameOk p V = true := by
 unfold payP at h; simp only [Bool.and_eq_true] at h; exact h.1
theorem ret_tupE {v : Value} {a b : Bool} (h : a = b) : Ending.returned (.tuple #[v, .bool a]) = .returned (.tuple #[v, .bool b]) := by rw [h]
theorem OwnR.madeE (w : World) (base n : Nat) (hn : n = w.heap.size) (hb : base ≤ w.heap.size) : OwnR (w.alloc (.cells #[] 34)) base (.slice (some ⟨n, 0, none⟩) 0 0) [] := by subst hn; exact OwnR.made w base hb
set_option maxHeartbeats 4000000 in
theorem s_ExcessOf {w : World} {p : Int} {a : Option Addr} {n cap : Nat} {V : List Int} (h : Ints w a n cap V) {b : Option Addr} {m mcap : Nat} {X : List (Int × Int)} (hx : Rats w b m mcap X) (hg : gameOk p V = true) {s : Nat} (hs : s < n) :
 Calls Try.prog 110 #[pair p a n cap, .slice b m mcap, .int .i64 (s : Int)] w fun e w' => e = .returned (resR ((excS V X s).getD (0, 0), (excS V X s).isSome)) ∧ Ext w w' := by
 obtain ⟨W, hW⟩ : ∃ W, W = (w.alloc (.cells #[.int .i64 p, .slice a n cap] 26)).alloc (.cells #[.int .i64 0, .int .i64 0] 34) := ⟨_, rfl⟩
 have HWS := Lib.hid (show W.heap.size = w.heap.size + 2 by rw [hW]; simp)
 have hX : Ext w W := by rw [hW]; exact (Ext.alloc _ _).trans (Ext.alloc _ _)
 have HRB := Lib.hid (show W.heap[w.heap.size + 1]? = some (.cells #[.int .i64 0, .int .i64 0] 34 (0, 0)) by rw [hW]; exact heapA_new _ _ _ (by simp))
 have HP0 := Lib.hid (show W.cell? ⟨w.heap.size, 0, none⟩ = some (.int .i64 p) by rw [hW]; exact Ext.cellSome (Ext.alloc _ _) (by simp))
 have HP1 := Lib.hid (show W.cell? ⟨w.heap.size, 1, none⟩ = some (.slice a n cap) by rw [hW]; exact Ext.cellSome (Ext.alloc _ _) (by simp))
 have HI := Lib.hid (h.ext hX)
 have HR := Lib.hid (hx.ext hX)
 have HX := Lib.hid hX
 have HV := Lib.hid (s_IsValidGame (p := p) HI.out)
 rw [hg, hW] at HV
 have HL := Lib.hid h.hlen
 obtain ⟨q, rfl, hq1, hq5, hVl, _, hVb⟩ := gameOk_len hg
 have hc := cN_le q hq5
 have hn32 : n ≤ 32 := by have := HL.out; omega
 have HVB := Lib.hid (fun i => getD_bd hVb i)
 have hcap := h.hcap
 have hmax := h.hmax
 have hin : inB (s : Int) 0 ((n : Int) - 1) = true := by unfold inB; simp; omega
 clear h hx hX hg hVl hVb
 go_enter Try.func110, Try.ntmps110
 go_wp2_with fail
 refine HV.out.mono ?_
 rw [← hW]
 rintro e w1 ⟨rfl, hx1⟩
 have X1 := Lib.hid hx1
 have b0 := hx1.cellSome HP0.out
 have b1 := hx1.cellSome HP1.out
 clear hx1 hW HV
 go_wp2_with fail
 refine (s_l1In _ _ _ _).mono ?_
 rw [hin]
 rintro e w2 ⟨rfl, rfl⟩
 clear hin
 go_wp2_with fail
 refine (s_ShareOf (HR.out.ext X1.out) s (by omega)).mono ?_
 obtain ⟨r1, r2, one, hr⟩ : ∃ r1 r2 one, ((shareP X s).getD (0, 0), (shareP X s).isSome) = (((r1, r2) : Int × Int), one) := ⟨_, _, _, rfl⟩
 rw [hr]
 have HSH := Lib.hid hr
 rintro e w3 ⟨rfl, hx3⟩
 obtain ⟨w4, hw4⟩ : ∃ E, E = w3.alloc (.cells #[.int .i64 r1, .int .i64 r2] 34) := ⟨_, rfl⟩
 have hx4 : Ext w3 w4 := by rw [hw4]; exact Ext.alloc _ _
 have X4 := Lib.hid ((X1.out.trans hx3).trans hx4)
 have c0 := (hx3.trans hx4).cellSome b0
 have c1 := (hx3.trans hx4).cellSome b1
 have d0 : w4.cell? ⟨w3.heap.size, 0, none⟩ = some (.int .i64 r1) := by rw [hw4]; simp
 have d1 : w4.cell? ⟨w3.heap.size, 1, none⟩ = some (.int .i64 r2) := by rw [hw4]; simp
 obtain ⟨vb, vo, rfl, hvc⟩ := (HI.out.ext X4.out).at hs
 obtain ⟨v, hv⟩ : ∃ v, v = V[s]?.getD 0 := ⟨_, rfl⟩
 rw [← hv] at hvc
 obtain ⟨p2, q2, ok, hpq⟩ : ∃ p2 q2 ok, subR (v, 1) (r1, r2) = ((p2, q2), ok) := ⟨_, _, _, rfl⟩
 have HPQ := Lib.hid hpq
 have HVV := Lib.hid hv
 clear hr hx3 hx4 b0 b1 hv hpq
 go_upto_region 4 with fail
 rw [← hw4]
 clear hw4
 go_upto_region 4 with fail
 go_cut [10, 11] (fun sx so wx => ∃ g : Nat, sx = .pointer (some ⟨g, 0, none⟩) ∧ so = .bool ok ∧ Hid (Boxed w4 wx g p2 q2))
 case first =>
  have hk2 : Ext w4 w4.drew := Ext.drew w4
  have hka : Ext w4 (w4.alloc (.cells #[.int .i64 0, .int .i64 0] 34)).drew := (Ext.alloc _ _).trans (Ext.drew _)
  have HKEEP := Lib.hid (fun (w' : World) (h : Ext w4 w') => (⟨h.cellSome c1, h.cellSome hvc, h.cellSome d0, h.cellSome d1, h⟩ : w'.cell? ⟨w.heap.size, 1, none⟩ = some (.slice (some ⟨vb, vo, none⟩) n cap) ∧ w'.cell? ⟨vb, vo + s, none⟩ = some (.int .i64 v) ∧ w'.cell? ⟨w3.heap.size, 0, none⟩ = some (.int .i64 r1) ∧ w'.cell? ⟨w3.heap.size, 1, none⟩ = some (.int .i64 r2) ∧ Ext w4 w'))
  go_region_held3 (fun w' => w'.cell? ⟨w.heap.size, 1, none⟩ = some (.slice (some ⟨vb, vo, none⟩) n cap) ∧ w'.cell? ⟨vb, vo + s, none⟩ = some (.int .i64 v) ∧ w'.cell? ⟨w3.heap.size, 0, none⟩ = some (.int .i64 r1) ∧ w'.cell? ⟨w3.heap.size, 1, none⟩ = some (.int .i64 r2) ∧ Ext w4 w')
   (first
     | with_reducible exact HKEEP.out _ hk2
     | with_reducible exact HKEEP.out _ hka
     | with_reducible exact HKEEP.out _ ((hk2.setCell (by first | (simp; done) | (simp; omega)) _).setCell (by first | (simp; done) | (simp; omega)) _)
     | with_reducible exact HKEEP.out _ (hk2.trans (Ext.alloc _ _))
     | with_reducible exact HKEEP.out _ (hBB.put _ _).ext)
   (first
     | (go_at_call 74
        (with_reducible refine (s_l3Int _ _).mono ?_)
        rintro e w5 ⟨rfl, hx_w5⟩
        first | (with_reducible have hBB := Boxed.grow hBB hx_w5) | (with_reducible have hBB := Boxed.firstD hx_w5) | (with_reducible have hBB := Boxed.laterD hk2 hx_w5) | skip
        first | (have b0_ := hBB.c0; have b1_ := hBB.c1; have fb_ := hBB.free) | skip
        have hk2 : Ext w4 w5 := by first | with_reducible exact hk2.trans hx_w5 | with_reducible exact hka.trans hx_w5 | with_reducible exact (hk2.trans (Ext.alloc _ _)).trans hx_w5
        have hk2s := hk2.size)
     | (go_at_call 98
        (with_reducible refine (s_SubRat _ _ _ _ _).mono ?_)
        rw [HPQ.out]
        rintro e w6 ⟨rfl, hx_w6⟩
        first | (with_reducible have hBB := Boxed.grow hBB hx_w6) | (with_reducible have hBB := Boxed.firstD hx_w6) | (with_reducible have hBB := Boxed.laterD hk2 hx_w6) | skip
        first | (have b0_ := hBB.c0; have b1_ := hBB.c1; have fb_ := hBB.free) | skip
        have hk2 : Ext w4 w6 := by first | with_reducible exact hk2.trans hx_w6 | with_reducible exact hka.trans hx_w6 | with_reducible exact (hk2.trans (Ext.alloc _ _)).trans hx_w6
        have hk2s := hk2.size)
     | fail)
  all_goals (go_wp2_with fail; go_meet; first | exact ⟨_, rfl, rfl, Lib.hid (hBB.put _ _)⟩ | exact ⟨_, rfl, rfl, Lib.hid (Boxed.new hk2 _ _)⟩ | exact ⟨_, rfl, rfl, Lib.hid (Boxed.new' hk2 _ _ (by simp))⟩)
 obtain ⟨g, rfl, rfl, HB⟩ := hcut
 have g0 := HB.out.c0
 have g1 := HB.out.c1
 have XC := Lib.hid (X4.out.trans HB.out.ext)
 have hr := rcell ((XC.out.block _ (by have := HWS.out; omega)).trans HRB.out)
 obtain ⟨hr0, hr1, hrf⟩ := hr
 have XF := Lib.hid (HX.out.trans XC.out)
 cases one
 ·have HN := Lib.hid (show excS V X s = none by
   have := HSH.out
   simp only [Prod.mk.injEq] at this
   unfold excS
   cases hsh : shareP X s with
   | none => rfl
   | some r => rw [hsh] at this; simp at this)
  go_wp2_with fail
  refine bodyPost_ret (v := .tuple #[.agg #[.int .i64 0, .int .i64 0], .bool false]) (by simp [results, Try.results110, go_sem, hr0, hr1]) rfl ⟨by rw [HN.out]; rfl, (XF.out.store 0 (by omega) _).store 1 (by omega) _⟩
 ·have HN := Lib.hid (show excS V X s = if ok = true then some (p2, q2) else none by
   have := HSH.out
   simp only [Prod.mk.injEq] at this
   unfold excS
   cases hsh : shareP X s with
   | none => rw [hsh] at this; simp at this
   | some r =>
     rw [hsh] at this
     simp only [Option.getD_some] at this
     rw [this.1]
     show excR (V[s]?.getD 0) (r1, r2) = _
     unfold excR
     rw [← HVV.out, HPQ.out])
  cases ok
  ·go_wp2_with fail
   refine bodyPost_ret (v := .tuple #[.agg #[.int .i64 0, .int .i64 0], .bool false]) (by simp [results, Try.results110, go_sem, hr0, hr1]) rfl ⟨by rw [HN.out]; rfl, (XF.out.store 0 (by omega) _).store 1 (by omega) _⟩
  ·go_wp2_with fail
   refine bodyPost_ret (v := .tuple #[.agg #[.int .i64 p2, .int .i64 q2], .bool true]) (by simp [results, Try.results110, go_sem, hr0, hr1]) rfl ⟨by rw [HN.out]; rfl, (XF.out.store 0 (by omega) _).store 1 (by omega) _⟩
set_option maxHeartbeats 4000000 in
theorem s_l11All {w : World} {p : Int} {a : Option Addr} {n cap : Nat} {V : List Int} (h : Ints w a n cap V) {b : Option Addr} {m mcap : Nat} {X : List (Int × Int)} (hx : Rats w b m mcap X) :
 Calls Try.prog 84 #[pair p a n cap, .slice b m mcap] w fun e w' => (∃ v, e = .returned (.tuple #[v, .bool (allX p V X).isSome]) ∧ OwnR w' w.heap.size v ((allX p V X).getD [])) ∧ Ext w w' := by
 have HX := Lib.hid (Ext.alloc w (.cells #[.int .i64 p, .slice a n cap] 26))
 have HI := Lib.hid (h.ext HX.out)
 have HR := Lib.hid (hx.ext HX.out)
 have HL := Lib.hid h.hlen
 have hcap := h.hcap
 have hmax := h.hmax
 have HP := Lib.hid (fun (w' : World) (hx' : Ext (w.alloc (.cells #[.int .i64 p, .slice a n cap] 26)) w') => s_IsPayoff (p := p) (HI.out.ext hx') (HR.out.ext hx'))
 have k0 : (w.alloc (.cells #[.int .i64 p, .slice a n cap] 26)).cell? ⟨w.heap.size, 0, none⟩ = some (.int .i64 p) := by simp
 have k1 : (w.alloc (.cells #[.int .i64 p, .slice a n cap] 26)).cell? ⟨w.heap.size, 1, none⟩ = some (.slice a n cap) := by simp
 obtain ⟨W, hW⟩ : ∃ W, W = w.alloc (.cells #[.int .i64 p, .slice a n cap] 26) := ⟨_, rfl⟩
 rw [← hW] at HX HI HR HP k0 k1
 have HWS := Lib.hid (show W.heap.size = w.heap.size + 1 by rw [hW]; simp)
 have k0' := (Ext.alloc W (.cells #[] 34)).cellSome k0
 have k1' := (Ext.alloc W (.cells #[] 34)).cellSome k1
 clear h hx
 go_enter Try.func84, Try.ntmps84
 go_upto_region 2 with fail
 rw [← hW]
 clear hW
 go_wp2_with fail
 refine (HP.out _ (Ext.alloc W (.cells #[] 34))).mono ?_
 rintro e w1 ⟨rfl, hx1⟩
 have X1 := Lib.hid ((Ext.alloc W (.cells #[] 34)).trans hx1)
 have HO1 := Lib.hid (show OwnR w1 W.heap.size (.slice (some ⟨w.heap.size + 1, 0, none⟩) 0 0) [] from HWS.out ▸ (OwnR.made W W.heap.size (Nat.le_refl _)).ext hx1)
 clear hx1 k0' k1'
 cases hp : payP p V X
 ·have HN := Lib.hid (allX_not hp)
  clear hp
  go_wp2_with fail
  go_ret2
  exact ⟨⟨_, ret_tupE (by rw [HN.out]; rfl), by rw [HN.out]; exact HO1.out.mono (by rw [HWS.out]; omega)⟩, HX.out.trans X1.out⟩
 have HA := Lib.hid (allX_ok hp)
 have HG := Lib.hid (payP_game hp)
 obtain ⟨q, hpq, hq1, hq5, hVl, _, hVb⟩ := gameOk_len HG.out
 have hc := cN_le q hq5
 have hn32 : n ≤ 32 := by have := HL.out; omega
 have hn2 : 2 ≤ n := by
  have : ∀ q : Fin 6, 1 ≤ q.val → 2 ≤ cN q.val := by decide
  have := this ⟨q, by omega⟩ hq1
  simp only at this
  have := HL.out
  omega
 rw [HL.out] at HA
 clear hp hpq hVl hVb
 go_wp2_with fail
 go_loopg [6, 7] (n - 2) (fun gk oo ii wr => ∃ (k s : Nat) (a1 : Option Addr) (n1 p1 : Nat) (r : List (Int × Int)), Hid (gk + k = n - 2) ∧ Hid (s = 1 + k) ∧ oo = .slice a1 n1 p1 ∧ ii = .int .i64 (s : Int) ∧ Hid (runT (fun k => excS V X (1 + k)) k = some r) ∧ Hid (OwnR wr W.heap.size (.slice a1 n1 p1) r) ∧ Hid (Ext W wr))
 case atStart => exact ⟨0, 1, _, _, _, [], Lib.hid (by omega), Lib.hid rfl, rfl, rfl, Lib.hid rfl, HO1, X1⟩
 case round =>
  obtain ⟨g1, h_g1⟩ : ∃ x, x = gk := ⟨_, rfl⟩
  subst h_g1
  obtain ⟨wr, h_wr⟩ : ∃ x, x = wr := ⟨_, rfl⟩
  subst h_wr
  obtain ⟨k, s, a1, n1, p1, r, HK, HS, rfl, rfl, HRR, HO, XR⟩ := hrel
  have c0 := XR.out.cellSome k0
  have c1 := XR.out.cellSome k1
  have hsz := XR.out.size
  have hs1 : 1 ≤ s := by have := HS.out; omega
  by_cases hlt : s + 1 < n
  ·have HE := Lib.hid (s_ExcessOf (p := p) (HI.out.ext XR.out) (HR.out.ext XR.out) HG.out (s := s) (by omega))
   obtain ⟨x, y, ok, hxy⟩ : ∃ x y ok, ((excS V X s).getD (0, 0), (excS V X s).isSome) = (((x, y) : Int × Int), ok) := ⟨_, _, _, rfl⟩
   rw [hxy] at HE
   have HXY := Lib.hid hxy
   clear hxy
   go_wp2_with fail
   refine HE.out.mono ?_
   rintro e w3 ⟨rfl, hx3⟩
   have X4 := Lib.hid ((XR.out.trans hx3).trans (Ext.alloc w3 (.cells #[.int .i64 x, .int .i64 y] 34)))
   have HO4 := Lib.hid ((HO.out.ext hx3).ext (Ext.alloc w3 (.cells #[.int .i64 x, .int .i64 y] 34)))
   have hs3 := (XR.out.trans hx3).size
   clear hx3
   cases ok
   ·have HN := Lib.hid (show allX p V X = none by
     rw [HA.out]
     unfold excL
     refine runT_fail HRR.out ?_ (show k < n - 2 by have := HS.out; omega)
     rw [← HS.out]
     have := HXY.out
     simp only [Prod.mk.injEq] at this
     cases hq : excS V X s with
     | none => rfl
     | some z => rw [hq] at this; simp at this)
    go_wp2_with fail
    go_ret2
    exact ⟨⟨_, ret_tupE (by rw [HN.out]; rfl), by rw [HN.out]; exact OwnR.madeE _ _ _ (by simp) (by have := X4.out.size; have := HX.out.size; omega)⟩, (HX.out.trans X4.out).trans (Ext.alloc _ _)⟩
   ·have HR2 := Lib.hid (runT_some (x := (x, y)) HRR.out (by
     rw [← HS.out]
     have := HXY.out
     simp only [Prod.mk.injEq] at this
     cases hq : excS V X s with
     | none => rw [hq] at this; simp at this
     | some z => rw [hq] at this; simp at this; rw [this]))
    have HLR := Lib.hid (runT_len HRR.out)
    have hk32 : k ≤ 32 := by have := HS.out; omega
    go_wp2_with (first
     | (at_builtin; refine append_rats rfl _ _ rfl W.heap.size (.slice a1 n1 p1) _ rfl (HO4.out.ext (Ext.alloc _ _)) _ 1 _ [(x, y)] rfl (Rats.one' _ _ _ _ _ (by simp)) (by rw [HLR.out]; omega) (by simp; omega) ?_; intro v2 w5 ho hg hnear; obtain ⟨a2, n2, c2, rfl, HN2⟩ := ho.var; have HO5 := Lib.hid ho; have X5 := Lib.hid (ext_grown (X4.out.trans (Ext.alloc _ _)) hg (fun j hj => (HO4.out.lt j hj).1)); clear ho hg hnear))
    go_roundg (g1 - 1)
    case measure => have := HK.out; have := HS.out; omega
    case rel => exact ⟨k + 1, s + 1, a2, n2, c2, _, Lib.hid (by have := HK.out; have := HS.out; omega), Lib.hid (by have := HS.out; omega), rfl, by go_num, HR2, HO5, X5⟩
  ·have hk2 : k = n - 2 := by have := HK.out; have := HS.out; omega
   subst hk2
   go_wp2_with fail
   go_ret2
   exact ⟨⟨_, ret_tupE (by rw [HA.out]; unfold excL; rw [HRR.out]; rfl), by rw [HA.out]; unfold excL; rw [HRR.out]; exact HO.out.mono (by rw [HWS.out]; omega)⟩, HX.out.trans XR.out⟩
end Go.Proofs.Ytgohdmnbnhehnaa
