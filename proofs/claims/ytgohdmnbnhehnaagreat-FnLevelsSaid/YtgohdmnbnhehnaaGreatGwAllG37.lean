import Derived.Test.YtgohdmnbnhehnaaGreatGwAllG12
import Derived.Test.YtgohdmnbnhehnaaGreatGwAllG8
import Derived.Test.YtgohdmnbnhehnaaGreatGwAllG14
import Derived.Test.YtgohdmnbnhehnaaGreatGwAllG5
import Derived.Test.YtgohdmnbnhehnaaGreatGwAllG4
import Derived.Test.YtgohdmnbnhehnaaGreatGwAllG15
namespace Go.Proofs.YtgohdmnbnhehnaaGreat
set_option linter.unusedVariables false
set_option linter.unusedSimpArgs false
set_option maxRecDepth 100000
open Go.RowKit
set_option maxHeartbeats 4000000 in
theorem i_ShareOf {w : World} {a : Option Addr} {n cap : Nat} {X : List (Int × Int)} (h : Rats w a n cap X) (s : Nat) (hs : s < 32) :
 Calls Tryz.prog 207 #[.slice a n cap, .int .i64 (s : Int)] w fun e w' => e = .returned (resR ((shareP X s).getD (0, 0), (shareP X s).isSome)) ∧ Ext w w' := by
 have HL := Lib.hid h.hlen
 have hcap := h.hcap
 have hmax := h.hmax
 have hx0 := Ext.alloc w (.cells #[.int .i64 0, .int .i64 0] 85)
 have HI := Lib.hid (h.ext hx0)
 have HX0 := Lib.hid hx0
 have HRB := Lib.hid (show (w.alloc (.cells #[.int .i64 0, .int .i64 0] 85)).heap[w.heap.size]? = some (.cells #[.int .i64 0, .int .i64 0] 85 (0, 0)) from heapA_new _ _ _ rfl)
 have hin : inB (s : Int) 0 31 = true := by unfold inB; simp; omega
 clear h hx0
 go_enter Tryz.func207, Tryz.ntmps207
 go_wp2_with fail
 refine (i_within _ _ _ _).mono ?_
 rw [hin]
 rintro e w0 ⟨rfl, rfl⟩
 go_wp2_with fail
 refine (i_whole 0 _).mono ?_
 rintro e w1 ⟨rfl, hx1⟩
 have HX1 := Lib.hid hx1
 have hs31 : ¬ ((s : Int) > 31) := by omega
 have hs0 : ¬ ((s : Int) < 0) := by omega
 clear hx1
 go_wp2_with fail
 refine (i_MembersOf s hs _).mono ?_
 rintro e w2 ⟨v2, rfl, ho2, hx2⟩
 obtain ⟨am, nm, cm, rfl, hnm⟩ := ho2.var
 have HOM := Lib.hid ho2
 have HB0 := Lib.hid ((Boxed.new (Ext.refl w1) 0 1).grow hx2)
 have HNM := Lib.hid hnm.out
 have hmcap := ho2.ints.hcap
 have hmmax := ho2.ints.hmax
 clear ho2 hx2 hnm
 obtain ⟨mem, hmem⟩ : ∃ l, l = memI (s : Int) 5 := ⟨_, rfl⟩
 have HMA := Lib.hid (fun i h => memI_at (s : Int) i h)
 rw [← hmem] at HOM HNM HMA
 have HMEM := Lib.hid (show shareP X s = payT X mem (0, 1) by unfold shareP; rw [hmem])
 clear hmem
 have HRW := Lib.hid (fun (w' : World) (hx : Ext w1 w') => (hx.block _ (by have := lt_of_block HRB.out; have := HX1.out.size; omega)).trans ((HX1.out.block _ (lt_of_block HRB.out)).trans HRB.out))
 have HXW := Lib.hid (HX0.out.trans HX1.out)
 have hsw1 : w.heap.size < w1.heap.size := by have := lt_of_block HRB.out; have := HX1.out.size; omega
 go_wp2_with fail
 go_loopg [19] nm (fun gk ii wr => ∃ (k : Nat) (p q : Int), Hid (gk + k = nm) ∧ ii = .int .i64 (k : Int) ∧ Hid (Boxed w1 wr w1.heap.size p q) ∧ Hid (payT X (mem.take k) (0, 1) = some (p, q)) ∧ Hid (OwnI wr w1.heap.size (.slice am nm cm) mem))
 case atStart => exact ⟨0, 0, 1, Lib.hid (by omega), rfl, HB0, Lib.hid rfl, Lib.hid (HOM.out.mono (by simp))⟩
 case round =>
  obtain ⟨g1, h_g1⟩ : ∃ x, x = gk := ⟨_, rfl⟩
  subst h_g1
  obtain ⟨wr1, h_wr1⟩ : ∃ x, x = wr := ⟨_, rfl⟩
  subst h_wr1
  obtain ⟨k, p, q, HK, rfl, HB, HT, HM⟩ := hrel
  have hb0 := HB.out.c0
  have hb1 := HB.out.c1
  have hbl := HB.out.lt
  have hszb := HB.out.ext.size
  by_cases hlt : k < nm
  ·have hkl : k < mem.length := by rw [HNM.out]; exact hlt
   obtain ⟨j, hj, hj5, _, _⟩ := HMA.out k hkl
   obtain ⟨lb, loff, hle, hlc⟩ := HM.out.ints.at hlt
   subst hle
   rw [hj] at hlc
   by_cases hjn : j < n
   ·obtain ⟨xb, xoff, x, y, hxe, hxy, hxc, hxd⟩ := (HI.out.ext (HX1.out.trans HB.out.ext)).at hjn
    subst hxe
    have hjX : ¬ (X.length : Int) ≤ (j : Int) := by rw [HL.out]; omega
    obtain ⟨p2, q2, ok, hpq⟩ : ∃ p2 q2 ok, addR (p, q) (x, y) = ((p2, q2), ok) := ⟨_, _, _, rfl⟩
    have HPQ := Lib.hid hpq
    have HST := Lib.hid (show payT X [mem[k]?.getD 0] (p, q) = if ok = true then some (p2, q2) else none by
     rw [hj]; simp only [payT]; rw [if_neg hjX, Int.toNat_natCast, hxy, hpq])
    have HKL := Lib.hid hkl
    clear hj hpq hxy hkl hjX
    go_upto_region 9 with fail
    go_cut [9, 10] (fun sx so wx => ∃ g : Nat, sx = .pointer (some ⟨g, 0, none⟩) ∧ so = .bool ok ∧ Hid (Boxed wr1 wx g p2 q2))
    case first =>
     have hk2 : Ext wr1 wr1.drew := Ext.drew wr1
     have hka : Ext wr1 (wr1.alloc (.cells #[.int .i64 0, .int .i64 0] 85)).drew := (Ext.alloc _ _).trans (Ext.drew _)
     have HKEEP := Lib.hid (fun (w' : World) (h : Ext wr1 w') => (⟨h.cellSome hb0, h.cellSome hb1, h.cellSome hlc, h.cellSome hxc, h.cellSome hxd, h⟩ : w'.cell? ⟨w1.heap.size, 0, none⟩ = some (.int .i64 p) ∧ w'.cell? ⟨w1.heap.size, 1, none⟩ = some (.int .i64 q) ∧ w'.cell? ⟨lb, loff + k, none⟩ = some (.int .i64 (j : Int)) ∧ w'.cell? ⟨xb, xoff + j * 2, none⟩ = some (.int .i64 x) ∧ w'.cell? ⟨xb, xoff + j * 2 + 1, none⟩ = some (.int .i64 y) ∧ Ext wr1 w'))
     go_region_held3 (fun w' => w'.cell? ⟨w1.heap.size, 0, none⟩ = some (.int .i64 p) ∧ w'.cell? ⟨w1.heap.size, 1, none⟩ = some (.int .i64 q) ∧ w'.cell? ⟨lb, loff + k, none⟩ = some (.int .i64 (j : Int)) ∧ w'.cell? ⟨xb, xoff + j * 2, none⟩ = some (.int .i64 x) ∧ w'.cell? ⟨xb, xoff + j * 2 + 1, none⟩ = some (.int .i64 y) ∧ Ext wr1 w')
      (first
        | with_reducible exact HKEEP.out _ hk2
        | with_reducible exact HKEEP.out _ hka
        | with_reducible exact HKEEP.out _ ((hk2.setCell (by first | (simp; done) | (simp; omega)) _).setCell (by first | (simp; done) | (simp; omega)) _)
        | with_reducible exact HKEEP.out _ (hk2.trans (Ext.alloc _ _))
        | with_reducible exact HKEEP.out _ (hBB.put _ _).ext)
      (first
        | (go_at_call 147
           (with_reducible refine (i_AddRat _ _ _ _ _).mono ?_)
           rw [HPQ.out]
           rintro e w5 ⟨rfl, hx_w5⟩
           first | (with_reducible have hBB := Boxed.grow hBB hx_w5) | (with_reducible have hBB := Boxed.firstD hx_w5) | (with_reducible have hBB := Boxed.laterD hk2 hx_w5) | skip
           first | (have b0_ := hBB.c0; have b1_ := hBB.c1; have fb_ := hBB.free) | skip
           have hk2 : Ext wr1 w5 := by first | with_reducible exact hk2.trans hx_w5 | with_reducible exact hka.trans hx_w5 | with_reducible exact (hk2.trans (Ext.alloc _ _)).trans hx_w5
           have hk2s := hk2.size)
        | fail)
     all_goals (go_wp2_with fail; go_meet; first | exact ⟨_, rfl, rfl, Lib.hid (hBB.put _ _)⟩ | exact ⟨_, rfl, rfl, Lib.hid (Boxed.new hk2 _ _)⟩ | exact ⟨_, rfl, rfl, Lib.hid (Boxed.new' hk2 _ _ (by simp))⟩)
    obtain ⟨g, rfl, rfl, HB2⟩ := hcut
    have g0 := HB2.out.c0
    have g1' := HB2.out.c1
    have hB3 := HB.out.grow HB2.out.ext
    have hX3 := hB3.ext
    have hm3 := HM.out.ext HB2.out.ext
    have hb0' := hB3.c0
    have hb1' := hB3.c1
    have hbf := hB3.free
    have HB3 := Lib.hid hB3
    have HX3 := Lib.hid hX3
    have HM3 := Lib.hid hm3
    clear hb0 hb1 hlc hxc hxd hB3 hX3 hm3
    cases ok
    ·have HN := Lib.hid (show shareP X s = none by rw [HMEM.out]; exact payT_fail HKL.out HT.out (by rw [HST.out]; rfl))
     have hr := rcell (HRW.out wc HX3.out)
     obtain ⟨hr0, hr1, hrf⟩ := hr
     go_wp2_with fail
     refine bodyPost_ret (v := .tuple #[.agg #[.int .i64 0, .int .i64 0], .bool false]) (by simp [results, Tryz.results207, go_sem, hr0, hr1]) rfl ⟨by rw [HN.out]; rfl, (((HXW.out.trans HX3.out).store 0 (Nat.le_refl _) _).store 1 (Nat.le_refl _) _)⟩
    ·have HT2 := Lib.hid (payT_step HKL.out HT.out (by rw [HST.out]; rfl))
     have HM4 := Lib.hid (show OwnI ((wc.setCell ⟨w1.heap.size, 0, none⟩ (.int .i64 p2)).setCell ⟨w1.heap.size, 1, none⟩ (.int .i64 q2)) w1.heap.size (.slice (some ⟨lb, loff, none⟩) nm cm) mem from
      HM3.out.keep fun i hi => by
       have : i ≠ w1.heap.size := fun e => ownsRow_ne HM3.out HB3.out.cell (by decide) (by rw [hi, e])
       rw [heap_setCell_other _ _ _ _ this, heap_setCell_other _ _ _ _ this])
     have HB4 := Lib.hid (HB3.out.put p2 q2)
     go_wp2_with fail
     go_roundg (g1 - 1)
     case measure => have := HK.out; omega
     case rel => exact ⟨k + 1, p2, q2, Lib.hid (by have := HK.out; omega), by go_num, HB4, HT2, HM4⟩
   ·have hjX : (X.length : Int) ≤ (j : Int) := by rw [HL.out]; omega
    have HN := Lib.hid (show shareP X s = none by rw [HMEM.out]; exact payT_fail hkl HT.out (by rw [hj]; simp only [payT]; rw [if_pos hjX]))
    have hr := rcell (HRW.out wr1 HB.out.ext)
    obtain ⟨hr0, hr1, hrf⟩ := hr
    have hge : (j : Int) ≥ (n : Int) := by omega
    clear hj hjX
    go_wp2_with fail
    refine bodyPost_ret (v := .tuple #[.agg #[.int .i64 0, .int .i64 0], .bool false]) (by simp [results, Tryz.results207, go_sem, hr0, hr1]) rfl ⟨by rw [HN.out]; rfl, (((HXW.out.trans HB.out.ext).store 0 (Nat.le_refl _) _).store 1 (Nat.le_refl _) _)⟩
  ·have hkn : nm = k := by have := HK.out; omega
   subst hkn
   have HY := Lib.hid (show shareP X s = some (p, q) by
    rw [HMEM.out]; have h := HT.out; rwa [List.take_of_length_le (by rw [HNM.out]; exact Nat.le_refl _)] at h)
   have hr := rcell (HRW.out wr1 HB.out.ext)
   obtain ⟨hr0, hr1, hrf⟩ := hr
   go_wp2_with fail
   refine bodyPost_ret (v := .tuple #[.agg #[.int .i64 p, .int .i64 q], .bool true]) (by simp [results, Tryz.results207, go_sem, hr0, hr1]) rfl ⟨by rw [HY.out]; rfl, (((HXW.out.trans HB.out.ext).store 0 (Nat.le_refl _) _).store 1 (Nat.le_refl _) _)⟩
set_option maxHeartbeats 4000000 in
theorem i_IsPayoff {w : World} {p : Int} {a : Option Addr} {n cap : Nat} {V : List Int} (h : Ints w a n cap V) {b : Option Addr} {m mcap : Nat} {X : List (Int × Int)} (hx : Rats w b m mcap X) :
 Calls Tryz.prog 157 #[pair p a n cap, .slice b m mcap] w fun e w' => e = .returned (.bool (payP p V X)) ∧ Ext w w' := by
 have HX := Lib.hid (Ext.alloc w (.cells #[.int .i64 p, .slice a n cap] 47))
 have HL := Lib.hid h.hlen
 have HLX := Lib.hid hx.hlen
 have HI := Lib.hid (h.ext HX.out)
 have HR := Lib.hid (hx.ext HX.out)
 have hxcap := hx.hcap
 have hxmax := hx.hmax
 have HV := Lib.hid (i_IsValidGame (p := p) HI.out)
 clear h hx
 cases hv : gameOk p V
 ·rw [hv] at HV
  have HP := Lib.hid (show payP p V X = false by unfold payP; rw [hv]; rfl)
  clear hv
  go_enter Tryz.func157, Tryz.ntmps157
  go_wp2_with fail
  refine HV.out.mono ?_
  rintro e w1 ⟨rfl, hx⟩
  have X1 := Lib.hid (HX.out.trans hx)
  clear hx
  go_wp2_with fail
  go_ret
  exact ⟨ret_bool HP.out.symm, X1.out⟩
 rw [hv] at HV
 obtain ⟨q, rfl, h1, h5, hlen, _, hbd⟩ := gameOk_len hv
 have HVV := Lib.hid hv
 have hN := cN_le q h5
 obtain ⟨u, rfl⟩ : ∃ u, n = u + 1 := ⟨n - 1, by have := HL.out; omega⟩
 have hu32 : u ≤ 31 := by have := HL.out; omega
 have HGB := Lib.hid (show -500 ≤ grandV (q : Int) V ∧ grandV (q : Int) V ≤ 500 by rw [grandV_ok hv]; exact getD_bd hbd _)
 clear hv hlen hbd hN
 by_cases hml : m = q
 ·subst hml
  have HAV := Lib.hid (fun (w' : World) (hx : Ext (w.alloc (.cells #[.int .i64 (m : Int), .slice a (u + 1) cap] 47)) w') => i_AllValid (HR.out.ext hx))
  cases hav : allV X
  ·have HP := Lib.hid (show payP (m : Int) V X = false by unfold payP; rw [hav]; simp)
   rw [hav] at HAV
   clear hav
   go_enter Tryz.func157, Tryz.ntmps157
   go_wp2_with fail
   refine HV.out.mono ?_
   rintro e w1 ⟨rfl, hx⟩
   have c0 : w1.cell? ⟨w.heap.size, 0, none⟩ = some (.int .i64 (m : Int)) := hx.cellSome (by simp)
   have hmm : ((m : Int) != (m : Int)) = false := by simp
   have HA1 := Lib.hid (HAV.out w1 hx)
   have X1 := Lib.hid (HX.out.trans hx)
   clear hx
   go_wp2_with fail
   refine HA1.out.mono ?_
   rintro e w2 ⟨rfl, hx2⟩
   have X2 := Lib.hid (X1.out.trans hx2)
   clear hx2
   go_wp2_with fail
   go_ret
   exact ⟨ret_bool HP.out.symm, X2.out⟩
  ·rw [hav] at HAV
   have HAVV := Lib.hid hav
   clear hav
   go_enter Tryz.func157, Tryz.ntmps157
   go_wp2_with fail
   refine HV.out.mono ?_
   rintro e w1 ⟨rfl, hx⟩
   have c0 : w1.cell? ⟨w.heap.size, 0, none⟩ = some (.int .i64 (m : Int)) := hx.cellSome (by simp)
   have c1 : w1.cell? ⟨w.heap.size, 1, none⟩ = some (.slice a (u + 1) cap) := hx.cellSome (by simp)
   have hmm : ((m : Int) != (m : Int)) = false := by simp
   have HA1 := Lib.hid (HAV.out w1 hx)
   have X1 := Lib.hid hx
   clear hx
   go_wp2_with fail
   refine HA1.out.mono ?_
   rintro e w2 ⟨rfl, hx2⟩
   have X2 := Lib.hid (X1.out.trans hx2)
   replace c0 := hx2.cellSome c0
   replace c1 := hx2.cellSome c1
   clear hx2
   have hlen1 : ((u + 1 : Nat) : Int) - 1 = (u : Int) := by omega
   have HSH := Lib.hid (i_ShareOf (HR.out.ext X2.out) u (by omega))
   have HPE := Lib.hid (show payP (m : Int) V X = decide (shareP X u = some (grandV (m : Int) V, 1)) by
    unfold payP; rw [HVV.out, HAVV.out, decide_eq_true (by rw [HLX.out]), HL.out]; rfl)
   cases hsh : shareP X u with
   | none =>
     have HF := Lib.hid (show payP (m : Int) V X = false by rw [HPE.out, hsh]; rfl)
     rw [hsh] at HSH
     clear hsh
     go_wp2_with fail
     refine HSH.out.mono ?_
     rintro e w3 ⟨rfl, hx3⟩
     have X3 := Lib.hid ((HX.out.trans X2.out).trans hx3)
     clear hx3
     go_wp2_with fail
     go_quiet (fail)
     go_wp2_with fail
     go_ret
     exact ⟨ret_bool HF.out.symm, (X3.out.trans (Ext.alloc _ _)).trans (Drew.ext ⟨_, rfl⟩)⟩
   | some r =>
     obtain ⟨r1, r2⟩ := r
     have HF := Lib.hid (show payP (m : Int) V X = (decide (r1 = grandV (m : Int) V) && decide (r2 = 1)) by
      rw [HPE.out, hsh]; simp)
     rw [hsh] at HSH
     clear hsh
     go_wp2_with fail
     refine HSH.out.mono ?_
     rintro e w3 ⟨rfl, hx3⟩
     replace c0 := hx3.cellSome c0
     replace c1 := hx3.cellSome c1
     have X3 := Lib.hid (X2.out.trans hx3)
     clear hx3
     obtain ⟨E, hE⟩ : ∃ E, E = w3.alloc (.cells #[.int .i64 r1, .int .i64 r2] 85) := ⟨_, rfl⟩
     have hxE : Ext w3 E := by rw [hE]; exact Ext.alloc _ _
     have XE := Lib.hid (X3.out.trans hxE)
     have e0 := hxE.cellSome c0
     have e1 := hxE.cellSome c1
     have b0 : E.cell? ⟨w3.heap.size, 0, none⟩ = some (.int .i64 r1) := by rw [hE]; simp
     have b1 : E.cell? ⟨w3.heap.size, 1, none⟩ = some (.int .i64 r2) := by rw [hE]; simp
     have HGV := Lib.hid (fun (w' : World) (hx : Ext E w') => i_GrandValue (p := (m : Int)) ((HI.out.ext XE.out).ext hx))
     obtain ⟨G, hG⟩ : ∃ G, G = grandV (m : Int) V := ⟨_, rfl⟩
     rw [← hG] at HF HGV
     clear hG
     go_upto_region 4 with fail
     rw [← hE]
     clear hE c0 c1 hxE
     have hk2 : Ext E E.drew := Ext.drew E
     have HKEEP := Lib.hid (fun (w' : World) (h : Ext E w') => (⟨h.cellSome e0, h.cellSome e1, h.cellSome b0, h.cellSome b1, h⟩ : w'.cell? ⟨w.heap.size, 0, none⟩ = some (.int .i64 (m : Int)) ∧ w'.cell? ⟨w.heap.size, 1, none⟩ = some (.slice a (u + 1) cap) ∧ w'.cell? ⟨w3.heap.size, 0, none⟩ = some (.int .i64 r1) ∧ w'.cell? ⟨w3.heap.size, 1, none⟩ = some (.int .i64 r2) ∧ Ext E w'))
     cases hx1 : (r1 == G)
     all_goals
      cases hy1 : (r2 == 1)
     all_goals
      have HF2 := Lib.hid (show payP (m : Int) V X = ((r1 == G) && (r2 == 1)) by rw [HF.out]; rw [Bool.eq_iff_iff]; simp)
      rw [hx1, hy1] at HF2
      go_region_held3 (fun w' => w'.cell? ⟨w.heap.size, 0, none⟩ = some (.int .i64 (m : Int)) ∧ w'.cell? ⟨w.heap.size, 1, none⟩ = some (.slice a (u + 1) cap) ∧ w'.cell? ⟨w3.heap.size, 0, none⟩ = some (.int .i64 r1) ∧ w'.cell? ⟨w3.heap.size, 1, none⟩ = some (.int .i64 r2) ∧ Ext E w')
       (first
         | with_reducible exact HKEEP.out _ hk2)
       (first
         | (go_at_call 88
            (with_reducible refine (HGV.out _ hk2).mono ?_)
            rintro e w4 ⟨rfl, hx4⟩
            have hk2 : Ext E w4 := hk2.trans hx4)
         | (go_at_call 87
            (with_reducible refine (i_whole _ _).mono ?_)
            rintro e w5 ⟨rfl, hx5⟩
            have hk2 : Ext E w5 := hk2.trans hx5)
         | fail)
      all_goals
       go_wp2_with fail
       go_ret
       exact ⟨ret_bool (by rw [HF2.out]; rfl), HX.out.trans (XE.out.trans hk2)⟩
 ·have HP := Lib.hid (show payP (q : Int) V X = false by unfold payP; rw [decide_eq_false (by rw [HLX.out]; omega : ¬ (X.length : Int) = (q : Int))]; simp)
  have hmm : ((m : Int) != (q : Int)) = true := by simp; omega
  go_enter Tryz.func157, Tryz.ntmps157
  go_wp2_with fail
  refine HV.out.mono ?_
  rintro e w1 ⟨rfl, hx⟩
  have c0 : w1.cell? ⟨w.heap.size, 0, none⟩ = some (.int .i64 (q : Int)) := hx.cellSome (by simp)
  have X1 := Lib.hid (HX.out.trans hx)
  clear hx
  go_wp2_with fail
  go_ret
  exact ⟨ret_bool HP.out.symm, X1.out⟩
def excX (p : Int) (V : List Int) (X : List (Int × Int)) (lo c : Nat) : Option (List (Int × Int)) := if payP p V X = true then excL V X lo c else none
set_option maxHeartbeats 4000000 in
theorem i_ExcessOf {w : World} {p : Int} {a : Option Addr} {n cap : Nat} {V : List Int} (h : Ints w a n cap V) {b : Option Addr} {m mcap : Nat} {X : List (Int × Int)} (hx : Rats w b m mcap X) (hg : gameOk p V = true) {s : Nat} (hs : s < n) :
 Calls Tryz.prog 158 #[pair p a n cap, .slice b m mcap, .int .i64 (s : Int)] w fun e w' => e = .returned (resR ((excS V X s).getD (0, 0), (excS V X s).isSome)) ∧ Ext w w' := by
 obtain ⟨W, hW⟩ : ∃ W, W = (w.alloc (.cells #[.int .i64 p, .slice a n cap] 47)).alloc (.cells #[.int .i64 0, .int .i64 0] 85) := ⟨_, rfl⟩
 have HWS := Lib.hid (show W.heap.size = w.heap.size + 2 by rw [hW]; simp)
 have hX : Ext w W := by rw [hW]; exact (Ext.alloc _ _).trans (Ext.alloc _ _)
 have HRB := Lib.hid (show W.heap[w.heap.size + 1]? = some (.cells #[.int .i64 0, .int .i64 0] 85 (0, 0)) by rw [hW]; exact heapA_new _ _ _ (by simp))
 have HP0 := Lib.hid (show W.cell? ⟨w.heap.size, 0, none⟩ = some (.int .i64 p) by rw [hW]; exact Ext.cellSome (Ext.alloc _ _) (by simp))
 have HP1 := Lib.hid (show W.cell? ⟨w.heap.size, 1, none⟩ = some (.slice a n cap) by rw [hW]; exact Ext.cellSome (Ext.alloc _ _) (by simp))
 have HI := Lib.hid (h.ext hX)
 have HR := Lib.hid (hx.ext hX)
 have HX := Lib.hid hX
 have HV := Lib.hid (i_IsValidGame (p := p) HI.out)
 rw [hg, hW] at HV
 have HL := Lib.hid h.hlen
 obtain ⟨q, rfl, hq1, hq5, hVl, _, hVb⟩ := gameOk_len hg
 have hc := cN_le q hq5
 have hn32 : n ≤ 32 := by have := HL.out; omega
 have HVB := Lib.hid (fun i => getD_bd hVb i)
 have hcap := h.hcap
 have hmax := h.hmax
 have hin : inB (s : Int) 0 ((n : Int) - 1) = true := by unfold inB; simp; omega
 clear h hx hX hg hVl hVb
 go_enter Tryz.func158, Tryz.ntmps158
 go_wp2_with fail
 refine HV.out.mono ?_
 rw [← hW]
 rintro e w1 ⟨rfl, hx1⟩
 have X1 := Lib.hid hx1
 have b0 := hx1.cellSome HP0.out
 have b1 := hx1.cellSome HP1.out
 clear hx1 hW HV
 go_wp2_with fail
 refine (i_within _ _ _ _).mono ?_
 rw [hin]
 rintro e w2 ⟨rfl, rfl⟩
 clear hin
 go_wp2_with fail
 refine (i_ShareOf (HR.out.ext X1.out) s (by omega)).mono ?_
 obtain ⟨r1, r2, one, hr⟩ : ∃ r1 r2 one, ((shareP X s).getD (0, 0), (shareP X s).isSome) = (((r1, r2) : Int × Int), one) := ⟨_, _, _, rfl⟩
 rw [hr]
 have HSH := Lib.hid hr
 rintro e w3 ⟨rfl, hx3⟩
 obtain ⟨w4, hw4⟩ : ∃ E, E = w3.alloc (.cells #[.int .i64 r1, .int .i64 r2] 85) := ⟨_, rfl⟩
 have hx4 : Ext w3 w4 := by rw [hw4]; exact Ext.alloc _ _
 have X4 := Lib.hid ((X1.out.trans hx3).trans hx4)
 have c0 := (hx3.trans hx4).cellSome b0
 have c1 := (hx3.trans hx4).cellSome b1
 have d0 : w4.cell? ⟨w3.heap.size, 0, none⟩ = some (.int .i64 r1) := by rw [hw4]; simp
 have d1 : w4.cell? ⟨w3.heap.size, 1, none⟩ = some (.int .i64 r2) := by rw [hw4]; simp
 obtain ⟨vb, vo, rfl, hvc⟩ := (HI.out.ext X4.out).at hs
 obtain ⟨v, hv⟩ : ∃ v, v = V[s]?.getD 0 := ⟨_, rfl⟩
 rw [← hv] at hvc
 obtain ⟨p2, q2, ok, hpq⟩ : ∃ p2 q2 ok, subR (v, 1) (r1, r2) = ((p2, q2), ok) := ⟨_, _, _, rfl⟩
 have HPQ := Lib.hid hpq
 have HVV := Lib.hid hv
 clear hr hx3 hx4 b0 b1 hv hpq
 go_upto_region 4 with fail
 rw [← hw4]
 clear hw4
 have hr := rcell ((X4.out.block _ (by have := HWS.out; omega)).trans HRB.out)
 obtain ⟨hr0, hr1, hrf⟩ := hr
 have XF := Lib.hid (HX.out.trans X4.out)
 cases one
 ·have HN := Lib.hid (show excS V X s = none by
   have := HSH.out
   simp only [Prod.mk.injEq] at this
   unfold excS
   cases hsh : shareP X s with
   | none => rfl
   | some r => rw [hsh] at this; simp at this)
  go_wp2_with fail
  refine bodyPost_ret (v := .tuple #[.agg #[.int .i64 0, .int .i64 0], .bool false]) (by simp [results, Tryz.results158, go_sem, hr0, hr1]) rfl ⟨by rw [HN.out]; rfl, (XF.out.store 0 (by omega) _).store 1 (by omega) _⟩
 ·have HN := Lib.hid (show excS V X s = if ok = true then some (p2, q2) else none by
   have := HSH.out
   simp only [Prod.mk.injEq] at this
   unfold excS
   cases hsh : shareP X s with
   | none => rw [hsh] at this; simp at this
   | some r =>
     rw [hsh] at this
     simp only [Option.getD_some] at this
     rw [this.1]
     show excR (V[s]?.getD 0) (r1, r2) = _
     unfold excR
     rw [← HVV.out, HPQ.out])
  have HZ := Lib.hid (show ok = false → p2 = 0 ∧ q2 = 0 by
   intro hok
   have h1 := HPQ.out
   have h2 := subR_badz (a := (v, 1)) (b := (r1, r2)) (by rw [h1]; exact hok)
   rw [h1] at h2
   simp only [Prod.mk.injEq] at h2
   exact h2)
  have hkd : Ext w4 w4.drew := Ext.drew w4
  have HKEEP := Lib.hid (fun (w' : World) (h : Ext w4 w') => (⟨h.cellSome c1, h.cellSome hvc, h.cellSome d0, h.cellSome d1, h⟩ : w'.cell? ⟨w.heap.size, 1, none⟩ = some (.slice (some ⟨vb, vo, none⟩) n cap) ∧ w'.cell? ⟨vb, vo + s, none⟩ = some (.int .i64 v) ∧ w'.cell? ⟨w3.heap.size, 0, none⟩ = some (.int .i64 r1) ∧ w'.cell? ⟨w3.heap.size, 1, none⟩ = some (.int .i64 r2) ∧ Ext w4 w'))
  clear hr0 hr1 hrf
  go_wp2_with fail
  refine late_begin (M := [10]) (S := fun w' => w'.cell? ⟨w.heap.size, 1, none⟩ = some (.slice (some ⟨vb, vo, none⟩) n cap) ∧ w'.cell? ⟨vb, vo + s, none⟩ = some (.int .i64 v) ∧ w'.cell? ⟨w3.heap.size, 0, none⟩ = some (.int .i64 r1) ∧ w'.cell? ⟨w3.heap.size, 1, none⟩ = some (.int .i64 r2) ∧ Ext w4 w') (by kernel_rfl) ?_
  have hHeld := HKEEP.out _ hkd
  obtain ⟨wd, hwd⟩ : ∃ y, y = w4.drew := ⟨_, rfl⟩
  rw [← hwd] at hkd hHeld
  rw [← hwd]
  clear hwd
  refine lp 0 ?_
  refine ll 1 ?_
  refine lp 2 ?_
  refine lp 3 ?_
  refine ll 4 ?_
  refine ll 6 ?_
  refine late_step (i := 5) (oi := ?_) ?_ ?_ ?_ (fun K hK => ?_)
  rotate_left
  ·simp only [gA, gB, gC]; rfl
  ·kernel_rfl
  ·kernel_rfl
  go_simp
  go_at_call 87
  refine (i_whole _ _).mono ?_
  rintro e w5 ⟨rfl, hx5⟩
  have hkd : Ext w4 w5 := hkd.trans hx5
  clear hx5
  go_wp2_with fail
  refine hK.out _ _ (fun _ => HKEEP.out _ hkd) ?_
  have hHeld := HKEEP.out _ hkd
  clear hK K
  try simp only [Act.put, sA, sB, sC]
  refine late_step (i := 7) (oi := ?_) ?_ ?_ ?_ (fun K hK => ?_)
  rotate_left
  ·simp only [gA, gB, gC]; rfl
  ·kernel_rfl
  ·kernel_rfl
  go_simp
  go_at_call 107
  refine (i_SubRat _ _ _ _ _).mono ?_
  rw [HPQ.out]
  rintro e w6 ⟨rfl, hx6⟩
  have hkd : Ext w4 w6 := hkd.trans hx6
  clear hx6
  have hr6 := rcell (((X4.out.trans hkd).block _ (by have := HWS.out; omega)).trans HRB.out)
  obtain ⟨hr0, hr1, hrf⟩ := hr6
  go_wp2_with fail
  refine hK.out _ _ (fun _ => HKEEP.out _ hkd) ?_
  have hHeld := HKEEP.out _ hkd
  clear hK K
  try simp only [Act.put, sA, sB, sC]
  refine lp 8 ?_
  refine lp 9 ?_
  refine late_one (i := 10) (oi := ?_) (w' := ?_) ?_ ?_ ?_ ?_ ?_ ?_ ?_
  rotate_left 2
  ·simp only [gA, gB, gC]; rfl
  ·kernel_rfl
  ·kernel_rfl
  ·exact of_decide_eq_true (by kernel_rfl)
  ·rfl
  ·go_simp; (try with_reducible rfl)
  try simp only [Act.put, sA, sB, sC]
  refine late_after (i := 11) (oi := ?_) (v := ?_) ?_ ?_ ?_ ?_ ?_ ?_ ?_ ?_ ?_
  rotate_left 2
  ·simp only [gA, gB, gC]; rfl
  ·kernel_rfl
  ·kernel_rfl
  ·kernel_rfl
  ·kernel_rfl
  ·exact fun _ _ _ h => h
  ·refine Or.inl ⟨by rfl, ?_⟩; intro w hSw; (try dsimp only at hSw); go_simp; (try with_reducible rfl)
  ·kernel_rfl
  try simp only [Act.put, sA, sB, sC]
  refine late_done (by kernel_rfl) ?_ _
  have XG := Lib.hid (HX.out.trans (X4.out.trans hkd))
  go_wp2_with fail
  refine bodyPost_ret (v := .tuple #[.agg #[.int .i64 p2, .int .i64 q2], .bool ok]) (by simp [results, Tryz.results158, go_sem, hr0, hr1]) rfl ⟨?_, (XG.out.store 0 (by omega) _).store 1 (by omega) _⟩
  rw [HN.out]
  cases ok
  ·obtain ⟨z1, z2⟩ := HZ.out rfl
   rw [z1, z2]; rfl
  ·rfl
set_option maxHeartbeats 4000000 in
theorem i_excesses {w : World} {p : Int} {a : Option Addr} {n cap : Nat} {V : List Int} (h : Ints w a n cap V) {b : Option Addr} {m mcap : Nat} {X : List (Int × Int)} (hx : Rats w b m mcap X) (lo c : Nat) (hi : Int) (hh : gameOk p V = true → hi + 1 = (lo : Int) + c ∧ lo + c ≤ n) :
 Calls Tryz.prog 98 #[pair p a n cap, .slice b m mcap, .int .i64 (lo : Int), .int .i64 hi] w fun e w' => (∃ v, e = .returned (.tuple #[v, .bool (excX p V X lo c).isSome]) ∧ OwnR w' w.heap.size v ((excX p V X lo c).getD [])) ∧ Ext w w' := by
 have HX := Lib.hid (Ext.alloc w (.cells #[.int .i64 p, .slice a n cap] 47))
 have HI := Lib.hid (h.ext HX.out)
 have HR := Lib.hid (hx.ext HX.out)
 have HL := Lib.hid h.hlen
 have hcap := h.hcap
 have hmax := h.hmax
 have HP := Lib.hid (i_IsPayoff (p := p) HI.out HR.out)
 have k0 : (w.alloc (.cells #[.int .i64 p, .slice a n cap] 47)).cell? ⟨w.heap.size, 0, none⟩ = some (.int .i64 p) := by simp
 have k1 : (w.alloc (.cells #[.int .i64 p, .slice a n cap] 47)).cell? ⟨w.heap.size, 1, none⟩ = some (.slice a n cap) := by simp
 obtain ⟨W, hW⟩ : ∃ W, W = w.alloc (.cells #[.int .i64 p, .slice a n cap] 47) := ⟨_, rfl⟩
 rw [← hW] at HX HI HR HP k0 k1
 have HWS := Lib.hid (show W.heap.size = w.heap.size + 1 by rw [hW]; simp)
 have HH := Lib.hid hh
 clear h hx hh
 cases hp : payP p V X
 ·have HN := Lib.hid (show excX p V X lo c = none by unfold excX; rw [if_neg (by rw [hp]; simp)])
  rw [hp] at HP
  clear hp
  go_enter Tryz.func98, Tryz.ntmps98
  go_upto_region 1 with fail
  rw [← hW]
  clear hW
  go_wp2_with fail
  refine HP.out.mono ?_
  rintro e w1 ⟨rfl, hx1⟩
  have X1 := Lib.hid hx1
  clear hx1
  go_wp2_with fail
  go_ret2
  exact ⟨⟨_, ret_tupE (by rw [HN.out]; rfl), by rw [HN.out]; exact OwnR.nil _ _⟩, HX.out.trans X1.out⟩
 rw [hp] at HP
 have HA := Lib.hid (show excX p V X lo c = excL V X lo c by unfold excX; rw [if_pos hp])
 have HG := Lib.hid (payP_game hp)
 obtain ⟨q, hpq, hq1, hq5, hVl, _, hVb⟩ := gameOk_len HG.out
 have hcn := cN_le q hq5
 have hn32 : n ≤ 32 := by have := HL.out; omega
 obtain ⟨hh1, hh2⟩ := HH.out HG.out
 clear hp hpq hVl hVb
 go_enter Tryz.func98, Tryz.ntmps98
 go_upto_region 1 with fail
 rw [← hW]
 clear hW
 go_wp2_with fail
 refine HP.out.mono ?_
 rintro e w1 ⟨rfl, hx1⟩
 have HO1 := Lib.hid (OwnR.madeE w1 W.heap.size _ rfl hx1.size)
 have X1 := Lib.hid (hx1.trans (Ext.alloc w1 (.cells #[] 85)))
 clear hx1
 go_wp2_with fail
 go_loopg [10, 11] c (fun gk oo ii wr => ∃ (k s : Nat) (a1 : Option Addr) (n1 p1 : Nat) (r : List (Int × Int)), Hid (gk + k = c) ∧ Hid (s = lo + k) ∧ oo = .slice a1 n1 p1 ∧ ii = .int .i64 (s : Int) ∧ Hid (runT (fun k => excS V X (lo + k)) k = some r) ∧ Hid (OwnR wr W.heap.size (.slice a1 n1 p1) r) ∧ Hid (Ext W wr))
 case atStart => exact ⟨0, lo, _, _, _, [], Lib.hid (by omega), Lib.hid rfl, rfl, rfl, Lib.hid rfl, HO1, X1⟩
 case round =>
  obtain ⟨g1, h_g1⟩ : ∃ x, x = gk := ⟨_, rfl⟩
  subst h_g1
  obtain ⟨wr, h_wr⟩ : ∃ x, x = wr := ⟨_, rfl⟩
  subst h_wr
  obtain ⟨k, s, a1, n1, p1, r, HK, HS, rfl, rfl, HRR, HO, XR⟩ := hrel
  have c0 := XR.out.cellSome k0
  have c1 := XR.out.cellSome k1
  have hsz := XR.out.size
  by_cases hlt : k < c
  ·have hle : (s : Int) ≤ hi := by have := HS.out; omega
   have hsn : s < n := by have := HS.out; omega
   have HE := Lib.hid (i_ExcessOf (p := p) (HI.out.ext XR.out) (HR.out.ext XR.out) HG.out (s := s) hsn)
   obtain ⟨x, y, ok, hxy⟩ : ∃ x y ok, ((excS V X s).getD (0, 0), (excS V X s).isSome) = (((x, y) : Int × Int), ok) := ⟨_, _, _, rfl⟩
   rw [hxy] at HE
   have HXY := Lib.hid hxy
   clear hxy
   go_wp2_with fail
   refine HE.out.mono ?_
   rintro e w3 ⟨rfl, hx3⟩
   have X4 := Lib.hid ((XR.out.trans hx3).trans (Ext.alloc w3 (.cells #[.int .i64 x, .int .i64 y] 85)))
   have HO4 := Lib.hid ((HO.out.ext hx3).ext (Ext.alloc w3 (.cells #[.int .i64 x, .int .i64 y] 85)))
   have hs3 := (XR.out.trans hx3).size
   clear hx3
   cases ok
   ·have HN := Lib.hid (show excX p V X lo c = none by
     rw [HA.out]
     unfold excL
     refine runT_fail HRR.out ?_ hlt
     rw [← HS.out]
     have := HXY.out
     simp only [Prod.mk.injEq] at this
     cases hq : excS V X s with
     | none => rfl
     | some z => rw [hq] at this; simp at this)
    go_wp2_with fail
    go_ret2
    exact ⟨⟨_, ret_tupE (by rw [HN.out]; rfl), by rw [HN.out]; exact OwnR.nil _ _⟩, HX.out.trans X4.out⟩
   ·have HR2 := Lib.hid (runT_some (x := (x, y)) HRR.out (by
     rw [← HS.out]
     have := HXY.out
     simp only [Prod.mk.injEq] at this
     cases hq : excS V X s with
     | none => rw [hq] at this; simp at this
     | some z => rw [hq] at this; simp at this; rw [this]))
    have HLR := Lib.hid (runT_len HRR.out)
    have hk32 : k ≤ 32 := by have := HS.out; omega
    go_wp2_with (first
     | (at_builtin; refine append_rats rfl _ _ rfl W.heap.size (.slice a1 n1 p1) _ rfl (HO4.out.ext (Ext.alloc _ _)) _ 1 _ [(x, y)] rfl (Rats.one' _ _ _ _ _ (by simp)) (by rw [HLR.out]; omega) (by simp; omega) ?_; intro v2 w5 ho hg hnear; obtain ⟨a2, n2, c2, rfl, HN2⟩ := ho.var; have HO5 := Lib.hid ho; have X5 := Lib.hid (ext_grown (X4.out.trans (Ext.alloc _ _)) hg (fun j hj => (HO4.out.lt j hj).1)); clear ho hg hnear))
    go_roundg (g1 - 1)
    case measure => have := HK.out; omega
    case rel => exact ⟨k + 1, s + 1, a2, n2, c2, _, Lib.hid (by have := HK.out; omega), Lib.hid (by have := HS.out; omega), rfl, by go_num, HR2, HO5, X5⟩
  ·have hk2 : k = c := by have := HK.out; omega
   have hnle : ¬ (s : Int) ≤ hi := by have := HS.out; omega
   subst hk2
   go_wp2_with fail
   go_ret2
   exact ⟨⟨_, ret_tupE (by rw [HA.out]; unfold excL; rw [HRR.out]; rfl), by rw [HA.out]; unfold excL; rw [HRR.out]; exact HO.out.mono (by rw [HWS.out]; omega)⟩, HX.out.trans XR.out⟩
end Go.Proofs.YtgohdmnbnhehnaaGreat
