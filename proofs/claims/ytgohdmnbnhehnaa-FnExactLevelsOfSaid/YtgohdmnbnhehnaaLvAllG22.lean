import Derived.Test.YtgohdmnbnhehnaaLvAllG9
import Derived.Test.YtgohdmnbnhehnaaLvAllG10
import Derived.Test.YtgohdmnbnhehnaaLvAllG11
import Derived.Test.YtgohdmnbnhehnaaLvAllG4
import Derived.Test.YtgohdmnbnhehnaaLvAllG12
import Derived.Test.YtgohdmnbnhehnaaLvAllG7
import Derived.Shelf.SlSortCmp.NoneTotal
import Derived.Test.YtgohdmnbnhehnaaProg
import Derived.Test.YtgohdmnbnhehnaaLvAllG6
import Derived.Test.YtgohdmnbnhehnaaLvAllG14
import Derived.Lib.SliceRun
namespace Go.Proofs.Ytgohdmnbnhehnaa
set_option linter.unusedVariables false
set_option linter.unusedSimpArgs false
set_option maxRecDepth 100000
open Go.RowKit
set_option maxHeartbeats 4000000 in
theorem i_ShareOf {w : World} {a : Option Addr} {n cap : Nat} {X : List (Int × Int)} (h : Rats w a n cap X) (s : Nat) (hs : s < 32) :
 Calls Try.prog 153 #[.slice a n cap, .int .i64 (s : Int)] w fun e w' => e = .returned (resR ((shareP X s).getD (0, 0), (shareP X s).isSome)) ∧ Ext w w' := by
 have HL := Lib.hid h.hlen
 have hcap := h.hcap
 have hmax := h.hmax
 have hx0 := Ext.alloc w (.cells #[.int .i64 0, .int .i64 0] 34)
 have HI := Lib.hid (h.ext hx0)
 have HX0 := Lib.hid hx0
 have HRB := Lib.hid (show (w.alloc (.cells #[.int .i64 0, .int .i64 0] 34)).heap[w.heap.size]? = some (.cells #[.int .i64 0, .int .i64 0] 34 (0, 0)) from heapA_new _ _ _ rfl)
 have hin : inB (s : Int) 0 31 = true := by unfold inB; simp; omega
 clear h hx0
 go_enter Try.func153, Try.ntmps153
 go_wp2_with fail
 refine (i_within _ _ _ _).mono ?_
 rw [hin]
 rintro e w0 ⟨rfl, rfl⟩
 go_wp2_with fail
 refine (i_whole 0 _).mono ?_
 rintro e w1 ⟨rfl, hx1⟩
 have HX1 := Lib.hid hx1
 have hs31 : ¬ ((s : Int) > 31) := by omega
 have hs0 : ¬ ((s : Int) < 0) := by omega
 clear hx1
 go_wp2_with fail
 refine (i_MembersOf s hs _).mono ?_
 rintro e w2 ⟨v2, rfl, ho2, hx2⟩
 obtain ⟨am, nm, cm, rfl, hnm⟩ := ho2.var
 have HOM := Lib.hid ho2
 have HB0 := Lib.hid ((Boxed.new (Ext.refl w1) 0 1).grow hx2)
 have HNM := Lib.hid hnm.out
 have hmcap := ho2.ints.hcap
 have hmmax := ho2.ints.hmax
 clear ho2 hx2 hnm
 obtain ⟨mem, hmem⟩ : ∃ l, l = memI (s : Int) 5 := ⟨_, rfl⟩
 have HMA := Lib.hid (fun i h => memI_at (s : Int) i h)
 rw [← hmem] at HOM HNM HMA
 have HMEM := Lib.hid (show shareP X s = payT X mem (0, 1) by unfold shareP; rw [hmem])
 clear hmem
 have HRW := Lib.hid (fun (w' : World) (hx : Ext w1 w') => (hx.block _ (by have := lt_of_block HRB.out; have := HX1.out.size; omega)).trans ((HX1.out.block _ (lt_of_block HRB.out)).trans HRB.out))
 have HXW := Lib.hid (HX0.out.trans HX1.out)
 have hsw1 : w.heap.size < w1.heap.size := by have := lt_of_block HRB.out; have := HX1.out.size; omega
 go_wp2_with fail
 go_loopg [19] nm (fun gk ii wr => ∃ (k : Nat) (p q : Int), Hid (gk + k = nm) ∧ ii = .int .i64 (k : Int) ∧ Hid (Boxed w1 wr w1.heap.size p q) ∧ Hid (payT X (mem.take k) (0, 1) = some (p, q)) ∧ Hid (OwnI wr w1.heap.size (.slice am nm cm) mem))
 case atStart => exact ⟨0, 0, 1, Lib.hid (by omega), rfl, HB0, Lib.hid rfl, Lib.hid (HOM.out.mono (by simp))⟩
 case round =>
  obtain ⟨g1, h_g1⟩ : ∃ x, x = gk := ⟨_, rfl⟩
  subst h_g1
  obtain ⟨wr1, h_wr1⟩ : ∃ x, x = wr := ⟨_, rfl⟩
  subst h_wr1
  obtain ⟨k, p, q, HK, rfl, HB, HT, HM⟩ := hrel
  have hb0 := HB.out.c0
  have hb1 := HB.out.c1
  have hbl := HB.out.lt
  have hszb := HB.out.ext.size
  by_cases hlt : k < nm
  ·have hkl : k < mem.length := by rw [HNM.out]; exact hlt
   obtain ⟨j, hj, hj5, _, _⟩ := HMA.out k hkl
   obtain ⟨lb, loff, hle, hlc⟩ := HM.out.ints.at hlt
   subst hle
   rw [hj] at hlc
   by_cases hjn : j < n
   ·obtain ⟨xb, xoff, x, y, hxe, hxy, hxc, hxd⟩ := (HI.out.ext (HX1.out.trans HB.out.ext)).at hjn
    subst hxe
    have hjX : ¬ (X.length : Int) ≤ (j : Int) := by rw [HL.out]; omega
    obtain ⟨p2, q2, ok, hpq⟩ : ∃ p2 q2 ok, addR (p, q) (x, y) = ((p2, q2), ok) := ⟨_, _, _, rfl⟩
    have HPQ := Lib.hid hpq
    have HST := Lib.hid (show payT X [mem[k]?.getD 0] (p, q) = if ok = true then some (p2, q2) else none by
     rw [hj]; simp only [payT]; rw [if_neg hjX, Int.toNat_natCast, hxy, hpq])
    have HKL := Lib.hid hkl
    clear hj hpq hxy hkl hjX
    go_upto_region 9 with fail
    go_cut [9, 10] (fun sx so wx => ∃ g : Nat, sx = .pointer (some ⟨g, 0, none⟩) ∧ so = .bool ok ∧ Hid (Boxed wr1 wx g p2 q2))
    case first =>
     have hk2 : Ext wr1 wr1.drew := Ext.drew wr1
     have hka : Ext wr1 (wr1.alloc (.cells #[.int .i64 0, .int .i64 0] 34)).drew := (Ext.alloc _ _).trans (Ext.drew _)
     have HKEEP := Lib.hid (fun (w' : World) (h : Ext wr1 w') => (⟨h.cellSome hb0, h.cellSome hb1, h.cellSome hlc, h.cellSome hxc, h.cellSome hxd, h⟩ : w'.cell? ⟨w1.heap.size, 0, none⟩ = some (.int .i64 p) ∧ w'.cell? ⟨w1.heap.size, 1, none⟩ = some (.int .i64 q) ∧ w'.cell? ⟨lb, loff + k, none⟩ = some (.int .i64 (j : Int)) ∧ w'.cell? ⟨xb, xoff + j * 2, none⟩ = some (.int .i64 x) ∧ w'.cell? ⟨xb, xoff + j * 2 + 1, none⟩ = some (.int .i64 y) ∧ Ext wr1 w'))
     go_region_held3 (fun w' => w'.cell? ⟨w1.heap.size, 0, none⟩ = some (.int .i64 p) ∧ w'.cell? ⟨w1.heap.size, 1, none⟩ = some (.int .i64 q) ∧ w'.cell? ⟨lb, loff + k, none⟩ = some (.int .i64 (j : Int)) ∧ w'.cell? ⟨xb, xoff + j * 2, none⟩ = some (.int .i64 x) ∧ w'.cell? ⟨xb, xoff + j * 2 + 1, none⟩ = some (.int .i64 y) ∧ Ext wr1 w')
      (first
        | with_reducible exact HKEEP.out _ hk2
        | with_reducible exact HKEEP.out _ hka
        | with_reducible exact HKEEP.out _ ((hk2.setCell (by first | (simp; done) | (simp; omega)) _).setCell (by first | (simp; done) | (simp; omega)) _)
        | with_reducible exact HKEEP.out _ (hk2.trans (Ext.alloc _ _))
        | with_reducible exact HKEEP.out _ (hBB.put _ _).ext)
      (first
        | (go_at_call 26
           (with_reducible refine (i_AddRat _ _ _ _ _).mono ?_)
           rw [HPQ.out]
           rintro e w5 ⟨rfl, hx_w5⟩
           first | (with_reducible have hBB := Boxed.grow hBB hx_w5) | (with_reducible have hBB := Boxed.firstD hx_w5) | (with_reducible have hBB := Boxed.laterD hk2 hx_w5) | skip
           first | (have b0_ := hBB.c0; have b1_ := hBB.c1; have fb_ := hBB.free) | skip
           have hk2 : Ext wr1 w5 := by first | with_reducible exact hk2.trans hx_w5 | with_reducible exact hka.trans hx_w5 | with_reducible exact (hk2.trans (Ext.alloc _ _)).trans hx_w5
           have hk2s := hk2.size)
        | fail)
     all_goals (go_wp2_with fail; go_meet; first | exact ⟨_, rfl, rfl, Lib.hid (hBB.put _ _)⟩ | exact ⟨_, rfl, rfl, Lib.hid (Boxed.new hk2 _ _)⟩ | exact ⟨_, rfl, rfl, Lib.hid (Boxed.new' hk2 _ _ (by simp))⟩)
    obtain ⟨g, rfl, rfl, HB2⟩ := hcut
    have g0 := HB2.out.c0
    have g1' := HB2.out.c1
    have hB3 := HB.out.grow HB2.out.ext
    have hX3 := hB3.ext
    have hm3 := HM.out.ext HB2.out.ext
    have hb0' := hB3.c0
    have hb1' := hB3.c1
    have hbf := hB3.free
    have HB3 := Lib.hid hB3
    have HX3 := Lib.hid hX3
    have HM3 := Lib.hid hm3
    clear hb0 hb1 hlc hxc hxd hB3 hX3 hm3
    cases ok
    ·have HN := Lib.hid (show shareP X s = none by rw [HMEM.out]; exact payT_fail HKL.out HT.out (by rw [HST.out]; rfl))
     have hr := rcell (HRW.out wc HX3.out)
     obtain ⟨hr0, hr1, hrf⟩ := hr
     go_wp2_with fail
     refine bodyPost_ret (v := .tuple #[.agg #[.int .i64 0, .int .i64 0], .bool false]) (by simp [results, Try.results153, go_sem, hr0, hr1]) rfl ⟨by rw [HN.out]; rfl, (((HXW.out.trans HX3.out).store 0 (Nat.le_refl _) _).store 1 (Nat.le_refl _) _)⟩
    ·have HT2 := Lib.hid (payT_step HKL.out HT.out (by rw [HST.out]; rfl))
     have HM4 := Lib.hid (show OwnI ((wc.setCell ⟨w1.heap.size, 0, none⟩ (.int .i64 p2)).setCell ⟨w1.heap.size, 1, none⟩ (.int .i64 q2)) w1.heap.size (.slice (some ⟨lb, loff, none⟩) nm cm) mem from
      HM3.out.keep fun i hi => by
       have : i ≠ w1.heap.size := fun e => ownsRow_ne HM3.out HB3.out.cell (by decide) (by rw [hi, e])
       rw [heap_setCell_other _ _ _ _ this, heap_setCell_other _ _ _ _ this])
     have HB4 := Lib.hid (HB3.out.put p2 q2)
     go_wp2_with fail
     go_roundg (g1 - 1)
     case measure => have := HK.out; omega
     case rel => exact ⟨k + 1, p2, q2, Lib.hid (by have := HK.out; omega), by go_num, HB4, HT2, HM4⟩
   ·have hjX : (X.length : Int) ≤ (j : Int) := by rw [HL.out]; omega
    have HN := Lib.hid (show shareP X s = none by rw [HMEM.out]; exact payT_fail hkl HT.out (by rw [hj]; simp only [payT]; rw [if_pos hjX]))
    have hr := rcell (HRW.out wr1 HB.out.ext)
    obtain ⟨hr0, hr1, hrf⟩ := hr
    have hge : (j : Int) ≥ (n : Int) := by omega
    clear hj hjX
    go_wp2_with fail
    refine bodyPost_ret (v := .tuple #[.agg #[.int .i64 0, .int .i64 0], .bool false]) (by simp [results, Try.results153, go_sem, hr0, hr1]) rfl ⟨by rw [HN.out]; rfl, (((HXW.out.trans HB.out.ext).store 0 (Nat.le_refl _) _).store 1 (Nat.le_refl _) _)⟩
  ·have hkn : nm = k := by have := HK.out; omega
   subst hkn
   have HY := Lib.hid (show shareP X s = some (p, q) by
    rw [HMEM.out]; have h := HT.out; rwa [List.take_of_length_le (by rw [HNM.out]; exact Nat.le_refl _)] at h)
   have hr := rcell (HRW.out wr1 HB.out.ext)
   obtain ⟨hr0, hr1, hrf⟩ := hr
   go_wp2_with fail
   refine bodyPost_ret (v := .tuple #[.agg #[.int .i64 p, .int .i64 q], .bool true]) (by simp [results, Try.results153, go_sem, hr0, hr1]) rfl ⟨by rw [HY.out]; rfl, (((HXW.out.trans HB.out.ext).store 0 (Nat.le_refl _) _).store 1 (Nat.le_refl _) _)⟩
set_option maxHeartbeats 4000000 in
theorem i_IsPayoff {w : World} {p : Int} {a : Option Addr} {n cap : Nat} {V : List Int} (h : Ints w a n cap V) {b : Option Addr} {m mcap : Nat} {X : List (Int × Int)} (hx : Rats w b m mcap X) :
 Calls Try.prog 138 #[pair p a n cap, .slice b m mcap] w fun e w' => e = .returned (.bool (payP p V X)) ∧ Ext w w' := by
 have HX := Lib.hid (Ext.alloc w (.cells #[.int .i64 p, .slice a n cap] 26))
 have HL := Lib.hid h.hlen
 have HLX := Lib.hid hx.hlen
 have HI := Lib.hid (h.ext HX.out)
 have HR := Lib.hid (hx.ext HX.out)
 have hxcap := hx.hcap
 have hxmax := hx.hmax
 have HV := Lib.hid (i_IsValidGame (p := p) HI.out)
 clear h hx
 cases hv : gameOk p V
 ·rw [hv] at HV
  have HP := Lib.hid (show payP p V X = false by unfold payP; rw [hv]; rfl)
  clear hv
  go_enter Try.func138, Try.ntmps138
  go_wp2_with fail
  refine HV.out.mono ?_
  rintro e w1 ⟨rfl, hx⟩
  have X1 := Lib.hid (HX.out.trans hx)
  clear hx
  go_wp2_with fail
  go_ret
  exact ⟨ret_bool HP.out.symm, X1.out⟩
 rw [hv] at HV
 obtain ⟨q, rfl, h1, h5, hlen, _, hbd⟩ := gameOk_len hv
 have HVV := Lib.hid hv
 have hN := cN_le q h5
 obtain ⟨u, rfl⟩ : ∃ u, n = u + 1 := ⟨n - 1, by have := HL.out; omega⟩
 have hu32 : u ≤ 31 := by have := HL.out; omega
 have HGB := Lib.hid (show -500 ≤ grandV (q : Int) V ∧ grandV (q : Int) V ≤ 500 by rw [grandV_ok hv]; exact getD_bd hbd _)
 clear hv hlen hbd hN
 by_cases hml : m = q
 ·subst hml
  have HAV := Lib.hid (fun (w' : World) (hx : Ext (w.alloc (.cells #[.int .i64 (m : Int), .slice a (u + 1) cap] 26)) w') => i_AllValid (HR.out.ext hx))
  cases hav : allV X
  ·have HP := Lib.hid (show payP (m : Int) V X = false by unfold payP; rw [hav]; simp)
   rw [hav] at HAV
   clear hav
   go_enter Try.func138, Try.ntmps138
   go_wp2_with fail
   refine HV.out.mono ?_
   rintro e w1 ⟨rfl, hx⟩
   have c0 : w1.cell? ⟨w.heap.size, 0, none⟩ = some (.int .i64 (m : Int)) := hx.cellSome (by simp)
   have hmm : ((m : Int) != (m : Int)) = false := by simp
   have HA1 := Lib.hid (HAV.out w1 hx)
   have X1 := Lib.hid (HX.out.trans hx)
   clear hx
   go_wp2_with fail
   refine HA1.out.mono ?_
   rintro e w2 ⟨rfl, hx2⟩
   have X2 := Lib.hid (X1.out.trans hx2)
   clear hx2
   go_wp2_with fail
   go_ret
   exact ⟨ret_bool HP.out.symm, X2.out⟩
  ·rw [hav] at HAV
   have HAVV := Lib.hid hav
   clear hav
   go_enter Try.func138, Try.ntmps138
   go_wp2_with fail
   refine HV.out.mono ?_
   rintro e w1 ⟨rfl, hx⟩
   have c0 : w1.cell? ⟨w.heap.size, 0, none⟩ = some (.int .i64 (m : Int)) := hx.cellSome (by simp)
   have c1 : w1.cell? ⟨w.heap.size, 1, none⟩ = some (.slice a (u + 1) cap) := hx.cellSome (by simp)
   have hmm : ((m : Int) != (m : Int)) = false := by simp
   have HA1 := Lib.hid (HAV.out w1 hx)
   have X1 := Lib.hid hx
   clear hx
   go_wp2_with fail
   refine HA1.out.mono ?_
   rintro e w2 ⟨rfl, hx2⟩
   have X2 := Lib.hid (X1.out.trans hx2)
   replace c0 := hx2.cellSome c0
   replace c1 := hx2.cellSome c1
   clear hx2
   have hlen1 : ((u + 1 : Nat) : Int) - 1 = (u : Int) := by omega
   have HSH := Lib.hid (i_ShareOf (HR.out.ext X2.out) u (by omega))
   have HPE := Lib.hid (show payP (m : Int) V X = decide (shareP X u = some (grandV (m : Int) V, 1)) by
    unfold payP; rw [HVV.out, HAVV.out, decide_eq_true (by rw [HLX.out]), HL.out]; rfl)
   cases hsh : shareP X u with
   | none =>
     have HF := Lib.hid (show payP (m : Int) V X = false by rw [HPE.out, hsh]; rfl)
     rw [hsh] at HSH
     clear hsh
     go_wp2_with fail
     refine HSH.out.mono ?_
     rintro e w3 ⟨rfl, hx3⟩
     have X3 := Lib.hid ((HX.out.trans X2.out).trans hx3)
     clear hx3
     go_wp2_with fail
     go_quiet (fail)
     go_wp2_with fail
     go_ret
     exact ⟨ret_bool HF.out.symm, (X3.out.trans (Ext.alloc _ _)).trans (Drew.ext ⟨_, rfl⟩)⟩
   | some r =>
     obtain ⟨r1, r2⟩ := r
     have HF := Lib.hid (show payP (m : Int) V X = (decide (r1 = grandV (m : Int) V) && decide (r2 = 1)) by
      rw [HPE.out, hsh]; simp)
     rw [hsh] at HSH
     clear hsh
     go_wp2_with fail
     refine HSH.out.mono ?_
     rintro e w3 ⟨rfl, hx3⟩
     replace c0 := hx3.cellSome c0
     replace c1 := hx3.cellSome c1
     have X3 := Lib.hid (X2.out.trans hx3)
     clear hx3
     obtain ⟨E, hE⟩ : ∃ E, E = w3.alloc (.cells #[.int .i64 r1, .int .i64 r2] 34) := ⟨_, rfl⟩
     have hxE : Ext w3 E := by rw [hE]; exact Ext.alloc _ _
     have XE := Lib.hid (X3.out.trans hxE)
     have e0 := hxE.cellSome c0
     have e1 := hxE.cellSome c1
     have b0 : E.cell? ⟨w3.heap.size, 0, none⟩ = some (.int .i64 r1) := by rw [hE]; simp
     have b1 : E.cell? ⟨w3.heap.size, 1, none⟩ = some (.int .i64 r2) := by rw [hE]; simp
     have HGV := Lib.hid (fun (w' : World) (hx : Ext E w') => i_GrandValue (p := (m : Int)) ((HI.out.ext XE.out).ext hx))
     obtain ⟨G, hG⟩ : ∃ G, G = grandV (m : Int) V := ⟨_, rfl⟩
     rw [← hG] at HF HGV
     clear hG
     go_upto_region 4 with fail
     rw [← hE]
     clear hE c0 c1 hxE
     have hk2 : Ext E E.drew := Ext.drew E
     have HKEEP := Lib.hid (fun (w' : World) (h : Ext E w') => (⟨h.cellSome e0, h.cellSome e1, h.cellSome b0, h.cellSome b1, h⟩ : w'.cell? ⟨w.heap.size, 0, none⟩ = some (.int .i64 (m : Int)) ∧ w'.cell? ⟨w.heap.size, 1, none⟩ = some (.slice a (u + 1) cap) ∧ w'.cell? ⟨w3.heap.size, 0, none⟩ = some (.int .i64 r1) ∧ w'.cell? ⟨w3.heap.size, 1, none⟩ = some (.int .i64 r2) ∧ Ext E w'))
     cases hx1 : (r1 == G)
     all_goals
      cases hy1 : (r2 == 1)
     all_goals
      have HF2 := Lib.hid (show payP (m : Int) V X = ((r1 == G) && (r2 == 1)) by rw [HF.out]; rw [Bool.eq_iff_iff]; simp)
      rw [hx1, hy1] at HF2
      go_region_held3 (fun w' => w'.cell? ⟨w.heap.size, 0, none⟩ = some (.int .i64 (m : Int)) ∧ w'.cell? ⟨w.heap.size, 1, none⟩ = some (.slice a (u + 1) cap) ∧ w'.cell? ⟨w3.heap.size, 0, none⟩ = some (.int .i64 r1) ∧ w'.cell? ⟨w3.heap.size, 1, none⟩ = some (.int .i64 r2) ∧ Ext E w')
       (first
         | with_reducible exact HKEEP.out _ hk2)
       (first
         | (go_at_call 154
            (with_reducible refine (HGV.out _ hk2).mono ?_)
            rintro e w4 ⟨rfl, hx4⟩
            have hk2 : Ext E w4 := hk2.trans hx4)
         | (go_at_call 91
            (with_reducible refine (i_whole _ _).mono ?_)
            rintro e w5 ⟨rfl, hx5⟩
            have hk2 : Ext E w5 := hk2.trans hx5)
         | fail)
      all_goals
       go_wp2_with fail
       go_ret
       exact ⟨ret_bool (by rw [HF2.out]; rfl), HX.out.trans (XE.out.trans hk2)⟩
 ·have HP := Lib.hid (show payP (q : Int) V X = false by unfold payP; rw [decide_eq_false (by rw [HLX.out]; omega : ¬ (X.length : Int) = (q : Int))]; simp)
  have hmm : ((m : Int) != (q : Int)) = true := by simp; omega
  go_enter Try.func138, Try.ntmps138
  go_wp2_with fail
  refine HV.out.mono ?_
  rintro e w1 ⟨rfl, hx⟩
  have c0 : w1.cell? ⟨w.heap.size, 0, none⟩ = some (.int .i64 (q : Int)) := hx.cellSome (by simp)
  have X1 := Lib.hid (HX.out.trans hx)
  clear hx
  go_wp2_with fail
  go_ret
  exact ⟨ret_bool HP.out.symm, X1.out⟩
def excX (p : Int) (V : List Int) (X : List (Int × Int)) (lo c : Nat) : Option (List (Int × Int)) := if payP p V X = true then excL V X lo c else none
set_option maxHeartbeats 4000000 in
theorem i_ExcessOf {w : World} {p : Int} {a : Option Addr} {n cap : Nat} {V : List Int} (h : Ints w a n cap V) {b : Option Addr} {m mcap : Nat} {X : List (Int × Int)} (hx : Rats w b m mcap X) (hg : gameOk p V = true) {s : Nat} (hs : s < n) :
 Calls Try.prog 139 #[pair p a n cap, .slice b m mcap, .int .i64 (s : Int)] w fun e w' => e = .returned (resR ((excS V X s).getD (0, 0), (excS V X s).isSome)) ∧ Ext w w' := by
 obtain ⟨W, hW⟩ : ∃ W, W = (w.alloc (.cells #[.int .i64 p, .slice a n cap] 26)).alloc (.cells #[.int .i64 0, .int .i64 0] 34) := ⟨_, rfl⟩
 have HWS := Lib.hid (show W.heap.size = w.heap.size + 2 by rw [hW]; simp)
 have hX : Ext w W := by rw [hW]; exact (Ext.alloc _ _).trans (Ext.alloc _ _)
 have HRB := Lib.hid (show W.heap[w.heap.size + 1]? = some (.cells #[.int .i64 0, .int .i64 0] 34 (0, 0)) by rw [hW]; exact heapA_new _ _ _ (by simp))
 have HP0 := Lib.hid (show W.cell? ⟨w.heap.size, 0, none⟩ = some (.int .i64 p) by rw [hW]; exact Ext.cellSome (Ext.alloc _ _) (by simp))
 have HP1 := Lib.hid (show W.cell? ⟨w.heap.size, 1, none⟩ = some (.slice a n cap) by rw [hW]; exact Ext.cellSome (Ext.alloc _ _) (by simp))
 have HI := Lib.hid (h.ext hX)
 have HR := Lib.hid (hx.ext hX)
 have HX := Lib.hid hX
 have HV := Lib.hid (i_IsValidGame (p := p) HI.out)
 rw [hg, hW] at HV
 have HL := Lib.hid h.hlen
 obtain ⟨q, rfl, hq1, hq5, hVl, _, hVb⟩ := gameOk_len hg
 have hc := cN_le q hq5
 have hn32 : n ≤ 32 := by have := HL.out; omega
 have HVB := Lib.hid (fun i => getD_bd hVb i)
 have hcap := h.hcap
 have hmax := h.hmax
 have hin : inB (s : Int) 0 ((n : Int) - 1) = true := by unfold inB; simp; omega
 clear h hx hX hg hVl hVb
 go_enter Try.func139, Try.ntmps139
 go_wp2_with fail
 refine HV.out.mono ?_
 rw [← hW]
 rintro e w1 ⟨rfl, hx1⟩
 have X1 := Lib.hid hx1
 have b0 := hx1.cellSome HP0.out
 have b1 := hx1.cellSome HP1.out
 clear hx1 hW HV
 go_wp2_with fail
 refine (i_within _ _ _ _).mono ?_
 rw [hin]
 rintro e w2 ⟨rfl, rfl⟩
 clear hin
 go_wp2_with fail
 refine (i_ShareOf (HR.out.ext X1.out) s (by omega)).mono ?_
 obtain ⟨r1, r2, one, hr⟩ : ∃ r1 r2 one, ((shareP X s).getD (0, 0), (shareP X s).isSome) = (((r1, r2) : Int × Int), one) := ⟨_, _, _, rfl⟩
 rw [hr]
 have HSH := Lib.hid hr
 rintro e w3 ⟨rfl, hx3⟩
 obtain ⟨w4, hw4⟩ : ∃ E, E = w3.alloc (.cells #[.int .i64 r1, .int .i64 r2] 34) := ⟨_, rfl⟩
 have hx4 : Ext w3 w4 := by rw [hw4]; exact Ext.alloc _ _
 have X4 := Lib.hid ((X1.out.trans hx3).trans hx4)
 have c0 := (hx3.trans hx4).cellSome b0
 have c1 := (hx3.trans hx4).cellSome b1
 have d0 : w4.cell? ⟨w3.heap.size, 0, none⟩ = some (.int .i64 r1) := by rw [hw4]; simp
 have d1 : w4.cell? ⟨w3.heap.size, 1, none⟩ = some (.int .i64 r2) := by rw [hw4]; simp
 obtain ⟨vb, vo, rfl, hvc⟩ := (HI.out.ext X4.out).at hs
 obtain ⟨v, hv⟩ : ∃ v, v = V[s]?.getD 0 := ⟨_, rfl⟩
 rw [← hv] at hvc
 obtain ⟨p2, q2, ok, hpq⟩ : ∃ p2 q2 ok, subR (v, 1) (r1, r2) = ((p2, q2), ok) := ⟨_, _, _, rfl⟩
 have HPQ := Lib.hid hpq
 have HVV := Lib.hid hv
 clear hr hx3 hx4 b0 b1 hv hpq
 go_upto_region 4 with fail
 rw [← hw4]
 clear hw4
 have hr := rcell ((X4.out.block _ (by have := HWS.out; omega)).trans HRB.out)
 obtain ⟨hr0, hr1, hrf⟩ := hr
 have XF := Lib.hid (HX.out.trans X4.out)
 cases one
 ·have HN := Lib.hid (show excS V X s = none by
   have := HSH.out
   simp only [Prod.mk.injEq] at this
   unfold excS
   cases hsh : shareP X s with
   | none => rfl
   | some r => rw [hsh] at this; simp at this)
  go_wp2_with fail
  refine bodyPost_ret (v := .tuple #[.agg #[.int .i64 0, .int .i64 0], .bool false]) (by simp [results, Try.results139, go_sem, hr0, hr1]) rfl ⟨by rw [HN.out]; rfl, (XF.out.store 0 (by omega) _).store 1 (by omega) _⟩
 ·have HN := Lib.hid (show excS V X s = if ok = true then some (p2, q2) else none by
   have := HSH.out
   simp only [Prod.mk.injEq] at this
   unfold excS
   cases hsh : shareP X s with
   | none => rw [hsh] at this; simp at this
   | some r =>
     rw [hsh] at this
     simp only [Option.getD_some] at this
     rw [this.1]
     show excR (V[s]?.getD 0) (r1, r2) = _
     unfold excR
     rw [← HVV.out, HPQ.out])
  have HZ := Lib.hid (show ok = false → p2 = 0 ∧ q2 = 0 by
   intro hok
   have h1 := HPQ.out
   have h2 := subR_badz (a := (v, 1)) (b := (r1, r2)) (by rw [h1]; exact hok)
   rw [h1] at h2
   simp only [Prod.mk.injEq] at h2
   exact h2)
  have hkd : Ext w4 w4.drew := Ext.drew w4
  have HKEEP := Lib.hid (fun (w' : World) (h : Ext w4 w') => (⟨h.cellSome c1, h.cellSome hvc, h.cellSome d0, h.cellSome d1, h⟩ : w'.cell? ⟨w.heap.size, 1, none⟩ = some (.slice (some ⟨vb, vo, none⟩) n cap) ∧ w'.cell? ⟨vb, vo + s, none⟩ = some (.int .i64 v) ∧ w'.cell? ⟨w3.heap.size, 0, none⟩ = some (.int .i64 r1) ∧ w'.cell? ⟨w3.heap.size, 1, none⟩ = some (.int .i64 r2) ∧ Ext w4 w'))
  clear hr0 hr1 hrf
  go_wp2_with fail
  refine late_begin (M := [10]) (S := fun w' => w'.cell? ⟨w.heap.size, 1, none⟩ = some (.slice (some ⟨vb, vo, none⟩) n cap) ∧ w'.cell? ⟨vb, vo + s, none⟩ = some (.int .i64 v) ∧ w'.cell? ⟨w3.heap.size, 0, none⟩ = some (.int .i64 r1) ∧ w'.cell? ⟨w3.heap.size, 1, none⟩ = some (.int .i64 r2) ∧ Ext w4 w') (by kernel_rfl) ?_
  have hHeld := HKEEP.out _ hkd
  obtain ⟨wd, hwd⟩ : ∃ y, y = w4.drew := ⟨_, rfl⟩
  rw [← hwd] at hkd hHeld
  rw [← hwd]
  clear hwd
  refine lp 0 ?_
  refine ll 1 ?_
  refine lp 2 ?_
  refine lp 3 ?_
  refine ll 4 ?_
  refine ll 6 ?_
  refine late_step (i := 5) (oi := ?_) ?_ ?_ ?_ (fun K hK => ?_)
  rotate_left
  ·simp only [gA, gB, gC]; rfl
  ·kernel_rfl
  ·kernel_rfl
  go_simp
  go_at_call 91
  refine (i_whole _ _).mono ?_
  rintro e w5 ⟨rfl, hx5⟩
  have hkd : Ext w4 w5 := hkd.trans hx5
  clear hx5
  go_wp2_with fail
  refine hK.out _ _ (fun _ => HKEEP.out _ hkd) ?_
  have hHeld := HKEEP.out _ hkd
  clear hK K
  try simp only [Act.put, sA, sB, sC]
  refine late_step (i := 7) (oi := ?_) ?_ ?_ ?_ (fun K hK => ?_)
  rotate_left
  ·simp only [gA, gB, gC]; rfl
  ·kernel_rfl
  ·kernel_rfl
  go_simp
  go_at_call 92
  refine (i_SubRat _ _ _ _ _).mono ?_
  rw [HPQ.out]
  rintro e w6 ⟨rfl, hx6⟩
  have hkd : Ext w4 w6 := hkd.trans hx6
  clear hx6
  have hr6 := rcell (((X4.out.trans hkd).block _ (by have := HWS.out; omega)).trans HRB.out)
  obtain ⟨hr0, hr1, hrf⟩ := hr6
  go_wp2_with fail
  refine hK.out _ _ (fun _ => HKEEP.out _ hkd) ?_
  have hHeld := HKEEP.out _ hkd
  clear hK K
  try simp only [Act.put, sA, sB, sC]
  refine lp 8 ?_
  refine lp 9 ?_
  refine late_one (i := 10) (oi := ?_) (w' := ?_) ?_ ?_ ?_ ?_ ?_ ?_ ?_
  rotate_left 2
  ·simp only [gA, gB, gC]; rfl
  ·kernel_rfl
  ·kernel_rfl
  ·exact of_decide_eq_true (by kernel_rfl)
  ·rfl
  ·go_simp; (try with_reducible rfl)
  try simp only [Act.put, sA, sB, sC]
  refine late_after (i := 11) (oi := ?_) (v := ?_) ?_ ?_ ?_ ?_ ?_ ?_ ?_ ?_ ?_
  rotate_left 2
  ·simp only [gA, gB, gC]; rfl
  ·kernel_rfl
  ·kernel_rfl
  ·kernel_rfl
  ·kernel_rfl
  ·exact fun _ _ _ h => h
  ·refine Or.inl ⟨by rfl, ?_⟩; intro w hSw; (try dsimp only at hSw); go_simp; (try with_reducible rfl)
  ·kernel_rfl
  try simp only [Act.put, sA, sB, sC]
  refine late_done (by kernel_rfl) ?_ _
  have XG := Lib.hid (HX.out.trans (X4.out.trans hkd))
  go_wp2_with fail
  refine bodyPost_ret (v := .tuple #[.agg #[.int .i64 p2, .int .i64 q2], .bool ok]) (by simp [results, Try.results139, go_sem, hr0, hr1]) rfl ⟨?_, (XG.out.store 0 (by omega) _).store 1 (by omega) _⟩
  rw [HN.out]
  cases ok
  ·obtain ⟨z1, z2⟩ := HZ.out rfl
   rw [z1, z2]; rfl
  ·rfl
set_option maxHeartbeats 4000000 in
theorem i_excesses {w : World} {p : Int} {a : Option Addr} {n cap : Nat} {V : List Int} (h : Ints w a n cap V) {b : Option Addr} {m mcap : Nat} {X : List (Int × Int)} (hx : Rats w b m mcap X) (lo c : Nat) (hi : Int) (hh : gameOk p V = true → hi + 1 = (lo : Int) + c ∧ lo + c ≤ n) :
 Calls Try.prog 113 #[pair p a n cap, .slice b m mcap, .int .i64 (lo : Int), .int .i64 hi] w fun e w' => (∃ v, e = .returned (.tuple #[v, .bool (excX p V X lo c).isSome]) ∧ OwnR w' w.heap.size v ((excX p V X lo c).getD [])) ∧ Ext w w' := by
 have HX := Lib.hid (Ext.alloc w (.cells #[.int .i64 p, .slice a n cap] 26))
 have HI := Lib.hid (h.ext HX.out)
 have HR := Lib.hid (hx.ext HX.out)
 have HL := Lib.hid h.hlen
 have hcap := h.hcap
 have hmax := h.hmax
 have HP := Lib.hid (i_IsPayoff (p := p) HI.out HR.out)
 have k0 : (w.alloc (.cells #[.int .i64 p, .slice a n cap] 26)).cell? ⟨w.heap.size, 0, none⟩ = some (.int .i64 p) := by simp
 have k1 : (w.alloc (.cells #[.int .i64 p, .slice a n cap] 26)).cell? ⟨w.heap.size, 1, none⟩ = some (.slice a n cap) := by simp
 obtain ⟨W, hW⟩ : ∃ W, W = w.alloc (.cells #[.int .i64 p, .slice a n cap] 26) := ⟨_, rfl⟩
 rw [← hW] at HX HI HR HP k0 k1
 have HWS := Lib.hid (show W.heap.size = w.heap.size + 1 by rw [hW]; simp)
 have HH := Lib.hid hh
 clear h hx hh
 cases hp : payP p V X
 ·have HN := Lib.hid (show excX p V X lo c = none by unfold excX; rw [if_neg (by rw [hp]; simp)])
  rw [hp] at HP
  clear hp
  go_enter Try.func113, Try.ntmps113
  go_upto_region 1 with fail
  rw [← hW]
  clear hW
  go_wp2_with fail
  refine HP.out.mono ?_
  rintro e w1 ⟨rfl, hx1⟩
  have X1 := Lib.hid hx1
  clear hx1
  go_wp2_with fail
  go_ret2
  exact ⟨⟨_, ret_tupE (by rw [HN.out]; rfl), by rw [HN.out]; exact OwnR.nil _ _⟩, HX.out.trans X1.out⟩
 rw [hp] at HP
 have HA := Lib.hid (show excX p V X lo c = excL V X lo c by unfold excX; rw [if_pos hp])
 have HG := Lib.hid (payP_game hp)
 obtain ⟨q, hpq, hq1, hq5, hVl, _, hVb⟩ := gameOk_len HG.out
 have hcn := cN_le q hq5
 have hn32 : n ≤ 32 := by have := HL.out; omega
 obtain ⟨hh1, hh2⟩ := HH.out HG.out
 clear hp hpq hVl hVb
 go_enter Try.func113, Try.ntmps113
 go_upto_region 1 with fail
 rw [← hW]
 clear hW
 go_wp2_with fail
 refine HP.out.mono ?_
 rintro e w1 ⟨rfl, hx1⟩
 have HO1 := Lib.hid (OwnR.madeE w1 W.heap.size _ rfl hx1.size)
 have X1 := Lib.hid (hx1.trans (Ext.alloc w1 (.cells #[] 34)))
 clear hx1
 go_wp2_with fail
 go_loopg [10, 11] c (fun gk oo ii wr => ∃ (k s : Nat) (a1 : Option Addr) (n1 p1 : Nat) (r : List (Int × Int)), Hid (gk + k = c) ∧ Hid (s = lo + k) ∧ oo = .slice a1 n1 p1 ∧ ii = .int .i64 (s : Int) ∧ Hid (runT (fun k => excS V X (lo + k)) k = some r) ∧ Hid (OwnR wr W.heap.size (.slice a1 n1 p1) r) ∧ Hid (Ext W wr))
 case atStart => exact ⟨0, lo, _, _, _, [], Lib.hid (by omega), Lib.hid rfl, rfl, rfl, Lib.hid rfl, HO1, X1⟩
 case round =>
  obtain ⟨g1, h_g1⟩ : ∃ x, x = gk := ⟨_, rfl⟩
  subst h_g1
  obtain ⟨wr, h_wr⟩ : ∃ x, x = wr := ⟨_, rfl⟩
  subst h_wr
  obtain ⟨k, s, a1, n1, p1, r, HK, HS, rfl, rfl, HRR, HO, XR⟩ := hrel
  have c0 := XR.out.cellSome k0
  have c1 := XR.out.cellSome k1
  have hsz := XR.out.size
  by_cases hlt : k < c
  ·have hle : (s : Int) ≤ hi := by have := HS.out; omega
   have hsn : s < n := by have := HS.out; omega
   have HE := Lib.hid (i_ExcessOf (p := p) (HI.out.ext XR.out) (HR.out.ext XR.out) HG.out (s := s) hsn)
   obtain ⟨x, y, ok, hxy⟩ : ∃ x y ok, ((excS V X s).getD (0, 0), (excS V X s).isSome) = (((x, y) : Int × Int), ok) := ⟨_, _, _, rfl⟩
   rw [hxy] at HE
   have HXY := Lib.hid hxy
   clear hxy
   go_wp2_with fail
   refine HE.out.mono ?_
   rintro e w3 ⟨rfl, hx3⟩
   have X4 := Lib.hid ((XR.out.trans hx3).trans (Ext.alloc w3 (.cells #[.int .i64 x, .int .i64 y] 34)))
   have HO4 := Lib.hid ((HO.out.ext hx3).ext (Ext.alloc w3 (.cells #[.int .i64 x, .int .i64 y] 34)))
   have hs3 := (XR.out.trans hx3).size
   clear hx3
   cases ok
   ·have HN := Lib.hid (show excX p V X lo c = none by
     rw [HA.out]
     unfold excL
     refine runT_fail HRR.out ?_ hlt
     rw [← HS.out]
     have := HXY.out
     simp only [Prod.mk.injEq] at this
     cases hq : excS V X s with
     | none => rfl
     | some z => rw [hq] at this; simp at this)
    go_wp2_with fail
    go_ret2
    exact ⟨⟨_, ret_tupE (by rw [HN.out]; rfl), by rw [HN.out]; exact OwnR.nil _ _⟩, HX.out.trans X4.out⟩
   ·have HR2 := Lib.hid (runT_some (x := (x, y)) HRR.out (by
     rw [← HS.out]
     have := HXY.out
     simp only [Prod.mk.injEq] at this
     cases hq : excS V X s with
     | none => rw [hq] at this; simp at this
     | some z => rw [hq] at this; simp at this; rw [this]))
    have HLR := Lib.hid (runT_len HRR.out)
    have hk32 : k ≤ 32 := by have := HS.out; omega
    go_wp2_with (first
     | (at_builtin; refine append_rats rfl _ _ rfl W.heap.size (.slice a1 n1 p1) _ rfl (HO4.out.ext (Ext.alloc _ _)) _ 1 _ [(x, y)] rfl (Rats.one' _ _ _ _ _ (by simp)) (by rw [HLR.out]; omega) (by simp; omega) ?_; intro v2 w5 ho hg hnear; obtain ⟨a2, n2, c2, rfl, HN2⟩ := ho.var; have HO5 := Lib.hid ho; have X5 := Lib.hid (ext_grown (X4.out.trans (Ext.alloc _ _)) hg (fun j hj => (HO4.out.lt j hj).1)); clear ho hg hnear))
    go_roundg (g1 - 1)
    case measure => have := HK.out; omega
    case rel => exact ⟨k + 1, s + 1, a2, n2, c2, _, Lib.hid (by have := HK.out; omega), Lib.hid (by have := HS.out; omega), rfl, by go_num, HR2, HO5, X5⟩
  ·have hk2 : k = c := by have := HK.out; omega
   have hnle : ¬ (s : Int) ≤ hi := by have := HS.out; omega
   subst hk2
   go_wp2_with fail
   go_ret2
   exact ⟨⟨_, ret_tupE (by rw [HA.out]; unfold excL; rw [HRR.out]; rfl), by rw [HA.out]; unfold excL; rw [HRR.out]; exact HO.out.mono (by rw [HWS.out]; omega)⟩, HX.out.trans XR.out⟩
structure Grw (w w' : World) : Prop where
 ext : Ext w w'
 dr : w.drawn ≤ w'.drawn
theorem Grw.trans {a b c : World} (h : Grw a b) (k : Grw b c) : Grw a c := ⟨h.ext.trans k.ext, Nat.le_trans h.dr k.dr⟩
theorem Grw.alloc (w : World) (o : Obj) : Grw w (w.alloc o) := ⟨Ext.alloc w o, Nat.le_refl _⟩
theorem Drew.grw {w w' : World} (h : Drew w w') : Grw w w' := ⟨h.ext, by obtain ⟨m, rfl⟩ := h; exact Nat.le_add_right _ _⟩
set_option maxHeartbeats 1000000 in
theorem i_ValidG (x y : Int) (w : World) :
 Calls Try.prog 80 #[ratV x y] w fun e w' => e = .returned (.bool (valR (x, y))) ∧ Grw w w' := by
 have HX := Lib.hid (Grw.alloc w (.cells #[.int .i64 x, .int .i64 y] 34))
 cases h1 : inB y 1 1000000000
 ·have H1 := Lib.hid h1
  clear h1
  go_enter Try.func80, Try.ntmps80
  go_wp2_with fail
  refine (i_within _ _ _ _).mono ?_
  rw [H1.out]
  rintro e w1 ⟨rfl, rfl⟩
  go_wp2
  go_ret
  exact ⟨ret_bool (by simp [valR, H1.out]), HX.out⟩
 ·have H1 := Lib.hid h1
  have hy : in18 y := by simp only [inB, Bool.and_eq_true, decide_eq_true_eq] at h1; exact ⟨by omega, by omega⟩
  clear h1
  cases h2 : inB x (-1000000000) 1000000000
  ·have H2 := Lib.hid h2
   clear h2
   go_enter Try.func80, Try.ntmps80
   go_wp2_with fail
   refine (i_within _ _ _ _).mono ?_
   rw [H1.out]
   rintro e w1 ⟨rfl, rfl⟩
   go_wp2_with fail
   refine (i_within _ _ _ _).mono ?_
   rw [H2.out]
   rintro e w1 ⟨rfl, rfl⟩
   go_wp2
   go_ret
   exact ⟨ret_bool (by simp [valR, H2.out]), HX.out⟩
  ·have H2 := Lib.hid h2
   have hx : in18 x := by simp only [inB, Bool.and_eq_true, decide_eq_true_eq] at h2; exact ⟨by omega, by omega⟩
   clear h2
   have HC := Lib.hid (i_common x y (w.alloc (.cells #[.int .i64 x, .int .i64 y] 34)) hx hy)
   go_enter Try.func80, Try.ntmps80
   go_wp2_with fail
   refine (i_within _ _ _ _).mono ?_
   rw [H1.out]
   rintro e w1 ⟨rfl, rfl⟩
   go_wp2_with fail
   refine (i_within _ _ _ _).mono ?_
   rw [H2.out]
   rintro e w1 ⟨rfl, rfl⟩
   go_wp2_with fail
   refine HC.out.mono ?_
   rintro e w1 ⟨rfl, hd⟩
   go_wp2
   go_ret
   exact ⟨ret_bool (by simp only [valR, H1.out, H2.out]; by_cases h : gI x y = 1 <;> simp [h]), HX.out.trans (Drew.grw hd)⟩
set_option maxHeartbeats 1000000 in
theorem i_CompareG (x y u v : Int) (w : World) :
 Calls Try.prog 37 #[ratV x y, ratV u v] w fun e w' => e = .returned (.int .i64 (cmpR (x, y) (u, v))) ∧ Grw w w' := by
 have HX := Lib.hid (show Grw w ((w.alloc (.cells #[.int .i64 x, .int .i64 y] 34)).alloc (.cells #[.int .i64 u, .int .i64 v] 34)) from (Grw.alloc _ _).trans (Grw.alloc _ _))
 cases ha : valR (x, y)
 ·have HA := Lib.hid ha
  have HR := Lib.hid (show cmpR (x, y) (u, v) = 0 by simp [cmpR, ha])
  clear ha
  go_enter Try.func37, Try.ntmps37
  go_wp2_with fail
  refine (i_ValidG x y _).mono ?_
  rw [HA.out]
  rintro e w1 ⟨rfl, hx⟩
  obtain ⟨bA, bB⟩ := box2 hx.ext
  obtain ⟨a0, a1, fa⟩ := rcell bA
  obtain ⟨b0, b1, fb⟩ := rcell bB
  have X1 := Lib.hid hx
  clear hx bA bB
  go_wp2
  go_ret
  exact ⟨ret_int HR.out.symm, HX.out.trans X1.out⟩
 cases hb : valR (u, v)
 ·have HA := Lib.hid ha
  have HB := Lib.hid hb
  have HR := Lib.hid (show cmpR (x, y) (u, v) = 0 by simp [cmpR, hb])
  clear ha hb
  go_enter Try.func37, Try.ntmps37
  go_wp2_with fail
  refine (i_ValidG x y _).mono ?_
  rw [HA.out]
  rintro e w1 ⟨rfl, hx⟩
  obtain ⟨bA, bB⟩ := box2 hx.ext
  obtain ⟨a0, a1, fa⟩ := rcell bA
  obtain ⟨b0, b1, fb⟩ := rcell bB
  have X1 := Lib.hid hx
  clear hx bA bB
  go_wp2_with fail
  refine (i_ValidG u v _).mono ?_
  rw [HB.out]
  rintro e w2 ⟨rfl, hx⟩
  clear a0 a1 fa b0 b1 fb
  have X2 := Lib.hid (X1.out.trans hx)
  obtain ⟨bA, bB⟩ := box2 X2.out.ext
  obtain ⟨a0, a1, fa⟩ := rcell bA
  obtain ⟨b0, b1, fb⟩ := rcell bB
  clear hx bA bB
  go_wp2
  go_ret
  exact ⟨ret_int HR.out.symm, HX.out.trans X2.out⟩
 have HA := Lib.hid ha
 have HB := Lib.hid hb
 obtain ⟨x1, x2, y1, y2⟩ := val_in ha
 obtain ⟨u1, u2, v1, v2⟩ := val_in hb
 have q1 : in18 (x * v) := mul_w (by omega) (by omega)
 have q2 : in18 (u * y) := mul_w (by omega) (by omega)
 obtain ⟨e1, g1⟩ := kwrap_in q1
 obtain ⟨e2, g2⟩ := kwrap_in q2
 have hR : cmpR (x, y) (u, v) = (if x * v < u * y then -1 else if u * y < x * v then 1 else 0) := by simp [cmpR, ha, hb]
 obtain ⟨P, hP⟩ : ∃ P, P = x * v := ⟨_, rfl⟩
 obtain ⟨Q, hQ⟩ : ∃ Q, Q = u * y := ⟨_, rfl⟩
 rw [← hP, ← hQ] at hR
 rw [← hP] at e1 g1
 rw [← hQ] at e2 g2
 have HR := Lib.hid hR
 have hP' := hP.symm
 have hQ' := hQ.symm
 clear ha hb hR q1 q2 hP hQ
 by_cases h1 : P < Q
 ·go_enter Try.func37, Try.ntmps37
  go_wp2_with fail
  refine (i_ValidG x y _).mono ?_
  rw [HA.out]
  rintro e w1 ⟨rfl, hx⟩
  obtain ⟨bA, bB⟩ := box2 hx.ext
  obtain ⟨a0, a1, fa⟩ := rcell bA
  obtain ⟨b0, b1, fb⟩ := rcell bB
  have X1 := Lib.hid hx
  clear hx bA bB
  go_wp2_with fail
  refine (i_ValidG u v _).mono ?_
  rw [HB.out]
  rintro e w2 ⟨rfl, hx⟩
  clear a0 a1 fa b0 b1 fb
  have X2 := Lib.hid (X1.out.trans hx)
  obtain ⟨bA, bB⟩ := box2 X2.out.ext
  obtain ⟨a0, a1, fa⟩ := rcell bA
  obtain ⟨b0, b1, fb⟩ := rcell bB
  clear hx bA bB
  go_wp2
  go_quiet (fail)
  go_wp2
  go_ret
  exact ⟨ret_int (by rw [HR.out, if_pos (by omega)]), HX.out.trans (X2.out.trans (Drew.grw ⟨_, rfl⟩))⟩
 by_cases h2 : Q < P
 ·go_enter Try.func37, Try.ntmps37
  go_wp2_with fail
  refine (i_ValidG x y _).mono ?_
  rw [HA.out]
  rintro e w1 ⟨rfl, hx⟩
  obtain ⟨bA, bB⟩ := box2 hx.ext
  obtain ⟨a0, a1, fa⟩ := rcell bA
  obtain ⟨b0, b1, fb⟩ := rcell bB
  have X1 := Lib.hid hx
  clear hx bA bB
  go_wp2_with fail
  refine (i_ValidG u v _).mono ?_
  rw [HB.out]
  rintro e w2 ⟨rfl, hx⟩
  clear a0 a1 fa b0 b1 fb
  have X2 := Lib.hid (X1.out.trans hx)
  obtain ⟨bA, bB⟩ := box2 X2.out.ext
  obtain ⟨a0, a1, fa⟩ := rcell bA
  obtain ⟨b0, b1, fb⟩ := rcell bB
  clear hx bA bB
  go_wp2
  go_quiet (fail)
  go_wp2
  go_ret
  exact ⟨ret_int (by rw [HR.out, if_neg (by omega), if_pos (by omega)]), HX.out.trans (X2.out.trans (Drew.grw ⟨_, rfl⟩))⟩
 ·go_enter Try.func37, Try.ntmps37
  go_wp2_with fail
  refine (i_ValidG x y _).mono ?_
  rw [HA.out]
  rintro e w1 ⟨rfl, hx⟩
  obtain ⟨bA, bB⟩ := box2 hx.ext
  obtain ⟨a0, a1, fa⟩ := rcell bA
  obtain ⟨b0, b1, fb⟩ := rcell bB
  have X1 := Lib.hid hx
  clear hx bA bB
  go_wp2_with fail
  refine (i_ValidG u v _).mono ?_
  rw [HB.out]
  rintro e w2 ⟨rfl, hx⟩
  clear a0 a1 fa b0 b1 fb
  have X2 := Lib.hid (X1.out.trans hx)
  obtain ⟨bA, bB⟩ := box2 X2.out.ext
  obtain ⟨a0, a1, fa⟩ := rcell bA
  obtain ⟨b0, b1, fb⟩ := rcell bB
  clear hx bA bB
  go_wp2
  go_quiet (fail)
  go_wp2
  go_ret
  exact ⟨ret_int (by rw [HR.out, if_neg (by omega), if_neg (by omega)]), HX.out.trans (X2.out.trans (Drew.grw ⟨_, rfl⟩))⟩
open Go.Shelf
def layR_ren : Go.Shelf.Ren := ⟨fun | 6 => 140 | 15 => 156 | 14 => 155 | 28 => 169 | 29 => 170 | 20 => 161 | 21 => 162 | 22 => 163 | 23 => 164 | 24 => 165 | 25 => 166 | 26 => 167 | 27 => 168 | 46 => 174 | 47 => 175 | 48 => 176 | 49 => 177 | 50 => 178 | 57 => 179 | n => n, fun | 22 => 29 | 24 => 34 | 25 => 57 | 3 => 3 | 39 => 123 | 0 => 0 | 53 => 133 | 55 => 135 | 4 => 4 | 46 => 143 | 45 => 142 | 50 => 147 | 5 => 5 | 9 => 9 | 66 => 150 | 70 => 154 | 76 => 156 | 77 => 157 | n => n, fun | n => n⟩
theorem layR : Go.Proofs.SlLaysF0.n6 Try.prog layR_ren := {
 mixed := by kernel_rfl
 f6 := ⟨Try.f140.name, by decide, Try.func140.trans (congrArg some (by kernel_rfl))⟩
 f14 := ⟨Try.f155.name, by decide, Try.func155.trans (congrArg some (by kernel_rfl))⟩
 f15 := Try.func156.trans (congrArg some (by kernel_rfl))
 f20 := ⟨Try.f161.name, by decide, Try.func161.trans (congrArg some (by kernel_rfl))⟩
 f21 := ⟨Try.f162.name, by decide, Try.func162.trans (congrArg some (by kernel_rfl))⟩
 f22 := ⟨Try.f163.name, by decide, Try.func163.trans (congrArg some (by kernel_rfl))⟩
 f23 := ⟨Try.f164.name, by decide, Try.func164.trans (congrArg some (by kernel_rfl))⟩
 f24 := ⟨Try.f165.name, by decide, Try.func165.trans (congrArg some (by kernel_rfl))⟩
 f25 := ⟨Try.f166.name, by decide, Try.func166.trans (congrArg some (by kernel_rfl))⟩
 f26 := ⟨Try.f167.name, by decide, Try.func167.trans (congrArg some (by kernel_rfl))⟩
 f27 := ⟨Try.f168.name, by decide, Try.func168.trans (congrArg some (by kernel_rfl))⟩
 f28 := Try.func169.trans (congrArg some (by kernel_rfl))
 f29 := Try.func170.trans (congrArg some (by kernel_rfl))
 f46 := ⟨Try.f174.name, by decide, Try.func174.trans (congrArg some (by kernel_rfl))⟩
 f47 := Try.func175.trans (congrArg some (by kernel_rfl))
 f48 := Try.func176.trans (congrArg some (by kernel_rfl))
 f49 := ⟨Try.f177.name, by decide, Try.func177.trans (congrArg some (by kernel_rfl))⟩
 f50 := ⟨Try.f178.name, by decide, Try.func178.trans (congrArg some (by kernel_rfl))⟩
 f57 := ⟨Try.f179.name, by decide, Try.func179.trans (congrArg some (by kernel_rfl))⟩
 t0 := Try.underlying0
 a0 := Try.isAgg0
 z0 := Try.sizeOf0
 v0 := Try.zeroValue0
 t3 := Try.underlying3
 a3 := Try.isAgg3
 z3 := Try.sizeOf3
 v3 := Try.zeroValue3
 t4 := Try.underlying4
 a4 := Try.isAgg4
 z4 := Try.sizeOf4
 v4 := Try.zeroValue4
 t5 := Try.underlying5
 a5 := Try.isAgg5
 z5 := Try.sizeOf5
 v5 := Try.zeroValue5
 t9 := Try.underlying9
 a9 := Try.isAgg9
 z9 := Try.sizeOf9
 v9 := Try.zeroValue9
 t22 := Try.underlying29
 a22 := Try.isAgg29
 z22 := Try.sizeOf29
 v22 := Try.zeroValue29
 t25 := Try.underlying57
 a25 := Try.isAgg57
 z25 := Try.sizeOf57
 v25 := Try.zeroValue57
 t39 := Try.underlying123
 a39 := Try.isAgg123
 z39 := Try.sizeOf123
 v39 := Try.zeroValue123
 t45 := Try.underlying142
 a45 := Try.isAgg142
 z45 := Try.sizeOf142
 v45 := Try.zeroValue142
 t46 := Try.underlying143
 a46 := Try.isAgg143
 z46 := Try.sizeOf143
 v46 := Try.zeroValue143
 t50 := Try.underlying147
 a50 := Try.isAgg147
 z50 := Try.sizeOf147
 v50 := Try.zeroValue147
 t53 := Try.underlying133
 a53 := Try.isAgg133
 z53 := Try.sizeOf133
 v53 := Try.zeroValue133
 t55 := Try.underlying135
 a55 := Try.isAgg135
 z55 := Try.sizeOf135
 v55 := Try.zeroValue135
 t66 := Try.underlying150
 a66 := Try.isAgg150
 z66 := Try.sizeOf150
 v66 := Try.zeroValue150
 t70 := Try.underlying154
 a70 := Try.isAgg154
 z70 := Try.sizeOf154
 v70 := Try.zeroValue154
 t76 := Try.underlying156
 a76 := Try.isAgg156
 z76 := Try.sizeOf156
 v76 := Try.zeroValue156
 t77 := Try.underlying157
 a77 := Try.isAgg157
 z77 := Try.sizeOf157
 v77 := Try.zeroValue157 }
end Go.Proofs.Ytgohdmnbnhehnaa
namespace Go.Proofs.Ytgohdmnbnhehnaa
set_option linter.unusedVariables false
set_option linter.unusedSimpArgs false
set_option maxRecDepth 100000
open Go.RowKit
abbrev VR : Type := { r : Int × Int // valR r = true }
instance : Inhabited VR := ⟨⟨(0, 1), by decide⟩⟩
def encV (x : VR) : List Value := [.int .i64 x.1.1, .int .i64 x.1.2]
def toV (x : Int × Int) : VR := if h : valR x = true then ⟨x, h⟩ else default
theorem toV_val {x : Int × Int} (h : valR x = true) : (toV x).1 = x := by unfold toV; rw [dif_pos h]
def cfV (x y : VR) : Int := cmpR y.1 x.1
theorem Grw.grow {w w' : World} (h : Grw w w') : ∃ (q : Nat) (os : Array Obj), w' = Sort.grow (w.drewN q) os := by
 obtain ⟨hx, hd⟩ := h
 obtain ⟨h1, h2, h3, h4, h5⟩ := hx
 obtain ⟨heap, tape, drawn, os, output⟩ := w
 obtain ⟨heap', tape', drawn', os', output'⟩ := w'
 simp only at h1 h2 h3 h4 h5 hd
 subst h1 h2 h3
 refine ⟨drawn' - drawn, heap'.extract heap.size heap'.size, ?_⟩
 have e1 : drawn + (drawn' - drawn) = drawn' := by omega
 have e2 : heap ++ heap'.extract heap.size heap'.size = heap' := by
  apply Array.ext_getElem?
  intro i
  by_cases hi : i < heap.size
  ·rw [Array.getElem?_append_left hi, h5 i hi]
  ·rw [Array.getElem?_append_right (by omega), Array.getElem?_extract]
   by_cases hj : i < heap'.size
   ·rw [if_pos (by omega)]; congr 1; omega
   ·rw [if_neg (by omega), Array.getElem?_eq_none (by omega)]
 unfold Sort.grow World.drewN
 simp only [e1, e2]
theorem ratL_get : ∀ (l : List (Int × Int)) (t : Nat), (ratL l)[t]? = (l[t / 2]?).map fun p => if t % 2 = 0 then Value.int .i64 p.1 else Value.int .i64 p.2
 | [], t => by simp [ratL]
 | p :: l, 0 => by simp [ratL]
 | p :: l, 1 => by simp [ratL]
 | p :: l, t + 2 => by
   have e : ratL (p :: l) = Value.int .i64 p.1 :: Value.int .i64 p.2 :: ratL l := by simp [ratL]
   rw [e, List.getElem?_cons_succ, List.getElem?_cons_succ, ratL_get l t, show (t + 2) / 2 = t / 2 + 1 by omega, List.getElem?_cons_succ, show (t + 2) % 2 = t % 2 by omega]
theorem ratL_length (l : List (Int × Int)) : (ratL l).length = l.length * 2 := by
 induction l with
 | nil => rfl
 | cons p l ih =>
   have e : ratL (p :: l) = Value.int .i64 p.1 :: Value.int .i64 p.2 :: ratL l := by simp [ratL]
   rw [e, List.length_cons, List.length_cons, List.length_cons, ih]; omega
theorem flat_ratL (d : Array VR) : (Sort.flatK encV 2 d).toList = ratL (d.toList.map (·.1)) := by
 apply List.ext_getElem?
 intro t
 rw [ratL_get]
 by_cases ht : t < d.size * 2
 ·have hk : t / 2 < d.size := by omega
  rw [Array.getElem?_toList, Array.getElem?_eq_getElem (by rw [Sort.size_flatK]; exact ht), ← getElem!_pos (Sort.flatK encV 2 d) t (by rw [Sort.size_flatK]; exact ht), Sort.get_flatK _ _ _ _ ht]
  rw [List.getElem?_map, Array.getElem?_toList, Array.getElem?_eq_getElem hk, getElem!_pos d (t / 2) hk]
  simp only [Option.map_some]
  rcases Nat.mod_two_eq_zero_or_one t with h | h
  ·rw [h]; rfl
  ·rw [h]; rfl
 ·rw [List.getElem?_eq_none (by rw [Array.length_toList, Sort.size_flatK]; omega), List.getElem?_eq_none (by rw [List.length_map, Array.length_toList]; omega)]
  rfl
theorem swoV : Sort.SWO (ltOf cfV) := by
 have hlt : ∀ x y : VR, ltOf cfV x y = !geR y.1 x.1 := fun x y => by unfold ltOf cfV geR; rw [Bool.not_not]
 refine ⟨fun x => ?_, fun x y z h k => ?_, fun x y z h k => ?_⟩
 ·rw [hlt]
  rcases geR_total x.2 x.2 with h | h <;> rw [h] <;> rfl
 ·rw [hlt, Bool.not_eq_true'] at h k ⊢
  cases hz : geR z.1 x.1 with
  | false => rfl
  | true =>
    have h2 : geR x.1 y.1 = true := (geR_total x.2 y.2).resolve_right (by rw [h]; simp)
    have := geR_trans z.2 x.2 y.2 hz h2
    rw [k] at this; cases this
 ·rw [hlt, Bool.not_eq_false'] at h k ⊢
  exact geR_trans z.2 y.2 x.2 k h
theorem totV (x y : VR) (h : ltOf cfV x y = false) (k : ltOf cfV y x = false) : x = y := by
 have hlt : ∀ x y : VR, ltOf cfV x y = !geR y.1 x.1 := fun x y => by unfold ltOf cfV geR; rw [Bool.not_not]
 rw [hlt, Bool.not_eq_false'] at h k
 exact Subtype.ext (geR_anti x.2 y.2 k h)
theorem sortV {l : List (Int × Int)} (hl : ∀ y ∈ l, valR y = true) : (((l.map toV).toArray.toList.mergeSort fun x y => !(ltOf cfV) y x).map (·.1)) = srtX l := by
 have hb : l.map (fun x => (toV x).1) = l := by
  conv => rhs; rw [← List.map_id l]
  exact List.map_congr_left fun x hx => toV_val (hl x hx)
 refine srtX_only hl ?_ ?_
 ·refine ((List.mergeSort_perm _ _).map _).trans ?_
  rw [List.toList_toArray, List.map_map]
  exact List.Perm.of_eq hb
 ·rw [List.pairwise_map]
  have := List.pairwise_mergeSort (le := fun x y : VR => !(ltOf cfV) y x) (fun a b c h k => by
   simp only [Bool.not_eq_true'] at h k ⊢
   exact swoV.ntrans _ _ _ k h) (fun a b => by
   simp only [Bool.or_eq_true, Bool.not_eq_true']
   unfold ltOf cfV
   rcases geR_total a.2 b.2 with h | h
   ·left; unfold geR at h; simpa using h
   ·right; unfold geR at h; simpa using h) (l.map toV).toArray.toList
  refine this.imp fun {a b} h => ?_
  unfold ltOf cfV at h
  unfold geR
  exact h
set_option maxHeartbeats 400000 in
theorem i_excCmp (x y : VR) (w : World) :
 Calls Try.prog 141 #[.agg (encV x).toArray, .agg (encV y).toArray] w fun e w' => e = .returned (.int .i64 (cfV x y)) ∧ Grw w w' := by
 obtain ⟨⟨x1, x2⟩, hx⟩ := x
 obtain ⟨⟨y1, y2⟩, hy⟩ := y
 have HG := Lib.hid ((Grw.alloc w (.cells #[.int .i64 x1, .int .i64 x2] 34)).trans (Grw.alloc _ (.cells #[.int .i64 y1, .int .i64 y2] 34)))
 show Calls Try.prog 141 #[.agg #[.int .i64 x1, .int .i64 x2], .agg #[.int .i64 y1, .int .i64 y2]] w fun e w' => e = .returned (.int .i64 (cmpR (y1, y2) (x1, x2))) ∧ Grw w w'
 clear hx hy
 go_enter Try.func141, Try.ntmps141
 go_wp2_with fail
 refine (i_CompareG y1 y2 x1 x2 _).mono ?_
 rintro e w1 ⟨rfl, hx1⟩
 go_wp2_with fail
 go_ret
 exact ⟨rfl, HG.out.trans hx1⟩
theorem go_ExcessVector1 : IsGo Try.prog 141 := isGo Try.func141 (by kernel_rfl) (by kernel_rfl)
theorem i_sortX {w : World} {base g n cap : Nat} {l : List (Int × Int)} (h : OwnR w base (.slice (some ⟨g, 0, none⟩) n cap) l) (hl : ∀ y ∈ l, valR y = true) (hn : n ≤ 1000000) :
 Calls Try.prog 140 #[.slice (some ⟨g, 0, none⟩) n cap, .func (.func 141) #[] #[]] w fun e w' =>
  e = .returned (.tuple #[]) ∧ OwnR w' base (.slice (some ⟨g, 0, none⟩) n cap) (srtX l) ∧ ∀ W0 : World, Ext W0 w → W0.heap.size ≤ g → Ext W0 w' := by
 have hlen := h.rats.hlen
 rcases h.2 with ⟨he, h0⟩ | ⟨g', cap', cur, he, hb, hg, h1, h2, hs, ht⟩
 ·cases he
 simp only [Value.slice.injEq, Option.some.injEq, Addr.mk.injEq, and_true] at he
 obtain ⟨rfl, hnl, rfl⟩ := he
 obtain ⟨d, hd⟩ : ∃ d : Array VR, d = (l.map toV).toArray := ⟨_, rfl⟩
 have hds : d.size = n := by rw [hd]; simp [hlen]
 have hdl : d.toList.map (·.1) = l := by
  rw [hd, List.toList_toArray, List.map_map]
  conv => rhs; rw [← List.map_id l]
  exact List.map_congr_left fun x hx => toV_val (hl x hx)
 have hflat : (Sort.flatK encV 2 d).toList = ratL l := by rw [flat_ratL, hdl]
 have hH : Sort.HoldsK encV 2 w g 0 d := by
  intro j hj
  rw [Sort.size_flatK] at hj
  refine ⟨?_, by simp [World.frozen?, hg]⟩
  have h3 : (cur.toList.take (l.length * 2))[j]? = (ratL l)[j]? := by rw [ht]
  rw [List.getElem?_take_of_lt (by omega)] at h3
  rw [Nat.zero_add, cell_of_row w g j cur _ _ hg, ← Array.getElem?_toList, h3, ← hflat, Array.getElem?_toList, getElem!_pos _ j (by rw [Sort.size_flatK]; exact hj), Array.getElem?_eq_getElem]
  rfl
 have hcmp : CmpLays Try.prog 141 #[] encV 2 cfV g 0 d.size w := fun m os dk _ x y =>
  (i_excCmp x y _).mono fun e w' ⟨he, hw⟩ => ⟨he, hw.grow⟩
 have hcon := AnyQ.slices_SortFunc_total layR 2 (fun _ => by kernel_rfl) (fun _ => by kernel_rfl) encV (fun _ => rfl) (fun x v hv => by simp [encV] at hv; rcases hv with rfl | rfl <;> rfl) cfV swoV 141 #[] g 0 cap d w go_ExcessVector1 hcmp hH (lt_of_block hg) (by omega) totV
 rw [hds] at hcon
 refine Calls.mono hcon ?_
 rintro e w' ⟨rfl, q, os, rfl⟩
 have hsz : ((d.toList.mergeSort fun x y => !(ltOf cfV) y x)).length = n := by rw [List.length_mergeSort, Array.length_toList, hds]
 have hfl : (Sort.flatK encV 2 ((d.toList.mergeSort fun x y => !(ltOf cfV) y x)).toArray).toList = ratL (srtX l) := by
  rw [flat_ratL, List.toList_toArray, hd, sortV hl]
 have hgl : g < w.heap.size := lt_of_block hg
 have hh : (sortWorldK encV 2 w g 0 q ((d.toList.mergeSort fun x y => !(ltOf cfV) y x)).toArray os).heap[g]? = some (.cells (Sort.putCells id 0 (Sort.flatK encV 2 ((d.toList.mergeSort fun x y => !(ltOf cfV) y x)).toArray) cur) 34 (0, 0)) := by
  unfold sortWorldK Sort.putRowK
  rw [Sort.heap_grow_old _ _ (by simpa using hgl)]
  simp [Sort.putRow, Sort.mapBlock, Sort.ahead, Array.getElem?_modify, hg, Sort.onCells]
 refine ⟨rfl, ⟨by rw [ratL_length, srtX_len, hlen], .inr ⟨g, cap, _, by rw [srtX_len, hlen], hb, hh, by rw [srtX_len]; exact h1, h2, by simp [Sort.putCells, hs], ?_⟩⟩, fun W0 hx hW => ?_⟩
 ·rw [← hfl]
  generalize hF : Sort.flatK encV 2 ((d.toList.mergeSort fun x y => !(ltOf cfV) y x)).toArray = F
  have hFs : F.size = n * 2 := by rw [← hF, Sort.size_flatK]; simp [hsz]
  rw [srtX_len, hlen]
  apply List.ext_getElem?
  intro j
  by_cases hj : j < n * 2
  ·rw [List.getElem?_take_of_lt hj, Array.getElem?_toList, Array.getElem?_toList]
   simp [Sort.putCells, hj, hFs, show j < cur.size by omega]
  ·rw [List.getElem?_take_eq_none (by omega), List.getElem?_eq_none (by rw [Array.length_toList]; omega)]
 ·refine ⟨hx.os, hx.tape, hx.output, ?_, fun k hk => ?_⟩
  ·have := hx.size
   unfold sortWorldK Sort.putRowK
   refine Nat.le_trans this ?_
   simp [Sort.grow, Sort.putRow, Sort.mapBlock, Sort.ahead]
  ·have hkw : k < w.heap.size := Nat.lt_of_lt_of_le hk hx.size
   unfold sortWorldK Sort.putRowK
   rw [Sort.heap_grow_old _ _ (by simpa using hkw)]
   have : g ≠ k := by omega
   rw [← hx.block k hk]
   simp [Sort.putRow, Sort.mapBlock, Sort.ahead, Array.getElem?_modify, this]
theorem run_clear_two {P : Program} (w : World) (t e ty : TypeId) (ht : P.underlying t = some (.slice e)) (hv : ∀ w, (zeroValue e).run P w = .ok (.agg #[.int .i64 0, .int .i64 0]) w) (b o n c : Nat) (hn : 0 < n)
 (hc : ∀ j, j < n * 2 → (w.cell? ⟨b, o + j, none⟩).isSome = true) (hf : ∀ j, j < n * 2 → w.frozen? ⟨b, o + j, none⟩ = false) :
 (Builtin.clear_ #[t] ty #[.slice (some ⟨b, o, none⟩) n c]).run P w = .ok (.tuple #[]) (w.setCells b o (List.replicate (n * 2) (.int .i64 0))) := by
 have hzc : (Builtin.zeroCells #[Value.int .i64 0, Value.int .i64 0] n).toList = List.replicate (n * 2) (.int .i64 0) := by
  simp only [Builtin.zeroCells]
  apply List.ext_getElem
  ·simp
  ·intro i h1 h2
   simp only [Array.toList_map, Array.toList_range, List.getElem_map, List.getElem_range, List.getElem_replicate]
   have : ∀ k, k < 2 → (#[Value.int .i64 0, Value.int .i64 0] : Array Value)[k]! = .int .i64 0 := fun k hk => by
    rcases k with _ | _ | k
    ·rfl
    ·rfl
    ·omega
   exact this _ (Nat.mod_lt _ (by decide))
 have hst := run_storeCells_cells (P := P) b o (List.replicate (n * 2) (.int .i64 0)) 0 w (by simpa using hc) (by simpa using hf) (by intro v hv'; rw [List.eq_of_mem_replicate hv']; rfl)
 simp only [Nat.add_zero] at hst
 obtain ⟨m, rfl⟩ : ∃ m, n = m + 1 := ⟨n - 1, by omega⟩
 have hzv : (Value.agg #[.int .i64 0, .int .i64 0]).cells = #[Value.int .i64 0, Value.int .i64 0] := rfl
 simp [Builtin.clear_, run_underlying ht, hv, hzv, hzc, hst]
theorem OwnR.outS {w : World} {base g n cap : Nat} {l : List (Int × Int)} (h : OwnR w base (.slice (some ⟨g, 0, none⟩) n cap) l) : base ≤ g ∧ g < w.heap.size ∧ (∀ j, w.frozen? ⟨g, j, none⟩ = false) ∧ ∀ k, k < n → w.cell? ⟨g, k * 2, none⟩ = some (.int .i64 (l[k]?.getD (0, 0)).1) ∧ w.cell? ⟨g, k * 2 + 1, none⟩ = some (.int .i64 (l[k]?.getD (0, 0)).2) := by
 rcases h.2 with ⟨he, h0⟩ | ⟨g', cap', cur, he, hb, hg, h1, h2, hs, ht⟩
 ·cases he
 ·have hgg : g' = g := by simp only [Value.slice.injEq, Option.some.injEq, Addr.mk.injEq, and_true] at he; exact he.1.symm
  subst hgg
  refine ⟨hb, lt_of_block hg, fun j => frozen_of_row w g' j cur _ hg, fun k hk => ?_⟩
  obtain ⟨xb, xo, x, y, e, hxy, hc0, hc1⟩ := h.rats.at hk
  simp only [Option.some.injEq, Addr.mk.injEq, and_true] at e
  rw [← e.1, ← e.2, Nat.zero_add] at hc0 hc1
  rw [hxy]
  exact ⟨hc0, hc1⟩
theorem OwnR.zeros {base g n cap : Nat} : ∀ (m : Nat) {k : Nat} {w : World} {M : List (Int × Int)}, k + m ≤ M.length → OwnR w base (.slice (some ⟨g, 0, none⟩) n cap) M → ∃ M', OwnR (w.setCells g (k * 2) (List.replicate (m * 2) (.int .i64 0))) base (.slice (some ⟨g, 0, none⟩) n cap) M' ∧ M'.take k = M.take k ∧ M'.length = M.length
 | 0, k, w, M, _, h => ⟨M, by simpa [World.setCells] using h, rfl, rfl⟩
 | m + 1, k, w, M, hk, h => by
   obtain ⟨M', h1, h2, h3⟩ := OwnR.zeros m (k := k + 1) (by rw [List.length_set]; omega) (h.set (k := k) (by omega) 0 0)
   rw [List.length_set] at h3
   refine ⟨M', ?_, ?_, h3⟩
   ·rw [show (m + 1) * 2 = m * 2 + 1 + 1 by omega, List.replicate_succ, List.replicate_succ]
    simp only [World.setCells]
    rw [show k * 2 + 1 + 1 = (k + 1) * 2 by omega]
    exact h1
   ·have h4 := congrArg (List.take k) h2
    rw [List.take_take, List.take_take, Nat.min_eq_left (by omega)] at h4
    rw [h4, List.take_set_of_le (Nat.le_refl _)]
theorem OwnR.takeO {w : World} {base g n cap : Nat} {M : List (Int × Int)} (h : OwnR w base (.slice (some ⟨g, 0, none⟩) n cap) M) {k : Nat} (hk : k ≤ n) : OwnR w base (.slice (some ⟨g, 0, none⟩) k cap) (M.take k) := by
 have hlen := h.rats.hlen
 rcases h.2 with ⟨he, h0⟩ | ⟨g', cap', cur, he, hb, hg, h1, h2, hs, ht⟩
 ·cases he
 ·simp only [Value.slice.injEq, Option.some.injEq, Addr.mk.injEq, and_true] at he
  obtain ⟨rfl, _, rfl⟩ := he
  have hl : (M.take k).length = k := by rw [List.length_take]; omega
  refine ⟨by rw [ratL_length], .inr ⟨g, cap, cur, by rw [hl], hb, hg, by omega, h2, hs, ?_⟩⟩
  rw [hl]
  apply List.ext_getElem?
  intro j
  rw [ratL_get]
  by_cases hj : j < k * 2
  ·rw [List.getElem?_take_of_lt hj, List.getElem?_take_of_lt (by omega), ← ratL_get, ← ht, List.getElem?_take_of_lt (by omega)]
  ·rw [List.getElem?_take_eq_none (by omega), List.getElem?_eq_none (by rw [List.length_take]; omega)]
   rfl
theorem zero_rat (w : World) : (zeroValue 34).run Try.prog w = .ok (.agg #[.int .i64 0, .int .i64 0]) w := rfl
theorem getP (l : List (Int × Int)) (k : Nat) : ∃ x y, l[k]?.getD (0, 0) = (x, y) := ⟨_, _, rfl⟩
theorem pair_ne {x y x' y' : Int} (h : ((x == x') && (y == y')) = false) : ¬ (x, y) = (x', y') := by
 intro e
 simp only [Prod.mk.injEq] at e
 rw [e.1, e.2] at h
 simp at h
theorem pair_eq {x y x' y' : Int} (h : ((x == x') && (y == y')) = true) : (x, y) = (x', y') := by
 simp only [Bool.and_eq_true, beq_iff_eq] at h
 rw [h.1, h.2]
set_option maxHeartbeats 8000000 in
theorem i_compactX {W0 w : World} {base g n cap : Nat} {l : List (Int × Int)} (hX : Ext W0 w) (hb : W0.heap.size ≤ base) (h : OwnR w base (.slice (some ⟨g, 0, none⟩) n cap) l) (hn : 0 < n) (hn9 : n ≤ 1000000) :
 Calls Try.prog 114 #[.slice (some ⟨g, 0, none⟩) n cap] w fun e w' =>
  (∃ m, e = .returned (.slice (some ⟨g, 0, none⟩) m cap) ∧ OwnR w' base (.slice (some ⟨g, 0, none⟩) m cap) (cmpT l n)) ∧ Ext W0 w' := by
 have hcap := h.rats.hcap
 have hmax := h.rats.hmax
 have HL := Lib.hid h.rats.hlen
 have HO := Lib.hid h
 have HX := Lib.hid hX
 have HBG := Lib.hid (Nat.le_trans hb h.outS.1)
 clear h hX
 by_cases hn1 : n = 1
 ·subst hn1
  have HC := Lib.hid (show cmpT l 1 = l by
   rw [cmpT_step (k := 0) (by rw [HL.out]; decide) rfl (.inl rfl), List.take_of_length_le (by rw [HL.out]; decide)])
  go_enter Try.func114, Try.ntmps114
  go_wp2_with fail
  go_ret
  exact ⟨⟨1, rfl, by rw [HC.out]; exact HO.out⟩, HX.out⟩
 have h2 : ¬ (n : Int) < 2 := by omega
 go_enter Try.func114, Try.ntmps114
 go_wp2_with fail
 go_loopg [3] (n - 1) (fun gk kk wr => ∃ k : Nat, Hid (gk + k = n) ∧ kk = .int .i64 (k : Int) ∧ Hid (0 < k) ∧ Hid (cmpT l k = l.take k) ∧ Hid (OwnR wr base (.slice (some ⟨g, 0, none⟩) n cap) l) ∧ Hid (Ext W0 wr))
 case atStart => exact ⟨1, Lib.hid (by omega), rfl, Lib.hid (by decide), Lib.hid (cmpT_step (k := 0) (by rw [HL.out]; exact hn) rfl (.inl rfl)), HO, HX⟩
 case round =>
  obtain ⟨g1, h_g1⟩ : ∃ x, x = gk := ⟨_, rfl⟩
  subst h_g1
  obtain ⟨wr, h_wr⟩ : ∃ x, x = wr := ⟨_, rfl⟩
  subst h_wr
  obtain ⟨k, HK, rfl, HP, HT, HO1, HX1⟩ := hrel
  by_cases hlt : k < n
  ·obtain ⟨m, hkm⟩ : ∃ m, k = m + 1 := ⟨k - 1, by have := HP.out; omega⟩
   obtain ⟨x, y, hxy⟩ := getP l k
   obtain ⟨x', y', hxy'⟩ := getP l m
   obtain ⟨c0, c1⟩ := HO1.out.outS.2.2.2 k hlt
   obtain ⟨d0, d1⟩ := HO1.out.outS.2.2.2 m (by omega)
   rw [hxy] at c0 c1
   rw [hxy'] at d0 d1
   have HXY := Lib.hid hxy
   have HXY' := Lib.hid (show l[k - 1]?.getD (0, 0) = (x', y') by rw [hkm]; exact hxy')
   have hmn : m < n := by omega
   have hck : ¬ cap = k := by omega
   have hw1 : IntKind.i64.wrap ((k : Int) - 1) = (m : Int) := by rw [IntKind.wrap_i64]; omega
   have hw2 : wrap64 ((k : Int) - 1) = (m : Int) := by unfold wrap64; omega
   have hw3 : (k : Int) - 1 = (m : Int) := by omega
   have hw4 : IntKind.i64.wrap (m : Int) = (m : Int) := by rw [IntKind.wrap_i64]; omega
   have hw5 : wrap64 (m : Int) = (m : Int) := by unfold wrap64; omega
   have hk2 : Ext wr wr.drew := Ext.drew wr
   have hkl : k < l.length := by rw [HL.out]; exact hlt
   have HKL := Lib.hid hkl
   clear hxy hxy' hkm hkl
   cases hx1 : (x == x')
   all_goals
    cases hy1 : (y == y')
   all_goals
    have HEQ := Lib.hid (And.intro hx1 hy1)
    go_wp2_with fail
    go_region_held3 (fun w' => w'.cell? ⟨g, k * 2, none⟩ = some (.int .i64 x) ∧ w'.cell? ⟨g, k * 2 + 1, none⟩ = some (.int .i64 y) ∧ w'.cell? ⟨g, m * 2, none⟩ = some (.int .i64 x') ∧ w'.cell? ⟨g, m * 2 + 1, none⟩ = some (.int .i64 y') ∧ Ext wr w')
     (exact ⟨hk2.cellSome c0, hk2.cellSome c1, hk2.cellSome d0, hk2.cellSome d1, hk2⟩)
     (fail)
    clear hw1 hw2 hw3 hw4 hw5 c0 c1 d0 d1 hx1 hy1
    have HO2 := Lib.hid (HO1.out.ext hk2)
    have HX2 := Lib.hid (HX1.out.trans hk2)
    clear hk2
   iterate 3
    ·have HT2 := Lib.hid (cmpT_step HKL.out HT.out (.inr (by rw [HXY.out, HXY'.out]; exact pair_ne (by rw [HEQ.out.1, HEQ.out.2]; rfl))))
     go_wp2_with fail
     go_roundg (g1 - 1)
     case measure => have := HK.out; omega
     case rel => exact ⟨k + 1, Lib.hid (by have := HK.out; omega), by go_num, Lib.hid (by omega), HT2, HO2, HX2⟩
   ·have HC0 := Lib.hid (Cmpd.start HP.out HKL.out HT.out (by rw [HXY.out, HXY'.out]; exact pair_eq (by rw [HEQ.out.1, HEQ.out.2]; rfl)))
    have hkn : k ≤ n := by omega
    go_wp2_with fail
    go_loopg [3, 5] (n - k - 1) (fun gk kk jj wr => ∃ (i j : Nat) (M : List (Int × Int)), Hid (gk + (k + j) = n) ∧ kk = .int .i64 (i : Int) ∧ jj = .int .i64 (j : Int) ∧ Hid (0 < j) ∧ Hid (Cmpd l M i (k + j)) ∧ Hid (OwnR wr base (.slice (some ⟨g, 0, none⟩) n cap) M) ∧ Hid (Ext W0 wr))
    case atStart => exact ⟨k, 1, l, Lib.hid (by omega), rfl, rfl, Lib.hid (by decide), HC0, HO2, HX2⟩
    case round =>
     obtain ⟨g2, h_g2⟩ : ∃ x, x = gk := ⟨_, rfl⟩
     subst h_g2
     obtain ⟨wr2, h_wr2⟩ : ∃ x, x = wr := ⟨_, rfl⟩
     subst h_wr2
     obtain ⟨i, j, M, HJ, rfl, rfl, HJ0, HC, HM, HX3⟩ := hrel
     have hij := HC.out.lt
     have hi0 := HC.out.pos
     by_cases hlt2 : k + j < n
     ·obtain ⟨q, hjq⟩ : ∃ q, j = q + 1 := ⟨j - 1, by have := HJ0.out; omega⟩
      obtain ⟨u, v, huv⟩ := getP l (k + j)
      obtain ⟨u', v', huv'⟩ := getP l (k + q)
      have hh1 := HC.out.hi (k + j) (by omega)
      have hh2 := HC.out.hi (k + q) (by omega)
      obtain ⟨c0, c1⟩ := HM.out.outS.2.2.2 (k + j) hlt2
      obtain ⟨d0, d1⟩ := HM.out.outS.2.2.2 (k + q) (by omega)
      rw [hh1, huv, Nat.add_mul] at c0 c1
      rw [hh2, huv', Nat.add_mul] at d0 d1
      have HUV := Lib.hid huv
      have HUV' := Lib.hid (show l[k + j - 1]?.getD (0, 0) = (u', v') by rw [hjq, show k + (q + 1) - 1 = k + q by omega]; exact huv')
      have hin : i < n := by clear HUV HUV' c0 c1 d0 d1 huv huv' hh1 hh2; omega
      have hqn : q < n - k := by omega
      have hjn : j < n - k := by omega
      have hw1 : IntKind.i64.wrap ((j : Int) - 1) = (q : Int) := by rw [IntKind.wrap_i64]; omega
      have hw2 : wrap64 ((j : Int) - 1) = (q : Int) := by unfold wrap64; omega
      have hw3 : (j : Int) - 1 = (q : Int) := by omega
      have hw4 : IntKind.i64.wrap (q : Int) = (q : Int) := by rw [IntKind.wrap_i64]; omega
      have hw5 : wrap64 (q : Int) = (q : Int) := by unfold wrap64; omega
      have hk2 : Ext wr2 wr2.drew := Ext.drew wr2
      have hjl : k + j < l.length := by rw [HL.out]; exact hlt2
      have HJL := Lib.hid hjl
      clear huv huv' hh1 hh2 hjq hjl
      cases hx1 : (u == u')
      all_goals
       cases hy1 : (v == v')
      all_goals
       have HEQ2 := Lib.hid (And.intro hx1 hy1)
       go_wp2_with fail
       go_region_held3 (fun w' => w'.cell? ⟨g, k * 2 + j * 2, none⟩ = some (.int .i64 u) ∧ w'.cell? ⟨g, k * 2 + j * 2 + 1, none⟩ = some (.int .i64 v) ∧ w'.cell? ⟨g, k * 2 + q * 2, none⟩ = some (.int .i64 u') ∧ w'.cell? ⟨g, k * 2 + q * 2 + 1, none⟩ = some (.int .i64 v') ∧ Ext wr2 w')
        (exact ⟨hk2.cellSome c0, hk2.cellSome c1, hk2.cellSome d0, hk2.cellSome d1, hk2⟩)
        (fail)
       have hfz := fun (o : Nat) => (HM.out.ext hk2).outS.2.2.1 o
       obtain ⟨wd, hwd⟩ : ∃ y, y = wr2.drew := ⟨_, rfl⟩
       rw [← hwd] at hk2 hfz ⊢
       clear hwd
       have c0 := hk2.cellSome c0
       have c1 := hk2.cellSome c1
       clear hw1 hw2 hw3 hw4 hw5 d0 d1 hx1 hy1
       have HM2 := Lib.hid (HM.out.ext hk2)
       have HX4 := Lib.hid (HX3.out.trans hk2)
       clear hk2
      iterate 3
       ·have HCN := Lib.hid (HC.out.keep HJL.out (by rw [HUV.out, HUV'.out]; exact pair_ne (by rw [HEQ2.out.1, HEQ2.out.2]; rfl)))
        rw [HUV.out] at HCN
        obtain ⟨e0, e1⟩ := HM2.out.outS.2.2.2 i hin
        have hf0 := hfz (i * 2)
        have hf1 := hfz (i * 2 + 1)
        clear hfz
        have HM3 := Lib.hid (HM2.out.set (k := i) (by rw [HC.out.len, HL.out]; exact hin) u v)
        have HX5 := Lib.hid ((HX4.out.store (i * 2) HBG.out (.int .i64 u)).store (i * 2 + 1) HBG.out (.int .i64 v))
        go_wp2_with fail
        go_roundg (g2 - 1)
        case measure => have := HJ.out; omega
        case rel => exact ⟨i + 1, j + 1, _, Lib.hid (by have := HJ.out; omega), by go_num, by go_num, Lib.hid (by omega), HCN, HM3, HX5⟩
      ·have HCN := Lib.hid (HC.out.drop HJL.out (by rw [HUV.out, HUV'.out]; exact pair_eq (by rw [HEQ2.out.1, HEQ2.out.2]; rfl)))
       go_wp2_with fail
       go_roundg (g2 - 1)
       case measure => have := HJ.out; omega
       case rel => exact ⟨i, j + 1, _, Lib.hid (by have := HJ.out; omega), rfl, by go_num, Lib.hid (by omega), HCN, HM2, HX4⟩
     ·have hkj : k + j = n := by have := HC.out.jl; have := HL.out; omega
      have hin : i < n := by omega
      have hci : ¬ cap = i := by omega
      have hin2 : i ≤ n := by omega
      have hML : M.length = n := by rw [HC.out.len, HL.out]
      have HML := Lib.hid hML
      have hcl : ∀ ty, (Builtin.clear_ #[29] ty #[.slice (some ⟨g, i * 2, none⟩) (n - i) (cap - i)]).run Try.prog wr2 = .ok (.tuple #[]) (wr2.setCells g (i * 2) (List.replicate ((n - i) * 2) (.int .i64 0))) := fun ty => by
       refine run_clear_two wr2 _ 34 ty Try.underlying29 zero_rat g (i * 2) _ _ (by omega) (fun t ht => ?_) (fun t _ => HM.out.outS.2.2.1 _)
       rcases Nat.mod_two_eq_zero_or_one t with h0 | h0
       ·have := (HM.out.outS.2.2.2 (i + t / 2) (by omega)).1
        rw [show (i + t / 2) * 2 = i * 2 + t by omega] at this
        rw [this]; rfl
       ·have := (HM.out.outS.2.2.2 (i + t / 2) (by omega)).2
        rw [show (i + t / 2) * 2 + 1 = i * 2 + t by omega] at this
        rw [this]; rfl
      obtain ⟨M', hM', hMt, _⟩ := OwnR.zeros (w := wr2) (n - i) (k := i) (by omega) HM.out
      have HT2 := Lib.hid (show M'.take i = cmpT l n by rw [hMt, HC.out.lo, hkj])
      have HMF := Lib.hid hM'
      have HXF := Lib.hid (below_setCells' g HBG.out (List.replicate ((n - i) * 2) (.int .i64 0)) (i * 2) HX3.out)
      clear hMt hM' hML
      go_wp2_with fail
      go_ret
      exact ⟨⟨i, rfl, by rw [← HT2.out]; exact HMF.out.takeO (by omega)⟩, HXF.out⟩
  ·have hkn : k = n := by have := HK.out; omega
   have HT2 := Lib.hid (show cmpT l n = l by rw [← hkn, HT.out, List.take_of_length_le (by rw [HL.out, hkn]; exact Nat.le_refl _)])
   go_wp2_with fail
   go_ret
   exact ⟨⟨n, rfl, by rw [HT2.out]; exact HO1.out⟩, HX1.out⟩
end Go.Proofs.Ytgohdmnbnhehnaa
