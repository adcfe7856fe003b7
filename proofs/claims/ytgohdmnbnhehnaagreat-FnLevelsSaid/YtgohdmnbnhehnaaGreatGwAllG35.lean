import Derived.Test.YtgohdmnbnhehnaaGreatGwAllG34
import Derived.Test.YtgohdmnbnhehnaaGreatGwAllG29
namespace Go.Proofs.YtgohdmnbnhehnaaGreat
set_option linter.unusedVariables false
set_option linter.unusedSimpArgs false
set_option maxRecDepth 100000
open Go.RowKit
section
variable {w : World} {base g : Nat} {vb vc : Value} {vs : List Value} {A : List (List Int)} {B : List Int} {C : List (Int × Int)}
theorem LpO.putA {w1 w2 : World} {G N cap : Nat} (h : LpO w base g (.slice (some ⟨G, 0, none⟩) N cap) vb vc vs A B C) (hx : Ext w w1) {k : Nat} (hk : k < N) {v' : Value} {r : List Int} (hgr : w1.grownBy w2 (vs[k]?.getD undef).ownBlock) (ho : OwnI w2 base v' r) (hn : Near w1 (vs[k]?.getD undef) v') :
 LpO (w2.setCell ⟨G, k, none⟩ v') base g (.slice (some ⟨G, 0, none⟩) N cap) vb vc (vs.set k v') (A.set k r) B C := by
 have h1 := h.ext hx
 have hvl : k < vs.length := by rw [h.a.len]; exact hk
 have hkl : k < A.length := by rw [← h.rows.len]; exact hvl
 have hrk := h1.rows.row k hkl
 have hbox : w2.heap[g]? = some (.cells #[.slice (some ⟨G, 0, none⟩) N cap, vb, vc] 67 (0, 0)) := (hgr.block g h1.lt (h1.neR hkl)).trans h1.box
 have hset : ∀ j, j ≠ G → (w2.setCell ⟨G, k, none⟩ v').heap[j]? = w2.heap[j]? := fun j hj => heap_setCell_other _ _ _ _ hj
 have ha2 : OwnV w2 base (.slice (some ⟨G, 0, none⟩) N cap) vs := h1.a.keep fun j hj => hgr.block j (h1.a.lt j hj).2 fun e => hrk.apart h1.a j e.symm hj
 have hb2 : OwnI w2 base vb B := h1.b.keep fun j hj => hgr.block j (h1.b.lt j hj).2 fun e => h1.off k j hvl e.symm hj
 have hc2 : OwnR w2 base vc C := h1.c.keep fun j hj => hgr.block j (h1.c.lt j hj).2 fun e => ownsRow_apart (by decide) h1.c hrk j hj e.symm
 have hr2 : ∀ i, i < A.length → i ≠ k → OwnI w2 base (vs[i]?.getD undef) (A[i]?.getD []) := fun i hi hik => (h1.rows.row i hi).keep fun j hj => hgr.block j ((h1.rows.row i hi).lt j hj).2 fun e => h1.rows.apart' hik hi hkl hj e.symm
 have hnk : ∀ i j, i < A.length → i ≠ k → (vs[i]?.getD undef).ownBlock = some j → v'.ownBlock ≠ some j := by
  intro i j hi hik hj hj'
  rcases hn j hj' with e | e
  ·exact h1.rows.apart' hik hi hkl hj e
  ·have := ((h1.rows.row i hi).lt j hj).2
   omega
 have hgG : g ≠ G := fun e => h1.neA (by subst e; rfl)
 refine ⟨(hset g hgG).trans hbox, h.hg, ?_, ⟨by rw [List.length_set, List.length_set]; exact h.rows.len, fun i hi => ?_, fun a b j hab hb2' hj hj2 => ?_⟩, hb2.keep fun j hj => hset j fun e => hb2.apart ha2 j hj (by subst e; rfl), ?_, hc2.keep fun j hj => hset j fun e => ownsRow_apart (by decide) hc2 ha2 j hj (by subst e; rfl)⟩
 ·have hoo := ha2
  unfold OwnV at hoo
  rw [h.a.len] at hoo
  have := (World.ownsRow.stored hoo k v').1
  unfold OwnV
  rw [List.length_set, h.a.len]
  exact this
 ·rw [List.length_set] at hi
  by_cases hik : i = k
  ·subst hik
   rw [List.getElem?_set_self hvl, List.getElem?_set_self hkl]
   exact ho.keep fun j hj => hset j fun e => ho.apart ha2 j hj (by subst e; rfl)
  ·rw [List.getElem?_set_ne (Ne.symm hik), List.getElem?_set_ne (Ne.symm hik)]
   exact (hr2 i hi hik).keep fun j hj => hset j fun e => (hr2 i hi hik).apart ha2 j hj (by subst e; rfl)
 ·rw [List.length_set] at hb2'
  by_cases hak : a = k
  ·subst hak
   rw [List.getElem?_set_self hvl] at hj
   rw [List.getElem?_set_ne (by omega)] at hj2
   exact hnk b j hb2' (by omega) hj2 hj
  ·rw [List.getElem?_set_ne (Ne.symm hak)] at hj
   by_cases hbk : b = k
   ·subst hbk
    rw [List.getElem?_set_self hvl] at hj2
    exact hnk a j (by omega) hak hj hj2
   ·rw [List.getElem?_set_ne (Ne.symm hbk)] at hj2
    exact h.rows.apart a b j hab hb2' hj hj2
 ·intro i j hi hj hj'
  rw [List.length_set] at hi
  by_cases hik : i = k
  ·subst hik
   rw [List.getElem?_set_self hvl] at hj
   rcases hn j hj with e | e
   ·exact h1.off i j hi e hj'
   ·have := (h1.b.lt j hj').2
    omega
  ·rw [List.getElem?_set_ne (Ne.symm hik)] at hj
   exact h1.off i j hi hj hj'
theorem LpO.putA0 {w1 w2 : World} {G N cap : Nat} (h : LpO w base g (.slice (some ⟨G, 0, none⟩) N cap) vb vc vs A B C) (hx : Ext w w1) {k : Nat} (hk : k < N) (hgr : w1.grownBy w2 (vs[k]?.getD undef).ownBlock) :
 w2.cell? ⟨G, k, none⟩ = some (vs[k]?.getD undef) ∧ w2.frozen? ⟨G, k, none⟩ = false := by
 have h1 := h.ext hx
 have hvl : k < vs.length := by rw [h.a.len]; exact hk
 have hkl : k < A.length := by rw [← h.rows.len]; exact hvl
 have hrk := h1.rows.row k hkl
 have ha2 : OwnV w2 base (.slice (some ⟨G, 0, none⟩) N cap) vs := h1.a.keep fun j hj => hgr.block j (h1.a.lt j hj).2 fun e => hrk.apart h1.a j e.symm hj
 constructor
 ·obtain ⟨G', hG, _, hc⟩ := ha2.cell hk
  simp only [Option.some.injEq, Addr.mk.injEq, and_true] at hG
  subst hG
  rw [hc k hk]
  simp [hvl]
 ·rcases ha2.2 with ⟨he, h0⟩ | ⟨g', cap', cur, he, hb, hg, _⟩
  ·simp only [Value.slice.injEq] at he
   obtain ⟨h3, _⟩ := he
   cases h3
  ·simp only [Value.slice.injEq, Option.some.injEq, Addr.mk.injEq, and_true] at he
   obtain ⟨rfl, _⟩ := he
   exact frozen_of_row w2 _ _ cur _ hg
end
theorem go_IsBalancedSet1 : IsGo Tryz.prog 64 := isGo Tryz.func64 (by kernel_rfl) (by kernel_rfl)
set_option maxHeartbeats 400000 in
theorem i_IsBalancedSet1 {w : World} (x y : Int) {b : Nat} (hc : w.cell? ⟨b, 0, none⟩ = some (.int .i64 y)) (hy : 1 ≤ cntC y ∧ cntC y ≤ 100) :
 Calls Tryz.prog 64 #[.int .i64 x, .pointer (some ⟨b, 0, none⟩)] w fun e w' => e = .returned (.bool (!inB x 1 (cntC y - 1))) ∧ Ext w w' := by
 have hwc : IntKind.i64.wrap (cntC y - 1) = cntC y - 1 := by rw [IntKind.wrap_i64]; omega
 go_enter Tryz.func64, Tryz.ntmps64
 go_wp2_with (first
  | (go_at_call 65; refine (i_CountCoalitions _ _).mono ?_; rintro e w' ⟨rfl, rfl⟩)
  | (go_at_call 62; refine (i_within _ _ _ _).mono ?_; rintro e w' ⟨rfl, rfl⟩))
 go_ret
 exact ⟨rfl, Ext.refl _⟩
def balM (q : Nat) (l : List Int) (k : Nat) : List (List Int) := (List.range q).map fun i => if i < k then balR l i else memR l i
theorem balM_zero (q : Nat) (l : List Int) : balM q l 0 = memM q l := by
 unfold balM memM
 exact List.map_congr_left fun i _ => if_neg (by omega)
theorem balM_full (q : Nat) (l : List Int) : balM q l q = balA q l := by
 unfold balM balA
 exact List.map_congr_left fun i hi => if_pos (List.mem_range.1 hi)
theorem balM_at {q k : Nat} (l : List Int) (h : k < q) : (balM q l k)[k]?.getD [] = memR l k := by
 unfold balM
 simp [h]
theorem balM_set {q k : Nat} (l : List Int) (h : k < q) : (balM q l k).set k (balR l k) = balM q l (k + 1) := by
 apply List.ext_getElem?
 intro i
 unfold balM
 by_cases hi : i = k
 ·subst hi
  rw [List.getElem?_set_self (by simp [h])]
  simp [h]
 ·rw [List.getElem?_set_ne (Ne.symm hi)]
  by_cases hq : i < q
  ·simp only [List.getElem?_map, List.getElem?_range hq, Option.map_some]
   by_cases h1 : i < k
   ·rw [if_pos h1, if_pos (by omega)]
   ·rw [if_neg h1, if_neg (by omega)]
  ·simp [hq]
theorem memR_sum_succ {l : List Int} {k j n : Nat} (hL : l.length = n) (h : j < n) : ((memR l k).take (j + 1)).sum = ((memR l k).take j).sum + (memR l k)[j]?.getD 0 := by
 have h1 : j < (memR l k).length := by simp only [memR, List.length_map]; omega
 rw [List.take_succ_eq_append_getElem h1, List.sum_append, List.sum_singleton, List.getElem?_eq_getElem h1, Option.getD_some]
theorem ratsL_zeros (n : Nat) : ratsL (List.replicate n 0) = List.replicate n ((0 : Int), (1 : Int)) := by
 rw [fit_small (by intro x hx; rw [List.mem_replicate] at hx; omega)]; simp [wholeL]
section
variable {w : World} {x : Int} {a : Option Addr} {n cap : Nat} {l : List Int}
set_option maxHeartbeats 16000000 in
theorem i_IsBalancedSet (h : Ints w a n cap l) (hl : ∀ k : Nat, l[k]?.getD 0 ≤ 9223372036854775807) (hb : n ≤ 1048576) :
 Calls Tryz.prog 12 #[.int .i64 x, .slice a n cap] w fun e w' => e = .returned (.bool (balI x l)) ∧ Ext w w' := by
 have hcap := h.hcap
 have hmax := h.hmax
 have HL := Lib.hid h.hlen
 have HB := Lib.hid hl
 obtain ⟨W, hW⟩ : ∃ W, W = w.alloc (.cells #[.int .i64 x] 3) := ⟨_, rfl⟩
 have hxW : Ext w W := by rw [hW]; exact Ext.alloc _ _
 have HXW := Lib.hid hxW
 have HI := Lib.hid (h.ext hxW)
 have HBX := Lib.hid (show W.cell? ⟨w.heap.size, 0, none⟩ = some (.int .i64 x) by rw [hW]; simp)
 have HIN := Lib.hid (fun w' => i_within x 1 5 w')
 have hsW := hxW.size
 clear hxW
 cases hx : inB x 1 5
 ·simp only [hx] at HIN
  have HF := Lib.hid (show balI x l = false by unfold balI balIn; rw [hx]; rfl)
  clear h hl hx
  go_enter Tryz.func12, Tryz.ntmps12
  go_upto_region 1 with fail
  rw [← hW]
  clear hW
  have bx := HBX.out
  go_wp2_with (first | (go_at_call 62; refine (HIN.out _).mono ?_; rintro e w' ⟨rfl, rfl⟩))
  go_ret
  exact ⟨ret_bool HF.out.symm, HXW.out⟩
 ·simp only [hx] at HIN
  obtain ⟨q, rfl⟩ : ∃ q : Nat, x = q := ⟨x.toNat, by simp [inB] at hx; omega⟩
  have hq1 : 1 ≤ q := by simp [inB] at hx; omega
  have hq5 : q ≤ 5 := by simp [inB] at hx; omega
  have HXB := Lib.hid hx
  by_cases hn : n ≤ 40
  ·have hn0 : ¬ (n : Int) > 40 := by omega
   have hw2 : IntKind.i64.wrap ((n : Int) + 2) = ((n + 2 : Nat) : Int) := by rw [IntKind.wrap_i64]; omega
   have hcn := cN_le q hq5
   have hcnt := cntC_nat q hq5
   have HCF := Lib.hid (containsFunc_ints (ca := #[.pointer (some ⟨w.heap.size, 0, none⟩)]) (p := fun s => !inB s 1 (cntC (q : Int) - 1)) HI.out go_IsBalancedSet1 (fun s w1 hx1 => i_IsBalancedSet1 s (q : Int) (hx1.cellSome HBX.out) (by rw [hcnt]; omega)))
   have HANY := Lib.hid (show balIn (q : Int) l = !(l.any fun s => !inB s 1 (cntC (q : Int) - 1)) by
    unfold balIn
    rw [hx, HL.out, decide_eq_true hn, List.any_eq_not_all_not]
    simp)
   obtain ⟨an, han⟩ : ∃ b, b = l.any fun s => !inB s 1 (cntC (q : Int) - 1) := ⟨_, rfl⟩
   rw [← han] at HCF HANY
   clear h hl hx hcnt han
   go_enter Tryz.func12, Tryz.ntmps12
   go_upto_region 1 with fail
   rw [← hW]
   clear hW
   have bx := HBX.out
   go_wp2_with (first | (go_at_call 62; refine (HIN.out _).mono ?_; rintro e w' ⟨rfl, rfl⟩))
   refine HCF.out.mono ?_
   rintro e w1 ⟨rfl, hx1⟩
   have X1 := Lib.hid hx1
   have bx1 := hx1.cellSome bx
   clear hx1 bx
   cases an
   case' true =>
    have HF := Lib.hid (show balI (q : Int) l = false by unfold balI; rw [HANY.out]; rfl)
    go_wp2_with fail
    go_ret
    exact ⟨ret_bool HF.out.symm, HXW.out.trans X1.out⟩
   have HBI := Lib.hid (show balIn (q : Int) l = true by rw [HANY.out]; rfl)
   have HM := Lib.hid (i_members q hq5 (HI.out.ext X1.out) HB.out (by omega))
   have hs1 := X1.out.size
   go_wp2_with fail
   refine HM.out.mono ?_
   rintro e w2 ⟨⟨vM, rfl, hoM⟩, hx2⟩
   have X2 := Lib.hid hx2
   obtain ⟨vs, hMv, hMr⟩ := OwnSS.mono' hoM (show w.heap.size ≤ w1.heap.size by omega)
   have HMV := Lib.hid hMv
   have HMR := Lib.hid hMr
   obtain ⟨aM, nM, cM, rfl, HNM⟩ := hMv.var
   obtain rfl : q = nM := by have h1 := HNM.out; rw [hMr.len] at h1; simpa [memM] using h1
   have hs2 := hx2.size
   clear hoM hx2 hMv hMr
   have HTM := Lib.hid (i_times (w := w2) (n + 2) 0 (by omega))
   go_wp2_with fail
   refine HTM.out.mono ?_
   rintro e w3 ⟨⟨vT, rfl, hoT⟩, hx3⟩
   have X3 := Lib.hid (X2.out.trans hx3)
   obtain ⟨aT, nT, cT, rfl, HNT⟩ := hoT.var
   have HRT := Lib.hid (i_rats hoT.ints (by have h1 := HNT.out; rw [List.length_replicate] at h1; omega))
   rw [ratsL_zeros] at HRT
   have hs3 := hx3.size
   clear hoT
   go_wp2_with fail
   refine HRT.out.mono ?_
   rintro e w4 ⟨⟨vC, rfl, hoC⟩, hx4⟩
   have X4 := Lib.hid (hx3.trans hx4)
   obtain ⟨aC, nC, cC, rfl, HNC⟩ := hoC.var
   have hs4 := hx4.size
   obtain ⟨E, hE⟩ : ∃ E, E = w4.alloc (.cells #[.slice aM q cM, .slice none 0 0, .slice aC nC cC] 67) := ⟨_, rfl⟩
   obtain ⟨g, hg⟩ : ∃ g, g = w4.heap.size := ⟨_, rfl⟩
   have hxE : Ext w1 E := by rw [hE]; exact (X2.out.trans X4.out).trans (Ext.alloc _ _)
   have HXE := Lib.hid ((HXW.out.trans X1.out).trans hxE)
   have HL0 := Lib.hid (show LpO E w.heap.size g (.slice aM q cM) (.slice none 0 0) (.slice aC nC cC) vs (balM q l 0) ((List.range 0).map (balK l)) (balC l) from by
    rw [balM_zero]
    exact ⟨by rw [hE, hg]; exact heapA_new _ _ _ rfl, by omega, by rw [hE]; exact (HMV.out.ext X4.out).ext (Ext.alloc _ _), by rw [hE]; exact (HMR.out.ext X4.out).ext (Ext.alloc _ _), OwnI.nil _ _, fun i k _ _ e => by simp [Value.ownBlock] at e, by
     rw [hE]; unfold balC; rw [HL.out]
     exact (hoC.ext (Ext.alloc _ _)).mono (by omega)⟩)
   go_upto_region 6 with fail
   rw [← hE, ← hg]
   clear hE hg hoC hw2 hx3 hx4 hxE
   have t0 := HL0.out.c0
   obtain ⟨G, rfl, hbG⟩ : ∃ G, aM = some ⟨G, 0, none⟩ ∧ w.heap.size ≤ G := by
    obtain ⟨G, hG, hb1, _⟩ := HMV.out.cell (k := 0) (by omega)
    exact ⟨G, hG, hb1⟩
   go_wp2_with fail
   go_loopg [34] q (fun gk ii wr => ∃ (k : Nat) (vb : Value) (vs : List Value), Hid (gk + k = q) ∧ ii = .int .i64 (k : Int) ∧ Hid (LpO wr w.heap.size g (.slice (some ⟨G, 0, none⟩) q cM) vb (.slice aC nC cC) vs (balM q l k) ((List.range k).map (balK l)) (balC l)) ∧ Hid (Ext w wr))
   case atStart => exact ⟨0, _, _, Lib.hid (by omega), rfl, HL0, HXE⟩
   case round =>
    obtain ⟨g1, h_g1⟩ : ∃ x, x = gk := ⟨_, rfl⟩
    subst h_g1
    obtain ⟨wr1, h_wr1⟩ : ∃ x, x = wr := ⟨_, rfl⟩
    subst h_wr1
    obtain ⟨k, vb, vs, HK, rfl, HLP, HX⟩ := hrel
    have hsz := HX.out.size
    by_cases hlt : k < q
    ·have HML := Lib.hid (show (memR l k).length = n by simp only [memR, List.length_map]; rw [HL.out])
     have hrow := HLP.out.rows.row k (by rw [HLP.out.rows.len.symm, HLP.out.a.len]; exact hlt)
     rw [balM_at l hlt] at hrow
     obtain ⟨ar, cr, hve, hc1, hc2⟩ := hrow.form
     rw [HML.out] at hve hc1
     rw [hve] at hrow
     have HROW := Lib.hid hrow
     have HVE := Lib.hid hve
     obtain ⟨G', hG', _, hcell⟩ := HLP.out.a.cell hlt
     simp only [Option.some.injEq, Addr.mk.injEq, and_true] at hG'
     subst hG'
     have tk : wr1.cell? ⟨G, k, none⟩ = some (.slice ar n cr) := by
      rw [hcell k hlt, ← hve]
      have : k < vs.length := by rw [HLP.out.a.len]; exact hlt
      simp [this]
     clear hrow hve hcell
     have hk0 : (0 : Int) ≤ (k : Int) := by omega
     have hk1 : (k : Int) < (q : Int) := by omega
     go_wp2_with fail
     go_loopg [8, 41] n (fun gk bb ii wr => ∃ j : Nat, Hid (gk + j = n) ∧ ii = .int .i64 (j : Int) ∧ bb = .int .i64 (((memR l k).take j).sum) ∧ wr = wr1)
     case atStart => exact ⟨0, Lib.hid (by omega), rfl, rfl, rfl⟩
     case round =>
      obtain ⟨g2, h_g2⟩ : ∃ x, x = gk := ⟨_, rfl⟩
      subst h_g2
      obtain ⟨wr2, h_wr2⟩ : ∃ x, x = wr := ⟨_, rfl⟩
      subst h_wr2
      obtain ⟨j, HJ, rfl, rfl, rfl⟩ := hrel
      have hsb := memR_sum_bd l k j
      have hsb1 := memR_sum_bd l k (j + 1)
      obtain ⟨sm, hsm⟩ : ∃ y, y = ((memR l k).take j).sum := ⟨_, rfl⟩
      rw [← hsm] at hsb
      rw [← hsm]
      by_cases hjl : j < n
      ·obtain ⟨eb, eoff, hea, he0⟩ := HROW.out.ints.at hjl
       subst hea
       have hss := memR_sum_succ (k := k) HL.out hjl
       rw [← hsm] at hss
       rw [hss] at hsb1
       obtain ⟨s, hs⟩ : ∃ s, s = (memR l k)[j]?.getD 0 := ⟨_, rfl⟩
       rw [← hs] at he0 hss hsb1
       have HSS := Lib.hid hss
       have hwn : IntKind.i64.wrap (sm + s) = sm + s := by rw [IntKind.wrap_i64]; omega
       have hj0 : (0 : Int) ≤ (j : Int) := by omega
       have hj1 : (j : Int) < (n : Int) := by omega
       clear hs hss hsm
       go_wp2_with fail
       go_roundg (g2 - 1)
       case measure => have := HJ.out; omega
       case rel => exact ⟨j + 1, Lib.hid (by have := HJ.out; omega), by go_num, by rw [HSS.out], rfl⟩
      ·have hjn : n = j := by have := HJ.out; omega
       have HSM := Lib.hid (show sm = (memR l k).sum by rw [hsm, List.take_of_length_le (by rw [HML.out]; omega)])
       obtain ⟨bv, hbv⟩ : ∃ y, y = -sm := ⟨_, rfl⟩
       have hwn : IntKind.i64.wrap (-sm) = bv := by rw [IntKind.wrap_i64, hbv]; omega
       have HBV := Lib.hid (show balK l k = bv by rw [hbv, HSM.out]; rfl)
       have t1 := HLP.out.c1
       have bf := HLP.out.free
       have hgl := HLP.out.lt
       have HVB := Lib.hid (show ((List.range k).map (balK l)).length = k by simp)
       have HXR := Lib.hid HX.out
       clear hjn hbv hsm hsb hsb1
       go_upto_region 16 with (first
        | (at_builtin; refine append_ints rfl _ _ rfl w.heap.size vb _ rfl (HLP.out.b.ext (Ext.alloc _ _)) _ 1 _ [bv] rfl (Ints.oneS _ _ _ _ (by simp)) (by rw [HVB.out]; omega) (by simp; omega) ?_; intro v9 w9 ho hg9 hnear; have HL9 := Lib.hid (HLP.out.pushB (Ext.alloc _ _) hg9 ho hnear); have hbx := HLP.out.boxB (Ext.alloc _ _) hg9; have c09 := LpO.boxc1 hbx; have cf9 := LpO.boxf hbx; have hX9 : Ext w w9 := ext_grown (Ext.trans HX.out (Ext.alloc _ _)) hg9 (fun j hj => (HLP.out.b.lt j hj).1); obtain ⟨a9, n9, q9, rfl, HN9⟩ := ho.var; clear ho hg9 hnear hbx))
       have HX8 := Lib.hid (hX9.setCell (p := ⟨g, 1, none⟩) HLP.out.hg (.slice a9 n9 q9))
       obtain ⟨W8, hW8⟩ : ∃ y, y = w9.setCell ⟨g, 1, none⟩ (.slice a9 n9 q9) := ⟨_, rfl⟩
       rw [← hW8] at HL9 HX8
       rw [← hW8]
       clear hW8 c09 cf9 hX9 tk t1 hwn bf
       have t0 := HL9.out.c0
       have hrow8 := HL9.out.rows.row k (by rw [HL9.out.rows.len.symm, HL9.out.a.len]; exact hlt)
       rw [balM_at l hlt, HVE.out] at hrow8
       have hs8 : w.heap.size ≤ W8.heap.size := Below.size HX8.out
       have hkd : Ext W8 W8.drew := Ext.drew W8
       have HROW8 := Lib.hid (hrow8.ext hkd)
       have HLD := Lib.hid (HL9.out.ext hkd)
       have hXd : Ext w W8.drew := Ext.trans HX8.out hkd
       clear hrow8
       refine late_begin (M := [7]) (S := fun w' => w'.cell? ⟨g, 0, none⟩ = some (.slice (some ⟨G, 0, none⟩) q cM) ∧ Ext w w') (by kernel_rfl) ?_
       have hHeld := And.intro (hkd.cellSome t0) hXd
       obtain ⟨wd, hwd⟩ : ∃ y, y = W8.drew := ⟨_, rfl⟩
       rw [← hwd] at hkd HROW8 HLD hXd hHeld
       rw [← hwd]
       clear hwd
       have hsd := hkd.size
       have td := HLD.out.c0
       refine lp 0 ?_
       refine ll 1 ?_
       refine lp 2 ?_
       refine lp 3 ?_
       refine late_step (i := 4) (oi := ?_) ?_ ?_ ?_ (fun K hK => ?_)
       rotate_left
       ·simp only [gA, gB, gC]; rfl
       ·kernel_rfl
       ·kernel_rfl
       go_simp
       refine hK.out _ _ (fun _ => And.intro ((Ext.alloc _ _).cellSome td) (hXd.trans (Ext.alloc _ _))) ?_
       clear hK K
       try simp only [Act.put, sA, sB, sC]
       refine late_step (i := 5) (oi := ?_) ?_ ?_ ?_ (fun K hK => ?_)
       rotate_left
       ·simp only [gA, gB, gC]; rfl
       ·kernel_rfl
       ·kernel_rfl
       refine wp_append_ints _ _ (by rfl) w.heap.size (.slice ar n cr) _ (by rfl) (HROW8.out.ext (Ext.alloc _ _)) _ 2 _ [-1, 1] (by rfl) (Ints.litM [-1, 1] _ rfl (by rfl) rfl (by decide)) (by rw [HML.out]; omega) (by simp; omega) ?_
       intro v6 w6 ho hg6 hnear
       obtain ⟨a6, n6, q6, rfl, HN6⟩ := ho.var
       have HP6 := Lib.hid (HLD.out.putA (Ext.alloc _ _) hlt (by rw [HVE.out]; exact hg6) ho (by rw [HVE.out]; exact hnear))
       have hb6 := (hg6.block g ((HLD.out.ext (Ext.alloc _ _)).lt) (by have h3 := HLD.out.neR (i := k) (by rw [HLD.out.rows.len.symm, HLD.out.a.len]; exact hlt); rw [HVE.out] at h3; exact h3)).trans (HLD.out.ext (Ext.alloc _ _)).box
       have c06 := LpO.boxc0 hb6
       have hp6 := HLD.out.putA0 (Ext.alloc _ _) hlt (by rw [HVE.out]; exact hg6)
       obtain ⟨ck6, cf6⟩ := hp6
       rw [HVE.out] at ck6
       have hX6 : Ext w w6 := ext_grown (hXd.trans (Ext.alloc _ _)) hg6 (fun j hj => (HROW8.out.lt j hj).1)
       clear ho hg6 hnear hb6
       refine hK.out _ _ (fun _ => And.intro c06 hX6) ?_
       have hHeld := And.intro c06 hX6
       clear hK K
       try simp only [Act.put, sA, sB, sC]
       refine lp 6 ?_
       refine late_one (i := 7) (oi := ?_) (w' := ?_) ?_ ?_ ?_ ?_ ?_ ?_ ?_
       rotate_left 2
       ·simp only [gA, gB, gC]; rfl
       ·kernel_rfl
       ·kernel_rfl
       ·exact of_decide_eq_true (by kernel_rfl)
       ·rfl
       ·go_simp; (try with_reducible rfl)
       try simp only [Act.put, sA, sB, sC]
       refine late_done (by kernel_rfl) ?_ _
       have HX9 := Lib.hid (hX6.setCell (p := ⟨G, k, none⟩) hbG (.slice a6 n6 q6))
       obtain ⟨W9, hW9⟩ : ∃ y, y = w6.setCell ⟨G, k, none⟩ (.slice a6 n6 q6) := ⟨_, rfl⟩
       rw [← hW9] at HP6 HX9
       go_upto_region 17 with fail
       rw [← hW9]
       clear hW9 c06 ck6 cf6 hHeld hkd hXd hX6 td t0
       go_wp2_with fail
       go_roundg (g1 - 1)
       case measure => have := HK.out; omega
       case rel => exact ⟨k + 1, _, _, Lib.hid (by have := HK.out; omega), by go_num, Lib.hid (by
        have h1 := HP6.out
        rw [← HBV.out, rangeMap_snoc] at h1
        rw [← balM_set l hlt]
        exact h1), HX9⟩
    ·have hkq : q = k := by have := HK.out; omega
     rw [← hkq, balM_full] at HLP
     have HLP2 := Lib.hid (show LpO wr1 w.heap.size g (.slice (some ⟨G, 0, none⟩) q cM) vb (.slice aC nC cC) vs (balA q l) (balB q l) (balC l) from HLP.out)
     obtain ⟨aB, nB, cB, rfl, HNB⟩ := HLP2.out.b.var
     have HLC := Lib.hid (show LpC wr1 (some ⟨G, 0, none⟩) q cM aB nB cB aC nC cC (balA q l) (balB q l) (balC l) from
      ⟨OwnSS.intss ⟨vs, HLP2.out.a, HLP2.out.rows⟩, HLP2.out.b.ints, HLP2.out.c.rats⟩)
     have HSV := Lib.hid (i_SolveLP HLC.out)
     obtain ⟨r, hr⟩ : ∃ y, y = solveG boundI (balA q l) (balB q l) (balC l) := ⟨_, rfl⟩
     rw [← hr] at HSV
     have HR := Lib.hid (show balI (q : Int) l = (r.status == 1) by
      unfold balI; rw [HBI.out, Int.toNat_natCast, ← hr, Bool.true_and]; rfl)
     have t0 := HLP2.out.c0
     have t1 := HLP2.out.c1
     have t2 := HLP2.out.c2
     clear hkq hr
     obtain ⟨st, rX, rY, rr, ⟨rv1, rv2⟩, rp⟩ := r
     go_wp2_with fail
     refine HSV.out.mono ?_
     rintro e w2 ⟨⟨xa, xn, xc, ya, yn, yc, ra, rn, rc, rfl, _⟩, hx⟩
     unfold lrW
     have hfd : ∀ w : World, (Instr.field 87 (.agg #[.int .i64 st, .slice xa xn xc, .slice ya yn yc, .slice ra rn rc, .int .i64 rv1, .int .i64 rv2, .int .i64 rp]) 0).run Tryz.prog w = .ok (.int .i64 st) w := fun _ => by kernel_rfl
     go_wp2_with fail
     go_ret
     exact ⟨ret_bool HR.out.symm, HX.out.trans hx⟩
  ·have hn0 : (n : Int) > 40 := by omega
   have HF := Lib.hid (show balI (q : Int) l = false by unfold balI balIn; rw [HL.out, decide_eq_false hn]; simp)
   clear h hl hx
   go_enter Tryz.func12, Tryz.ntmps12
   go_upto_region 1 with fail
   rw [← hW]
   clear hW
   have bx := HBX.out
   go_wp2_with (first | (go_at_call 62; refine (HIN.out _).mono ?_; rintro e w' ⟨rfl, rfl⟩))
   go_ret
   exact ⟨ret_bool HF.out.symm, HXW.out⟩
end
end Go.Proofs.YtgohdmnbnhehnaaGreat
