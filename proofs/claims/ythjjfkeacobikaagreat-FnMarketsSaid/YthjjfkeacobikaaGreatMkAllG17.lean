import Derived.Test.YthjjfkeacobikaaGreatMkAllG16
import Derived.Test.YthjjfkeacobikaaGreatMkAllG6
import Derived.Test.YthjjfkeacobikaaGreatMkAllG13
namespace Go.Proofs.YthjjfkeacobikaaGreat
set_option linter.unusedVariables false
set_option linter.unusedSimpArgs false
set_option maxRecDepth 100000
open Go.RowKit
def LpcR (w : World) (e : Ending) (A : List (List Int)) (B : List Int) (C : List (Int × Int)) (ok : Bool) : Prop :=
 ∃ a na ca b nb cb c nc cc, e = .returned (.tuple #[lpW a na ca b nb cb c nc cc, .bool ok]) ∧ (ok = true → LpC w a na ca b nb cb c nc cc A B C)
theorem seqI_bd {n : Nat} (hn : n ≤ 32) : ∀ k : Nat, (seqI 1 (n - 1))[k]?.getD 0 ≤ 9223372036854775807 := by
 intro k
 by_cases h : k < (seqI 1 (n - 1)).length
 ·rw [List.getElem?_eq_getElem h, Option.getD_some]
  simp only [seqI, List.length_map, List.length_range] at h
  simp only [seqI, List.getElem_map, List.getElem_range]
  omega
 ·rw [List.getElem?_eq_none (by omega)]; decide
set_option maxHeartbeats 16000000 in
theorem i_BalancedLP {w : World} {p : Int} {a : Option Addr} {n cap : Nat} {V : List Int} (h : Ints w a n cap V) :
 Calls Tryz.prog 168 #[pair p a n cap] w fun e w' => LpcR w' e (coreA p.toNat n) (coreB p.toNat) (coreC V) (gameOk p V) ∧ Ext w w' := by
 obtain ⟨W, hW⟩ : ∃ W, W = (w.alloc (.cells #[.int .i64 p, .slice a n cap] 29)).alloc (.cells #[.slice none 0 0, .slice none 0 0, .slice none 0 0] 109) := ⟨_, rfl⟩
 have HWS := Lib.hid (show W.heap.size = w.heap.size + 2 by rw [hW]; simp)
 have HX0 := Lib.hid (show Ext w W by rw [hW]; exact (Ext.alloc _ _).trans (Ext.alloc _ _))
 have HWC := Lib.hid (show W.cell? ⟨w.heap.size, 1, none⟩ = some (.slice a n cap) by rw [hW]; simp)
 have HWD := Lib.hid (show W.cell? ⟨w.heap.size, 0, none⟩ = some (.int .i64 p) by rw [hW]; simp)
 have HWR := Lib.hid (show W.heap[w.heap.size + 1]? = some (.cells #[.slice none 0 0, .slice none 0 0, .slice none 0 0] 109 (0, 0)) by rw [hW]; exact heapA_new _ _ _ (by simp))
 obtain ⟨WG, hWG⟩ : ∃ x, x = w.alloc (.cells #[.int .i64 p, .slice a n cap] 29) := ⟨_, rfl⟩
 have HXG := Lib.hid (show Ext WG W by rw [hW, hWG]; exact Ext.alloc _ _)
 have HGS := Lib.hid (show WG.heap.size = w.heap.size + 1 by rw [hWG]; simp)
 have HG0 := Lib.hid (show WG.cell? ⟨w.heap.size, 0, none⟩ = some (.int .i64 p) by rw [hWG]; simp)
 have HG1 := Lib.hid (show WG.cell? ⟨w.heap.size, 1, none⟩ = some (.slice a n cap) by rw [hWG]; simp)
 clear hWG
 have HVL := Lib.hid h.hlen
 have hvcap := h.hcap
 have hvmax := h.hmax
 have HVE := Lib.hid (h.ext HX0.out)
 have HC := Lib.hid (i_IsValidGame (p := p) (h.ext HX0.out))
 have hrbl : (w.heap.size + 1) < W.heap.size := by rw [HWS.out]; omega
 have HRB := Lib.hid (fun (w' : World) (hx : Ext W w') => (hx.block _ hrbl).trans HWR.out)
 clear h hrbl
 cases hg : gameOk p V
 ·rw [hg, hW] at HC
  clear hg
  go_enter Tryz.func168, Tryz.ntmps168
  go_wp2_with fail
  refine HC.out.mono ?_
  rw [← hW]
  rintro e w1 ⟨rfl, hx1⟩
  have hr0 := LpO.boxc0 (HRB.out w1 hx1)
  have hr1 := LpO.boxc1 (HRB.out w1 hx1)
  have hr2 := LpO.boxc2 (HRB.out w1 hx1)
  have hrf := LpO.boxf (HRB.out w1 hx1)
  have HX1 := Lib.hid hx1
  clear hx1
  go_wp2_with fail
  refine bodyPost_ret (v := .tuple #[.agg #[.slice none 0 0, .slice none 0 0, .slice none 0 0], .bool false]) (by simp [results, Tryz.results168, go_sem, hr0, hr1, hr2]) rfl ⟨⟨none, 0, 0, none, 0, 0, none, 0, 0, rfl, fun h => Bool.noConfusion h⟩, (((HX0.out.trans HX1.out).store 0 (by omega) _).store 1 (by omega) _).store 2 (by omega) _⟩
 ·obtain ⟨q, rfl, h1, h5, hlen, _, hvb⟩ := gameOk_len hg
  have hq := cN_le q h5
  have hn32 : n ≤ 32 := by rw [← HVL.out, hlen]; omega
  have hn1 : 1 ≤ n := by rw [← HVL.out, hlen]; omega
  have HVB := Lib.hid hvb
  have hlen1 : IntKind.i64.wrap ((n : Int) - 1) = (n : Int) - 1 := by rw [IntKind.wrap_i64]; omega
  rw [hg, hW] at HC
  clear hg hlen hvb hq
  go_enter Tryz.func168, Tryz.ntmps168
  go_wp2_with fail
  refine HC.out.mono ?_
  rw [← hW]
  clear hW
  rintro e w1 ⟨rfl, hx1⟩
  have hc0 := hx1.cellSome HWD.out
  have hc1 := hx1.cellSome HWC.out
  have HX1 := Lib.hid hx1
  clear hx1 HC
  have HXA := Lib.hid (HX0.out.trans HX1.out)
  have HSB := Lib.hid (seqI_bd hn32)
  have HSL := Lib.hid (show (seqI 1 (n - 1)).length = n - 1 by simp [seqI])
  go_wp2_with fail
  have hk : Ext w1 w1.drew := Ext.drew w1
  refine wp_region_held_drew (S := (fun w' => w'.cell? ⟨w.heap.size, 0, none⟩ = some (.int .i64 (q : Int)) ∧ w'.cell? ⟨w.heap.size, 1, none⟩ = some (.slice a n cap) ∧ Ext w w')) (by kernel_rfl) ?_ (fun hHeld => ?_)
  ·exact ⟨hk.cellSome hc0, hk.cellSome hc1, HXA.out.trans hk⟩
  refine tk 0 ?_
  refine tk 1 ?_
  refine tk 2 ?_
  refine tk 5 ?_
  refine tk 6 ?_
  refine tk 8 ?_
  refine tk 9 ?_
  refine rd (i := 3) (h := fun K hK => ?_)
  go_simp
  (go_at_call 201; refine (i_coalitions 1 ((n : Int) - 1) (n - 1) (by omega) (by omega) (by omega) (by omega)).mono ?_; rintro e w3 ⟨⟨v3, rfl, ho3⟩, hx3⟩; obtain ⟨a3, n3, c3, rfl, HN3⟩ := ho3.var; have hk := hk.trans hx3; have HO3 := Lib.hid ho3; clear ho3 hx3)
  go_wp2_with fail
  refine hK.out _ _ ?_ (fun hHeld => ?_)
  ·exact ⟨hk.cellSome hc0, hk.cellSome hc1, HXA.out.trans hk⟩
  clear hK K
  try simp only [Act.put, sA, sB, sC]
  refine rd (i := 4) (h := fun K hK => ?_)
  go_simp
  (go_at_call 195; refine (i_members q h5 HO3.out.ints HSB.out (by have h1 := HN3.out; have h2 := HSL.out; omega)).mono ?_; rintro e w4 ⟨⟨v4, rfl, ho4⟩, hx4⟩; obtain ⟨a4, n4, c4, rfl, HN4⟩ := ho4.var; have HO4 := Lib.hid (OwnSS.mono' ho4 hk.size); have hk := hk.trans hx4; clear ho4 hx4)
  go_wp2_with fail
  refine hK.out _ _ ?_ (fun hHeld => ?_)
  ·exact ⟨hk.cellSome hc0, hk.cellSome hc1, HXA.out.trans hk⟩
  clear hK K
  try simp only [Act.put, sA, sB, sC]
  refine rd (i := 7) (h := fun K hK => ?_)
  go_simp
  (go_at_call 196; refine (i_times q 1 (by omega)).mono ?_; rintro e w5 ⟨⟨v5, rfl, ho5⟩, hx5⟩; obtain ⟨a5, n5, c5, rfl, HN5⟩ := ho5.var; have HO4 := Lib.hid (OwnSS.ext HO4.out hx5); have HO5 := Lib.hid (ho5.mono hk.size); have hk := hk.trans hx5; clear ho5 hx5)
  go_wp2_with fail
  refine hK.out _ _ ?_ (fun hHeld => ?_)
  ·exact ⟨hk.cellSome hc0, hk.cellSome hc1, HXA.out.trans hk⟩
  clear hK K
  try simp only [Act.put, sA, sB, sC]
  refine rd (i := 10) (h := fun K hK => ?_)
  go_simp
  (go_at_call 237; refine (i_minusValues (p := (q : Int)) (((HVE.out.ext HX1.out).ext hk)) hn1 (by omega) HVB.out).mono ?_; rintro e w6 ⟨⟨v6, rfl, ho6⟩, hx6⟩; obtain ⟨a6, n6, c6, rfl, HN6⟩ := ho6.var; have HO4 := Lib.hid (OwnSS.ext HO4.out hx6); have HO5 := Lib.hid (HO5.out.ext hx6); have HO6 := Lib.hid (ho6.mono hk.size); have hk := hk.trans hx6; have hrA := HRB.out _ (HX1.out.trans hk); have hr0 := LpO.boxc0 hrA; have hr1 := LpO.boxc1 hrA; have hr2 := LpO.boxc2 hrA; have hrf := LpO.boxf hrA; clear ho6 hx6 hrA)
  go_wp2_with fail
  refine hK.out _ _ ?_ (fun hHeld => ?_)
  ·exact ⟨hk.cellSome hc0, hk.cellSome hc1, HXA.out.trans hk⟩
  clear hK K
  try simp only [Act.put, sA, sB, sC]
  refine tk 11 ?_
  have hgx := fun u0 u1 u2 => ((((HXG.out.trans HX1.out).trans hk).store (b := w.heap.size + 1) 0 (Nat.le_of_eq HGS.out) u0).store (b := w.heap.size + 1) 1 (Nat.le_of_eq HGS.out) u1).store (b := w.heap.size + 1) 2 (Nat.le_of_eq HGS.out) u2
  refine rd (i := 12) (h := fun K hK => ?_)
  go_simp
  refine hK.out _ _ ?_ (fun hHeld => ?_)
  ·exact ⟨(hgx _ _ _).cellSome HG0.out, (hgx _ _ _).cellSome HG1.out, (((HXA.out.trans hk).store 0 (by omega) _).store 1 (by omega) _).store 2 (by omega) _⟩
  clear hK K
  try simp only [Act.put, sA, sB, sC]
  refine tk 13 ?_
  refine wpAnyH_done (by kernel_rfl) ?_ _
  have hs1 := HX1.out.size
  rw [HWS.out] at hs1
  have hkp : ∀ k, w1.heap.size ≤ k → (((w6.setCell ⟨w.heap.size + 1, 0, none⟩ (.slice a4 n4 c4)).setCell ⟨w.heap.size + 1, 1, none⟩ (.slice a5 n5 c5)).setCell ⟨w.heap.size + 1, 2, none⟩ (.slice a6 n6 c6)).heap[k]? = w6.heap[k]? := fun k hk1 => by
   rw [heap_setCell_other _ _ _ _ (show k ≠ w.heap.size + 1 by omega), heap_setCell_other _ _ _ _ (show k ≠ w.heap.size + 1 by omega), heap_setCell_other _ _ _ _ (show k ≠ w.heap.size + 1 by omega)]
  go_wp2_with fail
  refine bodyPost_ret (v := .tuple #[lpW a4 n4 c4 a5 n5 c5 a6 n6 c6, .bool true]) (by simp [results, Tryz.results168, go_sem, hr0, hr1, hr2]) rfl ⟨⟨a4, n4, c4, a5, n5, c5, a6, n6, c6, rfl, fun _ => ⟨?_, ?_, ?_⟩⟩, (((HXA.out.trans hk).store 0 (by omega) _).store 1 (by omega) _).store 2 (by omega) _⟩
  ·exact OwnSS.intss (HO4.out.on _ fun k h1 _ => hkp k h1)
  ·exact (HO5.out.on _ fun k h1 _ => hkp k h1).ints
  ·exact (HO6.out.keep fun k h1 => hkp k (HO6.out.lt k h1).1).rats
theorem allR_succ (p : Nat → Bool) (k : Nat) : (List.range (k + 1)).all p = ((List.range k).all p && p k) := by
 rw [List.range_succ, List.all_append]; simp
theorem allR_false {p : Nat → Bool} {k n : Nat} (h : k < n) (hp : p k = false) : (List.range n).all p = false := by
 rw [List.all_eq_false]; exact ⟨k, List.mem_range.2 h, by simp [hp]⟩
theorem i_IsValidLP1 (x : Int) (w : World) : Calls Tryz.prog 247 #[.int .i64 x] w fun e w' => e = .returned (.bool (!inB x (-5000) 5000)) ∧ w = w' := by
 go_enter Tryz.func247, Tryz.ntmps247
 go_wp2_with (first | (go_at_call 80; refine (i_within _ _ _ _).mono ?_; rintro e w' ⟨rfl, rfl⟩))
 go_ret
 exact ⟨rfl, rfl⟩
theorem go_IsValidLP1 : IsGo Tryz.prog 247 := isGo Tryz.func247 (by kernel_rfl) (by kernel_rfl)
theorem asks_IsValidLP1 (w : World) : Asks Tryz.prog w 247 #[] (fun x => !inB x (-5000) 5000) :=
 fun x w1 _ => (i_IsValidLP1 x w1).mono fun e w' ⟨he, hw⟩ => ⟨he, hw ▸ Ext.refl _⟩
def okRowI (m : Nat) (r : List Int) : Bool := decide (r.length = m) && r.all (inB · (-5000) 5000)
theorem any_bad (l : List Int) : l.any (fun x => !inB x (-5000) 5000) = !l.all (inB · (-5000) 5000) := by rw [List.not_all_eq_any_not]
theorem okLP_eq (A : List (List Int)) (B : List Int) (C : List (Int × Int)) : okLP A B C = (decide (C.length ≤ 70) && (decide (A.length ≤ 8) && (decide (B.length = A.length) && (allV C && (A.all (okRowI C.length) && B.all (inB · (-5000) 5000)))))) := rfl
theorem all_takeL {p : List Int → Bool} {l : List (List Int)} {k : Nat} (h : k < l.length) : (l.take (k + 1)).all p = ((l.take k).all p && p (l[k]?.getD [])) := by
 rw [takeL_snoc h]; simp
theorem all_falseL {p : List Int → Bool} {l : List (List Int)} {k : Nat} (h : k < l.length) (hb : p (l[k]?.getD []) = false) : l.all p = false := by
 rw [List.all_eq_false]
 exact ⟨l[k], List.getElem_mem h, by rw [List.getElem?_eq_getElem h] at hb; simpa using hb⟩
section
variable {w : World} {a : Option Addr} {na ca : Nat} {b : Option Addr} {nb cb : Nat} {c : Option Addr} {nc cc : Nat} {A : List (List Int)} {B : List Int} {C : List (Int × Int)}
set_option maxHeartbeats 8000000 in
theorem i_IsValidLP (h : LpC w a na ca b nb cb c nc cc A B C) :
 Calls Tryz.prog 197 #[lpW a na ca b nb cb c nc cc] w fun e w' => e = .returned (.bool (okLP A B C)) ∧ Ext w w' := by
 have hx0 := Ext.alloc w (lpBox a na ca b nb cb c nc cc)
 have HX0 := Lib.hid hx0
 have H := Lib.hid (h.ext hx0)
 have HE := Lib.hid (okLP_eq A B C)
 have ha1 := h.a.hcap
 have ha2 := h.a.hmax
 have hb1 := h.b.hcap
 have hb2 := h.b.hmax
 have hc1 := h.c.hcap
 have hc2 := h.c.hmax
 have HLA := Lib.hid h.a.hlen
 have HLB := Lib.hid h.b.hlen
 have HLC := Lib.hid h.c.hlen
 clear h hx0
 by_cases h1 : nc ≤ 70
 ·by_cases h2 : na ≤ 8
  ·by_cases h3 : nb = na
   ·subst h3
    have hbb : ((nb : Int) != (nb : Int)) = false := by simp
    have HE2 := Lib.hid (show okLP A B C = (allV C && (A.all (okRowI nc) && B.all (inB · (-5000) 5000))) by
     rw [HE.out, HLA.out, HLB.out, HLC.out, decide_eq_true h1, decide_eq_true h2, decide_eq_true rfl]; rfl)
    have HV := Lib.hid (i_AllValid H.out.c)
    cases hv : allV C
    ·rw [hv] at HV HE2
     clear hv
     go_enter Tryz.func197, Tryz.ntmps197
     go_wp2_with fail
     refine HV.out.mono ?_
     rintro e w1 ⟨rfl, hx⟩
     have X1 := Lib.hid (HX0.out.trans hx)
     clear hx
     go_wp2_with fail
     go_ret
     exact ⟨ret_bool HE2.out.symm, X1.out⟩
    ·rw [hv] at HV HE2
     clear hv
     go_enter Tryz.func197, Tryz.ntmps197
     go_wp2_with fail
     refine HV.out.mono ?_
     rintro e w1 ⟨rfl, hx⟩
     have hc0 : w1.cell? ⟨w.heap.size, 0, none⟩ = some (.slice a nb ca) := hx.cellSome (by simp)
     have hcb : w1.cell? ⟨w.heap.size, 1, none⟩ = some (.slice b nb cb) := hx.cellSome (by simp)
     have hcc : w1.cell? ⟨w.heap.size, 2, none⟩ = some (.slice c nc cc) := hx.cellSome (by simp)
     have HC1 := Lib.hid hcb
     have HC2 := Lib.hid hcc
     have H1 := Lib.hid (H.out.ext hx)
     have X1 := Lib.hid (HX0.out.trans hx)
     clear hx hcb hcc
     go_wp2_with fail
     go_loopg [34] nb (fun gk ii wr => ∃ k : Nat, Hid (gk + k = nb) ∧ ii = .int .i64 (k : Int) ∧ Hid ((A.take k).all (okRowI nc) = true) ∧ Hid (Ext w1 wr))
     case atStart => exact ⟨0, Lib.hid (by omega), rfl, Lib.hid rfl, Lib.hid (Ext.refl _)⟩
     case round =>
      obtain ⟨g1, h_g1⟩ : ∃ x, x = gk := ⟨_, rfl⟩
      subst h_g1
      obtain ⟨wr1, h_wr1⟩ : ∃ x, x = wr := ⟨_, rfl⟩
      subst h_wr1
      obtain ⟨k, HK, rfl, HA, HX⟩ := hrel
      clear hc0
      by_cases hlt : k < nb
      ·obtain ⟨gb, goff, ra, rn, rc, hga, hgc, hrow⟩ := (H1.out.ext HX.out).a.at hlt
       subst hga
       have hcc := HX.out.cellSome HC2.out
       have HLR := Lib.hid hrow.hlen
       have hrn := hrow.hcap
       have hrm := hrow.hmax
       have HKA := Lib.hid (show k < A.length by rw [HLA.out]; exact hlt)
       have HCF := Lib.hid (containsFunc_ints hrow go_IsValidLP1 (asks_IsValidLP1 _))
       clear hrow
       cases hl : ((rn : Int) != (nc : Int))
       ·cases hr : (A[k]?.getD []).all (inB · (-5000) 5000)
        ·have HF := Lib.hid (show okLP A B C = false by
          rw [HE2.out, all_falseL HKA.out (by unfold okRowI; rw [hr]; simp)]; rfl)
         rw [any_bad, hr] at HCF
         clear hr
         go_wp2_with fail
         refine HCF.out.mono ?_
         rintro e w2 ⟨rfl, hx2⟩
         have X2 := Lib.hid ((X1.out.trans HX.out).trans hx2)
         clear hx2
         go_wp2_with fail
         go_ret
         exact ⟨ret_bool HF.out.symm, X2.out⟩
        ·have HT := Lib.hid (show (A.take (k + 1)).all (okRowI nc) = true by
          rw [all_takeL HKA.out, HA.out]; unfold okRowI; rw [hr, HLR.out]; simp at hl ⊢; omega)
         rw [any_bad, hr] at HCF
         clear hr
         go_wp2_with fail
         refine HCF.out.mono ?_
         rintro e w2 ⟨rfl, hx2⟩
         have X2 := Lib.hid (HX.out.trans hx2)
         clear hx2
         go_wp2_with fail
         go_roundg (g1 - 1)
         case measure => have := HK.out; omega
         case rel => exact ⟨k + 1, Lib.hid (by have := HK.out; omega), by go_num, HT, X2⟩
       ·have HF := Lib.hid (show okLP A B C = false by
         rw [HE2.out, all_falseL HKA.out (by unfold okRowI; rw [HLR.out, decide_eq_false (by simp at hl; omega)]; rfl)]; rfl)
        go_wp2_with fail
        go_ret
        exact ⟨ret_bool HF.out.symm, X1.out.trans HX.out⟩
      ·have hkn : nb = k := by have := HK.out; omega
       subst hkn
       have HT := Lib.hid (show A.all (okRowI nc) = true by have := HA.out; rwa [List.take_of_length_le (by rw [HLA.out]; exact Nat.le_refl _)] at this)
       have hcb := HX.out.cellSome HC1.out
       have HCF := Lib.hid (containsFunc_ints (H1.out.ext HX.out).b go_IsValidLP1 (asks_IsValidLP1 _))
       rw [any_bad] at HCF
       go_wp2_with fail
       refine HCF.out.mono ?_
       rintro e w2 ⟨rfl, hx2⟩
       have X2 := Lib.hid ((X1.out.trans HX.out).trans hx2)
       clear hx2
       go_wp2_with fail
       go_ret
       exact ⟨ret_bool (by rw [HE2.out, HT.out]; simp), X2.out⟩
   ·have HF := Lib.hid (show okLP A B C = false by rw [HE.out, HLA.out, HLB.out, decide_eq_false h3]; simp)
    have hbb : ((nb : Int) != (na : Int)) = true := by simp; omega
    go_enter Tryz.func197, Tryz.ntmps197
    go_wp2_with fail
    go_ret
    exact ⟨ret_bool HF.out.symm, HX0.out⟩
  ·have HF := Lib.hid (show okLP A B C = false by rw [HE.out, HLA.out, decide_eq_false h2]; simp)
   go_enter Tryz.func197, Tryz.ntmps197
   go_wp2_with fail
   go_ret
   exact ⟨ret_bool HF.out.symm, HX0.out⟩
 ·have HF := Lib.hid (show okLP A B C = false by rw [HE.out, HLC.out, decide_eq_false h1]; simp)
  go_enter Tryz.func197, Tryz.ntmps197
  go_wp2_with fail
  go_ret
  exact ⟨ret_bool HF.out.symm, HX0.out⟩
end
end Go.Proofs.YthjjfkeacobikaaGreat
namespace Go.Proofs.YthjjfkeacobikaaGreat
set_option linter.unusedVariables false
set_option linter.unusedSimpArgs false
set_option maxRecDepth 100000
open Go.RowKit
theorem fit_small {r : List Int} (h : ∀ x ∈ r, -5000 ≤ x ∧ x ≤ 5000) : ratsL r = wholeL r := by
 unfold ratsL fitL
 rw [if_pos]
 rw [List.all_eq_true]
 intro x hx
 have := h x hx
 simp [inB]; omega
def giveF (A : List (List Int)) (x : List (Int × Int)) (B : List Int) (i : Nat) : Bool := decide (dotL (wholeL (A[i]?.getD [])) x = some (B[i]?.getD 0, 1))
theorem givesB_eq (A : List (List Int)) (x : List (Int × Int)) (B : List Int) : givesB A x B = (List.range A.length).all (giveF A x B) := rfl
set_option maxHeartbeats 8000000 in
theorem i_gives {w : World} {a : Option Addr} {na ca : Nat} {b : Option Addr} {nb cb : Nat} {c : Option Addr} {nc cc : Nat} {A : List (List Int)} (h : IntSS w a na ca A) {xa : Option Addr} {xn xcap : Nat} {X : List (Int × Int)} (hX : Rats w xa xn xcap X)
 {da : Option Addr} {dn dcap : Nat} {D : List Int} (hD : Ints w da dn dcap D) (hdn : na ≤ dn) (hrow : ∀ i, i < na → (A[i]?.getD []).length ≤ 70 ∧ ∀ x ∈ A[i]?.getD [], -5000 ≤ x ∧ x ≤ 5000) :
 Calls Tryz.prog 257 #[lpW a na ca b nb cb c nc cc, .slice xa xn xcap, .slice da dn dcap] w fun e w' => e = .returned (.bool (givesB A X D)) ∧ Ext w w' := by
 have hx0 := Ext.alloc w (lpBox a na ca b nb cb c nc cc)
 have HX0 := Lib.hid hx0
 have HI := Lib.hid (h.ext hx0)
 have HXX := Lib.hid (hX.ext hx0)
 have HDD := Lib.hid (hD.ext hx0)
 have HRW := Lib.hid hrow
 have ha1 := h.hcap
 have ha2 := h.hmax
 have hd1 := hD.hcap
 have hd2 := hD.hmax
 have HLA := Lib.hid h.hlen
 have HE := Lib.hid (show givesB A X D = (List.range na).all (giveF A X D) by rw [givesB_eq, HLA.out])
 clear h hX hD hx0 hrow
 go_enter Tryz.func257, Tryz.ntmps257
 go_wp2_with fail
 go_loopg [14] na (fun gk ii wr => ∃ k : Nat, Hid (gk + k = na) ∧ ii = .int .i64 (k : Int) ∧ Hid ((List.range k).all (giveF A X D) = true) ∧ Hid (Ext (w.alloc (lpBox a na ca b nb cb c nc cc)) wr))
 case atStart => exact ⟨0, Lib.hid (by omega), rfl, Lib.hid rfl, Lib.hid (Ext.refl _)⟩
 case round =>
  obtain ⟨g1, h_g1⟩ : ∃ x, x = gk := ⟨_, rfl⟩
  subst h_g1
  obtain ⟨wr1, h_wr1⟩ : ∃ x, x = wr := ⟨_, rfl⟩
  subst h_wr1
  obtain ⟨k, HK, rfl, HA, HX⟩ := hrel
  have hsz := HX.out.size
  rw [World.size_alloc] at hsz
  by_cases hlt : k < na
  ·obtain ⟨gb, goff, ra, rn, rc, hga, hgc, hrow⟩ := (HI.out.ext HX.out).at hlt
   subst hga
   have hrn : rn ≤ 70 := by rw [← hrow.hlen]; exact (HRW.out k hlt).1
   have HRT := Lib.hid (i_rats hrow (by omega))
   rw [fit_small (HRW.out k hlt).2] at HRT
   clear hrow
   go_wp2_with fail
   refine HRT.out.mono ?_
   rintro e w2 ⟨⟨v2, rfl, ho2⟩, hx2⟩
   obtain ⟨a2, n2, c2, rfl, hn2⟩ := ho2.var
   have X2 := Lib.hid (HX.out.trans hx2)
   have HD := Lib.hid (i_DotRat ho2.rats (HXX.out.ext X2.out))
   clear ho2 hx2 hn2
   obtain ⟨dv, hdv⟩ : ∃ d, d = dotL (wholeL (A[k]?.getD [])) X := ⟨_, rfl⟩
   have HG := Lib.hid (show giveF A X D k = decide (dv = some (D[k]?.getD 0, 1)) by rw [hdv]; rfl)
   rw [← hdv] at HD
   clear hdv
   obtain ⟨db, doff, hda, hdc⟩ := (HDD.out.ext X2.out).at (show k < dn by omega)
   subst hda
   obtain ⟨d, hd⟩ : ∃ d, d = D[k]?.getD 0 := ⟨_, rfl⟩
   rw [← hd] at HG hdc
   clear hd
   cases dv with
   | none =>
     rw [show optR none = ((0, 0), false) from rfl] at HD
     have HF := Lib.hid (show givesB A X D = false by rw [HE.out]; exact allR_false hlt (by rw [HG.out]; rfl))
     go_wp2_with fail
     refine HD.out.mono ?_
     rintro e w3 ⟨rfl, hx3⟩
     have X3 := Lib.hid (X2.out.trans hx3)
     clear hx3 hdc
     obtain ⟨E, hE⟩ : ∃ E, E = w3.alloc (.cells #[.int .i64 0, .int .i64 0] 43) := ⟨_, rfl⟩
     have XE := Lib.hid (show Ext w3 E by rw [hE]; exact Ext.alloc _ _)
     go_upto_region 5 with fail
     rw [← hE]
     clear hE
     have hk2 : Ext E E.drew := Ext.drew E
     refine wp_region_held_drew (S := (fun w' => Ext E w')) (by kernel_rfl) ?_ (fun hHeld => ?_)
     ·exact hk2
     refine tk 0 ?_
     refine tk 1 ?_
     refine tk 2 ?_
     refine sk 3 ?_
     refine sk 4 ?_
     refine sk 5 ?_
     refine sk 6 ?_
     refine sk 7 ?_
     refine sk 8 ?_
     refine sk 9 ?_
     refine tk 10 ?_
     refine wpAnyH_done (by kernel_rfl) ?_ _
     go_wp2_with fail
     go_ret
     exact ⟨ret_bool HF.out.symm, ((HX0.out.trans X3.out).trans XE.out).trans hk2⟩
   | some r =>
     obtain ⟨r1, r2⟩ := r
     rw [show optR (some (r1, r2)) = ((r1, r2), true) from rfl] at HD
     go_wp2_with fail
     refine HD.out.mono ?_
     rintro e w3 ⟨rfl, hx3⟩
     replace hdc := hx3.cellSome hdc
     have X3 := Lib.hid (X2.out.trans hx3)
     clear hx3
     obtain ⟨E, hE⟩ : ∃ E, E = w3.alloc (.cells #[.int .i64 r1, .int .i64 r2] 43) := ⟨_, rfl⟩
     have hxE : Ext w3 E := by rw [hE]; exact Ext.alloc _ _
     have XE := Lib.hid (X3.out.trans hxE)
     have e0 := hxE.cellSome hdc
     have b0 : E.cell? ⟨w3.heap.size, 0, none⟩ = some (.int .i64 r1) := by rw [hE]; simp
     have b1 : E.cell? ⟨w3.heap.size, 1, none⟩ = some (.int .i64 r2) := by rw [hE]; simp
     go_upto_region 5 with fail
     rw [← hE]
     clear hE hdc hxE
     have hkd : (k : Int) < (dn : Int) := by omega
     have hk0 : (0 : Int) ≤ (k : Int) := by omega
     have hk2 : Ext E E.drew := Ext.drew E
     have HKEEP := Lib.hid (fun (w' : World) (h : Ext E w') => (⟨h.cellSome e0, h.cellSome b0, h.cellSome b1, h⟩ : w'.cell? ⟨db, doff + k, none⟩ = some (.int .i64 d) ∧ w'.cell? ⟨w3.heap.size, 0, none⟩ = some (.int .i64 r1) ∧ w'.cell? ⟨w3.heap.size, 1, none⟩ = some (.int .i64 r2) ∧ Ext E w'))
     have HG2 := Lib.hid (show giveF A X D k = ((r1 == d) && (r2 == 1)) by rw [HG.out, Bool.eq_iff_iff]; simp)
     cases hx1 : (r1 == d)
     all_goals
      cases hy1 : (r2 == 1)
     all_goals
      have HG3 := Lib.hid HG2.out
      rw [hx1, hy1] at HG3
      go_region_held3 (fun w' => w'.cell? ⟨db, doff + k, none⟩ = some (.int .i64 d) ∧ w'.cell? ⟨w3.heap.size, 0, none⟩ = some (.int .i64 r1) ∧ w'.cell? ⟨w3.heap.size, 1, none⟩ = some (.int .i64 r2) ∧ Ext E w')
       (first
         | with_reducible exact HKEEP.out _ hk2)
       (first
         | (go_at_call 112
            (with_reducible refine (i_whole _ _).mono ?_)
            rintro e w5 ⟨rfl, hx5⟩
            have hk2 : Ext E w5 := hk2.trans hx5)
         | fail)
      have X5 := Lib.hid (XE.out.trans hk2)
      clear hk2
     all_goals try (
      have HF := Lib.hid (show givesB A X D = false by rw [HE.out]; exact allR_false hlt (by rw [HG3.out]; rfl))
      go_wp2_with fail
      go_ret
      exact ⟨ret_bool HF.out.symm, HX0.out.trans X5.out⟩)
     have HT := Lib.hid (show (List.range (k + 1)).all (giveF A X D) = true by rw [allR_succ, HA.out, HG3.out]; rfl)
     go_wp2_with fail
     go_roundg (g1 - 1)
     case measure => have := HK.out; omega
     case rel => exact ⟨k + 1, Lib.hid (by have := HK.out; omega), by go_num, HT, X5⟩
  ·have hkn : na = k := by have := HK.out; omega
   subst hkn
   go_wp2_with fail
   go_ret
   exact ⟨ret_bool (by rw [HE.out, HA.out]), HX0.out.trans HX.out⟩
section
variable {w : World} {a : Option Addr} {na ca : Nat} {b : Option Addr} {nb cb : Nat} {c : Option Addr} {nc cc : Nat} {A : List (List Int)} {B : List Int} {C : List (Int × Int)}
theorem okLP_rows (h : LpC w a na ca b nb cb c nc cc A B C) (ok : okLP A B C = true) : nc ≤ 70 ∧ na ≤ 8 ∧ nb = na ∧ (∀ i, i < na → (A[i]?.getD []).length = nc) ∧ (∀ i, i < na → (A[i]?.getD []).length ≤ 70 ∧ ∀ x ∈ A[i]?.getD [], -5000 ≤ x ∧ x ≤ 5000) ∧ ∀ x ∈ B, -5000 ≤ x ∧ x ≤ 5000 := by
 have l1 := h.a.hlen
 have l2 := h.b.hlen
 have l3 := h.c.hlen
 rw [okLP_eq] at ok
 simp only [Bool.and_eq_true, decide_eq_true_eq, List.all_eq_true, okRowI, inB] at ok
 obtain ⟨h1, h2, h3, h4, h5, h6⟩ := ok
 have key : ∀ i, i < na → (A[i]?.getD []).length = nc ∧ ∀ x ∈ A[i]?.getD [], -5000 ≤ x ∧ x ≤ 5000 := by
  intro i hi
  rw [List.getElem?_eq_getElem (by omega), Option.getD_some]
  have := h5 _ (List.getElem_mem (l := A) (n := i) (by omega))
  exact ⟨by omega, this.2⟩
 exact ⟨by omega, by omega, by omega, fun i hi => (key i hi).1, fun i hi => ⟨by have := (key i hi).1; omega, (key i hi).2⟩, h6⟩
set_option maxHeartbeats 4000000 in
theorem i_IsFeasible (h : LpC w a na ca b nb cb c nc cc A B C) {xa : Option Addr} {xn xcap : Nat} {X : List (Int × Int)} (hX : Rats w xa xn xcap X) :
 Calls Tryz.prog 253 #[lpW a na ca b nb cb c nc cc, .slice xa xn xcap] w fun e w' => e = .returned (.bool (okLP A B C && feasB A B C.length X)) ∧ Ext w w' := by
 have hx0 := Ext.alloc w (lpBox a na ca b nb cb c nc cc)
 have HX0 := Lib.hid hx0
 have H := Lib.hid (h.ext hx0)
 have HXX := Lib.hid (hX.ext hx0)
 have HLC := Lib.hid h.c.hlen
 have HLA := Lib.hid h.a.hlen
 have hc1 := h.c.hcap
 have hc2 := h.c.hmax
 have HO := Lib.hid (fun ok => okLP_rows h ok)
 have HV := Lib.hid (i_IsValidLP H.out)
 clear h hX hx0
 cases hok : okLP A B C
 ·rw [hok] at HV
  clear hok
  go_enter Tryz.func253, Tryz.ntmps253
  go_wp2_with fail
  refine HV.out.mono ?_
  rintro e w1 ⟨rfl, hx⟩
  have X1 := Lib.hid (HX0.out.trans hx)
  clear hx
  go_wp2_with fail
  go_ret
  exact ⟨rfl, X1.out⟩
 ·rw [hok] at HV
  have HR := Lib.hid (HO.out hok)
  obtain ⟨r1, r2, r3, _, _, _⟩ := HO.out hok
  subst r3
  have HN := Lib.hid (fun (w' : World) (hx : Ext (w.alloc (lpBox a nb ca b nb cb c nc cc)) w') => i_notNegative (HXX.out.ext hx) nc)
  have HE := Lib.hid (show (true && feasB A B C.length X) = ((decide (X.length = nc) && posV X) && givesB A X B) by unfold feasB; rw [HLC.out, Bool.true_and, Bool.and_assoc])
  clear hok
  cases hn : (decide (X.length = nc) && posV X)
  ·rw [hn] at HN HE
   clear hn
   go_enter Tryz.func253, Tryz.ntmps253
   go_wp2_with fail
   refine HV.out.mono ?_
   rintro e w1 ⟨rfl, hx⟩
   have hcc : w1.cell? ⟨w.heap.size, 2, none⟩ = some (.slice c nc cc) := hx.cellSome (by simp)
   have X1 := Lib.hid hx
   clear hx
   go_wp2_with fail
   refine (HN.out _ X1.out).mono ?_
   rintro e w2 ⟨rfl, hx⟩
   have X2 := Lib.hid ((HX0.out.trans X1.out).trans hx)
   clear hx
   go_wp2_with fail
   go_ret
   exact ⟨ret_bool (by rw [HE.out]; rfl), X2.out⟩
  ·rw [hn] at HN HE
   clear hn
   go_enter Tryz.func253, Tryz.ntmps253
   go_wp2_with fail
   refine HV.out.mono ?_
   rintro e w1 ⟨rfl, hx⟩
   have hca : w1.cell? ⟨w.heap.size, 0, none⟩ = some (.slice a nb ca) := hx.cellSome (by simp)
   have hcb : w1.cell? ⟨w.heap.size, 1, none⟩ = some (.slice b nb cb) := hx.cellSome (by simp)
   have hcc : w1.cell? ⟨w.heap.size, 2, none⟩ = some (.slice c nc cc) := hx.cellSome (by simp)
   have X1 := Lib.hid hx
   clear hx
   go_wp2_with fail
   refine (HN.out _ X1.out).mono ?_
   rintro e w2 ⟨rfl, hx⟩
   replace hca := hx.cellSome hca
   replace hcb := hx.cellSome hcb
   replace hcc := hx.cellSome hcc
   have X2 := Lib.hid (X1.out.trans hx)
   clear hx
   have HG := Lib.hid (i_gives (b := b) (nb := nb) (cb := cb) (c := c) (nc := nc) (cc := cc) (H.out.ext X2.out).a (HXX.out.ext X2.out) (H.out.ext X2.out).b (Nat.le_refl _) HR.out.2.2.2.2.1)
   go_wp2_with fail
   refine HG.out.mono ?_
   rintro e w3 ⟨rfl, hx⟩
   have X3 := Lib.hid ((HX0.out.trans X2.out).trans hx)
   clear hx
   go_wp2_with fail
   go_ret
   exact ⟨ret_bool (by rw [HE.out]; rfl), X3.out⟩
end
end Go.Proofs.YthjjfkeacobikaaGreat
