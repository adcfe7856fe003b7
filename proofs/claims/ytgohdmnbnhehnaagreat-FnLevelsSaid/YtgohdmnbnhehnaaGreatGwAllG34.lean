import Derived.Test.YtgohdmnbnhehnaaGreatGwAllG32
import Derived.Test.YtgohdmnbnhehnaaGreatGwAllG33
import Derived.Test.YtgohdmnbnhehnaaGreatGwAllG4
namespace Go.Proofs.YtgohdmnbnhehnaaGreat
set_option linter.unusedVariables false
set_option linter.unusedSimpArgs false
set_option maxRecDepth 100000
open Go.RowKit
def balIn (x : Int) (l : List Int) : Bool := inB x 1 5 && (decide (l.length ≤ 40) && l.all (fun s => inB s 1 (cntC x - 1)))
def balR (l : List Int) (k : Nat) : List Int := memR l k ++ [-1, 1]
def balA (q : Nat) (l : List Int) : List (List Int) := (List.range q).map (balR l)
def balK (l : List Int) (k : Nat) : Int := -(memR l k).sum
def balB (q : Nat) (l : List Int) : List Int := (List.range q).map (balK l)
def balC (l : List Int) : List (Int × Int) := List.replicate (l.length + 2) (0, 1)
def balS (x : Int) (l : List Int) : Bool := balIn x l && decide ((solveS (balA x.toNat l) (balB x.toNat l) (balC l)).status = 1)
def balI (x : Int) (l : List Int) : Bool := balIn x l && decide ((solveG boundI (balA x.toNat l) (balB x.toNat l) (balC l)).status = 1)
theorem bal_same (x : Int) (l : List Int) : balI x l = balS x l := by
 unfold balI balS
 rw [solve_both (fun _ j hj => Or.inl ⟨0, by
  unfold balC at hj ⊢
  rw [List.length_replicate] at hj
  rw [List.getElem?_replicate, if_pos hj]; rfl, by omega, by omega⟩)]
theorem memR_take {l : List Int} {j k : Nat} {b : Bool} (h : j < l.length) (hb : hasP (l[j]?.getD 0) (k : Int) = b) : (memR l k).take j ++ [bitI b] = (memR l k).take (j + 1) := by
 unfold memR
 rw [← List.map_take, ← List.map_take, List.take_succ_eq_append_getElem h, List.map_append, List.map_singleton]
 rw [List.getElem?_eq_getElem h, Option.getD_some] at hb
 rw [hb]
theorem memR_sum_bd (l : List Int) (k j : Nat) : 0 ≤ ((memR l k).take j).sum ∧ ((memR l k).take j).sum ≤ j := by
 induction j with
 | zero => simp
 | succ j ih =>
   by_cases h : j < (memR l k).length
   ·rw [List.take_succ_eq_append_getElem h, List.sum_append, List.sum_singleton]
    have : 0 ≤ (memR l k)[j] ∧ (memR l k)[j] ≤ 1 := by
     simp only [memR, List.getElem_map]
     cases hasP _ _ <;> decide
    omega
   ·rw [List.take_of_length_le (by omega)] at ih ⊢
    omega
section
variable {w : World} {x : Int} {a : Option Addr} {n cap : Nat} {l : List Int}
set_option maxHeartbeats 16000000 in
theorem s_IsBalancedSet (h : Ints w a n cap l) (hl : ∀ k : Nat, l[k]?.getD 0 ≤ 9223372036854775807) (hb : n ≤ 1048576) :
 Calls Tryz.prog 10 #[.int .i64 x, .slice a n cap] w fun e w' => e = .returned (.bool (balS x l)) ∧ Ext w w' := by
 have hcap := h.hcap
 have hmax := h.hmax
 have HL := Lib.hid h.hlen
 have HI := Lib.hid h
 have HB := Lib.hid hl
 have HIN := Lib.hid (s_l1In x 1 5 w)
 cases hx : inB x 1 5
 ·rw [hx] at HIN
  have HF := Lib.hid (show balS x l = false by unfold balS balIn; rw [hx]; rfl)
  clear h hl hx
  go_enter Tryz.func10, Tryz.ntmps10
  go_wp2_with fail
  refine HIN.out.mono ?_
  rintro e w1 ⟨rfl, rfl⟩
  go_wp2_with fail
  go_ret
  exact ⟨ret_bool HF.out.symm, Ext.refl _⟩
 ·rw [hx] at HIN
  obtain ⟨q, rfl⟩ : ∃ q : Nat, x = q := ⟨x.toNat, by simp [inB] at hx; omega⟩
  have hq1 : 1 ≤ q := by simp [inB] at hx; omega
  have hq5 : q ≤ 5 := by simp [inB] at hx; omega
  have HXB := Lib.hid hx
  by_cases hn : n ≤ 40
  ·have hn0 : ¬ (n : Int) > 40 := by omega
   have hw2 : IntKind.i64.wrap ((n : Int) + 2) = (n : Int) + 2 := by rw [IntKind.wrap_i64]; omega
   have HZ := Lib.hid (s_l5Zeros (w := w) (n + 2) (by omega))
   rw [show ((n + 2 : Nat) : Int) = (n : Int) + 2 by omega] at HZ
   have HCN := Lib.hid (cntC_nat q hq5)
   have hcn := cN_le q hq5
   obtain ⟨cq, hcq⟩ : ∃ c, c = cN q := ⟨_, rfl⟩
   have HCQ := Lib.hid (show cntC (q : Int) = (cq : Int) by rw [HCN.out, hcq])
   rw [← hcq] at hcn
   clear h hl hx hcq HCN
   go_enter Tryz.func10, Tryz.ntmps10
   go_wp2_with fail
   refine HIN.out.mono ?_
   rintro e w1 ⟨rfl, rfl⟩
   go_wp2_with fail
   refine HZ.out.mono ?_
   rintro e w1 ⟨⟨v1, rfl, ho1⟩, hx1⟩
   obtain ⟨a1, n1, c1, rfl, HN1⟩ := ho1.var
   obtain ⟨E, hE⟩ : ∃ E, E = w1.alloc (.cells #[.slice none 0 0, .slice none 0 0, .slice a1 n1 c1] 67) := ⟨_, rfl⟩
   obtain ⟨g, hg⟩ : ∃ g, g = w1.heap.size := ⟨_, rfl⟩
   have HX1 := Lib.hid (show Ext w E by rw [hE]; exact hx1.trans (Ext.alloc _ _))
   have HL0 := Lib.hid (show LpO E w.heap.size g (.slice none 0 0) (.slice none 0 0) (.slice a1 n1 c1) [] ((List.range 0).map (balR l)) ((List.range 0).map (balK l)) (balC l) from
    ⟨by rw [hE, hg]; exact heapA_new _ _ _ rfl, by rw [hg]; exact hx1.size, OwnV.nil _ _, RowsI.nil _ _, OwnI.nil _ _, OffV.nil _, by rw [hE]; unfold balC; rw [HL.out]; exact ho1.ext (Ext.alloc _ _)⟩)
   go_upto_region 4 with fail
   rw [← hE, ← hg]
   clear hE hg ho1 hx1 hw2
   go_wp2_with fail
   go_loopg [6] q (fun gk ii wr => ∃ (k : Nat) (va vb : Value) (vs : List Value), Hid (gk + k = q) ∧ ii = .int .i64 (k : Int) ∧ Hid (0 < k → balIn (q : Int) l = true) ∧ Hid (LpO wr w.heap.size g va vb (.slice a1 n1 c1) vs ((List.range k).map (balR l)) ((List.range k).map (balK l)) (balC l)) ∧ Hid (Ext w wr))
   case atStart => exact ⟨0, _, _, _, Lib.hid (by omega), rfl, Lib.hid (fun h => absurd h (by omega)), HL0, HX1⟩
   case round =>
    obtain ⟨g1, h_g1⟩ : ∃ x, x = gk := ⟨_, rfl⟩
    subst h_g1
    obtain ⟨wr1, h_wr1⟩ : ∃ x, x = wr := ⟨_, rfl⟩
    subst h_wr1
    obtain ⟨k, va, vb, vs, HK, rfl, HV, HLP, HX⟩ := hrel
    have hsz := HX.out.size
    by_cases hlt : k < q
    ·have HO0 := Lib.hid (OwnI.madeS wr1 wr1.heap.size _ rfl (Nat.le_refl _))
     go_wp2_with fail
     go_loopg [7, 8, 9] n (fun gk oo bb ii wr => ∃ (j : Nat) (a2 : Option Addr) (n2 p2 : Nat), Hid (gk + j = n) ∧ ii = .int .i64 (j : Int) ∧ oo = .slice a2 n2 p2 ∧ bb = .int .i64 (-((memR l k).take j).sum) ∧ Hid ((l.take j).all (fun s => inB s 1 ((cq : Int) - 1)) = true) ∧ Hid (OwnI wr wr1.heap.size (.slice a2 n2 p2) ((memR l k).take j)) ∧ Hid (Ext wr1 wr))
     case atStart => exact ⟨0, _, _, _, Lib.hid (by omega), rfl, rfl, rfl, Lib.hid rfl, HO0, Lib.hid (Ext.alloc _ _)⟩
     case round =>
      obtain ⟨g2, h_g2⟩ : ∃ x, x = gk := ⟨_, rfl⟩
      subst h_g2
      obtain ⟨wr2, h_wr2⟩ : ∃ x, x = wr := ⟨_, rfl⟩
      subst h_wr2
      obtain ⟨j, a2, n2, p2, HJ, rfl, rfl, rfl, HA, HO, HX2⟩ := hrel
      have hsz2 := HX2.out.size
      by_cases hjl : j < n
      ·obtain ⟨eb, eoff, hea, he0⟩ := (HI.out.ext (HX.out.trans HX2.out)).at hjl
       subst hea
       obtain ⟨s, hs⟩ : ∃ s, s = l[j]?.getD 0 := ⟨_, rfl⟩
       have hsm : s ≤ 9223372036854775807 := by rw [hs]; exact HB.out j
       rw [← hs] at he0
       have HS := Lib.hid hs
       have HCC := Lib.hid (fun w' => s_CountCoalitions (q : Int) w')
       rw [HCQ.out] at HCC
       have hwc : IntKind.i64.wrap ((cq : Int) - 1) = (cq : Int) - 1 := by rw [IntKind.wrap_i64]; omega
       have HII := Lib.hid (fun w' => s_l1In s 1 ((cq : Int) - 1) w')
       obtain ⟨iv, hiv⟩ : ∃ b, b = inB s 1 ((cq : Int) - 1) := ⟨_, rfl⟩
       simp only [← hiv] at HII
       have HIV := Lib.hid hiv
       have hj0 : (0 : Int) ≤ (j : Int) := by omega
       have hj1 : (j : Int) < (n : Int) := by omega
       clear hs hiv
       go_upto_region 12 with fail
       have hk2 : Ext wr2 wr2.drew := Ext.drew wr2
       refine wp_region_held_drew (S := (fun w' => w'.cell? ⟨eb, eoff + j, none⟩ = some (.int .i64 s) ∧ Ext wr2 w')) (by kernel_rfl) ?_ (fun hHeld => ?_)
       ·exact ⟨hk2.cellSome he0, hk2⟩
       refine tk 0 ?_
       refine tk 1 ?_
       refine tk 2 ?_
       refine tk 3 ?_
       refine tk 4 ?_
       refine rd (i := 5) (h := fun K hK => ?_)
       go_simp
       (go_at_call 58; refine (HCC.out _).mono ?_; rintro e w3 ⟨rfl, rfl⟩)
       go_wp2_with fail
       refine hK.out _ _ ?_ (fun hHeld => ?_)
       ·exact ⟨hk2.cellSome he0, hk2⟩
       clear hK K
       try simp only [Act.put, sA, sB, sC]
       refine tk 6 ?_
       refine rd (i := 7) (h := fun K hK => ?_)
       go_simp
       (go_at_call 56; refine (HII.out _).mono ?_; rintro e w3 ⟨rfl, rfl⟩)
       go_wp2_with fail
       refine hK.out _ _ ?_ (fun hHeld => ?_)
       ·exact ⟨hk2.cellSome he0, hk2⟩
       clear hK K
       try simp only [Act.put, sA, sB, sC]
       refine tk 8 ?_
       refine wpAnyH_done (by kernel_rfl) ?_ _
       obtain ⟨w3, hw3⟩ : ∃ y, y = wr2.drew := ⟨_, rfl⟩
       have HX3 := Lib.hid (show Ext wr2 w3 by rw [hw3]; exact hk2)
       rw [← hw3]
       have he3 := HX3.out.cellSome he0
       clear hk2 hw3 hHeld he0 hwc
       cases iv
       ·have HF := Lib.hid (show balS (q : Int) l = false by
         unfold balS balIn
         rw [all_falseG (d := 0) (show j < l.length by rw [HL.out]; exact hjl) (by rw [HCQ.out, ← HS.out]; exact HIV.out.symm)]; simp)
        go_wp2_with fail
        go_ret
        exact ⟨ret_bool HF.out.symm, (HX.out.trans HX2.out).trans HX3.out⟩
       ·have HA2 := Lib.hid (show (l.take (j + 1)).all (fun s => inB s 1 ((cq : Int) - 1)) = true by
         rw [all_takeG (d := 0) (show j < l.length by rw [HL.out]; exact hjl), HA.out, ← HS.out, ← HIV.out]; rfl)
        obtain ⟨hb, hhb⟩ : ∃ b, b = hasP s (k : Int) := ⟨_, rfl⟩
        have HHP := Lib.hid (fun w' => s_HasPlayer s (k : Int) w' hsm)
        simp only [← hhb] at HHP
        have HBT := Lib.hid (fun w' => s_l1Bit hb w')
        have HSN := Lib.hid (memR_take (l := l) (j := j) (k := k) (b := hb) (by rw [HL.out]; exact hjl) (by rw [← HS.out]; exact hhb.symm))
        have HO3 := Lib.hid (HO.out.ext HX3.out)
        have X3 := Lib.hid (HX2.out.trans HX3.out)
        have hs3 := X3.out.size
        have HRL := Lib.hid (show ((memR l k).take j).length = j by rw [List.length_take]; simp only [memR, List.length_map]; rw [HL.out]; omega)
        obtain ⟨sm, hsm'⟩ : ∃ y, y = ((memR l k).take j).sum := ⟨_, rfl⟩
        have hsb := memR_sum_bd l k j
        rw [← hsm'] at hsb
        have HSM := Lib.hid (show ((memR l k).take (j + 1)).sum = sm + bitI hb by rw [← HSN.out, List.sum_append, List.sum_singleton, hsm'])
        have hbb : 0 ≤ bitI hb ∧ bitI hb ≤ 1 := by cases hb <;> decide
        obtain ⟨bt, hbt⟩ : ∃ y, y = bitI hb := ⟨_, rfl⟩
        rw [← hbt] at hbb HSM HSN
        simp only [← hbt] at HBT
        rw [← hsm']
        obtain ⟨ns, hns⟩ : ∃ y, y = -sm - bt := ⟨_, rfl⟩
        have hwn : IntKind.i64.wrap (-sm - bt) = ns := by rw [IntKind.wrap_i64, hns]; omega
        have HNS := Lib.hid (show ns = -(sm + bt) by omega)
        clear hhb hsm' hbt hns
        go_wp2_with (first
         | (go_at_call 60; refine (HHP.out _).mono ?_; rintro e w4 ⟨rfl, rfl⟩)
         | (go_at_call 59; refine (HBT.out _).mono ?_; rintro e w4 ⟨rfl, rfl⟩)
         | (at_builtin; refine append_ints rfl _ _ rfl wr1.heap.size (.slice a2 n2 p2) _ rfl (HO3.out.ext (Ext.alloc _ _)) _ 1 _ [bt] rfl (Ints.oneS _ _ _ _ (by simp)) (by rw [HRL.out]; omega) (by simp; omega) ?_; intro v5 w5 ho hg5 hnear; have hX5 := ext_grown (X3.out.trans (Ext.alloc _ _)) hg5 (fun i hi => (HO3.out.lt i hi).1); have X5 := Lib.hid hX5; obtain ⟨a5, n5, c5, rfl, HN5⟩ := ho.var; have HO5 := Lib.hid ho; obtain ⟨eb', eoff', hea', he5⟩ := (HI.out.ext (HX.out.trans hX5)).at hjl; simp only [Option.some.injEq, Addr.mk.injEq, and_true] at hea'; obtain ⟨rfl, rfl⟩ := hea'; rw [← HS.out] at he5; clear ho hg5 hnear hX5 he3))
        go_roundg (g2 - 1)
        case measure => have := HJ.out; omega
        case rel => exact ⟨j + 1, a5, n5, c5, Lib.hid (by have := HJ.out; omega), by go_num, rfl, by rw [HSM.out, ← HNS.out], HA2, Lib.hid (by rw [← HSN.out]; exact HO5.out), X5⟩
      ·have hjn : n = j := by have := HJ.out; omega
       have HBI := Lib.hid (show balIn (q : Int) l = true by
        unfold balIn
        rw [HXB.out, HL.out, decide_eq_true hn, HCQ.out]
        have h1 := HA.out
        rw [List.take_of_length_le (by rw [HL.out]; omega)] at h1
        rw [h1]; rfl)
       have HMR := Lib.hid (show (memR l k).take j = memR l k from List.take_of_length_le (by simp only [memR, List.length_map]; rw [HL.out]; omega))
       have HML := Lib.hid (show (memR l k).length = n by simp only [memR, List.length_map]; rw [HL.out])
       rw [HMR.out] at HO
       rw [HMR.out]
       obtain ⟨bv, hbv⟩ : ∃ y, y = -(memR l k).sum := ⟨_, rfl⟩
       have HBV := Lib.hid (show balK l k = bv by rw [hbv]; rfl)
       rw [← hbv]
       have t0 := HLP.out.c0
       have HVL := Lib.hid (show vs.length = k by rw [HLP.out.rows.len]; simp)
       have hgl := HLP.out.lt
       have HXR := Lib.hid (HX.out.trans HX2.out)
       clear hjn hbv
       go_upto_region 16 with fail
       have HKEEP := Lib.hid (fun (w' : World) (h : Ext wr1 w') => (⟨h.cellSome t0, HX.out.trans h⟩ : w'.cell? ⟨g, 0, none⟩ = some va ∧ Ext w w'))
       have hkd : Ext wr1 wr2.drew := HX2.out.trans (Ext.drew wr2)
       refine late_begin (M := [8]) (S := fun w' => w'.cell? ⟨g, 0, none⟩ = some va ∧ Ext w w') (by kernel_rfl) ?_
       have hHeld := HKEEP.out _ hkd
       have HOd := Lib.hid (HO.out.ext (Ext.drew wr2))
       obtain ⟨wd, hwd⟩ : ∃ y, y = wr2.drew := ⟨_, rfl⟩
       rw [← hwd] at hkd HOd hHeld
       rw [← hwd]
       clear hwd
       have hsd := hkd.size
       refine lp 0 ?_
       refine ll 1 ?_
       refine lp 2 ?_
       refine late_step (i := 3) (oi := ?_) ?_ ?_ ?_ (fun K hK => ?_)
       rotate_left
       ·simp only [gA, gB, gC]; rfl
       ·kernel_rfl
       ·kernel_rfl
       go_simp
       refine hK.out _ _ (fun _ => HKEEP.out _ (hkd.trans (Ext.alloc _ _))) ?_
       clear hK K
       try simp only [Act.put, sA, sB, sC]
       refine late_step (i := 4) (oi := ?_) ?_ ?_ ?_ (fun K hK => ?_)
       rotate_left
       ·simp only [gA, gB, gC]; rfl
       ·kernel_rfl
       ·kernel_rfl
       refine wp_append_ints _ _ (by rfl) wr1.heap.size (.slice a2 n2 p2) _ (by rfl) (HOd.out.ext (Ext.alloc _ _)) _ 2 _ [-1, 1] (by rfl) (Ints.litM [-1, 1] _ rfl (by rfl) rfl (by decide)) (by rw [HML.out]; omega) (by simp; omega) ?_
       intro v6 w6 ho hg6 hnear
       obtain ⟨a6, n6, q6, rfl, HN6⟩ := ho.var
       have HO6 := Lib.hid ho
       have hk6 : Ext wr1 w6 := ext_grown (hkd.trans (Ext.alloc _ _)) hg6 (fun j hj => (HO.out.lt j hj).1)
       have hs6 := hk6.size
       clear ho hg6 hnear
       refine hK.out _ _ (fun _ => HKEEP.out _ hk6) ?_
       have hHeld := HKEEP.out _ hk6
       clear hK K
       try simp only [Act.put, sA, sB, sC]
       refine late_step (i := 5) (oi := ?_) ?_ ?_ ?_ (fun K hK => ?_)
       rotate_left
       ·simp only [gA, gB, gC]; rfl
       ·kernel_rfl
       ·kernel_rfl
       go_simp
       refine hK.out _ _ (fun _ => HKEEP.out _ (hk6.trans (Ext.alloc _ _))) ?_
       clear hK K
       try simp only [Act.put, sA, sB, sC]
       refine late_step (i := 6) (oi := ?_) ?_ ?_ ?_ (fun K hK => ?_)
       rotate_left
       ·simp only [gA, gB, gC]; rfl
       ·kernel_rfl
       ·kernel_rfl
       refine wp_append_slice _ _ (by rfl) w.heap.size va vs (by rfl) ((HLP.out.a.ext hk6).ext (Ext.alloc _ _)) _ _ 1 (by rfl) (by simp; rfl) rfl (by rw [HVL.out]; omega) (by simp; omega) ?_
       intro v7 w7 ho hg7 hnear
       obtain ⟨a7, n7, q7, rfl, HN7⟩ := ho.var
       have HO7 := Lib.hid ho
       have HG7 := Lib.hid hg7
       have HR7 := Lib.hid hnear
       have hbx := HLP.out.boxA (hk6.trans (Ext.alloc _ _)) hg7
       have c07 := LpO.boxc0 hbx
       have cf7 := LpO.boxf hbx
       have hX7 : Ext w w7 := ext_grown ((HX.out.trans hk6).trans (Ext.alloc _ _)) hg7 (fun j hj => (HLP.out.a.lt j hj).1)
       clear ho hg7 hnear hbx
       refine hK.out _ _ (fun _ => And.intro c07 hX7) ?_
       have hHeld := And.intro c07 hX7
       clear hK K
       try simp only [Act.put, sA, sB, sC]
       refine lp 7 ?_
       refine late_one (i := 8) (oi := ?_) (w' := ?_) ?_ ?_ ?_ ?_ ?_ ?_ ?_
       rotate_left 2
       ·simp only [gA, gB, gC]; rfl
       ·kernel_rfl
       ·kernel_rfl
       ·exact of_decide_eq_true (by kernel_rfl)
       ·rfl
       ·go_simp; (try with_reducible rfl)
       try simp only [Act.put, sA, sB, sC]
       refine late_done (by kernel_rfl) ?_ _
       have HL8 := Lib.hid (HLP.out.pushA (hk6.trans (Ext.alloc _ _)) (HO6.out.ext (Ext.alloc _ _)) hsz HG7.out HO7.out HR7.out)
       have HX8 := Lib.hid (hX7.setCell (p := ⟨g, 0, none⟩) HLP.out.hg (.slice a7 n7 q7))
       obtain ⟨W8, hW8⟩ : ∃ y, y = w7.setCell ⟨g, 0, none⟩ (.slice a7 n7 q7) := ⟨_, rfl⟩
       rw [← hW8] at HL8 HX8
       go_upto_region 17 with fail
       rw [← hW8]
       clear hW8 c07 cf7 hHeld hkd hk6
       have b1 := HL8.out.c1
       have bf := HL8.out.free
       have hl8 := HL8.out.lt
       have hs8 : w.heap.size ≤ W8.heap.size := Below.size HX8.out
       have HVB := Lib.hid (show ((List.range k).map (balK l)).length = k by simp)
       go_wp2_with (first
        | (at_builtin; refine append_ints rfl _ _ rfl w.heap.size vb _ rfl (HL8.out.b.ext (Ext.alloc _ _)) _ 1 _ [bv] rfl (Ints.oneS _ _ _ _ (by simp)) (by rw [HVB.out]; omega) (by simp; omega) ?_; intro v9 w9 ho hg9 hnear; have HL9 := Lib.hid (HL8.out.pushB (Ext.alloc _ _) hg9 ho hnear); have hbx := HL8.out.boxB (Ext.alloc _ _) hg9; have c09 := LpO.boxc1 hbx; have cf9 := LpO.boxf hbx; have hX9 : Ext w w9 := ext_grown (Ext.trans HX8.out (Ext.alloc _ _)) hg9 (fun j hj => (HL8.out.b.lt j hj).1); obtain ⟨a9, n9, q9, rfl, HN9⟩ := ho.var; clear ho hg9 hnear hbx))
       have HXN := Lib.hid (hX9.setCell (p := ⟨g, 1, none⟩) HLP.out.hg (.slice a9 n9 q9))
       go_roundg (g1 - 1)
       case measure => have := HK.out; omega
       case rel => exact ⟨k + 1, _, _, _, Lib.hid (by have := HK.out; omega), by go_num, Lib.hid (fun _ => HBI.out), Lib.hid (by
        have h1 := HL9.out
        rw [← HBV.out] at h1
        rw [← rangeMap_snoc, ← rangeMap_snoc]
        exact h1), HXN⟩
    ·have hkq : q = k := by have := HK.out; omega
     have HBI := Lib.hid (HV.out (by omega))
     rw [← hkq] at HLP
     have HLP2 := Lib.hid (show LpO wr1 w.heap.size g va vb (.slice a1 n1 c1) vs (balA q l) (balB q l) (balC l) from HLP.out)
     obtain ⟨aA, nA, cA, rfl, HNA⟩ := HLP2.out.a.var
     obtain ⟨aB, nB, cB, rfl, HNB⟩ := HLP2.out.b.var
     have HLC := Lib.hid (show LpC wr1 aA nA cA aB nB cB a1 n1 c1 (balA q l) (balB q l) (balC l) from
      ⟨OwnSS.intss ⟨vs, HLP2.out.a, HLP2.out.rows⟩, HLP2.out.b.ints, HLP2.out.c.rats⟩)
     have HSV := Lib.hid (s_SolveLP HLC.out)
     obtain ⟨r, hr⟩ : ∃ y, y = solveS (balA q l) (balB q l) (balC l) := ⟨_, rfl⟩
     rw [← hr] at HSV
     have HR := Lib.hid (show balS (q : Int) l = (r.status == 1) by
      unfold balS; rw [HBI.out, Int.toNat_natCast, ← hr, Bool.true_and]; rfl)
     have t0 := HLP2.out.c0
     have t1 := HLP2.out.c1
     have t2 := HLP2.out.c2
     clear hkq hr
     obtain ⟨st, rX, rY, rr, ⟨rv1, rv2⟩, rp⟩ := r
     go_wp2_with fail
     refine HSV.out.mono ?_
     rintro e w2 ⟨⟨xa, xn, xc, ya, yn, yc, ra, rn, rc, rfl, _⟩, hx⟩
     unfold lrW
     have hfd : ∀ w : World, (Instr.field 87 (.agg #[.int .i64 st, .slice xa xn xc, .slice ya yn yc, .slice ra rn rc, .int .i64 rv1, .int .i64 rv2, .int .i64 rp]) 0).run Tryz.prog w = .ok (.int .i64 st) w := fun _ => by kernel_rfl
     go_wp2_with fail
     go_ret
     exact ⟨ret_bool HR.out.symm, HX.out.trans hx⟩
  ·have hn0 : (n : Int) > 40 := by omega
   have HF := Lib.hid (show balS (q : Int) l = false by unfold balS balIn; rw [HL.out, decide_eq_false hn]; simp)
   clear h hl hx
   go_enter Tryz.func10, Tryz.ntmps10
   go_wp2_with fail
   refine HIN.out.mono ?_
   rintro e w1 ⟨rfl, rfl⟩
   go_wp2_with fail
   go_ret
   exact ⟨ret_bool HF.out.symm, Ext.refl _⟩
end
end Go.Proofs.YtgohdmnbnhehnaaGreat
