import Derived.Test.YthjjfkeacobikaaGreatMkAllG2
import Derived.Test.YthjjfkeacobikaaGreatMkAllG23
import Derived.Test.YthjjfkeacobikaaGreatMkAllG6
import Derived.Test.YthjjfkeacobikaaGreatMkAllG17
import Derived.Test.YthjjfkeacobikaaGreatMkAllG4
set_option linter.unusedVariables false
set_option linter.unusedSimpArgs false
namespace Go.Proofs.YthjjfkeacobikaaGreat
open Go.RowKit
set_option maxHeartbeats 1000000 in
theorem s_EqualGame {w : World} {x x' : Int} {a a' : Option Addr} {n n' cap cap' : Nat} {l l' : List Int} (h : Ints w a n cap l) (h' : Ints w a' n' cap' l') :
 Calls Tryz.prog 15 #[pair x a n cap, pair x' a' n' cap'] w fun e w' => e = .returned (.bool (decide (x = x') && decide (l = l'))) ∧ Ext w w' := by
 have he : (x == x') = decide (x = x') := by by_cases h : x = x' <;> simp [h]
 cases hd : decide (x = x')
 ·rw [hd] at he
  go_enter Tryz.func15, Tryz.ntmps15
  go_wp2_with fail
  go_ret
  exact ⟨ret_bool (by simp), (Ext.alloc _ _).trans (Ext.alloc _ _)⟩
 ·rw [hd] at he
  have hx0 : Ext w ((w.alloc (.cells #[.int .i64 x, .slice a n cap] 29)).alloc (.cells #[.int .i64 x', .slice a' n' cap'] 29)) := (Ext.alloc _ _).trans (Ext.alloc _ _)
  have HE := Lib.hid (s_l8Ints (h.ext hx0) (h'.ext hx0))
  have HX0 := Lib.hid hx0
  clear hx0 h h'
  go_enter Tryz.func15, Tryz.ntmps15
  go_wp2_with fail
  refine HE.out.mono ?_
  rintro e w1 ⟨rfl, hx⟩
  go_wp2
  go_ret
  exact ⟨ret_bool (by simp), HX0.out.trans hx.ext⟩
set_option maxRecDepth 100000
set_option maxHeartbeats 16000000 in
theorem s_BalancedLP {w : World} {p : Int} {a : Option Addr} {n cap : Nat} {V : List Int} (h : Ints w a n cap V) :
 Calls Tryz.prog 84 #[pair p a n cap] w fun e w' => LpcR w' e (coreA p.toNat n) (coreB p.toNat) (coreC V) (gameOk p V) ∧ Ext w w' := by
 obtain ⟨W, hW⟩ : ∃ W, W = (w.alloc (.cells #[.int .i64 p, .slice a n cap] 29)).alloc (.cells #[.slice none 0 0, .slice none 0 0, .slice none 0 0] 109) := ⟨_, rfl⟩
 have HWS := Lib.hid (show W.heap.size = w.heap.size + 2 by rw [hW]; simp)
 have HX0 := Lib.hid (show Ext w W by rw [hW]; exact (Ext.alloc _ _).trans (Ext.alloc _ _))
 have HWC := Lib.hid (show W.cell? ⟨w.heap.size, 1, none⟩ = some (.slice a n cap) by rw [hW]; simp)
 have HWD := Lib.hid (show W.cell? ⟨w.heap.size, 0, none⟩ = some (.int .i64 p) by rw [hW]; simp)
 have HWR := Lib.hid (show W.heap[w.heap.size + 1]? = some (.cells #[.slice none 0 0, .slice none 0 0, .slice none 0 0] 109 (0, 0)) by rw [hW]; exact heapA_new _ _ _ (by simp))
 obtain ⟨WG, hWG⟩ : ∃ x, x = w.alloc (.cells #[.int .i64 p, .slice a n cap] 29) := ⟨_, rfl⟩
 have HXG := Lib.hid (show Ext WG W by rw [hW, hWG]; exact Ext.alloc _ _)
 have HGS := Lib.hid (show WG.heap.size = w.heap.size + 1 by rw [hWG]; simp)
 have HG0 := Lib.hid (show WG.cell? ⟨w.heap.size, 0, none⟩ = some (.int .i64 p) by rw [hWG]; simp)
 have HG1 := Lib.hid (show WG.cell? ⟨w.heap.size, 1, none⟩ = some (.slice a n cap) by rw [hWG]; simp)
 clear hWG
 have HVL := Lib.hid h.hlen
 have hvcap := h.hcap
 have hvmax := h.hmax
 have HVE := Lib.hid (h.ext HX0.out)
 have HC := Lib.hid (s_IsValidGame (p := p) (h.ext HX0.out))
 have hrbl : (w.heap.size + 1) < W.heap.size := by rw [HWS.out]; omega
 have HRB := Lib.hid (fun (w' : World) (hx : Ext W w') => (hx.block _ hrbl).trans HWR.out)
 clear h hrbl
 cases hg : gameOk p V
 ·rw [hg, hW] at HC
  clear hg
  go_enter Tryz.func84, Tryz.ntmps84
  go_wp2_with fail
  refine HC.out.mono ?_
  rw [← hW]
  rintro e w1 ⟨rfl, hx1⟩
  have hr0 := LpO.boxc0 (HRB.out w1 hx1)
  have hr1 := LpO.boxc1 (HRB.out w1 hx1)
  have hr2 := LpO.boxc2 (HRB.out w1 hx1)
  have hrf := LpO.boxf (HRB.out w1 hx1)
  have HX1 := Lib.hid hx1
  clear hx1
  go_wp2_with fail
  refine bodyPost_ret (v := .tuple #[.agg #[.slice none 0 0, .slice none 0 0, .slice none 0 0], .bool false]) (by simp [results, Tryz.results84, go_sem, hr0, hr1, hr2]) rfl ⟨⟨none, 0, 0, none, 0, 0, none, 0, 0, rfl, fun h => Bool.noConfusion h⟩, (((HX0.out.trans HX1.out).store 0 (by omega) _).store 1 (by omega) _).store 2 (by omega) _⟩
 ·obtain ⟨q, rfl, h1, h5, hlen, _, hvb⟩ := gameOk_len hg
  have hq := cN_le q h5
  have hn32 : n ≤ 32 := by rw [← HVL.out, hlen]; omega
  have hn1 : 1 ≤ n := by rw [← HVL.out, hlen]; omega
  have HVB := Lib.hid hvb
  have HCL := Lib.hid (show (coreC V).length = n - 1 by unfold coreC; simp [HVL.out])
  rw [hg, hW] at HC
  clear hg hlen hvb hq
  go_enter Tryz.func84, Tryz.ntmps84
  go_wp2_with fail
  refine HC.out.mono ?_
  rw [← hW]
  clear hW
  rintro e w1 ⟨rfl, hx1⟩
  have hs1 := hx1.size
  rw [HWS.out] at hs1
  have HX1 := Lib.hid hx1
  have HL0 := Lib.hid (LpO.new (w := w1) (base := w.heap.size + 2) hs1)
  obtain ⟨g, hgg⟩ : ∃ g, g = w1.heap.size := ⟨_, rfl⟩
  obtain ⟨E, hE⟩ : ∃ E, E = w1.alloc (.cells #[.slice none 0 0, .slice none 0 0, .slice none 0 0] 109) := ⟨_, rfl⟩
  have HXE := Lib.hid (show Ext W E by rw [hE]; exact hx1.trans (Ext.alloc _ _))
  rw [← hgg, ← hE] at HL0
  clear hx1 HC
  go_upto_region 4 with fail
  rw [← hE, ← hgg]
  clear hE hgg
  go_wp2_with fail
  go_loopg [5] (n - 1) (fun gk ii wr => ∃ (k : Nat) (vc : Value), Hid (gk + k = n - 1) ∧ ii = .int .i64 ((k + 1 : Nat) : Int) ∧ Hid (LpO wr (w.heap.size + 2) g (.slice none 0 0) (.slice none 0 0) vc [] [] [] ((coreC V).take k)) ∧ Hid (Ext W wr))
  case atStart => exact ⟨0, _, Lib.hid (by omega), rfl, HL0, HXE⟩
  case round =>
   obtain ⟨g1, h_g1⟩ : ∃ x, x = gk := ⟨_, rfl⟩
   subst h_g1
   obtain ⟨wr1, h_wr1⟩ : ∃ x, x = wr := ⟨_, rfl⟩
   subst h_wr1
   obtain ⟨k, vc, HK, rfl, HLP, HX⟩ := hrel
   have hsz := HX.out.size
   rw [HWS.out] at hsz
   have hcp := HX.out.cellSome HWC.out
   by_cases hlt : k + 1 < n
   ·obtain ⟨eb, eoff, hea, he0⟩ := (HVE.out.ext HX.out).at hlt
    subst hea
    obtain ⟨v, hv⟩ : ∃ v, v = V[k + 1]?.getD 0 := ⟨_, rfl⟩
    have hvb : -500 ≤ v ∧ v ≤ 500 := by
     rw [hv, List.getElem?_eq_getElem (by rw [HVL.out]; exact hlt), Option.getD_some]
     exact HVB.out _ (List.getElem_mem _)
    rw [← hv] at he0
    have HV0 := Lib.hid (show W.cell? ⟨eb, eoff + (k + 1), none⟩ = some (.int .i64 v) by
     obtain ⟨eb', eoff', hea', he'⟩ := HVE.out.at hlt
     simp only [Option.some.injEq, Addr.mk.injEq, and_true] at hea'
     obtain ⟨rfl, rfl⟩ := hea'
     rw [hv]; exact he')
    have HSN := Lib.hid (coreC_snoc HVL.out hlt hv.symm)
    have hwn : IntKind.i64.wrap (-v) = -v := by rw [IntKind.wrap_i64]; omega
    have hk0 : (0 : Int) ≤ ((k + 1 : Nat) : Int) := by omega
    have hk1 : ((k + 1 : Nat) : Int) < (n : Int) := by omega
    have hkw : IntKind.i64.wrap (((k + 1 : Nat) : Int) + 1) = ((k + 1 + 1 : Nat) : Int) := by rw [IntKind.wrap_i64]; omega
    have hk2 : (0 : Int) ≤ (k : Int) + 1 := by omega
    have hk3 : (k : Int) + 1 < (n : Int) := by omega
    have hk4 : ((k : Int) + 1).toNat = k + 1 := by omega
    have HTL := Lib.hid (show ((coreC V).take k).length = k by rw [List.length_take, HCL.out]; omega)
    have t2 := HLP.out.c2
    clear hv
    have HKEEP := Lib.hid (fun (w' : World) (h : Ext wr1 w') => (⟨h.cellSome t2, h.cellSome hcp, h.cellSome he0, HX.out.trans h⟩ : w'.cell? ⟨g, 2, none⟩ = some vc ∧ w'.cell? ⟨w.heap.size, 1, none⟩ = some (.slice (some ⟨eb, eoff, none⟩) n cap) ∧ w'.cell? ⟨eb, eoff + (k + 1), none⟩ = some (.int .i64 v) ∧ Ext W w'))
    have hkd : Ext wr1 wr1.drew := Ext.drew wr1
    go_upto_region 7 with fail
    refine late_begin (M := [12]) (S := fun w' => w'.cell? ⟨g, 2, none⟩ = some vc ∧ w'.cell? ⟨w.heap.size, 1, none⟩ = some (.slice (some ⟨eb, eoff, none⟩) n cap) ∧ w'.cell? ⟨eb, eoff + (k + 1), none⟩ = some (.int .i64 v) ∧ Ext W w') (by kernel_rfl) ?_
    have hHeld := HKEEP.out _ hkd
    obtain ⟨wd, hwd⟩ : ∃ y, y = wr1.drew := ⟨_, rfl⟩
    rw [← hwd] at hkd hHeld
    rw [← hwd]
    clear hwd
    have hsd := hkd.size
    refine lp 0 ?_
    refine ll 1 ?_
    refine lp 2 ?_
    refine ll 3 ?_
    refine lp 4 ?_
    refine lp 5 ?_
    refine ll 6 ?_
    refine lp 7 ?_
    refine late_step (i := 8) (oi := ?_) ?_ ?_ ?_ (fun K hK => ?_)
    rotate_left
    ·simp only [gA, gB, gC]; rfl
    ·kernel_rfl
    ·kernel_rfl
    go_simp
    go_at_call 86
    refine (s_l3Int _ _).mono ?_
    rintro e w3 ⟨rfl, hx3⟩
    have hkd : Ext wr1 w3 := hkd.trans hx3
    have hs3 := hkd.size
    go_wp2_with fail
    refine hK.out _ _ (fun _ => HKEEP.out _ hkd) ?_
    have hHeld := HKEEP.out _ hkd
    clear hK K
    try simp only [Act.put, sA, sB, sC]
    refine late_step (i := 9) (oi := ?_) ?_ ?_ ?_ (fun K hK => ?_)
    rotate_left
    ·simp only [gA, gB, gC]; rfl
    ·kernel_rfl
    ·kernel_rfl
    go_simp
    refine hK.out _ _ (fun _ => HKEEP.out _ (hkd.trans (Ext.alloc _ _))) ?_
    clear hK K
    try simp only [Act.put, sA, sB, sC]
    refine late_step (i := 10) (oi := ?_) ?_ ?_ ?_ (fun K hK => ?_)
    rotate_left
    ·simp only [gA, gB, gC]; rfl
    ·kernel_rfl
    ·kernel_rfl
    refine wp_append_rats _ _ (by rfl) (w.heap.size + 2) vc _ (by rfl) ((HLP.out.c.ext hkd).ext (Ext.alloc _ _)) _ 1 _ [(-v, 1)] (by rfl) (Rats.one' _ _ _ _ _ rfl) (by rw [HTL.out]; omega) (by simp; omega) ?_
    intro v6 w6 ho hg6 hnear
    obtain ⟨a6, n6, q6, rfl, HN6⟩ := ho.var
    have HP6 := Lib.hid (HLP.out.pushC (hkd.trans (Ext.alloc _ _)) hg6 ho)
    have hb6 := HLP.out.boxC (hkd.trans (Ext.alloc _ _)) hg6
    have c26 := LpO.boxc2 hb6
    have cf6 := LpO.boxf hb6
    have hX6 : Ext W w6 := ext_grown ((HX.out.trans hkd).trans (Ext.alloc _ _)) hg6 (fun j hj => by rw [HWS.out]; exact (HLP.out.c.lt j hj).1)
    clear ho hg6 hnear hb6
    refine hK.out _ _ (fun _ => And.intro c26 (And.intro (hX6.cellSome HWC.out) (And.intro (hX6.cellSome HV0.out) hX6))) ?_
    have hHeld := And.intro c26 (And.intro (hX6.cellSome HWC.out) (And.intro (hX6.cellSome HV0.out) hX6))
    clear hK K
    try simp only [Act.put, sA, sB, sC]
    refine lp 11 ?_
    refine late_one (i := 12) (oi := ?_) (w' := ?_) ?_ ?_ ?_ ?_ ?_ ?_ ?_
    rotate_left 2
    ·simp only [gA, gB, gC]; rfl
    ·kernel_rfl
    ·kernel_rfl
    ·exact of_decide_eq_true (by kernel_rfl)
    ·rfl
    ·go_simp; (try with_reducible rfl)
    try simp only [Act.put, sA, sB, sC]
    refine late_done (by kernel_rfl) ?_ _
    have HX9 := Lib.hid (hX6.setCell (p := ⟨g, 2, none⟩) (by rw [HWS.out]; exact HLP.out.hg) (.slice a6 n6 q6))
    obtain ⟨W9, hW9⟩ : ∃ y, y = w6.setCell ⟨g, 2, none⟩ (.slice a6 n6 q6) := ⟨_, rfl⟩
    rw [← hW9] at HP6 HX9
    go_upto_region 6 with fail
    rw [← hW9]
    clear hW9 c26 cf6 hHeld hkd hX6 t2
    go_wp2_with fail
    go_roundg (g1 - 1)
    case measure => have := HK.out; omega
    case rel => exact ⟨k + 1, _, Lib.hid (by have := HK.out; omega), by go_num, Lib.hid (by rw [← HSN.out]; exact HP6.out), HX9⟩
   ·have hT : (coreC V).take k = coreC V := List.take_of_length_le (by rw [HCL.out]; omega)
    rw [hT] at HLP
    have hcp0 := HX.out.cellSome HWD.out
    obtain ⟨aC, nC, cC, rfl, HNC⟩ := HLP.out.c.var
    have hlt2 : ¬ ((k : Int) + 1) < (n : Int) := by omega
    obtain ⟨L, hL⟩ : ∃ L, L = seqI 1 (n - 1) := ⟨_, rfl⟩
    have HLL := Lib.hid (show L.length = n - 1 by rw [hL]; simp [seqI])
    have HLA := Lib.hid (fun (j : Nat) (hj : j < n - 1) => show L[j]?.getD 0 = (j : Int) + 1 by
     rw [hL, List.getElem?_eq_getElem (by simp [seqI]; exact hj)]
     simp [seqI]; omega)
    have HLE := Lib.hid hL
    clear hT hL
    go_wp2_with fail
    go_loopg [6] q (fun gk ii wr => ∃ (k : Nat) (va vb : Value) (vs : List Value), Hid (gk + k = q) ∧ ii = .int .i64 (k : Int) ∧ Hid (LpO wr (w.heap.size + 2) g va vb (.slice aC nC cC) vs (memM k L) (List.replicate k 1) (coreC V)) ∧ Hid (Ext W wr))
    case atStart => exact ⟨0, _, _, [], Lib.hid (by omega), rfl, HLP, HX⟩
    case round =>
     obtain ⟨g2, h_g2⟩ : ∃ x, x = gk := ⟨_, rfl⟩
     subst h_g2
     obtain ⟨wr2, h_wr2⟩ : ∃ x, x = wr := ⟨_, rfl⟩
     subst h_wr2
     obtain ⟨k, va, vb, vs, HK2, rfl, HLP2, HX2⟩ := hrel
     have hsz2 := HX2.out.size
     rw [HWS.out] at hsz2
     have hp0 := HX2.out.cellSome HWD.out
     have hp1 := HX2.out.cellSome HWC.out
     by_cases hkq : k < q
     ·have HR0 := Lib.hid (OwnI.madeS wr2 wr2.heap.size _ rfl (Nat.le_refl _))
      have hkqi : (k : Int) < (q : Int) := by omega
      go_wp2_with fail
      go_loopg [7, 8] (n - 1) (fun gk row ii wr => ∃ (j : Nat) (a2 : Option Addr) (n2 p2 : Nat), Hid (gk + j = n - 1) ∧ ii = .int .i64 ((j + 1 : Nat) : Int) ∧ row = .slice a2 n2 p2 ∧ Hid (OwnI wr wr2.heap.size (.slice a2 n2 p2) (memR (L.take j) k)) ∧ Hid (Ext wr2 wr))
      case atStart => exact ⟨0, _, _, _, Lib.hid (by omega), rfl, rfl, HR0, Lib.hid (Ext.alloc _ _)⟩
      case round =>
       obtain ⟨g3, h_g3⟩ : ∃ x, x = gk := ⟨_, rfl⟩
       subst h_g3
       obtain ⟨wr3, h_wr3⟩ : ∃ x, x = wr := ⟨_, rfl⟩
       subst h_wr3
       obtain ⟨j, a2, n2, p2, HJ, rfl, rfl, HO, HX3⟩ := hrel
       have hsz3 := HX3.out.size
       have hp2 := HX3.out.cellSome hp1
       by_cases hjl : j + 1 < n
       ·have hjw : IntKind.i64.wrap (((j + 1 : Nat) : Int) + 1) = ((j + 1 + 1 : Nat) : Int) := by rw [IntKind.wrap_i64]; omega
        have hjl2 : (j : Int) + 1 < (n : Int) := by omega
        obtain ⟨hb, hhb⟩ : ∃ b, b = hasP ((j : Int) + 1) (k : Int) := ⟨_, rfl⟩
        have HHP := Lib.hid (fun w' => s_HasPlayer ((j : Int) + 1) (k : Int) w' (by omega))
        simp only [← hhb] at HHP
        have HBT := Lib.hid (fun w' => s_l1Bit hb w')
        have HSN := Lib.hid (memR_snoc (l := L) (j := j) (k := k) (b := hb) (by rw [HLL.out]; omega) (by rw [HLA.out j (by omega)]; exact hhb.symm))
        have HRL := Lib.hid (show (memR (L.take j) k).length = j by simp only [memR, List.length_map, List.length_take]; rw [HLL.out]; omega)
        obtain ⟨bt, hbt⟩ : ∃ y, y = bitI hb := ⟨_, rfl⟩
        rw [← hbt] at HSN
        simp only [← hbt] at HBT
        clear hhb hbt
        go_wp2_with (first
         | (go_at_call 79; refine (HHP.out _).mono ?_; rintro e w4 ⟨rfl, rfl⟩)
         | (go_at_call 74; refine (HBT.out _).mono ?_; rintro e w4 ⟨rfl, rfl⟩)
         | (at_builtin; refine append_ints rfl _ _ rfl wr2.heap.size (.slice a2 n2 p2) _ rfl (HO.out.ext (Ext.alloc _ _)) _ 1 _ [bt] rfl (Ints.oneS _ _ _ _ (by simp)) (by rw [HRL.out]; omega) (by simp; omega) ?_; intro v5 w5 ho hg5 hnear; have X5 := Lib.hid (ext_grown (HX3.out.trans (Ext.alloc _ _)) hg5 (fun i hi => (HO.out.lt i hi).1)); obtain ⟨a5, n5, c5, rfl, HN5⟩ := ho.var; have HO5 := Lib.hid ho; clear ho hg5 hnear))
        go_roundg (g3 - 1)
        case measure => have := HJ.out; omega
        case rel => exact ⟨j + 1, a5, n5, c5, Lib.hid (by have := HJ.out; omega), by go_num, rfl, Lib.hid (by rw [← HSN.out]; exact HO5.out), X5⟩
       ·have hjl2 : ¬ ((j : Int) + 1) < (n : Int) := by omega
        have hTL : L.take j = L := List.take_of_length_le (by rw [HLL.out]; omega)
        rw [hTL] at HO
        have HMS := Lib.hid (memM_succ k L)
        have HVL := Lib.hid (show vs.length = k by rw [HLP2.out.rows.len]; simp [memM])
        have HLP3 := Lib.hid (HLP2.out.ext HX3.out)
        have t0 := HLP3.out.c0
        have bf := HLP3.out.free
        clear hTL
        go_upto_region 17 with (first
         | (at_builtin; refine append_slice rfl _ _ rfl (w.heap.size + 2) va vs rfl (HLP3.out.a.ext (Ext.alloc _ _)) _ _ 1 rfl (by simp; rfl) rfl (by rw [HVL.out]; omega) (by simp; omega) ?_; intro v6 w6 ho hg hnear; have HL6 := Lib.hid (HLP2.out.pushA (HX3.out.trans (Ext.alloc _ _)) (HO.out.ext (Ext.alloc _ _)) (by omega) hg ho hnear); have hbox6 := HLP3.out.boxA (Ext.alloc _ _) hg; have hc6 := LpO.boxc0 hbox6; have hf6 := LpO.boxf hbox6; have X6 := Lib.hid ((((HX2.out.trans HX3.out).trans (Ext.alloc _ _)).grown hg (fun j hj => by rw [HWS.out]; exact (HLP2.out.a.lt j hj).1)).store (b := g) 0 (by rw [HWS.out]; exact HLP2.out.hg) v6); obtain ⟨a6, n6, p6, rfl, HN6⟩ := ho.var; clear ho hg hnear hbox6))
        obtain ⟨W6, hW6⟩ : ∃ y, y = w6.setCell ⟨g, 0, none⟩ (.slice a6 n6 p6) := ⟨_, rfl⟩
        rw [← hW6] at HL6 X6
        rw [← hW6]
        clear hW6 hc6 hf6 t0 bf
        have t1 := HL6.out.c1
        have bf := HL6.out.free
        have hgl6 := HL6.out.lt
        have HX6 := Lib.hid (show Ext W W6 from X6.out)
        have hs6 := HX6.out.size
        rw [HWS.out] at hs6
        go_wp2_with (first
         | (at_builtin; refine append_ints rfl _ _ rfl (w.heap.size + 2) vb _ rfl (HL6.out.b.ext (Ext.alloc _ _)) _ 1 _ [1] rfl (Ints.oneS _ _ _ _ (by simp)) (by simp; omega) (by simp; omega) ?_; intro v9 w9 ho hg9 hnear; have HL9 := Lib.hid (HL6.out.pushB (Ext.alloc _ _) hg9 ho hnear); have hbx := HL6.out.boxB (Ext.alloc _ _) hg9; have c09 := LpO.boxc1 hbx; have cf9 := LpO.boxf hbx; have X9 := Lib.hid (((HX6.out.trans (Ext.alloc _ _)).grown hg9 (fun j hj => by rw [HWS.out]; exact (HL6.out.b.lt j hj).1)).store (b := g) 1 (by rw [HWS.out]; exact HLP2.out.hg) v9); obtain ⟨a9, n9, q9, rfl, HN9⟩ := ho.var; clear ho hg9 hnear hbx))
        go_roundg (g2 - 1)
        case measure => have := HK2.out; omega
        case rel => exact ⟨k + 1, _, _, _, Lib.hid (by have := HK2.out; omega), by go_num, Lib.hid (by have h1 := HL9.out; rw [HMS.out, ← List.replicate_succ'] at h1; exact h1), X9⟩
     ·have hkq2 : q = k := by have := HK2.out; omega
      have hnk : ¬ (k : Int) < (q : Int) := by omega
      subst hkq2
      obtain ⟨aA, nA, cA, rfl, HNA⟩ := HLP2.out.a.var
      obtain ⟨aB, nB, cB, rfl, HNB⟩ := HLP2.out.b.var
      have t0 := HLP2.out.c0
      have t1 := HLP2.out.c1
      have t2 := HLP2.out.c2
      have hgb := HLP2.out.hg
      have hrA := HRB.out wr2 HX2.out
      have hr0 := LpO.boxc0 hrA
      have hr1 := LpO.boxc1 hrA
      have hr2 := LpO.boxc2 hrA
      have hrf := LpO.boxf hrA
      have hkp : ∀ j, w.heap.size + 2 ≤ j → (((wr2.setCell ⟨w.heap.size + 1, 0, none⟩ (.slice aA nA cA)).setCell ⟨w.heap.size + 1, 1, none⟩ (.slice aB nB cB)).setCell ⟨w.heap.size + 1, 2, none⟩ (.slice aC nC cC)).heap[j]? = wr2.heap[j]? := fun j hk1 => by
       rw [heap_setCell_other _ _ _ _ (show j ≠ w.heap.size + 1 by omega), heap_setCell_other _ _ _ _ (show j ≠ w.heap.size + 1 by omega), heap_setCell_other _ _ _ _ (show j ≠ w.heap.size + 1 by omega)]
      clear hrA
      go_wp2_with fail
      refine bodyPost_ret (v := .tuple #[lpW aA nA cA aB nB cB aC nC cC, .bool true]) (by simp [results, Tryz.results84, go_sem, hr0, hr1, hr2]) rfl ⟨⟨aA, nA, cA, aB, nB, cB, aC, nC, cC, rfl, fun _ => ⟨?_, ?_, ?_⟩⟩, (((HX0.out.trans HX2.out).store 0 (by omega) _).store 1 (by omega) _).store 2 (by omega) _⟩
      ·have h0 : OwnSS wr2 (w.heap.size + 2) (.slice aA nA cA) (memM q L) := ⟨vs, HLP2.out.a, HLP2.out.rows⟩
       rw [HLE.out] at h0
       exact OwnSS.intss (h0.on _ fun j h1 _ => hkp j h1)
      ·exact (HLP2.out.b.on _ fun j h1 _ => hkp j h1).ints
      ·exact (HLP2.out.c.keep fun j h1 => hkp j (HLP2.out.c.lt j h1).1).rats
end Go.Proofs.YthjjfkeacobikaaGreat
