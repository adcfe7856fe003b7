import Derived.Test.YtgohdmnbnhehnaaGreatFnAllG3
import Derived.Test.YtgohdmnbnhehnaaGreatFnAllG7
import Derived.Test.YtgohdmnbnhehnaaGreatFnAllG8
import Derived.Test.YtgohdmnbnhehnaaGreatFnAllG4
import Derived.Test.YtgohdmnbnhehnaaGreatFnAllG5
import Derived.Test.YtgohdmnbnhehnaaGreatFnAllG9
import Derived.Test.YtgohdmnbnhehnaaGreatFnAllG1
import Derived.Test.YtgohdmnbnhehnaaGreatFnAllG2
import Derived.StillTailTactics
namespace Go.Proofs.YtgohdmnbnhehnaaGreat
set_option linter.unusedVariables false
set_option linter.unusedSimpArgs false
open Go.RowKit
set_option maxHeartbeats 2000000 in
theorem i_minus (x y : Int) (w : World) (h0 : -9223372036854775807 ≤ x) (h1 : x ≤ 9223372036854775807) :
 Calls Tryz.prog 91 #[ratV x y] w fun e w' => e = .returned (ratV (-x) y) ∧ Ext w w' := by
 go_enter Tryz.func91, Tryz.ntmps91
 go_wp2_with fail
 refine bodyPost_ret (v := ratV (-x) y) (by simp [results, Tryz.results91, go_sem]) rfl ⟨rfl, ?_⟩
 exact (Ext.alloc _ _).trans (Ext.alloc _ _)
set_option maxHeartbeats 2000000 in
theorem s_l7Negated (x y : Int) (w : World) (h0 : -9223372036854775807 ≤ x) (h1 : x ≤ 9223372036854775807) :
 Calls Tryz.prog 83 #[ratV x y] w fun e w' => e = .returned (ratV (-x) y) ∧ Ext w w' := by
 go_enter Tryz.func83, Tryz.ntmps83
 go_wp2_with fail
 refine bodyPost_ret (v := ratV (-x) y) (by simp [results, Tryz.results83, go_sem]) rfl ⟨rfl, ?_⟩
 exact (Ext.alloc _ _).trans (Ext.alloc _ _)
set_option maxRecDepth 100000
theorem ratOf_fail {n d : Int} (h : (ratOf n d).2 = false) : (ratOf n d).1 = (0, 0) := by
 have hc : ∀ p, (cutR p).2 = false → (cutR p).1 = (0, 0) := fun p h => by unfold cutR at h ⊢; split at h <;> simp_all
 unfold ratOf at h ⊢
 split at h
 ·next h1 => rw [if_pos h1]
 ·next h1 =>
  rw [if_neg h1]
  split at h
  ·next h2 => rw [if_pos h2]; exact hc _ h
  ·next h2 => rw [if_neg h2]; exact hc _ h
theorem ratOf_bd9 (n d : Int) : -1000000000 ≤ (ratOf n d).1.1 ∧ (ratOf n d).1.1 ≤ 1000000000 := by
 cases h : (ratOf n d).2
 ·rw [ratOf_fail h]; simp
 ·have := valR_bd (ratOf_val h); omega
theorem subR_bd9 (a b : Int × Int) : -1000000000 ≤ (subR a b).1.1 ∧ (subR a b).1.1 ≤ 1000000000 := by
 unfold subR; split
 ·exact ratOf_bd9 _ _
 ·simp
abbrev Col := Int × Int × Bool × Int × Int
def colE : Enc Col := ⟨fun x => [.int .i64 x.1, .int .i64 x.2.1, .bool x.2.2.1, .int .i64 x.2.2.2.1, .int .i64 x.2.2.2.2], 5, fun _ => rfl, by omega, fun x u h => by simp only [List.mem_cons, List.not_mem_nil, or_false] at h; rcases h with rfl | rfl | rfl | rfl | rfl <;> rfl⟩
theorem Tryz.infoCol : (Tryz.prog.info? 130).map (fun i => (i.zero, i.size, i.bytes)) = some (some (.agg #[.int .i64 0, .int .i64 0, .bool false, .int .i64 0, .int .i64 0]), 5, 40) := by kernel_rfl
def costC (V : List Int) (f : Int × Int × Int) : Int × Int := (subR f.2 (V[f.1.toNat]?.getD 0, 1)).1
def twoC (s : Int) (c : Int × Int) : List Col := [(s, 1, false, c.1, c.2), (s, -1, false, -c.1, c.2)]
def frontC (V : List Int) (l : List Int) : List Col := l.map fun s => (s, 1, true, -(V[s.toNat]?.getD 0), 1)
def fixedC (V : List Int) (L : List (Int × Int × Int)) : List Col := L.flatMap fun f => twoC f.1 (costC V f)
def colsL (V : List Int) (L : List (Int × Int × Int)) : List Col := frontC V (freeL L (V.length - 2)) ++ fixedC V L ++ twoC ((V.length : Int) - 1) (-(V[V.length - 1]?.getD 0), 1)
def colsK (V : List Int) (L : List (Int × Int × Int)) (k : Nat) : List Col := frontC V (freeL L (V.length - 2)) ++ fixedC V (L.take k)
theorem frontC_snoc (V : List Int) {l : List Int} {k : Nat} (h : k < l.length) : frontC V (l.take k) ++ [(l[k]?.getD 0, 1, true, -(V[(l[k]?.getD 0).toNat]?.getD 0), 1)] = frontC V (l.take (k + 1)) := by
 rw [take_snoc h]; simp [frontC]
theorem frontC_len (V : List Int) (l : List Int) : (frontC V l).length = l.length := by simp [frontC]
theorem fixedC_len (V : List Int) : ∀ L : List (Int × Int × Int), (fixedC V L).length = 2 * L.length
 | [] => rfl
 | f :: L => by
   have := fixedC_len V L
   simp only [fixedC, List.flatMap_cons, List.length_append, twoC, List.length_cons, List.length_nil] at this ⊢
   omega
theorem colsK_snoc (V : List Int) {L : List (Int × Int × Int)} {k : Nat} (h : k < L.length) {f : Int × Int × Int} (e : L[k]?.getD (0, 0, 0) = f) : colsK V L k ++ twoC f.1 (costC V f) = colsK V L (k + 1) := by
 subst e
 unfold colsK fixedC
 rw [take_snocX h]
 simp
theorem OwnI.grownG {w w' : World} {base base' : Nat} {v v' : Value} {l : List Int} {α : Type} {E : Enc α} {t : TypeId} {l' : List α} (h : OwnI w base v l) (h' : OwnG E t w base' v' l') (hne : 3 ≠ t) (hg : w.grownBy w' v'.ownBlock) : OwnI w' base v l :=
 h.keep fun k hk => hg.block k (h.lt k hk).2 fun e => ownsRow_apart hne h h' k hk e.symm
set_option maxHeartbeats 8000000 in
theorem s_l16Columns {w : World} (x : Int) {a : Option Addr} {n cap : Nat} {V : List Int} (hV : Ints w a n cap V) (hVb : ∀ y ∈ V, -500 ≤ y ∧ y ≤ 500) (h2 : 2 ≤ n) (hn : n ≤ 1000) {fa : Option Addr} {fn fcap : Nat} {L : List (Int × Int × Int)} (h : Fixs w fa fn fcap L) (hL : ∀ f ∈ L, 1 ≤ f.1 ∧ f.1 + 2 ≤ n) (hfn : fn ≤ 1048576) :
 Calls Tryz.prog 109 #[pair x a n cap, .slice fa fn fcap] w fun e w' => (∃ v, e = .returned v ∧ OwnG colE 130 w' w.heap.size v (colsL V L)) ∧ Ext w w' := by
 obtain ⟨W, hW⟩ : ∃ W, W = w.alloc (.cells #[.int .i64 x, .slice a n cap] 47) := ⟨_, rfl⟩
 have HW := Lib.hid hW
 have HWS := Lib.hid (show W.heap.size = w.heap.size + 1 by rw [hW]; simp)
 have HX0 := Lib.hid (show Ext w W by rw [hW]; exact Ext.alloc _ _)
 have HWC := Lib.hid (show W.cell? ⟨w.heap.size, 1, none⟩ = some (.slice a n cap) by rw [hW]; simp)
 have HWD := Lib.hid (show W.cell? ⟨w.heap.size, 0, none⟩ = some (.int .i64 x) by rw [hW]; simp)
 have HVL := Lib.hid hV.hlen
 have hvcap := hV.hcap
 have hvmax := hV.hmax
 have hfcap := h.hcap
 have hfmax := h.hmax
 have HV := Lib.hid (hV.ext HX0.out)
 have HVB := Lib.hid hVb
 have HFL := Lib.hid h.hlen
 have HF := Lib.hid (h.ext HX0.out)
 have HLB := Lib.hid hL
 have HO := Lib.hid (OwnG.madeS colE 130 W (w.heap.size + 1) (w.heap.size + 1) HWS.out.symm (by rw [HWS.out]; exact Nat.le_refl _))
 have HFRE := Lib.hid (s_l16Free (w := W.alloc (.cells #[] 130)) x a n cap hn (HF.out.ext (Ext.alloc _ _)))
 have HML := Lib.hid (freeL_len L (n - 2))
 have HMM := Lib.hid (fun s => freeL_mem (L := L) (m := n - 2) (s := s))
 rw [hW] at HFRE
 clear h hL hV hVb
 go_enter Tryz.func109, Tryz.ntmps109
 go_wp2_with fail
 refine HFRE.out.mono ?_
 rw [← hW]
 clear hW
 rintro e w1 ⟨⟨vf, rfl, hfo⟩, hx1⟩
 obtain ⟨af, m, cf, rfl, hfm⟩ := hfo.var
 have HFO := Lib.hid (hfo.mono (base' := w.heap.size + 1) (by rw [World.size_alloc, HWS.out]; omega))
 have HFM := Lib.hid hfm.out
 have X1 := Lib.hid ((Ext.alloc W _).trans hx1)
 have HO1 := Lib.hid (HO.out.ext hx1)
 have hmcap := hfo.ints.hcap
 have hmmax := hfo.ints.hmax
 have hmb : m ≤ 1000 := by have := HML.out; have := HFM.out; omega
 clear hfo hx1 hfm HFRE
 go_wp2_with fail
 go_loopg [5, 7] m (fun gk oo ii wr => ∃ (k : Nat) (a1 : Option Addr) (n1 p1 : Nat), Hid (gk + k = m) ∧ ii = .int .i64 (k : Int) ∧ oo = .slice a1 n1 p1 ∧ Hid (OwnG colE 130 wr (w.heap.size + 1) (.slice a1 n1 p1) (frontC V ((freeL L (n - 2)).take k))) ∧ Hid (OwnI wr (w.heap.size + 1) (.slice af m cf) (freeL L (n - 2))) ∧ Hid (Ext W wr))
 case atStart => exact ⟨0, _, _, _, Lib.hid (by omega), rfl, rfl, HO1, HFO, X1⟩
 case round =>
  obtain ⟨g1, h_g1⟩ : ∃ x, x = gk := ⟨_, rfl⟩
  subst h_g1
  obtain ⟨wr1, h_wr1⟩ : ∃ x, x = wr := ⟨_, rfl⟩
  subst h_wr1
  obtain ⟨k, a1, n1, p1, HK, rfl, rfl, HOK, HFK, HX⟩ := hrel
  have hsz := HX.out.size
  rw [HWS.out] at hsz
  have hcv : wr1.cell? ⟨w.heap.size, 1, none⟩ = some (.slice a n cap) := HX.out.cellSome HWC.out
  by_cases hlt : k < m
  ·obtain ⟨b, off, he, hsc⟩ := HFK.out.ints.at hlt
   subst he
   obtain ⟨s, hs⟩ : ∃ s, s = (freeL L (n - 2))[k]?.getD 0 := ⟨_, rfl⟩
   rw [← hs] at hsc
   have hkl : k < (freeL L (n - 2)).length := by rw [HFM.out]; exact hlt
   have hsm := HMM.out s (by rw [hs, List.getElem?_eq_getElem hkl]; exact List.getElem_mem hkl)
   obtain ⟨t, rfl⟩ : ∃ t : Nat, s = t := ⟨s.toNat, by omega⟩
   have htn : t < n := by omega
   obtain ⟨vb, voff, hve, hvc⟩ := HV.out.at htn
   subst hve
   have hyb := getD_bd HVB.out t
   obtain ⟨y, hy⟩ : ∃ y, y = V[t]?.getD 0 := ⟨_, rfl⟩
   rw [← hy] at hvc hyb
   have HVC := Lib.hid hvc
   replace hvc := HX.out.cellSome hvc
   have HSN := Lib.hid (show frontC V ((freeL L (n - 2)).take k) ++ [((t : Int), 1, true, -y, 1)] = frontC V ((freeL L (n - 2)).take (k + 1)) by
    rw [← frontC_snoc V hkl, ← hs, hy]; rfl)
   have hwn : IntKind.i64.wrap (-y) = -y := by rw [IntKind.wrap_i64]; omega
   have HLK := Lib.hid (show (frontC V ((freeL L (n - 2)).take k)).length ≤ 1000 by rw [frontC_len, List.length_take]; have := HML.out; omega)
   have hk2 : Ext wr1 wr1.drew := Ext.drew wr1
   clear hs hsm hy hkl
   have HNE := Lib.hid (show some b ≠ (Value.slice a1 n1 p1).ownBlock from fun e => ownsRow_apart (by decide) HFK.out HOK.out b rfl e.symm)
   have hk1 : Ext W wr1 := HX.out
   have HKEEP := Lib.hid (fun (w' : World) (h : Ext W w') (hc : w'.cell? ⟨b, off + k, none⟩ = some (.int .i64 (t : Int))) => (⟨h.cellSome HWC.out, hc, h.cellSome HVC.out, h⟩ : w'.cell? ⟨w.heap.size, 1, none⟩ = some (.slice (some ⟨vb, voff, none⟩) n cap) ∧ w'.cell? ⟨b, off + k, none⟩ = some (.int .i64 (t : Int)) ∧ w'.cell? ⟨vb, voff + t, none⟩ = some (.int .i64 y) ∧ Ext W w'))
   go_wp2_with fail
   go_region_held3 (fun w' => w'.cell? ⟨w.heap.size, 1, none⟩ = some (.slice (some ⟨vb, voff, none⟩) n cap) ∧ w'.cell? ⟨b, off + k, none⟩ = some (.int .i64 (t : Int)) ∧ w'.cell? ⟨vb, voff + t, none⟩ = some (.int .i64 y) ∧ Ext W w')
    (first
      | with_reducible exact HKEEP.out _ (hk1.trans hk2) (hk2.cellSome hsc)
      | with_reducible exact HKEEP.out _ (hk1.trans (hk2.trans (Ext.alloc _ _))) ((hk2.trans (Ext.alloc _ _)).cellSome hsc)
      | with_reducible exact HKEEP.out _ X5.out HC5.out)
    (first
      | (go_at_call 81
         (with_reducible refine (s_l3Int _ _).mono ?_)
         rintro e w3 ⟨rfl, hx3⟩
         have hk2 : Ext wr1 w3 := hk2.trans hx3
         have hs3 := hk2.size)
      | (refine step_of_wp _ (by rfl) ?_
         refine wp_append_g colE Tryz.infoCol rfl Tryz.underlying127 (by decide) _ _ (by rfl) (w.heap.size + 1) (.slice a1 n1 p1) _ (by rfl) (HOK.out.ext (hk2.trans (Ext.alloc _ _))) _ 1 1 [((t : Int), 1, true, -y, 1)] (by rfl) (Slc.lit colE _ _ _ 1 (by rfl) _ (by rfl) _ (by rfl) (by omega)) (by have := HLK.out; omega) (by simp; omega) ?_
         intro v5 w5 ho hg hnear
         have HFN := Lib.hid ((HFK.out.ext (hk2.trans (Ext.alloc _ _))).grownG (HOK.out.ext (hk2.trans (Ext.alloc _ _))) (by decide) hg)
         have HC5 := Lib.hid (hg.cell ((hk2.trans (Ext.alloc _ _)).cellSome hsc) HNE.out)
         obtain ⟨a5, n5, p5, rfl, HN5⟩ := ho.var
         have HO5 := Lib.hid ho
         have X5 := Lib.hid (ext_grown (w0 := W) (HX.out.trans (hk2.trans (Ext.alloc _ _))) hg (fun j hj => by have := HOK.out.lt j hj; rw [HWS.out]; omega))
         clear ho hg hnear)
      | fail)
   clear hk1
   go_wp2_with fail
   go_roundg (g1 - 1)
   case measure => have := HK.out; omega
   case rel => exact ⟨k + 1, a5, n5, p5, Lib.hid (by have := HK.out; omega), by go_num, rfl, Lib.hid (by rw [← HSN.out]; exact HO5.out), HFN, X5⟩
  ·have hkm : k = m := by have := HK.out; omega
   subst hkm
   have HST := Lib.hid (show frontC V ((freeL L (n - 2)).take k) = colsK V L 0 by
    have : (freeL L (n - 2)).take k = freeL L (n - 2) := List.take_of_length_le (by rw [HFM.out]; exact Nat.le_refl _)
    rw [this]; unfold colsK; rw [HVL.out]; simp [fixedC])
   rw [HST.out] at HOK
   have HCL := Lib.hid (fun j => show (colsK V L j).length ≤ 1000 + 2 * fn by
    unfold colsK; rw [List.length_append, frontC_len, fixedC_len, List.length_take, HVL.out]; have := HML.out; have := HFL.out; omega)
   clear HFM HFK HK
   go_wp2_with fail
   go_loopg [5, 8] (fn + 1) (fun gk oo ii wr => ∃ (k : Nat) (a1 : Option Addr) (n1 p1 : Nat), Hid (gk + k = fn + 1) ∧ ii = .int .i64 (k : Int) ∧ oo = .slice a1 n1 p1 ∧ Hid (OwnG colE 130 wr (w.heap.size + 1) (.slice a1 n1 p1) (if k ≤ fn then colsK V L k else colsL V L)) ∧ Hid (Ext W wr))
   case atStart => exact ⟨0, _, _, _, Lib.hid (by omega), rfl, rfl, Lib.hid (by rw [if_pos (by omega)]; exact HOK.out), HX⟩
   case round =>
    obtain ⟨g2, h_g2⟩ : ∃ x, x = gk := ⟨_, rfl⟩
    subst h_g2
    obtain ⟨wr2, h_wr2⟩ : ∃ x, x = wr := ⟨_, rfl⟩
    subst h_wr2
    obtain ⟨k, a2, n2, p2, HK, rfl, rfl, HOK2, HX2⟩ := hrel
    have hsz2 := HX2.out.size
    rw [HWS.out] at hsz2
    have hcv2 : wr2.cell? ⟨w.heap.size, 1, none⟩ = some (.slice a n cap) := HX2.out.cellSome HWC.out
    by_cases hle : k ≤ fn
    ·rw [if_pos hle] at HOK2
     obtain ⟨u, hu⟩ : ∃ u, u = n - 1 := ⟨_, rfl⟩
     have hnu : (n : Int) - 1 = (u : Int) := by omega
     have hun : u < n := by omega
     obtain ⟨vb, voff, hve, hvc⟩ := HV.out.at hun
     subst hve
     have hyb := getD_bd HVB.out u
     obtain ⟨y, hy⟩ : ∃ y, y = V[u]?.getD 0 := ⟨_, rfl⟩
     rw [← hy] at hvc hyb
     have HVC := Lib.hid hvc
     replace hvc := HX2.out.cellSome hvc
     have HU := Lib.hid hu
     have HY := Lib.hid hy
     have hwn : IntKind.i64.wrap (-y) = -y := by rw [IntKind.wrap_i64]; omega
     clear hu hy
     go_upto_if 59 with (first | (go_at_call 81; refine (s_l3Int _ _).mono ?_; rintro e w3 ⟨rfl, hx3⟩; have hs3 := hx3.size))
     have HB0 := Lib.hid (Boxed.new hx3 (-y) 1)
     have hcv3 := hx3.cellSome hcv2
     go_cut [9, 10] (fun ss cc wx => ∃ (S : Int) (g : Nat) (p q : Int), ss = .int .i64 S ∧ cc = .pointer (some ⟨g, 0, none⟩) ∧ Hid (Boxed wr2 wx g p q) ∧ Hid (colsK V L k ++ twoC S (p, q) = if k + 1 ≤ fn then colsK V L (k + 1) else colsL V L) ∧ Hid (-1000000000 ≤ p ∧ p ≤ 1000000000))
     case first =>
      by_cases hlt2 : k < fn
      ·obtain ⟨fb, foff, c, fx, fy, hfa, hfe, hf0, hf1, hf2⟩ := HF.out.at hlt2
       subst hfa
       have hkl : k < L.length := by rw [HFL.out]; exact hlt2
       have hcm := HLB.out (c, fx, fy) (by rw [← hfe, List.getElem?_eq_getElem hkl]; exact List.getElem_mem hkl)
       simp only at hcm
       obtain ⟨t, rfl⟩ : ∃ t : Nat, c = t := ⟨c.toNat, by omega⟩
       have htn : t < n := by omega
       obtain ⟨vb', voff', hve, hvt⟩ := HV.out.at htn
       simp only [Option.some.injEq, Addr.mk.injEq, and_true] at hve
       obtain ⟨rfl, rfl⟩ := hve
       obtain ⟨z, hz⟩ : ∃ z, z = V[t]?.getD 0 := ⟨_, rfl⟩
       rw [← hz] at hvt
       obtain ⟨p, q, ok, hpq⟩ : ∃ p q ok, subR (fx, fy) (z, 1) = ((p, q), ok) := ⟨_, _, _, rfl⟩
       have HPQ := Lib.hid hpq
       have HPB := Lib.hid (show -1000000000 ≤ p ∧ p ≤ 1000000000 by have := subR_bd9 (fx, fy) (z, 1); rw [hpq] at this; exact this)
       have HSS := Lib.hid (show colsK V L k ++ twoC (t : Int) (p, q) = colsK V L (k + 1) by
        rw [← colsK_snoc V hkl hfe]; unfold costC; simp only; rw [show ((t : Int)).toNat = t by simp, ← hz, hpq])
       have XW := Lib.hid (HX2.out.trans hx3)
       replace hf0 := XW.out.cellSome hf0
       have kf1 := HX2.out.cellSome hf1
       have kf2 := HX2.out.cellSome hf2
       have kvt := HX2.out.cellSome hvt
       replace hf1 := XW.out.cellSome hf1
       replace hf2 := XW.out.cellSome hf2
       replace hvt := XW.out.cellSome hvt
       have hfl : fb < w3.heap.size := World.block_lt_of_cell? _ _ hf0
       have hvl : vb < w3.heap.size := World.block_lt_of_cell? _ _ hvt
       have hBB : Boxed wr2 (w3.alloc (.cells #[.int .i64 (-y), .int .i64 1] 85)).drew w3.heap.size (-y) 1 := HB0.out.grow (Ext.drew _)
       have hk2 := hBB.ext
       clear hfe hkl hcm hz hpq hnu hvc
       have HKEEP := Lib.hid (fun (w' : World) (h : Ext wr2 w') => (⟨h.cellSome hcv2, h.cellSome kf1, h.cellSome kf2, h.cellSome kvt, h⟩ : w'.cell? ⟨w.heap.size, 1, none⟩ = some (.slice (some ⟨vb, voff, none⟩) n cap) ∧ w'.cell? ⟨fb, foff + k * 3 + 1, none⟩ = some (.int .i64 fx) ∧ w'.cell? ⟨fb, foff + k * 3 + 2, none⟩ = some (.int .i64 fy) ∧ w'.cell? ⟨vb, voff + t, none⟩ = some (.int .i64 z) ∧ Ext wr2 w'))
       clear kf1 kf2 kvt
       go_wp2_with fail
       go_region_held3 (fun w' => w'.cell? ⟨w.heap.size, 1, none⟩ = some (.slice (some ⟨vb, voff, none⟩) n cap) ∧ w'.cell? ⟨fb, foff + k * 3 + 1, none⟩ = some (.int .i64 fx) ∧ w'.cell? ⟨fb, foff + k * 3 + 2, none⟩ = some (.int .i64 fy) ∧ w'.cell? ⟨vb, voff + t, none⟩ = some (.int .i64 z) ∧ Ext wr2 w')
        (first
          | with_reducible exact HKEEP.out _ hk2
          | with_reducible exact HKEEP.out _ (hBB.put _ _).ext)
        (first
          | (go_at_call 81
             (with_reducible refine (s_l3Int _ _).mono ?_)
             rintro e w4 ⟨rfl, hx4⟩
             have hBB := hBB.grow hx4
             have hk2 := hBB.ext
             have hb0 := hBB.c0
             have hb1 := hBB.c1
             have hbf := hBB.free)
          | (go_at_call 165
             (with_reducible refine (s_SubRat _ _ _ _ _).mono ?_)
             rw [HPQ.out]
             rintro e w5 ⟨rfl, hx5⟩
             have hBB := hBB.grow hx5
             have hk2 := hBB.ext
             have hb0 := hBB.c0
             have hb1 := hBB.c1
             have hbf := hBB.free)
          | fail)
       go_wp2_with fail
       go_meet
       exact ⟨_, _, _, _, rfl, rfl, Lib.hid (hBB.put _ _), Lib.hid (by rw [if_pos (by omega)]; exact HSS.out), HPB⟩
      ·have hkf : k = fn := by omega
       subst hkf
       go_wp2_with fail
       go_meet
       exact ⟨_, _, _, _, rfl, rfl, HB0, Lib.hid (by
        rw [if_neg (by omega)]; unfold colsK colsL; rw [List.take_of_length_le (by rw [HFL.out]; exact Nat.le_refl _), HVL.out, ← HU.out, ← HY.out]; rw [hnu]), Lib.hid (by omega)⟩
     obtain ⟨S, g, p, q, rfl, rfl, HB, HS, HPB⟩ := hcut
     have hpb := HPB.out
     have hb0 := HB.out.c0
     have hb1 := HB.out.c1
     have XC := Lib.hid (HX2.out.trans HB.out.ext)
     have HOC := Lib.hid (HOK2.out.ext HB.out.ext)
     have HNE := Lib.hid (ownsRow_ne HOC.out HB.out.cell (by decide))
     have HCK := Lib.hid (HCL.out k)
     have hk1 : Ext W wc := XC.out
     have hk2 : Ext wc wc.drew := Ext.drew wc
     have hszc := XC.out.size
     rw [HWS.out] at hszc
     have HKEEP := Lib.hid (fun (w' : World) (h : Ext W w') (h0 : w'.cell? ⟨g, 0, none⟩ = some (.int .i64 p)) (h1 : w'.cell? ⟨g, 1, none⟩ = some (.int .i64 q)) => (⟨h0, h1, h⟩ : w'.cell? ⟨g, 0, none⟩ = some (.int .i64 p) ∧ w'.cell? ⟨g, 1, none⟩ = some (.int .i64 q) ∧ Ext W w'))
     clear hcv3 hcv2 hvc hnu
     go_wp2_with fail
     go_region_held3 (fun w' => w'.cell? ⟨g, 0, none⟩ = some (.int .i64 p) ∧ w'.cell? ⟨g, 1, none⟩ = some (.int .i64 q) ∧ Ext W w')
      (first
        | with_reducible exact HKEEP.out _ (hk1.trans hk2) (hk2.cellSome hb0) (hk2.cellSome hb1)
        | with_reducible exact HKEEP.out _ (hk1.trans (hk2.trans (Ext.alloc _ _))) ((hk2.trans (Ext.alloc _ _)).cellSome hb0) ((hk2.trans (Ext.alloc _ _)).cellSome hb1)
        | with_reducible exact HKEEP.out _ X5.out HC5.out HC6.out)
      (first
        | (go_at_call 83
           (with_reducible refine (s_l7Negated _ _ _ (by omega) (by omega)).mono ?_)
           rintro e w4 ⟨rfl, hx4⟩
           have hk2 : Ext wc w4 := hk2.trans hx4
           have hs4 := hk2.size)
        | (refine step_of_wp _ (by rfl) ?_
           refine wp_append_g colE Tryz.infoCol rfl Tryz.underlying127 (by decide) _ _ (by rfl) (w.heap.size + 1) (.slice a2 n2 p2) _ (by rfl) (HOC.out.ext (hk2.trans (Ext.alloc _ _))) _ 2 2 (twoC S (p, q)) (by rfl) (Slc.lit colE _ _ _ 2 (by rfl) _ (by rfl) _ (by rfl) (by omega)) (by have := HCK.out; omega) (by simp; omega) ?_
           intro v5 w5 ho hg hnear
           have HC5 := Lib.hid (hg.cell ((hk2.trans (Ext.alloc _ _)).cellSome hb0) HNE.out)
           have HC6 := Lib.hid (hg.cell ((hk2.trans (Ext.alloc _ _)).cellSome hb1) HNE.out)
           obtain ⟨a5, n5, p5, rfl, HN5⟩ := ho.var
           have HO5 := Lib.hid ho
           have X5 := Lib.hid (ext_grown (w0 := W) (XC.out.trans (hk2.trans (Ext.alloc _ _))) hg (fun j hj => by have := HOC.out.lt j hj; rw [HWS.out]; omega))
           clear ho hg hnear)
        | fail)
     clear hk1
     go_wp2_with fail
     go_roundg (g2 - 1)
     case measure => have := HK.out; omega
     case rel => exact ⟨k + 1, a5, n5, p5, Lib.hid (by have := HK.out; omega), by go_num, rfl, Lib.hid (by rw [← HS.out]; exact HO5.out), X5⟩
    ·have hkf : k = fn + 1 := by have := HK.out; omega
     have hnle : ¬ ((k : Int) ≤ (fn : Int)) := by omega
     rw [if_neg hle] at HOK2
     go_wp2_with fail
     go_ret
     exact ⟨⟨_, rfl, HOK2.out.mono (Nat.le_succ _)⟩, HX0.out.trans HX2.out⟩
theorem Ints.take {w : World} {a : Option Addr} {n cap : Nat} {l : List Int} (h : Ints w a n cap l) {k : Nat} (hk : k ≤ n) : Ints w a k cap (l.take k) :=
 ⟨by have := h.hlen; simp; omega, by have := h.hcap; omega, h.hmax, fun j hj => by
  obtain ⟨b, off, e, hc⟩ := h.cell j (by omega)
  refine ⟨b, off, e, fun i hi => ?_⟩
  rw [hc i (by omega), List.getElem?_take, if_pos hi]⟩
def pos (ord : List Int) (k : Nat) : Nat := (ord[k]?.getD 0).toNat
theorem game_bound {p : Int} {V : List Int} (h : gameOk p V = true) : ∀ i : Nat, -500 ≤ V[i]?.getD 0 ∧ V[i]?.getD 0 ≤ 500 := fun i => by
 obtain ⟨_, _, _, _, _, _, hVb⟩ := gameOk_len h
 by_cases hi : i < V.length
 ·have := hVb _ (List.getElem_mem hi); simpa [hi] using this
 ·simp [List.getElem?_eq_none (by omega : V.length ≤ i)]
end Go.Proofs.YtgohdmnbnhehnaaGreat
