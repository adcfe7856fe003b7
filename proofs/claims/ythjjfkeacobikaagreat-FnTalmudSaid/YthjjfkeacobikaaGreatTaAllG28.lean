import Derived.Test.YthjjfkeacobikaaGreatTaAllG27
import Derived.Test.YthjjfkeacobikaaGreatTaAllG43
import Derived.Test.YthjjfkeacobikaaGreatTaAllG6
import Derived.Lib.SliceRun
import Derived.Test.YthjjfkeacobikaaGreatTaAllG5
import Derived.Test.YthjjfkeacobikaaGreatTaAllG11
import Derived.Test.YthjjfkeacobikaaGreatTaAllG8
import Derived.Test.YthjjfkeacobikaaGreatTaAllG7
import Derived.Test.YthjjfkeacobikaaGreatTaAllG19
import Derived.Test.YthjjfkeacobikaaGreatTaAllG12
import Derived.Test.YthjjfkeacobikaaGreatTaAllG15
import Derived.Test.YthjjfkeacobikaaGreatTaAllG16
set_option linter.unusedVariables false
set_option linter.unusedSimpArgs false
namespace Go.Proofs.YthjjfkeacobikaaGreat
set_option maxRecDepth 100000
open Go.RowKit
structure Kept (p : Int → Bool) (l M : List Int) (i j : Nat) : Prop where
 len : M.length = l.length
 le : i ≤ j
 jl : j ≤ l.length
 lo : M.take i = (l.take j).filter fun x => !p x
 hi : ∀ k, j ≤ k → M[k]?.getD 0 = l[k]?.getD 0
theorem ratOf_fail {n d : Int} (h : (ratOf n d).2 = false) : (ratOf n d).1 = (0, 0) := by
 have hc : ∀ p, (cutR p).2 = false → (cutR p).1 = (0, 0) := fun p h => by unfold cutR at h ⊢; split at h <;> simp_all
 unfold ratOf at h ⊢
 split at h
 ·next h1 => rw [if_pos h1]
 ·next h1 =>
  rw [if_neg h1]
  split at h
  ·next h2 => rw [if_pos h2]; exact hc _ h
  ·next h2 => rw [if_neg h2]; exact hc _ h
theorem ratOf_bd9 (n d : Int) : -1000000000 ≤ (ratOf n d).1.1 ∧ (ratOf n d).1.1 ≤ 1000000000 := by
 cases h : (ratOf n d).2
 ·rw [ratOf_fail h]; simp
 ·have := valR_bd (ratOf_val h); omega
theorem subR_bd9 (a b : Int × Int) : -1000000000 ≤ (subR a b).1.1 ∧ (subR a b).1.1 ≤ 1000000000 := by
 unfold subR; split
 ·exact ratOf_bd9 _ _
 ·simp
abbrev Col := Int × Int × Bool × Int × Int
def colE : Enc Col := ⟨fun x => [.int .i64 x.1, .int .i64 x.2.1, .bool x.2.2.1, .int .i64 x.2.2.2.1, .int .i64 x.2.2.2.2], 5, fun _ => rfl, by omega, fun x u h => by simp only [List.mem_cons, List.not_mem_nil, or_false] at h; rcases h with rfl | rfl | rfl | rfl | rfl <;> rfl⟩
theorem Tryz.infoCol : (Tryz.prog.info? 175).map (fun i => (i.zero, i.size, i.bytes)) = some (some (.agg #[.int .i64 0, .int .i64 0, .bool false, .int .i64 0, .int .i64 0]), 5, 40) := by kernel_rfl
def costC (V : List Int) (f : Int × Int × Int) : Int × Int := (subR f.2 (V[f.1.toNat]?.getD 0, 1)).1
def twoC (s : Int) (c : Int × Int) : List Col := [(s, 1, false, c.1, c.2), (s, -1, false, -c.1, c.2)]
def frontC (V : List Int) (l : List Int) : List Col := l.map fun s => (s, 1, true, -(V[s.toNat]?.getD 0), 1)
def fixedC (V : List Int) (L : List (Int × Int × Int)) : List Col := L.flatMap fun f => twoC f.1 (costC V f)
def colsL (V : List Int) (L : List (Int × Int × Int)) : List Col := frontC V (freeL L (V.length - 2)) ++ fixedC V L ++ twoC ((V.length : Int) - 1) (-(V[V.length - 1]?.getD 0), 1)
def colsK (V : List Int) (L : List (Int × Int × Int)) (k : Nat) : List Col := frontC V (freeL L (V.length - 2)) ++ fixedC V (L.take k)
theorem frontC_snoc (V : List Int) {l : List Int} {k : Nat} (h : k < l.length) : frontC V (l.take k) ++ [(l[k]?.getD 0, 1, true, -(V[(l[k]?.getD 0).toNat]?.getD 0), 1)] = frontC V (l.take (k + 1)) := by
 rw [take_snoc h]; simp [frontC]
theorem frontC_len (V : List Int) (l : List Int) : (frontC V l).length = l.length := by simp [frontC]
theorem fixedC_len (V : List Int) : ∀ L : List (Int × Int × Int), (fixedC V L).length = 2 * L.length
 | [] => rfl
 | f :: L => by
   have := fixedC_len V L
   simp only [fixedC, List.flatMap_cons, List.length_append, twoC, List.length_cons, List.length_nil] at this ⊢
   omega
theorem colsK_snoc (V : List Int) {L : List (Int × Int × Int)} {k : Nat} (h : k < L.length) {f : Int × Int × Int} (e : L[k]?.getD (0, 0, 0) = f) : colsK V L k ++ twoC f.1 (costC V f) = colsK V L (k + 1) := by
 subst e
 unfold colsK fixedC
 rw [take_snocX h]
 simp
theorem OwnI.grownG {w w' : World} {base base' : Nat} {v v' : Value} {l : List Int} {α : Type} {E : Enc α} {t : TypeId} {l' : List α} (h : OwnI w base v l) (h' : OwnG E t w base' v' l') (hne : 3 ≠ t) (hg : w.grownBy w' v'.ownBlock) : OwnI w' base v l :=
 h.keep fun k hk => hg.block k (h.lt k hk).2 fun e => ownsRow_apart hne h h' k hk e.symm
set_option maxHeartbeats 8000000 in
theorem s_l16Columns {w : World} (x : Int) {a : Option Addr} {n cap : Nat} {V : List Int} (hV : Ints w a n cap V) (hVb : ∀ y ∈ V, -500 ≤ y ∧ y ≤ 500) (h2 : 2 ≤ n) (hn : n ≤ 1000) {fa : Option Addr} {fn fcap : Nat} {L : List (Int × Int × Int)} (h : Fixs w fa fn fcap L) (hL : ∀ f ∈ L, 1 ≤ f.1 ∧ f.1 + 2 ≤ n) (hfn : fn ≤ 1048576) :
 Calls Tryz.prog 186 #[pair x a n cap, .slice fa fn fcap] w fun e w' => (∃ v, e = .returned v ∧ OwnG colE 175 w' w.heap.size v (colsL V L)) ∧ Ext w w' := by
 obtain ⟨W, hW⟩ : ∃ W, W = w.alloc (.cells #[.int .i64 x, .slice a n cap] 29) := ⟨_, rfl⟩
 have HW := Lib.hid hW
 have HWS := Lib.hid (show W.heap.size = w.heap.size + 1 by rw [hW]; simp)
 have HX0 := Lib.hid (show Ext w W by rw [hW]; exact Ext.alloc _ _)
 have HWC := Lib.hid (show W.cell? ⟨w.heap.size, 1, none⟩ = some (.slice a n cap) by rw [hW]; simp)
 have HWD := Lib.hid (show W.cell? ⟨w.heap.size, 0, none⟩ = some (.int .i64 x) by rw [hW]; simp)
 have HVL := Lib.hid hV.hlen
 have hvcap := hV.hcap
 have hvmax := hV.hmax
 have hfcap := h.hcap
 have hfmax := h.hmax
 have HV := Lib.hid (hV.ext HX0.out)
 have HVB := Lib.hid hVb
 have HFL := Lib.hid h.hlen
 have HF := Lib.hid (h.ext HX0.out)
 have HLB := Lib.hid hL
 have HO := Lib.hid (OwnG.madeS colE 175 W (w.heap.size + 1) (w.heap.size + 1) HWS.out.symm (by rw [HWS.out]; exact Nat.le_refl _))
 have HFRE := Lib.hid (s_l16Free (w := W.alloc (.cells #[] 175)) x a n cap hn (HF.out.ext (Ext.alloc _ _)))
 have HML := Lib.hid (freeL_len L (n - 2))
 have HMM := Lib.hid (fun s => freeL_mem (L := L) (m := n - 2) (s := s))
 rw [hW] at HFRE
 clear h hL hV hVb
 go_enter Tryz.func186, Tryz.ntmps186
 go_wp2_with fail
 refine HFRE.out.mono ?_
 rw [← hW]
 clear hW
 rintro e w1 ⟨⟨vf, rfl, hfo⟩, hx1⟩
 obtain ⟨af, m, cf, rfl, hfm⟩ := hfo.var
 have HFO := Lib.hid (hfo.mono (base' := w.heap.size + 1) (by rw [World.size_alloc, HWS.out]; omega))
 have HFM := Lib.hid hfm.out
 have X1 := Lib.hid ((Ext.alloc W _).trans hx1)
 have HO1 := Lib.hid (HO.out.ext hx1)
 have hmcap := hfo.ints.hcap
 have hmmax := hfo.ints.hmax
 have hmb : m ≤ 1000 := by have := HML.out; have := HFM.out; omega
 clear hfo hx1 hfm HFRE
 go_wp2_with fail
 go_loopg [5, 7] m (fun gk oo ii wr => ∃ (k : Nat) (a1 : Option Addr) (n1 p1 : Nat), Hid (gk + k = m) ∧ ii = .int .i64 (k : Int) ∧ oo = .slice a1 n1 p1 ∧ Hid (OwnG colE 175 wr (w.heap.size + 1) (.slice a1 n1 p1) (frontC V ((freeL L (n - 2)).take k))) ∧ Hid (OwnI wr (w.heap.size + 1) (.slice af m cf) (freeL L (n - 2))) ∧ Hid (Ext W wr))
 case atStart => exact ⟨0, _, _, _, Lib.hid (by omega), rfl, rfl, HO1, HFO, X1⟩
 case round =>
  obtain ⟨g1, h_g1⟩ : ∃ x, x = gk := ⟨_, rfl⟩
  subst h_g1
  obtain ⟨wr1, h_wr1⟩ : ∃ x, x = wr := ⟨_, rfl⟩
  subst h_wr1
  obtain ⟨k, a1, n1, p1, HK, rfl, rfl, HOK, HFK, HX⟩ := hrel
  have hsz := HX.out.size
  rw [HWS.out] at hsz
  have hcv : wr1.cell? ⟨w.heap.size, 1, none⟩ = some (.slice a n cap) := HX.out.cellSome HWC.out
  by_cases hlt : k < m
  ·obtain ⟨b, off, he, hsc⟩ := HFK.out.ints.at hlt
   subst he
   obtain ⟨s, hs⟩ : ∃ s, s = (freeL L (n - 2))[k]?.getD 0 := ⟨_, rfl⟩
   rw [← hs] at hsc
   have hkl : k < (freeL L (n - 2)).length := by rw [HFM.out]; exact hlt
   have hsm := HMM.out s (by rw [hs, List.getElem?_eq_getElem hkl]; exact List.getElem_mem hkl)
   obtain ⟨t, rfl⟩ : ∃ t : Nat, s = t := ⟨s.toNat, by omega⟩
   have htn : t < n := by omega
   obtain ⟨vb, voff, hve, hvc⟩ := HV.out.at htn
   subst hve
   have hyb := getD_bd HVB.out t
   obtain ⟨y, hy⟩ : ∃ y, y = V[t]?.getD 0 := ⟨_, rfl⟩
   rw [← hy] at hvc hyb
   have HVC := Lib.hid hvc
   replace hvc := HX.out.cellSome hvc
   have HSN := Lib.hid (show frontC V ((freeL L (n - 2)).take k) ++ [((t : Int), 1, true, -y, 1)] = frontC V ((freeL L (n - 2)).take (k + 1)) by
    rw [← frontC_snoc V hkl, ← hs, hy]; rfl)
   have hwn : IntKind.i64.wrap (-y) = -y := by rw [IntKind.wrap_i64]; omega
   have HLK := Lib.hid (show (frontC V ((freeL L (n - 2)).take k)).length ≤ 1000 by rw [frontC_len, List.length_take]; have := HML.out; omega)
   have hk2 : Ext wr1 wr1.drew := Ext.drew wr1
   clear hs hsm hy hkl
   have HNE := Lib.hid (show some b ≠ (Value.slice a1 n1 p1).ownBlock from fun e => ownsRow_apart (by decide) HFK.out HOK.out b rfl e.symm)
   have hk1 : Ext W wr1 := HX.out
   have HKEEP := Lib.hid (fun (w' : World) (h : Ext W w') (hc : w'.cell? ⟨b, off + k, none⟩ = some (.int .i64 (t : Int))) => (⟨h.cellSome HWC.out, hc, h.cellSome HVC.out, h⟩ : w'.cell? ⟨w.heap.size, 1, none⟩ = some (.slice (some ⟨vb, voff, none⟩) n cap) ∧ w'.cell? ⟨b, off + k, none⟩ = some (.int .i64 (t : Int)) ∧ w'.cell? ⟨vb, voff + t, none⟩ = some (.int .i64 y) ∧ Ext W w'))
   go_wp2_with fail
   go_region_held3 (fun w' => w'.cell? ⟨w.heap.size, 1, none⟩ = some (.slice (some ⟨vb, voff, none⟩) n cap) ∧ w'.cell? ⟨b, off + k, none⟩ = some (.int .i64 (t : Int)) ∧ w'.cell? ⟨vb, voff + t, none⟩ = some (.int .i64 y) ∧ Ext W w')
    (first
      | with_reducible exact HKEEP.out _ (hk1.trans hk2) (hk2.cellSome hsc)
      | with_reducible exact HKEEP.out _ (hk1.trans (hk2.trans (Ext.alloc _ _))) ((hk2.trans (Ext.alloc _ _)).cellSome hsc)
      | with_reducible exact HKEEP.out _ X5.out HC5.out)
    (first
      | (go_at_call 86
         (with_reducible refine (s_l3Int _ _).mono ?_)
         rintro e w3 ⟨rfl, hx3⟩
         have hk2 : Ext wr1 w3 := hk2.trans hx3
         have hs3 := hk2.size)
      | (refine step_of_wp _ (by rfl) ?_
         refine wp_append_g colE Tryz.infoCol rfl Tryz.underlying172 (by decide) _ _ (by rfl) (w.heap.size + 1) (.slice a1 n1 p1) _ (by rfl) (HOK.out.ext (hk2.trans (Ext.alloc _ _))) _ 1 1 [((t : Int), 1, true, -y, 1)] (by rfl) (Slc.lit colE _ _ _ 1 (by rfl) _ (by rfl) _ (by rfl) (by omega)) (by have := HLK.out; omega) (by simp; omega) ?_
         intro v5 w5 ho hg hnear
         have HFN := Lib.hid ((HFK.out.ext (hk2.trans (Ext.alloc _ _))).grownG (HOK.out.ext (hk2.trans (Ext.alloc _ _))) (by decide) hg)
         have HC5 := Lib.hid (hg.cell ((hk2.trans (Ext.alloc _ _)).cellSome hsc) HNE.out)
         obtain ⟨a5, n5, p5, rfl, HN5⟩ := ho.var
         have HO5 := Lib.hid ho
         have X5 := Lib.hid (ext_grown (w0 := W) (HX.out.trans (hk2.trans (Ext.alloc _ _))) hg (fun j hj => by have := HOK.out.lt j hj; rw [HWS.out]; omega))
         clear ho hg hnear)
      | fail)
   clear hk1
   go_wp2_with fail
   go_roundg (g1 - 1)
   case measure => have := HK.out; omega
   case rel => exact ⟨k + 1, a5, n5, p5, Lib.hid (by have := HK.out; omega), by go_num, rfl, Lib.hid (by rw [← HSN.out]; exact HO5.out), HFN, X5⟩
  ·have hkm : k = m := by have := HK.out; omega
   subst hkm
   have HST := Lib.hid (show frontC V ((freeL L (n - 2)).take k) = colsK V L 0 by
    have : (freeL L (n - 2)).take k = freeL L (n - 2) := List.take_of_length_le (by rw [HFM.out]; exact Nat.le_refl _)
    rw [this]; unfold colsK; rw [HVL.out]; simp [fixedC])
   rw [HST.out] at HOK
   have HCL := Lib.hid (fun j => show (colsK V L j).length ≤ 1000 + 2 * fn by
    unfold colsK; rw [List.length_append, frontC_len, fixedC_len, List.length_take, HVL.out]; have := HML.out; have := HFL.out; omega)
   clear HFM HFK HK
   go_wp2_with fail
   go_loopg [5, 8] (fn + 1) (fun gk oo ii wr => ∃ (k : Nat) (a1 : Option Addr) (n1 p1 : Nat), Hid (gk + k = fn + 1) ∧ ii = .int .i64 (k : Int) ∧ oo = .slice a1 n1 p1 ∧ Hid (OwnG colE 175 wr (w.heap.size + 1) (.slice a1 n1 p1) (if k ≤ fn then colsK V L k else colsL V L)) ∧ Hid (Ext W wr))
   case atStart => exact ⟨0, _, _, _, Lib.hid (by omega), rfl, rfl, Lib.hid (by rw [if_pos (by omega)]; exact HOK.out), HX⟩
   case round =>
    obtain ⟨g2, h_g2⟩ : ∃ x, x = gk := ⟨_, rfl⟩
    subst h_g2
    obtain ⟨wr2, h_wr2⟩ : ∃ x, x = wr := ⟨_, rfl⟩
    subst h_wr2
    obtain ⟨k, a2, n2, p2, HK, rfl, rfl, HOK2, HX2⟩ := hrel
    have hsz2 := HX2.out.size
    rw [HWS.out] at hsz2
    have hcv2 : wr2.cell? ⟨w.heap.size, 1, none⟩ = some (.slice a n cap) := HX2.out.cellSome HWC.out
    by_cases hle : k ≤ fn
    ·rw [if_pos hle] at HOK2
     obtain ⟨u, hu⟩ : ∃ u, u = n - 1 := ⟨_, rfl⟩
     have hnu : (n : Int) - 1 = (u : Int) := by omega
     have hun : u < n := by omega
     obtain ⟨vb, voff, hve, hvc⟩ := HV.out.at hun
     subst hve
     have hyb := getD_bd HVB.out u
     obtain ⟨y, hy⟩ : ∃ y, y = V[u]?.getD 0 := ⟨_, rfl⟩
     rw [← hy] at hvc hyb
     have HVC := Lib.hid hvc
     replace hvc := HX2.out.cellSome hvc
     have HU := Lib.hid hu
     have HY := Lib.hid hy
     have hwn : IntKind.i64.wrap (-y) = -y := by rw [IntKind.wrap_i64]; omega
     clear hu hy
     go_upto_if 59 with (first | (go_at_call 86; refine (s_l3Int _ _).mono ?_; rintro e w3 ⟨rfl, hx3⟩; have hs3 := hx3.size))
     have HB0 := Lib.hid (Boxed.new hx3 (-y) 1)
     have hcv3 := hx3.cellSome hcv2
     go_cut [9, 10] (fun ss cc wx => ∃ (S : Int) (g : Nat) (p q : Int), ss = .int .i64 S ∧ cc = .pointer (some ⟨g, 0, none⟩) ∧ Hid (Boxed wr2 wx g p q) ∧ Hid (colsK V L k ++ twoC S (p, q) = if k + 1 ≤ fn then colsK V L (k + 1) else colsL V L) ∧ Hid (-1000000000 ≤ p ∧ p ≤ 1000000000))
     case first =>
      by_cases hlt2 : k < fn
      ·obtain ⟨fb, foff, c, fx, fy, hfa, hfe, hf0, hf1, hf2⟩ := HF.out.at hlt2
       subst hfa
       have hkl : k < L.length := by rw [HFL.out]; exact hlt2
       have hcm := HLB.out (c, fx, fy) (by rw [← hfe, List.getElem?_eq_getElem hkl]; exact List.getElem_mem hkl)
       simp only at hcm
       obtain ⟨t, rfl⟩ : ∃ t : Nat, c = t := ⟨c.toNat, by omega⟩
       have htn : t < n := by omega
       obtain ⟨vb', voff', hve, hvt⟩ := HV.out.at htn
       simp only [Option.some.injEq, Addr.mk.injEq, and_true] at hve
       obtain ⟨rfl, rfl⟩ := hve
       obtain ⟨z, hz⟩ : ∃ z, z = V[t]?.getD 0 := ⟨_, rfl⟩
       rw [← hz] at hvt
       obtain ⟨p, q, ok, hpq⟩ : ∃ p q ok, subR (fx, fy) (z, 1) = ((p, q), ok) := ⟨_, _, _, rfl⟩
       have HPQ := Lib.hid hpq
       have HPB := Lib.hid (show -1000000000 ≤ p ∧ p ≤ 1000000000 by have := subR_bd9 (fx, fy) (z, 1); rw [hpq] at this; exact this)
       have HSS := Lib.hid (show colsK V L k ++ twoC (t : Int) (p, q) = colsK V L (k + 1) by
        rw [← colsK_snoc V hkl hfe]; unfold costC; simp only; rw [show ((t : Int)).toNat = t by simp, ← hz, hpq])
       have XW := Lib.hid (HX2.out.trans hx3)
       replace hf0 := XW.out.cellSome hf0
       have kf1 := HX2.out.cellSome hf1
       have kf2 := HX2.out.cellSome hf2
       have kvt := HX2.out.cellSome hvt
       replace hf1 := XW.out.cellSome hf1
       replace hf2 := XW.out.cellSome hf2
       replace hvt := XW.out.cellSome hvt
       have hfl : fb < w3.heap.size := World.block_lt_of_cell? _ _ hf0
       have hvl : vb < w3.heap.size := World.block_lt_of_cell? _ _ hvt
       have hBB : Boxed wr2 (w3.alloc (.cells #[.int .i64 (-y), .int .i64 1] 43)).drew w3.heap.size (-y) 1 := HB0.out.grow (Ext.drew _)
       have hk2 := hBB.ext
       clear hfe hkl hcm hz hpq hnu hvc
       have HKEEP := Lib.hid (fun (w' : World) (h : Ext wr2 w') => (⟨h.cellSome hcv2, h.cellSome kf1, h.cellSome kf2, h.cellSome kvt, h⟩ : w'.cell? ⟨w.heap.size, 1, none⟩ = some (.slice (some ⟨vb, voff, none⟩) n cap) ∧ w'.cell? ⟨fb, foff + k * 3 + 1, none⟩ = some (.int .i64 fx) ∧ w'.cell? ⟨fb, foff + k * 3 + 2, none⟩ = some (.int .i64 fy) ∧ w'.cell? ⟨vb, voff + t, none⟩ = some (.int .i64 z) ∧ Ext wr2 w'))
       clear kf1 kf2 kvt
       go_wp2_with fail
       go_region_held3 (fun w' => w'.cell? ⟨w.heap.size, 1, none⟩ = some (.slice (some ⟨vb, voff, none⟩) n cap) ∧ w'.cell? ⟨fb, foff + k * 3 + 1, none⟩ = some (.int .i64 fx) ∧ w'.cell? ⟨fb, foff + k * 3 + 2, none⟩ = some (.int .i64 fy) ∧ w'.cell? ⟨vb, voff + t, none⟩ = some (.int .i64 z) ∧ Ext wr2 w')
        (first
          | with_reducible exact HKEEP.out _ hk2
          | with_reducible exact HKEEP.out _ (hBB.put _ _).ext)
        (first
          | (go_at_call 86
             (with_reducible refine (s_l3Int _ _).mono ?_)
             rintro e w4 ⟨rfl, hx4⟩
             have hBB := hBB.grow hx4
             have hk2 := hBB.ext
             have hb0 := hBB.c0
             have hb1 := hBB.c1
             have hbf := hBB.free)
          | (go_at_call 184
             (with_reducible refine (s_SubRat _ _ _ _ _).mono ?_)
             rw [HPQ.out]
             rintro e w5 ⟨rfl, hx5⟩
             have hBB := hBB.grow hx5
             have hk2 := hBB.ext
             have hb0 := hBB.c0
             have hb1 := hBB.c1
             have hbf := hBB.free)
          | fail)
       go_wp2_with fail
       go_meet
       exact ⟨_, _, _, _, rfl, rfl, Lib.hid (hBB.put _ _), Lib.hid (by rw [if_pos (by omega)]; exact HSS.out), HPB⟩
      ·have hkf : k = fn := by omega
       subst hkf
       go_wp2_with fail
       go_meet
       exact ⟨_, _, _, _, rfl, rfl, HB0, Lib.hid (by
        rw [if_neg (by omega)]; unfold colsK colsL; rw [List.take_of_length_le (by rw [HFL.out]; exact Nat.le_refl _), HVL.out, ← HU.out, ← HY.out]; rw [hnu]), Lib.hid (by omega)⟩
     obtain ⟨S, g, p, q, rfl, rfl, HB, HS, HPB⟩ := hcut
     have hpb := HPB.out
     have hb0 := HB.out.c0
     have hb1 := HB.out.c1
     have XC := Lib.hid (HX2.out.trans HB.out.ext)
     have HOC := Lib.hid (HOK2.out.ext HB.out.ext)
     have HNE := Lib.hid (ownsRow_ne HOC.out HB.out.cell (by decide))
     have HCK := Lib.hid (HCL.out k)
     have hk1 : Ext W wc := XC.out
     have hk2 : Ext wc wc.drew := Ext.drew wc
     have hszc := XC.out.size
     rw [HWS.out] at hszc
     have HKEEP := Lib.hid (fun (w' : World) (h : Ext W w') (h0 : w'.cell? ⟨g, 0, none⟩ = some (.int .i64 p)) (h1 : w'.cell? ⟨g, 1, none⟩ = some (.int .i64 q)) => (⟨h0, h1, h⟩ : w'.cell? ⟨g, 0, none⟩ = some (.int .i64 p) ∧ w'.cell? ⟨g, 1, none⟩ = some (.int .i64 q) ∧ Ext W w'))
     clear hcv3 hcv2 hvc hnu
     go_wp2_with fail
     go_region_held3 (fun w' => w'.cell? ⟨g, 0, none⟩ = some (.int .i64 p) ∧ w'.cell? ⟨g, 1, none⟩ = some (.int .i64 q) ∧ Ext W w')
      (first
        | with_reducible exact HKEEP.out _ (hk1.trans hk2) (hk2.cellSome hb0) (hk2.cellSome hb1)
        | with_reducible exact HKEEP.out _ (hk1.trans (hk2.trans (Ext.alloc _ _))) ((hk2.trans (Ext.alloc _ _)).cellSome hb0) ((hk2.trans (Ext.alloc _ _)).cellSome hb1)
        | with_reducible exact HKEEP.out _ X5.out HC5.out HC6.out)
      (first
        | (go_at_call 88
           (with_reducible refine (s_l7Negated _ _ _ (by omega) (by omega)).mono ?_)
           rintro e w4 ⟨rfl, hx4⟩
           have hk2 : Ext wc w4 := hk2.trans hx4
           have hs4 := hk2.size)
        | (refine step_of_wp _ (by rfl) ?_
           refine wp_append_g colE Tryz.infoCol rfl Tryz.underlying172 (by decide) _ _ (by rfl) (w.heap.size + 1) (.slice a2 n2 p2) _ (by rfl) (HOC.out.ext (hk2.trans (Ext.alloc _ _))) _ 2 2 (twoC S (p, q)) (by rfl) (Slc.lit colE _ _ _ 2 (by rfl) _ (by rfl) _ (by rfl) (by omega)) (by have := HCK.out; omega) (by simp; omega) ?_
           intro v5 w5 ho hg hnear
           have HC5 := Lib.hid (hg.cell ((hk2.trans (Ext.alloc _ _)).cellSome hb0) HNE.out)
           have HC6 := Lib.hid (hg.cell ((hk2.trans (Ext.alloc _ _)).cellSome hb1) HNE.out)
           obtain ⟨a5, n5, p5, rfl, HN5⟩ := ho.var
           have HO5 := Lib.hid ho
           have X5 := Lib.hid (ext_grown (w0 := W) (XC.out.trans (hk2.trans (Ext.alloc _ _))) hg (fun j hj => by have := HOC.out.lt j hj; rw [HWS.out]; omega))
           clear ho hg hnear)
        | fail)
     clear hk1
     go_wp2_with fail
     go_roundg (g2 - 1)
     case measure => have := HK.out; omega
     case rel => exact ⟨k + 1, a5, n5, p5, Lib.hid (by have := HK.out; omega), by go_num, rfl, Lib.hid (by rw [← HS.out]; exact HO5.out), X5⟩
    ·have hkf : k = fn + 1 := by have := HK.out; omega
     have hnle : ¬ ((k : Int) ≤ (fn : Int)) := by omega
     rw [if_neg hle] at HOK2
     go_wp2_with fail
     go_ret
     exact ⟨⟨_, rfl, HOK2.out.mono (Nat.le_succ _)⟩, HX0.out.trans HX2.out⟩
theorem Fixs.take {w : World} {a : Option Addr} {n cap : Nat} {l : List (Int × Int × Int)} (h : Fixs w a n cap l) {k : Nat} (hk : k ≤ n) : Fixs w a k cap (l.take k) :=
 ⟨by have := h.hlen; simp; omega, by have := h.hcap; omega, h.hmax, fun j hj => by
  obtain ⟨b, off, e, hc⟩ := h.cell j (by omega)
  refine ⟨b, off, e, fun i hi => ?_⟩
  have := hc i (by omega)
  rwa [List.getElem?_take, if_pos hi]⟩
theorem Fixs.drewN {w : World} {a : Option Addr} {n cap : Nat} {l : List (Int × Int × Int)} (h : Fixs w a n cap l) (m : Nat) : Fixs (w.drewN m) a n cap l := h.ext (below_drewN (Ext.refl w) m)
def ordX (L : List (Int × Int × Int)) (hi : Int) (k : Nat) : Bool := (List.range k).all fun i => inB (L[i]?.getD (0, 0, 0)).1 1 hi && !hasX (L.take i) (L[i]?.getD (0, 0, 0)).1
theorem ordX_succ (L : List (Int × Int × Int)) (hi : Int) (k : Nat) : ordX L hi (k + 1) = (ordX L hi k && (inB (L[k]?.getD (0, 0, 0)).1 1 hi && !hasX (L.take k) (L[k]?.getD (0, 0, 0)).1)) := by simp [ordX, List.range_succ]
theorem ordX_false {L : List (Int × Int × Int)} {hi : Int} {k m : Nat} (h : (inB (L[k]?.getD (0, 0, 0)).1 1 hi && !hasX (L.take k) (L[k]?.getD (0, 0, 0)).1) = false) (hk : k < m) : ordX L hi m = false := by
 rw [ordX, List.all_eq_false]; exact ⟨k, List.mem_range.2 hk, by rw [h]; simp⟩
theorem ordX_mem {L : List (Int × Int × Int)} {hi : Int} (h : ordX L hi L.length = true) : ∀ f ∈ L, 1 ≤ f.1 ∧ f.1 ≤ hi := by
 intro f hf
 obtain ⟨k, hk, rfl⟩ := List.getElem_of_mem hf
 have := (List.all_eq_true.1 h) k (List.mem_range.2 hk)
 rw [List.getElem?_eq_getElem hk] at this
 simp only [Option.getD_some, Bool.and_eq_true, inB, decide_eq_true_eq] at this
 exact this.1
def goodL (p : Int) (V : List Int) (L : List (Int × Int × Int)) : Bool := gameOk p V && (decide (2 ≤ p) && (ordX L ((V.length : Int) - 2) L.length && decide (0 < (freeL L (V.length - 2)).length)))
theorem cN_ge {n : Nat} (h2 : 2 ≤ n) (h5 : n ≤ 5) : 4 ≤ cN n := by
 have : n = 2 ∨ n = 3 ∨ n = 4 ∨ n = 5 := by omega
 rcases this with rfl | rfl | rfl | rfl <;> decide
set_option maxHeartbeats 4000000 in
theorem s_l16Good {w : World} {p : Int} {a : Option Addr} {n cap : Nat} {V : List Int} (hV : Ints w a n cap V) {fa : Option Addr} {fn fcap : Nat} {L : List (Int × Int × Int)} (h : Fixs w fa fn fcap L) (hfn : fn ≤ 1048576) :
 Calls Tryz.prog 185 #[pair p a n cap, .slice fa fn fcap] w fun e w' => e = .returned (.bool (goodL p V L)) ∧ Ext w w' := by
 obtain ⟨W, hW⟩ : ∃ W, W = w.alloc (.cells #[.int .i64 p, .slice a n cap] 29) := ⟨_, rfl⟩
 have HWS := Lib.hid (show W.heap.size = w.heap.size + 1 by rw [hW]; simp)
 have HX0 := Lib.hid (show Ext w W by rw [hW]; exact Ext.alloc _ _)
 have HWC := Lib.hid (show W.cell? ⟨w.heap.size, 1, none⟩ = some (.slice a n cap) by rw [hW]; simp)
 have HWD := Lib.hid (show W.cell? ⟨w.heap.size, 0, none⟩ = some (.int .i64 p) by rw [hW]; simp)
 have HVL := Lib.hid hV.hlen
 have hvcap := hV.hcap
 have hvmax := hV.hmax
 have hfcap := h.hcap
 have hfmax := h.hmax
 have HFL := Lib.hid h.hlen
 have HF := Lib.hid (h.ext HX0.out)
 have HC := Lib.hid (s_IsValidGame (p := p) (hV.ext HX0.out))
 have HVE := Lib.hid (hV.ext HX0.out)
 clear h hV
 cases hg : gameOk p V
 ·have HG := Lib.hid (show goodL p V L = false by unfold goodL; rw [hg]; rfl)
  rw [hg, hW] at HC
  clear hg
  go_enter Tryz.func185, Tryz.ntmps185
  go_wp2_with fail
  refine HC.out.mono ?_
  rw [← hW]
  rintro e w1 ⟨rfl, hx1⟩
  go_wp2_with fail
  go_ret
  exact ⟨ret_bool HG.out.symm, HX0.out.trans hx1⟩
 ·obtain ⟨q, hq, h1, h5, hlen, _, hvb⟩ := gameOk_len hg
  have HGO := Lib.hid hg
  rw [hg, hW] at HC
  clear hg
  by_cases hp2 : p < 2
  ·have HG := Lib.hid (show goodL p V L = false by unfold goodL; rw [HGO.out, decide_eq_false (by omega : ¬ 2 ≤ p)]; rfl)
   clear hq hlen hvb
   go_enter Tryz.func185, Tryz.ntmps185
   go_wp2_with fail
   refine HC.out.mono ?_
   rw [← hW]
   rintro e w1 ⟨rfl, hx1⟩
   have hc0 := hx1.cellSome HWD.out
   go_wp2_with fail
   go_ret
   exact ⟨ret_bool HG.out.symm, HX0.out.trans hx1⟩
  ·have hn4 : 4 ≤ n := by have := cN_ge (n := q) (by omega) h5; rw [← HVL.out, hlen]; exact this
   have hn32 : n ≤ 32 := by have := cN_le q h5; rw [← HVL.out, hlen]; exact this.2
   clear hq hlen hvb
   go_enter Tryz.func185, Tryz.ntmps185
   go_wp2_with fail
   refine HC.out.mono ?_
   rw [← hW]
   rintro e w1 ⟨rfl, hx1⟩
   have HX1 := Lib.hid hx1
   have hc0 := hx1.cellSome HWD.out
   clear hx1
   have HW := Lib.hid hW
   clear hW
   go_wp2_with fail
   clear hc0
   go_loopg [5] fn (fun gk ii wr => ∃ k : Nat, Hid (gk + k = fn) ∧ ii = .int .i64 (k : Int) ∧ Hid (ordX L ((n : Int) - 2) k = true) ∧ Hid (Ext W wr))
   case atStart => exact ⟨0, Lib.hid (by omega), rfl, Lib.hid rfl, HX1⟩
   case round =>
    obtain ⟨g1, h_g1⟩ : ∃ x, x = gk := ⟨_, rfl⟩
    subst h_g1
    obtain ⟨wr1, h_wr1⟩ : ∃ x, x = wr := ⟨_, rfl⟩
    subst h_wr1
    obtain ⟨k, HK, rfl, HO, HX⟩ := hrel
    have hcv : wr1.cell? ⟨w.heap.size, 1, none⟩ = some (.slice a n cap) := HX.out.cellSome HWC.out
    by_cases hlt : k < fn
    ·have HFW := Lib.hid (HF.out.ext HX.out)
     obtain ⟨b, off, c, x, y, rfl, hxy, hf0, hf1, hf2⟩ := HFW.out.at hlt
     have hwn : IntKind.i64.wrap ((n : Int) - 2) = (n : Int) - 2 := by rw [IntKind.wrap_i64]; omega
     cases hb : inB c 1 ((n : Int) - 2)
     ·have HG := Lib.hid (show goodL p V L = false by
       unfold goodL; rw [HFL.out, HVL.out, ordX_false (k := k) (m := fn) (by rw [hxy]; simp only; rw [hb]; rfl) hlt]; simp)
      clear hxy
      go_wp2
      go_quiet ((first | (go_at_call 95; exact quiet_same (s_l1In _ _ _ _))))
      go_wp2
      go_ret
      exact ⟨ret_bool HG.out.symm, HX0.out.trans (HX.out.trans (Drew.ext ⟨_, rfl⟩))⟩
     ·cases hh : hasX (L.take k) c
      ·have HN := Lib.hid (show ordX L ((n : Int) - 2) (k + 1) = true by rw [ordX_succ, HO.out, hxy]; simp only; rw [hb, hh]; rfl)
       clear hxy
       go_wp2
       go_quiet ((first | (go_at_call 95; exact quiet_same (s_l1In _ _ _ _)) | (go_at_call 187; exact quiet_same (s_l16Has ((HFW.out.drewN _).take (by omega)) _))))
       go_wp2
       go_roundg (g1 - 1)
       case measure => have := HK.out; omega
       case rel => exact ⟨k + 1, Lib.hid (by have := HK.out; omega), by go_num, HN, Lib.hid (HX.out.trans (Drew.ext ⟨_, rfl⟩))⟩
      ·have HG := Lib.hid (show goodL p V L = false by
        unfold goodL; rw [HFL.out, HVL.out, ordX_false (k := k) (m := fn) (by rw [hxy]; simp only; rw [hh]; simp) hlt]; simp)
       clear hxy
       go_wp2
       go_quiet ((first | (go_at_call 95; exact quiet_same (s_l1In _ _ _ _)) | (go_at_call 187; exact quiet_same (s_l16Has ((HFW.out.drewN _).take (by omega)) _))))
       go_wp2
       go_ret
       exact ⟨ret_bool HG.out.symm, HX0.out.trans (HX.out.trans (Drew.ext ⟨_, rfl⟩))⟩
    ·have hkf : k = fn := by have := HK.out; omega
     subst hkf
     have hcw : wr1.cell? ⟨w.heap.size, 0, none⟩ = some (.int .i64 p) := HX.out.cellSome HWD.out
     have HFR := Lib.hid (s_l16Free (w := wr1) p a n cap (by omega) (HF.out.ext HX.out))
     have HG := Lib.hid (show goodL p V L = decide (0 < (freeL L (n - 2)).length) by
      unfold goodL; rw [HGO.out, HFL.out, HVL.out, HO.out, decide_eq_true (show 2 ≤ p by omega)]; simp)
     go_wp2_with fail
     refine HFR.out.mono ?_
     rintro e w2 ⟨⟨v, rfl, ho⟩, hx2⟩
     obtain ⟨af, m, cf, rfl, hm⟩ := ho.var
     have HM := Lib.hid hm.out
     clear ho hm
     have hm0 : decide ((m : Int) > 0) = decide (0 < (freeL L (n - 2)).length) := by rw [HM.out]; rw [Bool.eq_iff_iff]; simp
     clear hm0
     go_wp2_with fail
     go_ret
     exact ⟨ret_bool (by rw [HG.out, HM.out]), HX0.out.trans (HX.out.trans hx2)⟩
def onC (q k : Nat) (c : Col) : Bool := if k < q then hasP c.1 (k : Int) else c.2.2.1
def rowC (cols : List Col) (q k : Nat) : List Int := cols.map fun c => c.2.1 * bitI (onC q k c)
def stA (q : Nat) (V : List Int) (L : List (Int × Int × Int)) : List (List Int) := (List.range (q + 1)).map (rowC (colsL V L) q)
def stB (q : Nat) : List Int := (List.range (q + 1)).map fun k => bitI (decide (k = q))
def stC (V : List Int) (L : List (Int × Int × Int)) : List (Int × Int) := (colsL V L).map fun c => c.2.2.2
def stOk (p : Int) (V : List Int) (L : List (Int × Int × Int)) : Bool := goodL p V L && allV (stC V L)
def stAx (p : Int) (V : List Int) (L : List (Int × Int × Int)) : List (List Int) := if stOk p V L = true then stA p.toNat V L else []
def stBx (p : Int) (V : List Int) (L : List (Int × Int × Int)) : List Int := if stOk p V L = true then stB p.toNat else []
def stCx (p : Int) (V : List Int) (L : List (Int × Int × Int)) : List (Int × Int) := if stOk p V L = true then stC V L else []
def LpRet (w : World) (base : Nat) (e : Ending) (A : List (List Int)) (B : List Int) (C : List (Int × Int)) (ok : Bool) : Prop :=
 ∃ va vb vc vs, e = .returned (.tuple #[.agg #[va, vb, vc], .bool ok]) ∧ OwnV w base va vs ∧ RowsI w base vs A ∧ OwnI w base vb B ∧ OwnR w base vc C ∧ OffV vs vb
theorem cols_mem {V : List Int} {L : List (Int × Int × Int)} {n : Nat} (hn : V.length = n) (h1 : 1 ≤ n) (hL : ∀ f ∈ L, 1 ≤ f.1 ∧ f.1 + 2 ≤ n) : ∀ c ∈ colsL V L, (c.2.1 = 1 ∨ c.2.1 = -1) ∧ 0 ≤ c.1 ∧ c.1 ≤ n := by
 intro c hc
 unfold colsL at hc
 simp only [List.mem_append] at hc
 rcases hc with (hc | hc) | hc
 ·obtain ⟨s, hs, rfl⟩ := List.mem_map.1 hc
  have := freeL_mem hs
  exact ⟨.inl rfl, by simp only; omega, by simp only; omega⟩
 ·obtain ⟨f, hf, h2⟩ := List.mem_flatMap.1 hc
  have := hL f hf
  simp only [twoC, List.mem_cons, List.not_mem_nil, or_false] at h2
  rcases h2 with rfl | rfl
  ·exact ⟨.inl rfl, by simp only; omega, by simp only; omega⟩
  ·exact ⟨.inr rfl, by simp only; omega, by simp only; omega⟩
 ·simp only [twoC, List.mem_cons, List.not_mem_nil, or_false] at hc
  rcases hc with rfl | rfl
  ·exact ⟨.inl rfl, by simp only; omega, by simp only; omega⟩
  ·exact ⟨.inr rfl, by simp only; omega, by simp only; omega⟩
theorem colsL_len (V : List Int) (L : List (Int × Int × Int)) : (colsL V L).length ≤ V.length + 2 * L.length + 2 := by
 unfold colsL
 have := freeL_len L (V.length - 2)
 rw [List.length_append, List.length_append, frontC_len, fixedC_len]
 simp only [twoC, List.length_cons, List.length_nil]; omega
theorem nat_beq {k q : Nat} {b : Bool} (h : b = decide (k = q)) : ((k : Int) == (q : Int)) = b := by
 subst h
 by_cases e : k = q
 ·subst e; simp
 ·rw [decide_eq_false e]; simp; omega
theorem map_take_snoc {α β : Type} (f : α → β) {l : List α} {k : Nat} {x : α} (h : l[k]? = some x) : (l.take k).map f ++ [f x] = (l.take (k + 1)).map f := by rw [take_snocG h]; simp
set_option maxHeartbeats 8000000 in
theorem s_StageLP {w : World} {p : Int} {a : Option Addr} {n cap : Nat} {V : List Int} (hV : Ints w a n cap V) {fa : Option Addr} {fn fcap : Nat} {L : List (Int × Int × Int)} (h : Fixs w fa fn fcap L) (hfn : fn ≤ 1048576) :
 Calls Tryz.prog 124 #[pair p a n cap, .slice fa fn fcap] w fun e w' =>
  LpRet w' w.heap.size e (stAx p V L) (stBx p V L) (stCx p V L) (stOk p V L) ∧ Ext w w' := by
 obtain ⟨W, hW⟩ : ∃ W, W = (w.alloc (.cells #[.int .i64 p, .slice a n cap] 29)).alloc (.cells #[.slice none 0 0, .slice none 0 0, .slice none 0 0] 109) := ⟨_, rfl⟩
 have HWS := Lib.hid (show W.heap.size = w.heap.size + 2 by rw [hW]; simp)
 have HX0 := Lib.hid (show Ext w W by rw [hW]; exact (Ext.alloc _ _).trans (Ext.alloc _ _))
 have HWC := Lib.hid (show W.cell? ⟨w.heap.size, 1, none⟩ = some (.slice a n cap) by rw [hW]; simp)
 have HWD := Lib.hid (show W.cell? ⟨w.heap.size, 0, none⟩ = some (.int .i64 p) by rw [hW]; simp)
 have HWR := Lib.hid (show W.heap[w.heap.size + 1]? = some (.cells #[.slice none 0 0, .slice none 0 0, .slice none 0 0] 109 (0, 0)) by rw [hW]; exact heapA_new _ _ _ (by simp))
 have HVL := Lib.hid hV.hlen
 have hvcap := hV.hcap
 have hvmax := hV.hmax
 have hfcap := h.hcap
 have hfmax := h.hmax
 have HFL := Lib.hid h.hlen
 have HF := Lib.hid (h.ext HX0.out)
 have HVE := Lib.hid (hV.ext HX0.out)
 have HC := Lib.hid (s_l16Good (p := p) (hV.ext HX0.out) (h.ext HX0.out) hfn)
 clear h hV
 cases hg : goodL p V L
 ·have HG := Lib.hid (show stOk p V L = false by unfold stOk; rw [hg]; rfl)
  rw [hg, hW] at HC
  clear hg
  go_enter Tryz.func124, Tryz.ntmps124
  go_wp2_with fail
  refine HC.out.mono ?_
  rw [← hW]
  rintro e w1 ⟨rfl, hx1⟩
  have hr0 : w1.cell? ⟨w.heap.size + 1, 0, none⟩ = some (.slice none 0 0) := by rw [cell_of_row w1 _ 0 _ _ _ ((hx1.block _ (by rw [HWS.out]; omega)).trans HWR.out)]; rfl
  have hr1 : w1.cell? ⟨w.heap.size + 1, 1, none⟩ = some (.slice none 0 0) := by rw [cell_of_row w1 _ 1 _ _ _ ((hx1.block _ (by rw [HWS.out]; omega)).trans HWR.out)]; rfl
  have hr2 : w1.cell? ⟨w.heap.size + 1, 2, none⟩ = some (.slice none 0 0) := by rw [cell_of_row w1 _ 2 _ _ _ ((hx1.block _ (by rw [HWS.out]; omega)).trans HWR.out)]; rfl
  have hrf : ∀ j, w1.frozen? ⟨w.heap.size + 1, j, none⟩ = false := fun j => frozen_of_row w1 _ j _ _ ((hx1.block _ (by rw [HWS.out]; omega)).trans HWR.out)
  have HX1 := Lib.hid (HX0.out.trans hx1)
  have hsz1 := hx1.size
  rw [HWS.out] at hsz1
  clear hx1
  go_wp2_with fail
  refine bodyPost_ret (v := .tuple #[.agg #[.slice none 0 0, .slice none 0 0, .slice none 0 0], .bool false]) (by simp [results, Tryz.results124, go_sem, hr0, hr1, hr2]) rfl ⟨⟨_, _, _, [], by rw [HG.out], OwnV.nil _ _, ?_, ?_, ?_, OffV.nil _⟩, ?_⟩
  ·unfold stAx; rw [HG.out, if_neg (by simp)]; exact RowsI.nil _ _
  ·unfold stBx; rw [HG.out, if_neg (by simp)]; exact OwnI.nil _ _
  ·unfold stCx; rw [HG.out, if_neg (by simp)]; exact OwnR.nil _ _
  ·exact ((HX1.out.setCell (by simp) _).setCell (by simp) _).setCell (by simp) _
 ·have hgo : gameOk p V = true ∧ 2 ≤ p ∧ ordX L ((V.length : Int) - 2) L.length = true := by
   unfold goodL at hg; simp only [Bool.and_eq_true, decide_eq_true_eq] at hg; exact ⟨hg.1, hg.2.1, hg.2.2.1⟩
  obtain ⟨q, rfl, h1, h5, hlen, _, hvb⟩ := gameOk_len hgo.1
  have h2q : 2 ≤ q := by omega
  have hn4 : 4 ≤ n := by have := cN_ge h2q h5; rw [← HVL.out, hlen]; exact this
  have hn32 : n ≤ 32 := by have := cN_le q h5; rw [← HVL.out, hlen]; exact this.2
  have hLb : ∀ f ∈ L, 1 ≤ f.1 ∧ f.1 + 2 ≤ n := fun f hf => by have := ordX_mem hgo.2.2 f hf; have := HVL.out; omega
  have HCO := Lib.hid (fun (w1 : World) (hx : Ext W w1) => s_l16Columns (w := w1) (q : Int) (HVE.out.ext hx) hvb (by omega) (by omega) (HF.out.ext hx) hLb hfn)
  have HOKS := Lib.hid (show stOk (q : Int) V L = allV (stC V L) by unfold stOk; rw [hg]; rfl)
  obtain ⟨cols, hcols⟩ : ∃ c, c = colsL V L := ⟨_, rfl⟩
  have HCM := Lib.hid (cols_mem HVL.out (by omega) hLb)
  have HCLN := Lib.hid (colsL_len V L)
  rw [← hcols] at HCO HCM HCLN
  have HCOLS := Lib.hid hcols
  rw [hg, hW] at HC
  clear hg hgo hlen hvb hLb hcols
  go_enter Tryz.func124, Tryz.ntmps124
  go_wp2_with fail
  refine HC.out.mono ?_
  rw [← hW]
  clear hW
  rintro e w1 ⟨rfl, hx1⟩
  have HX1 := Lib.hid hx1
  have hc0 := hx1.cellSome HWD.out
  have hc1 := hx1.cellSome HWC.out
  clear hx1 HC
  go_wp2_with fail
  clear hc0 hc1
  refine (HCO.out w1 HX1.out).mono ?_
  rintro e w2 ⟨⟨vcs, rfl, hoc⟩, hx2⟩
  obtain ⟨ac, m, cc, rfl, hm⟩ := hoc.var
  have HM := Lib.hid hm.out
  have HX2 := Lib.hid (HX1.out.trans hx2)
  have hsz2 := HX2.out.size
  rw [HWS.out] at hsz2
  have HOC := Lib.hid ((hoc.mono (base' := w.heap.size + 2) (by have := HX1.out.size; rw [HWS.out] at this; omega)).ext (Ext.alloc w2 (.cells #[.slice none 0 0, .slice none 0 0, .slice none 0 0] 109)))
  have hccap := hoc.slc.hcap
  have hcmax := hoc.slc.hmax
  have hmb : m ≤ 3000000 := by have h1 := HCLN.out; have h2 := HM.out; have h3 := HVL.out; have h4 := HFL.out; omega
  have HL0 := Lib.hid (LpO.new (w := w2) (base := w.heap.size + 2) hsz2)
  clear hoc hm hx2 HCO
  go_wp2_with fail
  go_loopg [8] (q + 1) (fun gk ii wr => ∃ (k : Nat) (va vb : Value) (vs : List Value), Hid (gk + k = q + 1) ∧ ii = .int .i64 (k : Int) ∧ Hid (LpO wr (w.heap.size + 2) w2.heap.size va vb (.slice none 0 0) vs ((List.range k).map (rowC cols q)) ((List.range k).map fun k => bitI (decide (k = q))) []) ∧ Hid (OwnG colE 175 wr (w.heap.size + 2) (.slice ac m cc) cols) ∧ Hid (Ext W wr))
  case atStart => exact ⟨0, _, _, _, Lib.hid (by omega), rfl, HL0, HOC, Lib.hid (HX2.out.trans (Ext.alloc _ _))⟩
  case round =>
   obtain ⟨g1, h_g1⟩ : ∃ x, x = gk := ⟨_, rfl⟩
   subst h_g1
   obtain ⟨wr1, h_wr1⟩ : ∃ x, x = wr := ⟨_, rfl⟩
   subst h_wr1
   obtain ⟨k, va, vb, vs, HK, rfl, HLP, HOK, HX⟩ := hrel
   have hszr := HX.out.size
   rw [HWS.out] at hszr
   have hcp : wr1.cell? ⟨w.heap.size, 0, none⟩ = some (.int .i64 (q : Int)) := HX.out.cellSome HWD.out
   obtain ⟨aA, nA, cA, rfl, HNA⟩ := HLP.out.a.var
   obtain ⟨aB, nB, cB, rfl, HNB⟩ := HLP.out.b.var
   by_cases hkq : k ≤ q
   ·have HR0 := Lib.hid (OwnI.madeS wr1 wr1.heap.size _ rfl (Nat.le_refl _))
    go_wp2_with fail
    go_loopg [9, 10] m (fun gk row jj wr => ∃ (j : Nat) (a1 : Option Addr) (n1 p1 : Nat), Hid (gk + j = m) ∧ jj = .int .i64 (j : Int) ∧ row = .slice a1 n1 p1 ∧ Hid (OwnI wr wr1.heap.size (.slice a1 n1 p1) (rowC (cols.take j) q k)) ∧ Hid (Ext wr1 wr))
    case atStart => exact ⟨0, _, _, _, Lib.hid (by omega), rfl, rfl, HR0, Lib.hid (Ext.alloc _ _)⟩
    case round =>
     obtain ⟨g2, h_g2⟩ : ∃ x, x = gk := ⟨_, rfl⟩
     subst h_g2
     obtain ⟨wr2, h_wr2⟩ : ∃ x, x = wr := ⟨_, rfl⟩
     subst h_wr2
     obtain ⟨j, a1, n1, p1, HJ, rfl, rfl, HRO, HX3⟩ := hrel
     have hsz3 := HX3.out.size
     have hcp2 := HX3.out.cellSome hcp
     by_cases hjm : j < m
     ·obtain ⟨cb, coff, ⟨c0, sg, fr, cx, cy⟩, hca, hcx, hcc⟩ := (HOK.out.ext HX3.out).slc.at hjm
      subst hca
      have k0 : wr2.cell? ⟨cb, coff + j * 5, none⟩ = some (.int .i64 c0) := hcc 0 _ rfl
      have k1 : wr2.cell? ⟨cb, coff + j * 5 + 1, none⟩ = some (.int .i64 sg) := hcc 1 _ rfl
      have k2 : wr2.cell? ⟨cb, coff + j * 5 + 2, none⟩ = some (.bool fr) := hcc 2 _ rfl
      have hcm := HCM.out (c0, sg, fr, cx, cy) (List.mem_of_getElem? hcx)
      simp only at hcm
      obtain ⟨hsg, hc00, hc0n⟩ := hcm
      have HSG := Lib.hid hsg
      obtain ⟨on, hon⟩ : ∃ b, b = onC q k (c0, sg, fr, cx, cy) := ⟨_, rfl⟩
      have HON := Lib.hid hon
      have HSN := Lib.hid (show rowC (cols.take j) q k ++ [sg * bitI on] = rowC (cols.take (j + 1)) q k by rw [hon]; exact map_take_snoc _ hcx)
      have HRL := Lib.hid (show (rowC (cols.take j) q k).length ≤ 3000000 by unfold rowC; rw [List.length_map, List.length_take]; have := HM.out; omega)
      have HNE := Lib.hid (show some cb ≠ (Value.slice a1 n1 p1).ownBlock from fun e => ownsRow_apart (e := 3) (e' := 175) (by decide) HRO.out (HOK.out.ext HX3.out) cb e.symm rfl)
      clear hcc hcx hon hsg
      go_upto_if 43 with fail
      go_cut [11] (fun bb wx => bb = .bool on ∧ Hid (Ext wr2 wx))
      case first =>
       by_cases hlt : k < q
       ·have hrw : hasP c0 (k : Int) = on := by rw [HON.out]; unfold onC; rw [if_pos hlt]
        go_wp2_with (first | (go_at_call 79; refine (s_HasPlayer _ _ _ (by omega)).mono ?_; rw [hrw]; rintro e w' ⟨rfl, rfl⟩))
        go_meet
        exact ⟨rfl, Lib.hid (Ext.refl _)⟩
       ·have hfr : fr = on := by rw [HON.out]; unfold onC; rw [if_neg hlt]
        subst hfr
        go_wp2_with fail
        go_meet
        exact ⟨rfl, Lib.hid (Ext.refl _)⟩
      obtain ⟨rfl, HXC⟩ := hcut
      replace k1 := HXC.out.cellSome k1
      have hk2 : Ext wr1 wc.drew := (HX3.out.trans HXC.out).trans (Ext.drew _)
      have hmul : IntKind.i64.wrap (sg * bitI on) = sg * bitI on := by
       rw [IntKind.wrap_i64]; have h1 := HSG.out; cases on <;> rcases h1 with rfl | rfl <;> decide
      have HKEEP := Lib.hid (fun (w' : World) (h : Ext wr1 w') (h1 : w'.cell? ⟨cb, coff + j * 5 + 1, none⟩ = some (.int .i64 sg)) => (⟨h1, h⟩ : w'.cell? ⟨cb, coff + j * 5 + 1, none⟩ = some (.int .i64 sg) ∧ Ext wr1 w'))
      have HROC := Lib.hid (HRO.out.ext HXC.out)
      have hk1 : Ext wc wc.drew := Ext.drew wc
      have hkA : Ext wc (wc.alloc (.cells #[.int .i64 (sg * bitI on)] 3)).drew := (Ext.alloc _ _).trans (Ext.drew _)
      have XWC := Lib.hid (HX3.out.trans HXC.out)
      have hszc := XWC.out.size
      have HK1C := Lib.hid k1
      clear k0 k2 hk2
      go_wp2_with fail
      go_region_held3 (fun w' => w'.cell? ⟨cb, coff + j * 5 + 1, none⟩ = some (.int .i64 sg) ∧ Ext wr1 w')
       (first
         | with_reducible exact HKEEP.out _ (XWC.out.trans hk1) (hk1.cellSome HK1C.out)
         | with_reducible exact HKEEP.out _ (XWC.out.trans hkA) (hkA.cellSome HK1C.out)
         | with_reducible exact HKEEP.out _ hk5 hc5)
       (first
         | (go_at_call 74
            (with_reducible refine (s_l1Bit _ _).mono ?_)
            rintro e w4 ⟨rfl, rfl⟩)
         | (refine step_of_wp _ (by rfl) ?_
            refine wp_append_ints _ _ (by rfl) wr1.heap.size (.slice a1 n1 p1) _ (by rfl) (HROC.out.ext hkA) _ 1 _ [sg * bitI on] (by rfl) ((Ints.oneS wc _ _ _ rfl).ext (Ext.drew _)) (by have := HRL.out; omega) (by simp; omega) ?_
            intro v5 w5 ho hg hnear
            have hc5 := hg.cell (hkA.cellSome HK1C.out) HNE.out
            obtain ⟨a5, n5, p5, rfl, HN5⟩ := ho.var
            have HO5 := Lib.hid ho
            have hk5 := ext_grown (w0 := wr1) (XWC.out.trans hkA) hg (fun j hj => (HROC.out.lt j hj).1)
            clear ho hg hnear)
         | fail)
      have X5 := Lib.hid hk5
      clear hk5 hc5 hkA
      clear hk1
      go_wp2_with fail
      go_roundg (g2 - 1)
      case measure => have := HJ.out; omega
      case rel => exact ⟨j + 1, a5, n5, p5, Lib.hid (by have := HJ.out; omega), by go_num, rfl, Lib.hid (by rw [← HSN.out]; exact HO5.out), X5⟩
     ·have hjm' : j = m := by have := HJ.out; omega
      subst hjm'
      have HT := Lib.hid (show cols.take j = cols from List.take_of_length_le (by rw [HM.out]; exact Nat.le_refl _))
      rw [HT.out] at HRO
      have HLP2 := Lib.hid (HLP.out.ext HX3.out)
      have hb0 := HLP2.out.c0
      have HLN := Lib.hid (show vs.length ≤ 6 by rw [HLP.out.rows.len, List.length_map, List.length_range]; omega)
      have HOK2 := Lib.hid (HOK.out.ext HX3.out)
      have XR := Lib.hid (HX.out.trans HX3.out)
      go_wp2_with (first
       | (at_builtin; refine append_slice rfl _ _ rfl (w.heap.size + 2) (.slice aA nA cA) vs rfl (HLP2.out.a.ext (Ext.alloc _ _)) _ _ 1 rfl (by simp; rfl) rfl (by have := HLN.out; omega) (by simp; omega) ?_; intro v6 w6 ho hg hnear; have HL6 := Lib.hid (HLP.out.pushA (HX3.out.trans (Ext.alloc _ _)) (HRO.out.ext (Ext.alloc _ _)) (by omega) hg ho hnear); have hbox6 := HLP2.out.boxA (Ext.alloc _ _) hg; have hc6 := LpO.boxc0 hbox6; have hf6 := LpO.boxf hbox6 0; have HOK6 := Lib.hid ((HOK2.out.grownV (Ext.alloc _ _) HLP2.out.a (by decide) hg).setLp hbox6 (by decide) 0 v6); have X6 := Lib.hid (((XR.out.trans (Ext.alloc _ _)).grown hg (fun j hj => by rw [HWS.out]; exact (HLP.out.a.lt j hj).1)).store (b := w2.heap.size) 0 (by rw [HWS.out]; exact hsz2) v6); obtain ⟨a6, n6, p6, rfl, HN6⟩ := ho.var; clear ho hg hnear hbox6))
      have hcp7 := Ext.cellSome X6.out HWD.out
      have hb7 := HL6.out.c1
      clear hc6 hf6 hb0 hcp2
      obtain ⟨w7, hw7⟩ : ∃ x, x = w6.setCell ⟨w2.heap.size, 0, none⟩ (.slice a6 n6 p6) := ⟨_, rfl⟩
      have HOK7 := Lib.hid (show OwnG colE 175 w7 (w.heap.size + 2) (.slice ac j cc) cols by rw [hw7]; exact HOK6.out)
      rw [← hw7] at HL6 X6 hcp7 hb7
      rw [← hw7]
      clear HOK6 hw7
      have hglt := HL6.out.lt
      have hsz7 := X6.out.size
      rw [HWS.out] at hsz7
      obtain ⟨bq, hbq⟩ : ∃ b, b = decide (k = q) := ⟨_, rfl⟩
      have hbe : ((k : Int) == (q : Int)) = bq := nat_beq hbq
      have HBQ := Lib.hid hbq
      have HBL := Lib.hid (show ((List.range k).map fun k => bitI (decide (k = q))).length ≤ 6 by simp; omega)
      clear hbq
      go_region_law (first
       | (refine step_of_wp _ rfl (wp_append_ints _ _ rfl (w.heap.size + 2) (.slice aB nB cB) _ rfl ((HL6.out.b.ext (Ext.alloc _ _)).ext (Ext.drew _)) _ 1 _ [bitI bq] rfl ((Ints.oneS _ _ _ _ rfl).ext (Ext.drew _)) (by have := HBL.out; omega) (by simp; omega) ?_); intro v8 w8 ho hg hnear; have XA := (Ext.alloc w7 (.cells #[.int .i64 (bitI bq)] 3)).trans (Ext.drew _); have HL8 := Lib.hid (HL6.out.pushB XA hg ho hnear); have hbox8 := HL6.out.boxB XA hg; have hc8 := LpO.boxc1 hbox8; have hf8 := LpO.boxf hbox8 1; have HOK8 := Lib.hid ((HOK7.out.grownI XA HL6.out.b (by decide) hg).setLp hbox8 (by decide) 1 v8); have X8 := Lib.hid (((X6.out.trans XA).grown hg (fun j hj => by rw [HWS.out]; exact (HL6.out.b.lt j hj).1)).store (b := w2.heap.size) 1 (by rw [HWS.out]; exact hsz2) v8); obtain ⟨a8, n8, p8, rfl, HN8⟩ := ho.var; clear ho hg hnear hbox8)
       | (go_simp; go_at_call 74; refine (s_l1Bit _ _).mono ?_; rintro e w' ⟨rfl, rfl⟩))
      all_goals
       go_wp2
       go_roundg (g1 - 1)
       case measure => have := HK.out; omega
       case rel => exact ⟨k + 1, _, _, _, Lib.hid (by have := HK.out; omega), by go_num, Lib.hid (by rw [List.range_succ, List.map_append, List.map_append]; have := HL8.out; rw [HBQ.out] at this; exact this), HOK8, X8⟩
   ·have hkq' : k = q + 1 := by have := HK.out; omega
    have hnkq : ¬ ((k : Int) ≤ (q : Int)) := by omega
    subst hkq'
    obtain ⟨AA, hAA⟩ : ∃ x, x = (List.range (q + 1)).map (rowC cols q) := ⟨_, rfl⟩
    obtain ⟨BB, hBB⟩ : ∃ x, x = (List.range (q + 1)).map fun k => bitI (decide (k = q)) := ⟨_, rfl⟩
    rw [← hAA, ← hBB] at HLP
    have HAA := Lib.hid (show AA = stA q V L by rw [hAA, HCOLS.out]; rfl)
    have HBB := Lib.hid (show BB = stB q from hBB)
    clear hAA hBB
    go_wp2_with fail
    go_loopg [12] m (fun gk jj wr => ∃ (j : Nat) (vc : Value), Hid (gk + j = m) ∧ jj = .int .i64 (j : Int) ∧ Hid (LpO wr (w.heap.size + 2) w2.heap.size (.slice aA nA cA) (.slice aB nB cB) vc vs AA BB ((cols.take j).map fun c => c.2.2.2)) ∧ Hid (OwnG colE 175 wr (w.heap.size + 2) (.slice ac m cc) cols) ∧ Hid (Ext W wr))
    case atStart => exact ⟨0, _, Lib.hid (by omega), rfl, HLP, HOK, HX⟩
    case round =>
     obtain ⟨g3, h_g3⟩ : ∃ x, x = gk := ⟨_, rfl⟩
     subst h_g3
     obtain ⟨wr3, h_wr3⟩ : ∃ x, x = wr := ⟨_, rfl⟩
     subst h_wr3
     obtain ⟨j, vc, HJ, rfl, HL3, HO3, HX3⟩ := hrel
     have hsz3 := HX3.out.size
     rw [HWS.out] at hsz3
     have hglt := HL3.out.lt
     have hb2 := HL3.out.c2
     obtain ⟨aC, nC, cC, rfl, HNC⟩ := HL3.out.c.var
     by_cases hjm : j < m
     ·obtain ⟨cb, coff, ⟨c0, sg, fr, cx, cy⟩, hca, hcx, hcc⟩ := HO3.out.slc.at hjm
      subst hca
      have k3 : wr3.cell? ⟨cb, coff + j * 5 + 3, none⟩ = some (.int .i64 cx) := hcc 3 _ rfl
      have k4 : wr3.cell? ⟨cb, coff + j * 5 + 4, none⟩ = some (.int .i64 cy) := hcc 4 _ rfl
      have hcl : cb < wr3.heap.size := World.block_lt_of_cell? _ _ k3
      have HSN := Lib.hid (show ((cols.take j).map fun c => c.2.2.2) ++ [(cx, cy)] = (cols.take (j + 1)).map fun c => c.2.2.2 from map_take_snoc (fun c : Col => c.2.2.2) hcx)
      have HRL := Lib.hid (show ((cols.take j).map fun c => c.2.2.2).length ≤ 3000000 by rw [List.length_map, List.length_take]; have := HM.out; omega)
      clear hcc hcx
      go_wp2_with fail
      go_region_law (first
       | (refine step_of_wp _ rfl (wp_append_rats _ _ rfl (w.heap.size + 2) (.slice aC nC cC) _ rfl ((HL3.out.c.ext (Ext.alloc _ _)).ext (Ext.drew _)) _ 1 _ [(cx, cy)] rfl ((Rats.one' _ _ _ _ _ rfl).ext (Ext.drew _)) (by have := HRL.out; omega) (by simp; omega) ?_); intro v8 w8 ho hg hnear; have XA := (Ext.alloc wr3 (.cells #[.int .i64 cx, .int .i64 cy] 43)).trans (Ext.drew _); have HL8 := Lib.hid (HL3.out.pushC XA hg ho); have hbox8 := HL3.out.boxC XA hg; have hc8 := LpO.boxc2 hbox8; have hf8 := LpO.boxf hbox8 2; have HOK8 := Lib.hid ((HO3.out.grownR XA HL3.out.c (by decide) hg).setLp hbox8 (by decide) 2 v8); have X8 := Lib.hid (((HX3.out.trans XA).grown hg (fun j hj => by rw [HWS.out]; exact (HL3.out.c.lt j hj).1)).store (b := w2.heap.size) 2 (by rw [HWS.out]; exact hsz2) v8); obtain ⟨a8, n8, p8, rfl, HN8⟩ := ho.var; clear ho hg hnear hbox8))
      all_goals
       go_wp2
       go_roundg (g3 - 1)
       case measure => have := HJ.out; omega
       case rel => exact ⟨j + 1, _, Lib.hid (by have := HJ.out; omega), by go_num, Lib.hid (by rw [← HSN.out]; exact HL8.out), HOK8, X8⟩
     ·have hjm' : j = m := by have := HJ.out; omega
      subst hjm'
      have HT := Lib.hid (show (cols.take j).map (fun c => c.2.2.2) = stC V L by
       rw [List.take_of_length_le (by rw [HM.out]; exact Nat.le_refl _), HCOLS.out]; rfl)
      rw [HT.out] at HL3
      have HAV := Lib.hid (s_AllValid HL3.out.c.rats)
      have HFO := Lib.hid (HL3.out)
      have hrbl : (w.heap.size + 1) < W.heap.size := by rw [HWS.out]; omega
      have HRB := Lib.hid (fun (w' : World) (hx : Ext W w') => (hx.block _ hrbl).trans HWR.out)
      clear hb2
      cases hav : allV (stC V L)
      ·have HNO := Lib.hid (show stOk (q : Int) V L = false by rw [HOKS.out, hav])
       rw [hav] at HAV
       clear hav
       have hb2 := HL3.out.c2
       go_wp2_with fail
       refine HAV.out.mono ?_
       rintro e w4 ⟨rfl, hx4⟩
       have hr0 := LpO.boxc0 (HRB.out w4 (HX3.out.trans hx4))
       have hr1 := LpO.boxc1 (HRB.out w4 (HX3.out.trans hx4))
       have hr2 := LpO.boxc2 (HRB.out w4 (HX3.out.trans hx4))
       have hrf := LpO.boxf (HRB.out w4 (HX3.out.trans hx4))
       have XF := Lib.hid (HX0.out.trans (HX3.out.trans hx4))
       clear hx4
       go_wp2_with fail
       refine bodyPost_ret (v := .tuple #[.agg #[.slice none 0 0, .slice none 0 0, .slice none 0 0], .bool false]) (by simp [results, Tryz.results124, go_sem, hr0, hr1, hr2]) rfl ⟨⟨_, _, _, [], by rw [HNO.out], OwnV.nil _ _, ?_, ?_, ?_, OffV.nil _⟩, ?_⟩
       ·unfold stAx; rw [HNO.out, if_neg (by simp)]; exact RowsI.nil _ _
       ·unfold stBx; rw [HNO.out, if_neg (by simp)]; exact OwnI.nil _ _
       ·unfold stCx; rw [HNO.out, if_neg (by simp)]; exact OwnR.nil _ _
       ·exact ((XF.out.store 0 (by omega) _).store 1 (by omega) _).store 2 (by omega) _
      ·have HYES := Lib.hid (show stOk (q : Int) V L = true by rw [HOKS.out, hav])
       rw [hav] at HAV
       clear hav
       have hb2 := HL3.out.c2
       go_wp2_with fail
       refine HAV.out.mono ?_
       rintro e w4 ⟨rfl, hx4⟩
       have hr0 := LpO.boxc0 (HRB.out w4 (HX3.out.trans hx4))
       have hr1 := LpO.boxc1 (HRB.out w4 (HX3.out.trans hx4))
       have hr2 := LpO.boxc2 (HRB.out w4 (HX3.out.trans hx4))
       have hrf := LpO.boxf (HRB.out w4 (HX3.out.trans hx4))
       have HL4 := Lib.hid (HL3.out.ext hx4)
       have hd0 := HL4.out.c0
       have hd1 := HL4.out.c1
       have hd2 := HL4.out.c2
       have hgl4 := HL4.out.lt
       have XF := Lib.hid (HX0.out.trans (HX3.out.trans hx4))
       clear hx4 hb2
       go_wp2_with fail
       refine bodyPost_ret (v := .tuple #[.agg #[.slice aA nA cA, .slice aB nB cB, .slice aC nC cC], .bool true]) (by simp [results, Tryz.results124, go_sem, hr0, hr1, hr2]) rfl ⟨⟨_, _, _, vs, by rw [HYES.out], ?_, ?_, ?_, ?_, HL4.out.off⟩, ?_⟩
       ·exact (((((OwnV.on HL4.out.a).set (by simp) _).set (by simp) _).set (by simp) _).here).mono' (by omega)
       ·unfold stAx; rw [HYES.out, if_pos rfl, Int.toNat_natCast, ← HAA.out]
        exact (((((RowsI.on HL4.out.rows).set (by simp) _).set (by simp) _).set (by simp) _).here).mono' (by omega)
       ·unfold stBx; rw [HYES.out, if_pos rfl, Int.toNat_natCast, ← HBB.out]
        exact (((((OwnI.on HL4.out.b).set (by simp) _).set (by simp) _).set (by simp) _).here).mono (by omega)
       ·unfold stCx; rw [HYES.out, if_pos rfl]
        exact (((((OwnR.on HL4.out.c).set (by simp) _).set (by simp) _).set (by simp) _).here).mono (by omega)
       ·exact ((XF.out.store 0 (by omega) _).store 1 (by omega) _).store 2 (by omega) _
def fixE : Enc (Int × Int × Int) := ⟨fun x => [.int .i64 x.1, .int .i64 x.2.1, .int .i64 x.2.2], 3, fun _ => rfl, by omega, fun x u h => by simp only [List.mem_cons, List.not_mem_nil, or_false] at h; rcases h with rfl | rfl | rfl <;> rfl⟩
theorem Slc.fixs {w : World} {a : Option Addr} {n cap : Nat} {l : List (Int × Int × Int)} (h : Slc fixE w a n cap l) : Fixs w a n cap l :=
 ⟨h.hlen, h.hcap, h.hmax, fun k hk => by
  obtain ⟨b, off, e, hc⟩ := h.cell k hk
  refine ⟨b, off, e, fun k hk => ?_⟩
  have hkl : k < l.length := by rw [h.hlen]; exact hk
  have hx := List.getElem?_eq_getElem hkl
  rw [hx]
  exact ⟨hc k _ 0 _ hx rfl, hc k _ 1 _ hx rfl, hc k _ 2 _ hx rfl⟩⟩
theorem Tryz.infoFix : (Tryz.prog.info? 79).map (fun i => (i.zero, i.size, i.bytes)) = some (some (.agg #[.int .i64 0, .int .i64 0, .int .i64 0]), fixE.c, 24) := by kernel_rfl
end Go.Proofs.YthjjfkeacobikaaGreat
