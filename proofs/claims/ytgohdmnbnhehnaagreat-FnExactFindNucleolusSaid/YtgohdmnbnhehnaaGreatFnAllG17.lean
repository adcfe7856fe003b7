import Derived.Test.YtgohdmnbnhehnaaGreatFnAllG16
import Derived.Test.YtgohdmnbnhehnaaGreatFnAllG13
import Derived.Test.YtgohdmnbnhehnaaGreatFnAllG10
import Derived.Test.YtgohdmnbnhehnaaGreatFnAllG9
import Derived.Test.YtgohdmnbnhehnaaGreatFnAllG14
namespace Go.Proofs.YtgohdmnbnhehnaaGreat
set_option linter.unusedVariables false
set_option linter.unusedSimpArgs false
set_option maxRecDepth 100000
open Go.RowKit
set_option maxHeartbeats 4000000 in
theorem i_costsOf {w : World} {a : Option Addr} {n cap : Nat} {front : List (Int × Int)} (h : Rats w a n cap front) (rest : Int) (m : Nat) (hn : n ≤ 100000) (hm : m ≤ 100000) :
 Calls Tryz.prog 190 #[.slice a n cap, .int .i64 rest, .int .i64 (m : Int)] w fun e w' => (∃ v, e = .returned v ∧ OwnR w' w.heap.size v (front ++ List.replicate m (rest, 1))) ∧ Ext w w' := by
 have HL := Lib.hid h.hlen
 have hc1 := h.hcap
 have hc2 := h.hmax
 have HI := Lib.hid (h.ext (Ext.alloc w (.cells #[] 85)))
 have HO := Lib.hid (OwnR.made w w.heap.size (Nat.le_refl _))
 clear h
 go_enter Tryz.func190, Tryz.ntmps190
 go_wp2_with (first
  | (at_builtin; refine append_rats rfl _ _ rfl w.heap.size (.slice (some ⟨w.heap.size, 0, none⟩) 0 0) [] rfl HO.out a n cap front rfl HI.out (by simp; omega) (by simp) ?_; intro v5 w5 ho hg hnear; have X5 := Lib.hid (ext_grown (Ext.alloc w (.cells #[] 85)) hg (fun j hj => Nat.le_of_eq (Option.some.inj (show some w.heap.size = some j from hj)))); obtain ⟨a5, n5, p5, rfl, HN5⟩ := ho.var; have HO5 := Lib.hid ho; clear ho hg hnear))
 go_loopg [7, 12] m (fun gk oo ii wr => ∃ (k : Nat) (a1 : Option Addr) (n1 p1 : Nat), Hid (gk + k = m) ∧ ii = .int .i64 (k : Int) ∧ oo = .slice a1 n1 p1 ∧ Hid (OwnR wr w.heap.size (.slice a1 n1 p1) (front ++ List.replicate k (rest, 1))) ∧ Hid (Ext w wr))
 case atStart => exact ⟨0, _, _, _, Lib.hid (by omega), rfl, rfl, Lib.hid (by have := HO5.out; simpa using this), X5⟩
 case round =>
  obtain ⟨g1, h_g1⟩ : ∃ x, x = gk := ⟨_, rfl⟩
  subst h_g1
  obtain ⟨wr1, h_wr1⟩ : ∃ x, x = wr := ⟨_, rfl⟩
  subst h_wr1
  obtain ⟨k, a1, n1, p1, HK, rfl, rfl, HO1, HX⟩ := hrel
  by_cases hlt : k < m
  ·have HLL := Lib.hid (show (front ++ List.replicate k (rest, (1 : Int))).length = n + k by simp [HL.out])
   go_wp2_with fail
   refine (i_whole rest _).mono ?_
   rintro e w3 ⟨rfl, hx⟩
   have X3 := Lib.hid (HX.out.trans hx)
   have HO3 := Lib.hid (HO1.out.ext hx)
   have hs3 := X3.out.size
   clear hx
   go_wp2_with (first
    | (at_builtin; refine append_rats rfl _ _ rfl w.heap.size (.slice a1 n1 p1) _ rfl (HO3.out.ext (Ext.alloc _ _)) _ 1 _ [(rest, 1)] rfl (Rats.one' _ _ _ _ _ (by simp)) (by rw [HLL.out]; omega) (by simp; omega) ?_; intro v5 w5 ho hg hnear; have X5 := Lib.hid (ext_grown (X3.out.trans (Ext.alloc _ _)) hg (fun j hj => (HO3.out.lt j hj).1)); obtain ⟨a5, n5, p5, rfl, HN5⟩ := ho.var; have HO5 := Lib.hid ho; clear ho hg hnear))
   go_roundg (g1 - 1)
   case measure => have := HK.out; omega
   case rel => exact ⟨k + 1, a5, n5, p5, Lib.hid (by have := HK.out; omega), by go_num, rfl, Lib.hid (by have := HO5.out; rw [List.append_assoc, ← List.replicate_succ'] at this; exact this), X5⟩
  ·have hkm : m = k := by have := HK.out; omega
   subst hkm
   go_wp2_with fail
   go_ret
   exact ⟨⟨_, rfl, HO1.out⟩, HX.out⟩
theorem solN_len (t : Tb) : ∀ k, (solN t k).length = t.cols.toNat + t.rows.length
 | 0 => by simp [solN]
 | k + 1 => by simp only [solN, List.length_set]; exact solN_len t k
set_option maxHeartbeats 8000000 in
theorem i_SolutionOf {w : World} {ra : Option Addr} {rn rc : Nat} {ba : Option Addr} {bn bc : Nat} {t : Tb} (h : TbC w ra rn rc ba bn bc t) (hrn : rn ≤ 100000) (hok : tbOk t = true) :
 Calls Tryz.prog 192 #[tbW ra rn rc ba bn bc t.cols] w fun e w' => (∃ v, e = .returned v ∧ OwnR w' w.heap.size v (solT t)) ∧ Ext w w' := by
 have hx0 := Ext.alloc w (tbBox ra rn rc ba bn bc t.cols)
 have HX0 := Lib.hid hx0
 have H := Lib.hid (h.ext hx0)
 have HF := Lib.hid (i_formed H.out (by omega))
 rw [hok] at HF
 obtain ⟨m, hxm, hm, hbr, hrl0, hbs0⟩ := tbOk_parts h hok
 subst hbr
 have hr1 := h.rows.hcap
 have hr2 := h.rows.hmax
 have HLR := Lib.hid h.rows.hlen
 have HSO := Lib.hid (show solT t = solN t bn by unfold solT; rw [if_pos hok, h.rows.hlen])
 have HS0 := Lib.hid (show solN t 0 = List.replicate (m + bn) (0, 1) by simp only [solN]; rw [hxm, h.rows.hlen]; rfl)
 have HSL := Lib.hid (fun k => show (solN t k).length = m + bn by rw [solN_len, hxm, h.rows.hlen]; simp)
 have HRL := Lib.hid hrl0
 have HBS := Lib.hid hbs0
 have HCM := Lib.hid hxm
 rw [hxm] at HF hx0 HX0 H
 rw [hxm]
 have HO := Lib.hid (fun (W : World) => OwnR.made W W.heap.size (Nat.le_refl _))
 clear h hx0 hrl0 hbs0 hok hxm
 go_enter Tryz.func192, Tryz.ntmps192
 go_wp2_with fail
 refine HF.out.mono ?_
 rintro e w1 ⟨rfl, hx⟩
 have X1 := Lib.hid hx
 have H1 := Lib.hid (H.out.ext hx)
 have c0 : w1.cell? ⟨w.heap.size, 0, none⟩ = some (.slice ra bn rc) := hx.cellSome (by simp)
 have c2 : w1.cell? ⟨w.heap.size, 2, none⟩ = some (.int .i64 (m : Int)) := hx.cellSome (by simp)
 have hs1 : w.heap.size + 1 ≤ w1.heap.size := by have := hx.size; simpa using this
 have hs1' : w.heap.size < w1.heap.size := hs1
 have HO1 := Lib.hid (HO.out w1)
 clear hx
 go_wp2_with fail
 go_loopg [3, 16] (m + bn) (fun gk oo ii wr => ∃ (k : Nat) (a1 : Option Addr) (n1 p1 : Nat), Hid (gk + k = m + bn) ∧ ii = .int .i64 (k : Int) ∧ oo = .slice a1 n1 p1 ∧ Hid (OwnR wr w1.heap.size (.slice a1 n1 p1) (List.replicate k (0, 1))) ∧ Hid (Ext w1 wr))
 case atStart => exact ⟨0, _, _, _, Lib.hid (by omega), rfl, rfl, HO1, Lib.hid (Ext.alloc _ _)⟩
 case round =>
  obtain ⟨g1, h_g1⟩ : ∃ x, x = gk := ⟨_, rfl⟩
  subst h_g1
  obtain ⟨wr1, h_wr1⟩ : ∃ x, x = wr := ⟨_, rfl⟩
  subst h_wr1
  obtain ⟨k, a1, n1, p1, HK, rfl, rfl, HO1, HX⟩ := hrel
  clear c0 c2
  by_cases hlt : k < m + bn
  ·have HLL := Lib.hid (show (List.replicate k ((0 : Int), (1 : Int))).length = k by simp)
   have hltI : (k : Int) < (m : Int) + (bn : Int) := by omega
   go_wp2_with fail
   refine (i_whole 0 _).mono ?_
   rintro e w3 ⟨rfl, hx⟩
   have X3 := Lib.hid (HX.out.trans hx)
   have HO3 := Lib.hid (HO1.out.ext hx)
   have hs3 := X3.out.size
   clear hx
   go_wp2_with (first
    | (at_builtin; refine append_rats rfl _ _ rfl w1.heap.size (.slice a1 n1 p1) _ rfl (HO3.out.ext (Ext.alloc _ _)) _ 1 _ [(0, 1)] rfl (Rats.one' _ _ _ _ _ (by simp)) (by rw [HLL.out]; omega) (by simp; omega) ?_; intro v5 w5 ho hg hnear; have X5 := Lib.hid (ext_grown (X3.out.trans (Ext.alloc _ _)) hg (fun j hj => (HO3.out.lt j hj).1)); obtain ⟨a5, n5, p5, rfl, HN5⟩ := ho.var; have HO5 := Lib.hid ho; clear ho hg hnear))
   go_roundg (g1 - 1)
   case measure => have := HK.out; omega
   case rel => exact ⟨k + 1, a5, n5, p5, Lib.hid (by have := HK.out; omega), by go_num, rfl, Lib.hid (by have := HO5.out; rw [← List.replicate_succ'] at this; exact this), X5⟩
  ·have hkm : k = m + bn := by have := HK.out; omega
   have hltI : ¬ (k : Int) < (m : Int) + (bn : Int) := by omega
   have HKM := Lib.hid hkm
   have HO2 := Lib.hid (show OwnR wr1 w1.heap.size (.slice a1 n1 p1) (solN t 0) by rw [HS0.out, ← hkm]; exact HO1.out)
   have c0 : wr1.cell? ⟨w.heap.size, 0, none⟩ = some (.slice ra bn rc) := (X1.out.trans HX.out).cellSome (by simp)
   clear hkm
   go_wp2_with fail
   go_loopg [26] bn (fun gk ii wr => ∃ (k : Nat), Hid (gk + k = bn) ∧ ii = .int .i64 (k : Int) ∧ Hid (OwnR wr w1.heap.size (.slice a1 n1 p1) (solN t k)) ∧ Hid (Ext w1 wr))
   case atStart => exact ⟨0, Lib.hid (by omega), rfl, HO2, HX⟩
   case round =>
    obtain ⟨g2, h_g2⟩ : ∃ x, x = gk := ⟨_, rfl⟩
    subst h_g2
    obtain ⟨wr2, h_wr2⟩ : ∃ x, x = wr := ⟨_, rfl⟩
    subst h_wr2
    obtain ⟨j, HJ, rfl, HO4, HX4⟩ := hrel
    clear c0
    by_cases hjl : j < bn
    ·obtain ⟨zb, zoff, ya, yn, yc, hza, hz0, hrow⟩ := (H1.out.ext HX4.out).rows.at hjl
     subst hza
     obtain ⟨u, hu⟩ : ∃ u, u = m + bn := ⟨_, rfl⟩
     have hyn : yn = u + 1 := by rw [← hrow.hlen, hu]; exact HRL.out j hjl
     have HYN := Lib.hid hyn
     have hy1 := hrow.hcap
     have hy2 := hrow.hmax
     have hub : u ≤ 200000 := by omega
     obtain ⟨yb, yoff, p, q, hya, hpq, hy0c, hy1c⟩ := hrow.at (show u < yn by omega)
     subst hya
     have HPQ := Lib.hid (show t.at j u = (p, q) from hpq)
     obtain ⟨b, hb, hbl⟩ := HBS.out j hjl
     have HB := Lib.hid hb
     obtain ⟨eb, eoff, hea, he0⟩ := (H1.out.ext HX4.out).basis.at hjl
     subst hea
     rw [hb] at he0
     have hn1 : n1 = u := by have := HO4.out.rats.hlen; rw [HSL.out] at this; omega
     subst hn1
     obtain ⟨G, hG, hbG, hfr, hGl⟩ := HO4.out.block (k := b) (by omega)
     subst hG
     obtain ⟨G', goff', g1v, g2v, hG', hgv, hg0, hg1⟩ := HO4.out.rats.at (show b < n1 by omega)
     simp only [Option.some.injEq, Addr.mk.injEq, and_true] at hG'
     obtain ⟨rfl, rfl⟩ := hG'
     rw [Nat.zero_add] at hg0 hg1
     have c1 : wr2.cell? ⟨w.heap.size, 1, none⟩ = some (.slice (some ⟨eb, eoff, none⟩) bn bc) := (X1.out.trans HX4.out).cellSome (by simp)
     have hwr : IntKind.i64.wrap ((yn : Int) - 1) = (n1 : Int) := by have := HYN.out; rw [IntKind.wrap_i64]; omega
     have hu1 : (n1 : Int) < (yn : Int) := by have := HYN.out; omega
     have hu0 : (0 : Int) ≤ (n1 : Int) := by omega
     have hb0 : (0 : Int) ≤ (b : Int) := by omega
     have hb1 : (b : Int) < (n1 : Int) := by omega
     have hj0 : (0 : Int) ≤ (j : Int) := by omega
     have hj1 : (j : Int) < (bn : Int) := by omega
     have HU := Lib.hid hu
     clear hpq hrow hyn hb hgv hu
     go_upto_region 11 with fail
     go_still_tail 13, (by kernel_rfl)
     have HO5 := Lib.hid (show OwnR ((wr2.drew.setCell ⟨G, b * 2, none⟩ (.int .i64 p)).setCell ⟨G, b * 2 + 1, none⟩ (.int .i64 q)) w1.heap.size (.slice (some ⟨G, 0, none⟩) n1 p1) (solN t (j + 1)) by
      have h1 := (HO4.out.ext (Ext.drew wr2)).set (k := b) (by rw [HSL.out, ← HU.out]; omega) p q
      have h2 : solN t (j + 1) = (solN t j).set b (p, q) := by
       simp only [solN]
       rw [HB.out, Int.toNat_natCast, HCM.out, Int.toNat_natCast, HLR.out, ← HU.out, HPQ.out]
      rw [h2]; exact h1)
     have HX5 := Lib.hid (((HX4.out.trans (Ext.drew wr2)).setCell (p := ⟨G, b * 2, none⟩) hbG (.int .i64 p)).setCell (p := ⟨G, b * 2 + 1, none⟩) hbG (.int .i64 q))
     clear hwr
     go_wp2_with fail
     go_roundg (g2 - 1)
     case measure => have := HJ.out; omega
     case rel => exact ⟨j + 1, Lib.hid (by have := HJ.out; omega), by go_num, HO5, HX5⟩
    ·have hjm : bn = j := by have := HJ.out; omega
     subst hjm
     go_wp2_with fail
     go_ret
     exact ⟨⟨_, rfl, by rw [HSO.out]; exact HO4.out.mono (by omega)⟩, (HX0.out.trans X1.out).trans HX4.out⟩
set_option maxHeartbeats 4000000 in
theorem i_minusAll {w : World} {a : Option Addr} {n cap : Nat} {Y : List (Int × Int)} (h : Rats w a n cap Y) (hn : n ≤ 100000) (hY : ∀ k : Nat, -9223372036854775807 ≤ (Y[k]?.getD (0, 0)).1 ∧ (Y[k]?.getD (0, 0)).1 ≤ 9223372036854775807) :
 Calls Tryz.prog 89 #[.slice a n cap] w fun e w' => (∃ v, e = .returned v ∧ OwnR w' w.heap.size v (Y.map negR)) ∧ Ext w w' := by
 have HL := Lib.hid h.hlen
 have hc1 := h.hcap
 have hc2 := h.hmax
 have HI := Lib.hid h
 have HB := Lib.hid hY
 have HO := Lib.hid (OwnR.made w w.heap.size (Nat.le_refl _))
 clear h hY
 go_enter Tryz.func89, Tryz.ntmps89
 go_wp2_with fail
 go_loopg [3, 9] n (fun gk oo ii wr => ∃ (k : Nat) (a1 : Option Addr) (n1 p1 : Nat), Hid (gk + k = n) ∧ ii = .int .i64 (k : Int) ∧ oo = .slice a1 n1 p1 ∧ Hid (OwnR wr w.heap.size (.slice a1 n1 p1) ((Y.take k).map negR)) ∧ Hid (Ext w wr))
 case atStart => exact ⟨0, _, _, _, Lib.hid (by omega), rfl, rfl, HO, Lib.hid (Ext.alloc _ _)⟩
 case round =>
  obtain ⟨g1, h_g1⟩ : ∃ x, x = gk := ⟨_, rfl⟩
  subst h_g1
  obtain ⟨wr1, h_wr1⟩ : ∃ x, x = wr := ⟨_, rfl⟩
  subst h_wr1
  obtain ⟨k, a1, n1, p1, HK, rfl, rfl, HO1, HX⟩ := hrel
  have hsz := HX.out.size
  by_cases hlt : k < n
  ·obtain ⟨eb, eoff, x, y, hea, hxy, he0, he1⟩ := (HI.out.ext HX.out).at hlt
   subst hea
   have hb := HB.out k
   rw [hxy] at hb
   have HSN := Lib.hid (show (Y.take k).map negR ++ [(-x, y)] = (Y.take (k + 1)).map negR by
    have h1 : k < Y.length := by rw [HL.out]; exact hlt
    rw [List.take_succ_eq_append_getElem h1, List.map_append, List.map_singleton]
    rw [List.getElem?_eq_getElem h1, Option.getD_some] at hxy
    rw [hxy]; rfl)
   have hk0 : (0 : Int) ≤ (k : Int) := by omega
   have hk1 : (k : Int) < (n : Int) := by omega
   have HTL := Lib.hid (show ((Y.take k).map negR).length = k by rw [List.length_map, List.length_take, HL.out]; omega)
   have HM := Lib.hid (fun w' => i_minus x y w' hb.1 hb.2)
   clear hxy hb
   go_wp2_with fail
   refine (HM.out _).mono ?_
   rintro e w3 ⟨rfl, hx⟩
   have X3 := Lib.hid ((HX.out.trans (Ext.alloc _ _)).trans hx)
   have HO3 := Lib.hid ((HO1.out.ext (Ext.alloc _ _)).ext hx)
   have hs3 := X3.out.size
   clear hx
   go_wp2_with (first
    | (at_builtin; refine append_rats rfl _ _ rfl w.heap.size (.slice a1 n1 p1) _ rfl (HO3.out.ext (Ext.alloc _ _)) _ 1 _ [(-x, y)] rfl (Rats.one' _ _ _ _ _ (by simp)) (by rw [HTL.out]; omega) (by simp; omega) ?_; intro v5 w5 ho hg hnear; have X5 := Lib.hid (ext_grown (X3.out.trans (Ext.alloc _ _)) hg (fun j hj => (HO3.out.lt j hj).1)); obtain ⟨a5, n5, p5, rfl, HN5⟩ := ho.var; have HO5 := Lib.hid ho; clear ho hg hnear))
   go_roundg (g1 - 1)
   case measure => have := HK.out; omega
   case rel => exact ⟨k + 1, a5, n5, p5, Lib.hid (by have := HK.out; omega), by go_num, rfl, Lib.hid (by rw [← HSN.out]; exact HO5.out), X5⟩
  ·have HT := Lib.hid (show Y.take k = Y from List.take_of_length_le (by rw [HL.out]; omega))
   rw [HT.out] at HO1
   go_wp2_with fail
   go_ret
   exact ⟨⟨_, rfl, HO1.out⟩, HX.out⟩
theorem allR_succ (p : Nat → Bool) (k : Nat) : (List.range (k + 1)).all p = ((List.range k).all p && p k) := by
 rw [List.range_succ, List.all_append]; simp
theorem allR_false {p : Nat → Bool} {k n : Nat} (h : k < n) (hp : p k = false) : (List.range n).all p = false := by
 rw [List.all_eq_false]; exact ⟨k, List.mem_range.2 h, by simp [hp]⟩
theorem i_IsValidLP1 (x : Int) (w : World) : Calls Tryz.prog 187 #[.int .i64 x] w fun e w' => e = .returned (.bool (!inB x (-5000) 5000)) ∧ w = w' := by
 go_enter Tryz.func187, Tryz.ntmps187
 go_wp2_with (first | (go_at_call 62; refine (i_within _ _ _ _).mono ?_; rintro e w' ⟨rfl, rfl⟩))
 go_ret
 exact ⟨rfl, rfl⟩
theorem go_IsValidLP1 : IsGo Tryz.prog 187 := isGo Tryz.func187 (by kernel_rfl) (by kernel_rfl)
theorem asks_IsValidLP1 (w : World) : Asks Tryz.prog w 187 #[] (fun x => !inB x (-5000) 5000) :=
 fun x w1 _ => (i_IsValidLP1 x w1).mono fun e w' ⟨he, hw⟩ => ⟨he, hw ▸ Ext.refl _⟩
def okRowI (m : Nat) (r : List Int) : Bool := decide (r.length = m) && r.all (inB · (-5000) 5000)
theorem any_bad (l : List Int) : l.any (fun x => !inB x (-5000) 5000) = !l.all (inB · (-5000) 5000) := by rw [List.not_all_eq_any_not]
theorem okLP_eq (A : List (List Int)) (B : List Int) (C : List (Int × Int)) : okLP A B C = (decide (C.length ≤ 70) && (decide (A.length ≤ 8) && (decide (B.length = A.length) && (allV C && (A.all (okRowI C.length) && B.all (inB · (-5000) 5000)))))) := rfl
theorem all_takeL {p : List Int → Bool} {l : List (List Int)} {k : Nat} (h : k < l.length) : (l.take (k + 1)).all p = ((l.take k).all p && p (l[k]?.getD [])) := by
 rw [takeL_snoc h]; simp
theorem all_falseL {p : List Int → Bool} {l : List (List Int)} {k : Nat} (h : k < l.length) (hb : p (l[k]?.getD []) = false) : l.all p = false := by
 rw [List.all_eq_false]
 exact ⟨l[k], List.getElem_mem h, by rw [List.getElem?_eq_getElem h] at hb; simpa using hb⟩
section
variable {w : World} {a : Option Addr} {na ca : Nat} {b : Option Addr} {nb cb : Nat} {c : Option Addr} {nc cc : Nat} {A : List (List Int)} {B : List Int} {C : List (Int × Int)}
set_option maxHeartbeats 8000000 in
theorem i_IsValidLP (h : LpC w a na ca b nb cb c nc cc A B C) :
 Calls Tryz.prog 135 #[lpW a na ca b nb cb c nc cc] w fun e w' => e = .returned (.bool (okLP A B C)) ∧ Ext w w' := by
 have hx0 := Ext.alloc w (lpBox a na ca b nb cb c nc cc)
 have HX0 := Lib.hid hx0
 have H := Lib.hid (h.ext hx0)
 have HE := Lib.hid (okLP_eq A B C)
 have ha1 := h.a.hcap
 have ha2 := h.a.hmax
 have hb1 := h.b.hcap
 have hb2 := h.b.hmax
 have hc1 := h.c.hcap
 have hc2 := h.c.hmax
 have HLA := Lib.hid h.a.hlen
 have HLB := Lib.hid h.b.hlen
 have HLC := Lib.hid h.c.hlen
 clear h hx0
 by_cases h1 : nc ≤ 70
 ·by_cases h2 : na ≤ 8
  ·by_cases h3 : nb = na
   ·subst h3
    have hbb : ((nb : Int) != (nb : Int)) = false := by simp
    have HE2 := Lib.hid (show okLP A B C = (allV C && (A.all (okRowI nc) && B.all (inB · (-5000) 5000))) by
     rw [HE.out, HLA.out, HLB.out, HLC.out, decide_eq_true h1, decide_eq_true h2, decide_eq_true rfl]; rfl)
    have HV := Lib.hid (i_AllValid H.out.c)
    cases hv : allV C
    ·rw [hv] at HV HE2
     clear hv
     go_enter Tryz.func135, Tryz.ntmps135
     go_wp2_with fail
     refine HV.out.mono ?_
     rintro e w1 ⟨rfl, hx⟩
     have X1 := Lib.hid (HX0.out.trans hx)
     clear hx
     go_wp2_with fail
     go_ret
     exact ⟨ret_bool HE2.out.symm, X1.out⟩
    ·rw [hv] at HV HE2
     clear hv
     go_enter Tryz.func135, Tryz.ntmps135
     go_wp2_with fail
     refine HV.out.mono ?_
     rintro e w1 ⟨rfl, hx⟩
     have hc0 : w1.cell? ⟨w.heap.size, 0, none⟩ = some (.slice a nb ca) := hx.cellSome (by simp)
     have hcb : w1.cell? ⟨w.heap.size, 1, none⟩ = some (.slice b nb cb) := hx.cellSome (by simp)
     have hcc : w1.cell? ⟨w.heap.size, 2, none⟩ = some (.slice c nc cc) := hx.cellSome (by simp)
     have HC1 := Lib.hid hcb
     have HC2 := Lib.hid hcc
     have H1 := Lib.hid (H.out.ext hx)
     have X1 := Lib.hid (HX0.out.trans hx)
     clear hx hcb hcc
     go_wp2_with fail
     go_loopg [34] nb (fun gk ii wr => ∃ k : Nat, Hid (gk + k = nb) ∧ ii = .int .i64 (k : Int) ∧ Hid ((A.take k).all (okRowI nc) = true) ∧ Hid (Ext w1 wr))
     case atStart => exact ⟨0, Lib.hid (by omega), rfl, Lib.hid rfl, Lib.hid (Ext.refl _)⟩
     case round =>
      obtain ⟨g1, h_g1⟩ : ∃ x, x = gk := ⟨_, rfl⟩
      subst h_g1
      obtain ⟨wr1, h_wr1⟩ : ∃ x, x = wr := ⟨_, rfl⟩
      subst h_wr1
      obtain ⟨k, HK, rfl, HA, HX⟩ := hrel
      clear hc0
      by_cases hlt : k < nb
      ·obtain ⟨gb, goff, ra, rn, rc, hga, hgc, hrow⟩ := (H1.out.ext HX.out).a.at hlt
       subst hga
       have hcc := HX.out.cellSome HC2.out
       have HLR := Lib.hid hrow.hlen
       have hrn := hrow.hcap
       have hrm := hrow.hmax
       have HKA := Lib.hid (show k < A.length by rw [HLA.out]; exact hlt)
       have HCF := Lib.hid (containsFunc_ints hrow go_IsValidLP1 (asks_IsValidLP1 _))
       clear hrow
       cases hl : ((rn : Int) != (nc : Int))
       ·cases hr : (A[k]?.getD []).all (inB · (-5000) 5000)
        ·have HF := Lib.hid (show okLP A B C = false by
          rw [HE2.out, all_falseL HKA.out (by unfold okRowI; rw [hr]; simp)]; rfl)
         rw [any_bad, hr] at HCF
         clear hr
         go_wp2_with fail
         refine HCF.out.mono ?_
         rintro e w2 ⟨rfl, hx2⟩
         have X2 := Lib.hid ((X1.out.trans HX.out).trans hx2)
         clear hx2
         go_wp2_with fail
         go_ret
         exact ⟨ret_bool HF.out.symm, X2.out⟩
        ·have HT := Lib.hid (show (A.take (k + 1)).all (okRowI nc) = true by
          rw [all_takeL HKA.out, HA.out]; unfold okRowI; rw [hr, HLR.out]; simp at hl ⊢; omega)
         rw [any_bad, hr] at HCF
         clear hr
         go_wp2_with fail
         refine HCF.out.mono ?_
         rintro e w2 ⟨rfl, hx2⟩
         have X2 := Lib.hid (HX.out.trans hx2)
         clear hx2
         go_wp2_with fail
         go_roundg (g1 - 1)
         case measure => have := HK.out; omega
         case rel => exact ⟨k + 1, Lib.hid (by have := HK.out; omega), by go_num, HT, X2⟩
       ·have HF := Lib.hid (show okLP A B C = false by
         rw [HE2.out, all_falseL HKA.out (by unfold okRowI; rw [HLR.out, decide_eq_false (by simp at hl; omega)]; rfl)]; rfl)
        go_wp2_with fail
        go_ret
        exact ⟨ret_bool HF.out.symm, X1.out.trans HX.out⟩
      ·have hkn : nb = k := by have := HK.out; omega
       subst hkn
       have HT := Lib.hid (show A.all (okRowI nc) = true by have := HA.out; rwa [List.take_of_length_le (by rw [HLA.out]; exact Nat.le_refl _)] at this)
       have hcb := HX.out.cellSome HC1.out
       have HCF := Lib.hid (containsFunc_ints (H1.out.ext HX.out).b go_IsValidLP1 (asks_IsValidLP1 _))
       rw [any_bad] at HCF
       go_wp2_with fail
       refine HCF.out.mono ?_
       rintro e w2 ⟨rfl, hx2⟩
       have X2 := Lib.hid ((X1.out.trans HX.out).trans hx2)
       clear hx2
       go_wp2_with fail
       go_ret
       exact ⟨ret_bool (by rw [HE2.out, HT.out]; simp), X2.out⟩
   ·have HF := Lib.hid (show okLP A B C = false by rw [HE.out, HLA.out, HLB.out, decide_eq_false h3]; simp)
    have hbb : ((nb : Int) != (na : Int)) = true := by simp; omega
    go_enter Tryz.func135, Tryz.ntmps135
    go_wp2_with fail
    go_ret
    exact ⟨ret_bool HF.out.symm, HX0.out⟩
  ·have HF := Lib.hid (show okLP A B C = false by rw [HE.out, HLA.out, decide_eq_false h2]; simp)
   go_enter Tryz.func135, Tryz.ntmps135
   go_wp2_with fail
   go_ret
   exact ⟨ret_bool HF.out.symm, HX0.out⟩
 ·have HF := Lib.hid (show okLP A B C = false by rw [HE.out, HLC.out, decide_eq_false h1]; simp)
  go_enter Tryz.func135, Tryz.ntmps135
  go_wp2_with fail
  go_ret
  exact ⟨ret_bool HF.out.symm, HX0.out⟩
end
end Go.Proofs.YtgohdmnbnhehnaaGreat
