import Derived.Test.YtgohdmnbnhehnaaGreatStAllG12
import Derived.Test.YtgohdmnbnhehnaaGreatStAllG8
import Derived.Test.YtgohdmnbnhehnaaGreatStAllG9
import Derived.Test.YtgohdmnbnhehnaaGreatStAllG6
namespace Go.Proofs.YtgohdmnbnhehnaaGreat
set_option linter.unusedVariables false
set_option linter.unusedSimpArgs false
set_option maxRecDepth 100000
open Go.RowKit
set_option maxHeartbeats 4000000 in
theorem i_costsOf {w : World} {a : Option Addr} {n cap : Nat} {front : List (Int × Int)} (h : Rats w a n cap front) (rest : Int) (m : Nat) (hn : n ≤ 100000) (hm : m ≤ 100000) :
    Calls Tryz.prog 190 #[.slice a n cap, .int .i64 rest, .int .i64 (m : Int)] w fun e w' => (∃ v, e = .returned v ∧ OwnR w' w.heap.size v (front ++ List.replicate m (rest, 1))) ∧ Ext w w' := by
  have HL := Lib.hid h.hlen
  have hc1 := h.hcap
  have hc2 := h.hmax
  have HI := Lib.hid (h.ext (Ext.alloc w (.cells #[] 85)))
  have HO := Lib.hid (OwnR.made w w.heap.size (Nat.le_refl _))
  clear h
  go_enter Tryz.func190, Tryz.ntmps190
  go_wp2_with (first
    | (at_builtin; refine append_rats rfl _ _ rfl w.heap.size (.slice (some ⟨w.heap.size, 0, none⟩) 0 0) [] rfl HO.out a n cap front rfl HI.out (by simp; omega) (by simp) ?_; intro v5 w5 ho hg hnear; have X5 := Lib.hid (ext_grown (Ext.alloc w (.cells #[] 85)) hg (fun j hj => Nat.le_of_eq (Option.some.inj (show some w.heap.size = some j from hj)))); obtain ⟨a5, n5, p5, rfl, HN5⟩ := ho.var; have HO5 := Lib.hid ho; clear ho hg hnear))
  go_loopg [7, 12] m (fun gk oo ii wr => ∃ (k : Nat) (a1 : Option Addr) (n1 p1 : Nat), Hid (gk + k = m) ∧ ii = .int .i64 (k : Int) ∧ oo = .slice a1 n1 p1 ∧ Hid (OwnR wr w.heap.size (.slice a1 n1 p1) (front ++ List.replicate k (rest, 1))) ∧ Hid (Ext w wr))
  case atStart => exact ⟨0, _, _, _, Lib.hid (by omega), rfl, rfl, Lib.hid (by have := HO5.out; simpa using this), X5⟩
  case round =>
    obtain ⟨g1, h_g1⟩ : ∃ x, x = gk := ⟨_, rfl⟩
    subst h_g1
    obtain ⟨wr1, h_wr1⟩ : ∃ x, x = wr := ⟨_, rfl⟩
    subst h_wr1
    obtain ⟨k, a1, n1, p1, HK, rfl, rfl, HO1, HX⟩ := hrel
    by_cases hlt : k < m
    · have HLL := Lib.hid (show (front ++ List.replicate k (rest, (1 : Int))).length = n + k by simp [HL.out])
      go_wp2_with fail
      refine (i_whole rest _).mono ?_
      rintro e w3 ⟨rfl, hx⟩
      have X3 := Lib.hid (HX.out.trans hx)
      have HO3 := Lib.hid (HO1.out.ext hx)
      have hs3 := X3.out.size
      clear hx
      go_wp2_with (first
        | (at_builtin; refine append_rats rfl _ _ rfl w.heap.size (.slice a1 n1 p1) _ rfl (HO3.out.ext (Ext.alloc _ _)) _ 1 _ [(rest, 1)] rfl (Rats.one' _ _ _ _ _ (by simp)) (by rw [HLL.out]; omega) (by simp; omega) ?_; intro v5 w5 ho hg hnear; have X5 := Lib.hid (ext_grown (X3.out.trans (Ext.alloc _ _)) hg (fun j hj => (HO3.out.lt j hj).1)); obtain ⟨a5, n5, p5, rfl, HN5⟩ := ho.var; have HO5 := Lib.hid ho; clear ho hg hnear))
      go_roundg (g1 - 1)
      case measure => have := HK.out; omega
      case rel => exact ⟨k + 1, a5, n5, p5, Lib.hid (by have := HK.out; omega), by go_num, rfl, Lib.hid (by have := HO5.out; rw [List.append_assoc, ← List.replicate_succ'] at this; exact this), X5⟩
    · have hkm : m = k := by have := HK.out; omega
      subst hkm
      go_wp2_with fail
      go_ret
      exact ⟨⟨_, rfl, HO1.out⟩, HX.out⟩
theorem solN_len (t : Tb) : ∀ k, (solN t k).length = t.cols.toNat + t.rows.length
  | 0 => by simp [solN]
  | k + 1 => by simp only [solN, List.length_set]; exact solN_len t k
set_option maxHeartbeats 8000000 in
theorem i_SolutionOf {w : World} {ra : Option Addr} {rn rc : Nat} {ba : Option Addr} {bn bc : Nat} {t : Tb} (h : TbC w ra rn rc ba bn bc t) (hrn : rn ≤ 100000) (hok : tbOk t = true) :
    Calls Tryz.prog 192 #[tbW ra rn rc ba bn bc t.cols] w fun e w' => (∃ v, e = .returned v ∧ OwnR w' w.heap.size v (solT t)) ∧ Ext w w' := by
  have hx0 := Ext.alloc w (tbBox ra rn rc ba bn bc t.cols)
  have HX0 := Lib.hid hx0
  have H := Lib.hid (h.ext hx0)
  have HF := Lib.hid (i_formed H.out (by omega))
  rw [hok] at HF
  obtain ⟨m, hxm, hm, hbr, hrl0, hbs0⟩ := tbOk_parts h hok
  subst hbr
  have hr1 := h.rows.hcap
  have hr2 := h.rows.hmax
  have HLR := Lib.hid h.rows.hlen
  have HSO := Lib.hid (show solT t = solN t bn by unfold solT; rw [if_pos hok, h.rows.hlen])
  have HS0 := Lib.hid (show solN t 0 = List.replicate (m + bn) (0, 1) by simp only [solN]; rw [hxm, h.rows.hlen]; rfl)
  have HSL := Lib.hid (fun k => show (solN t k).length = m + bn by rw [solN_len, hxm, h.rows.hlen]; simp)
  have HRL := Lib.hid hrl0
  have HBS := Lib.hid hbs0
  have HCM := Lib.hid hxm
  rw [hxm] at HF hx0 HX0 H
  rw [hxm]
  have HO := Lib.hid (fun (W : World) => OwnR.made W W.heap.size (Nat.le_refl _))
  clear h hx0 hrl0 hbs0 hok hxm
  go_enter Tryz.func192, Tryz.ntmps192
  go_wp2_with fail
  refine HF.out.mono ?_
  rintro e w1 ⟨rfl, hx⟩
  have X1 := Lib.hid hx
  have H1 := Lib.hid (H.out.ext hx)
  have c0 : w1.cell? ⟨w.heap.size, 0, none⟩ = some (.slice ra bn rc) := hx.cellSome (by simp)
  have c2 : w1.cell? ⟨w.heap.size, 2, none⟩ = some (.int .i64 (m : Int)) := hx.cellSome (by simp)
  have hs1 : w.heap.size + 1 ≤ w1.heap.size := by have := hx.size; simpa using this
  have hs1' : w.heap.size < w1.heap.size := hs1
  have HO1 := Lib.hid (HO.out w1)
  clear hx
  go_wp2_with fail
  go_loopg [3, 16] (m + bn) (fun gk oo ii wr => ∃ (k : Nat) (a1 : Option Addr) (n1 p1 : Nat), Hid (gk + k = m + bn) ∧ ii = .int .i64 (k : Int) ∧ oo = .slice a1 n1 p1 ∧ Hid (OwnR wr w1.heap.size (.slice a1 n1 p1) (List.replicate k (0, 1))) ∧ Hid (Ext w1 wr))
  case atStart => exact ⟨0, _, _, _, Lib.hid (by omega), rfl, rfl, HO1, Lib.hid (Ext.alloc _ _)⟩
  case round =>
    obtain ⟨g1, h_g1⟩ : ∃ x, x = gk := ⟨_, rfl⟩
    subst h_g1
    obtain ⟨wr1, h_wr1⟩ : ∃ x, x = wr := ⟨_, rfl⟩
    subst h_wr1
    obtain ⟨k, a1, n1, p1, HK, rfl, rfl, HO1, HX⟩ := hrel
    clear c0 c2
    by_cases hlt : k < m + bn
    · have HLL := Lib.hid (show (List.replicate k ((0 : Int), (1 : Int))).length = k by simp)
      have hltI : (k : Int) < (m : Int) + (bn : Int) := by omega
      go_wp2_with fail
      refine (i_whole 0 _).mono ?_
      rintro e w3 ⟨rfl, hx⟩
      have X3 := Lib.hid (HX.out.trans hx)
      have HO3 := Lib.hid (HO1.out.ext hx)
      have hs3 := X3.out.size
      clear hx
      go_wp2_with (first
        | (at_builtin; refine append_rats rfl _ _ rfl w1.heap.size (.slice a1 n1 p1) _ rfl (HO3.out.ext (Ext.alloc _ _)) _ 1 _ [(0, 1)] rfl (Rats.one' _ _ _ _ _ (by simp)) (by rw [HLL.out]; omega) (by simp; omega) ?_; intro v5 w5 ho hg hnear; have X5 := Lib.hid (ext_grown (X3.out.trans (Ext.alloc _ _)) hg (fun j hj => (HO3.out.lt j hj).1)); obtain ⟨a5, n5, p5, rfl, HN5⟩ := ho.var; have HO5 := Lib.hid ho; clear ho hg hnear))
      go_roundg (g1 - 1)
      case measure => have := HK.out; omega
      case rel => exact ⟨k + 1, a5, n5, p5, Lib.hid (by have := HK.out; omega), by go_num, rfl, Lib.hid (by have := HO5.out; rw [← List.replicate_succ'] at this; exact this), X5⟩
    · have hkm : k = m + bn := by have := HK.out; omega
      have hltI : ¬ (k : Int) < (m : Int) + (bn : Int) := by omega
      have HKM := Lib.hid hkm
      have HO2 := Lib.hid (show OwnR wr1 w1.heap.size (.slice a1 n1 p1) (solN t 0) by rw [HS0.out, ← hkm]; exact HO1.out)
      have c0 : wr1.cell? ⟨w.heap.size, 0, none⟩ = some (.slice ra bn rc) := (X1.out.trans HX.out).cellSome (by simp)
      clear hkm
      go_wp2_with fail
      go_loopg [26] bn (fun gk ii wr => ∃ (k : Nat), Hid (gk + k = bn) ∧ ii = .int .i64 (k : Int) ∧ Hid (OwnR wr w1.heap.size (.slice a1 n1 p1) (solN t k)) ∧ Hid (Ext w1 wr))
      case atStart => exact ⟨0, Lib.hid (by omega), rfl, HO2, HX⟩
      case round =>
        obtain ⟨g2, h_g2⟩ : ∃ x, x = gk := ⟨_, rfl⟩
        subst h_g2
        obtain ⟨wr2, h_wr2⟩ : ∃ x, x = wr := ⟨_, rfl⟩
        subst h_wr2
        obtain ⟨j, HJ, rfl, HO4, HX4⟩ := hrel
        clear c0
        by_cases hjl : j < bn
        · obtain ⟨zb, zoff, ya, yn, yc, hza, hz0, hrow⟩ := (H1.out.ext HX4.out).rows.at hjl
          subst hza
          obtain ⟨u, hu⟩ : ∃ u, u = m + bn := ⟨_, rfl⟩
          have hyn : yn = u + 1 := by rw [← hrow.hlen, hu]; exact HRL.out j hjl
          have HYN := Lib.hid hyn
          have hy1 := hrow.hcap
          have hy2 := hrow.hmax
          have hub : u ≤ 200000 := by omega
          obtain ⟨yb, yoff, p, q, hya, hpq, hy0c, hy1c⟩ := hrow.at (show u < yn by omega)
          subst hya
          have HPQ := Lib.hid (show t.at j u = (p, q) from hpq)
          obtain ⟨b, hb, hbl⟩ := HBS.out j hjl
          have HB := Lib.hid hb
          obtain ⟨eb, eoff, hea, he0⟩ := (H1.out.ext HX4.out).basis.at hjl
          subst hea
          rw [hb] at he0
          have hn1 : n1 = u := by have := HO4.out.rats.hlen; rw [HSL.out] at this; omega
          subst hn1
          obtain ⟨G, hG, hbG, hfr, hGl⟩ := HO4.out.block (k := b) (by omega)
          subst hG
          obtain ⟨G', goff', g1v, g2v, hG', hgv, hg0, hg1⟩ := HO4.out.rats.at (show b < n1 by omega)
          simp only [Option.some.injEq, Addr.mk.injEq, and_true] at hG'
          obtain ⟨rfl, rfl⟩ := hG'
          rw [Nat.zero_add] at hg0 hg1
          have c1 : wr2.cell? ⟨w.heap.size, 1, none⟩ = some (.slice (some ⟨eb, eoff, none⟩) bn bc) := (X1.out.trans HX4.out).cellSome (by simp)
          have hwr : IntKind.i64.wrap ((yn : Int) - 1) = (n1 : Int) := by have := HYN.out; rw [IntKind.wrap_i64]; omega
          have hu1 : (n1 : Int) < (yn : Int) := by have := HYN.out; omega
          have hu0 : (0 : Int) ≤ (n1 : Int) := by omega
          have hb0 : (0 : Int) ≤ (b : Int) := by omega
          have hb1 : (b : Int) < (n1 : Int) := by omega
          have hj0 : (0 : Int) ≤ (j : Int) := by omega
          have hj1 : (j : Int) < (bn : Int) := by omega
          have HU := Lib.hid hu
          clear hpq hrow hyn hb hgv hu
          go_upto_region 11 with fail
          go_still_tail 13, (by kernel_rfl)
          have HO5 := Lib.hid (show OwnR ((wr2.drew.setCell ⟨G, b * 2, none⟩ (.int .i64 p)).setCell ⟨G, b * 2 + 1, none⟩ (.int .i64 q)) w1.heap.size (.slice (some ⟨G, 0, none⟩) n1 p1) (solN t (j + 1)) by
            have h1 := (HO4.out.ext (Ext.drew wr2)).set (k := b) (by rw [HSL.out, ← HU.out]; omega) p q
            have h2 : solN t (j + 1) = (solN t j).set b (p, q) := by
              simp only [solN]
              rw [HB.out, Int.toNat_natCast, HCM.out, Int.toNat_natCast, HLR.out, ← HU.out, HPQ.out]
            rw [h2]; exact h1)
          have HX5 := Lib.hid (((HX4.out.trans (Ext.drew wr2)).setCell (p := ⟨G, b * 2, none⟩) hbG (.int .i64 p)).setCell (p := ⟨G, b * 2 + 1, none⟩) hbG (.int .i64 q))
          clear hwr
          go_wp2_with fail
          go_roundg (g2 - 1)
          case measure => have := HJ.out; omega
          case rel => exact ⟨j + 1, Lib.hid (by have := HJ.out; omega), by go_num, HO5, HX5⟩
        · have hjm : bn = j := by have := HJ.out; omega
          subst hjm
          go_wp2_with fail
          go_ret
          exact ⟨⟨_, rfl, by rw [HSO.out]; exact HO4.out.mono (by omega)⟩, (HX0.out.trans X1.out).trans HX4.out⟩
end Go.Proofs.YtgohdmnbnhehnaaGreat
namespace Go.Proofs.YtgohdmnbnhehnaaGreat
set_option linter.unusedVariables false
set_option linter.unusedSimpArgs false
set_option maxRecDepth 100000
open Go.RowKit
theorem coreC_snoc {V : List Int} {n k : Nat} {v : Int} (hn : V.length = n) (h : k + 1 < n) (hv : V[k + 1]?.getD 0 = v) : (coreC V).take k ++ [(-v, 1)] = (coreC V).take (k + 1) := by
  have h1 : k + 1 < V.length := by omega
  have h2 : (coreC V)[k]? = some (-v, 1) := by
    unfold coreC
    rw [List.getElem?_eq_getElem h1, Option.getD_some] at hv
    rw [List.getElem?_map, List.getElem?_drop, Nat.add_comm 1 k, List.getElem?_eq_getElem h1, hv]; rfl
  have h3 : k < (coreC V).length := (List.getElem?_eq_some_iff.1 h2).1
  rw [List.take_succ_eq_append_getElem h3, (List.getElem?_eq_some_iff.1 h2).2]
set_option maxHeartbeats 4000000 in
theorem i_minusValues {w : World} {p : Int} {a : Option Addr} {n cap : Nat} {V : List Int} (h : Ints w a n cap V) (hn1 : 1 ≤ n) (hn : n ≤ 1000) (hV : ∀ x ∈ V, -500 ≤ x ∧ x ≤ 500) :
    Calls Tryz.prog 204 #[pair p a n cap, .int .i64 1, .int .i64 ((n : Int) - 1)] w fun e w' => (∃ v, e = .returned v ∧ OwnR w' w.heap.size v (coreC V)) ∧ Ext w w' := by
  have HL := Lib.hid h.hlen
  have hc1 := h.hcap
  have hc2 := h.hmax
  obtain ⟨W, hW⟩ : ∃ W, W = w.alloc (.cells #[.int .i64 p, .slice a n cap] 47) := ⟨_, rfl⟩
  have hxW : Ext w W := by rw [hW]; exact Ext.alloc _ _
  have HXW := Lib.hid hxW
  have HI := Lib.hid (h.ext hxW)
  have HVB := Lib.hid hV
  have HBX := Lib.hid (show W.cell? ⟨w.heap.size, 1, none⟩ = some (.slice a n cap) by rw [hW]; simp)
  have hsW := hxW.size
  have HO := Lib.hid (OwnR.made W W.heap.size (Nat.le_refl _))
  have HCL := Lib.hid (show (coreC V).length = n - 1 by unfold coreC; simp [h.hlen])
  clear h hV hxW
  go_enter Tryz.func204, Tryz.ntmps204
  go_upto_region 1 with fail
  rw [← hW]
  clear hW
  go_wp2_with fail
  go_loopg [7, 8] (n - 1) (fun gk oo ii wr => ∃ (k : Nat) (a1 : Option Addr) (n1 p1 : Nat), Hid (gk + k = n - 1) ∧ ii = .int .i64 ((k + 1 : Nat) : Int) ∧ oo = .slice a1 n1 p1 ∧ Hid (OwnR wr W.heap.size (.slice a1 n1 p1) ((coreC V).take k)) ∧ Hid (Ext W wr))
  case atStart => exact ⟨0, _, _, _, Lib.hid (by omega), rfl, rfl, HO, Lib.hid (Ext.alloc _ _)⟩
  case round =>
    obtain ⟨g1, h_g1⟩ : ∃ x, x = gk := ⟨_, rfl⟩
    subst h_g1
    obtain ⟨wr1, h_wr1⟩ : ∃ x, x = wr := ⟨_, rfl⟩
    subst h_wr1
    obtain ⟨k, a1, n1, p1, HK, rfl, rfl, HO1, HX⟩ := hrel
    have hsz := HX.out.size
    have bx := HX.out.cellSome HBX.out
    by_cases hlt : k + 1 < n
    · have hle : ((k + 1 : Nat) : Int) ≤ (n : Int) - 1 := by omega
      obtain ⟨eb, eoff, hea, he0⟩ := (HI.out.ext HX.out).at hlt
      subst hea
      obtain ⟨v, hv⟩ : ∃ v, v = V[k + 1]?.getD 0 := ⟨_, rfl⟩
      have hvb : -500 ≤ v ∧ v ≤ 500 := by
        rw [hv, List.getElem?_eq_getElem (by rw [HL.out]; exact hlt), Option.getD_some]
        exact HVB.out _ (List.getElem_mem _)
      rw [← hv] at he0
      have HSN := Lib.hid (coreC_snoc HL.out hlt hv.symm)
      have hwn : IntKind.i64.wrap (-v) = -v := by rw [IntKind.wrap_i64]; omega
      have hk0 : (0 : Int) ≤ ((k + 1 : Nat) : Int) := by omega
      have hk1 : ((k + 1 : Nat) : Int) < (n : Int) := by omega
      have hk2 : IntKind.i64.wrap (((k + 1 : Nat) : Int) + 1) = ((k + 1 + 1 : Nat) : Int) := by rw [IntKind.wrap_i64]; omega
      have HTL := Lib.hid (show ((coreC V).take k).length = k by rw [List.length_take, HCL.out]; omega)
      clear hv
      go_wp2_with fail
      refine (i_whole (-v) _).mono ?_
      rintro e w3 ⟨rfl, hx⟩
      have X3 := Lib.hid (HX.out.trans hx)
      have HO3 := Lib.hid (HO1.out.ext hx)
      have hs3 := X3.out.size
      clear hx
      go_wp2_with (first
        | (at_builtin; refine append_rats rfl _ _ rfl W.heap.size (.slice a1 n1 p1) _ rfl (HO3.out.ext (Ext.alloc _ _)) _ 1 _ [(-v, 1)] rfl (Rats.one' _ _ _ _ _ (by simp)) (by rw [HTL.out]; omega) (by simp; omega) ?_; intro v5 w5 ho hg hnear; have X5 := Lib.hid (ext_grown (X3.out.trans (Ext.alloc _ _)) hg (fun j hj => (HO3.out.lt j hj).1)); obtain ⟨a5, n5, p5, rfl, HN5⟩ := ho.var; have HO5 := Lib.hid ho; clear ho hg hnear))
      go_roundg (g1 - 1)
      case measure => have := HK.out; omega
      case rel => exact ⟨k + 1, a5, n5, p5, Lib.hid (by have := HK.out; omega), by go_num, rfl, Lib.hid (by rw [← HSN.out]; exact HO5.out), X5⟩
    · have hle : ¬ ((k + 1 : Nat) : Int) ≤ (n : Int) - 1 := by omega
      have HT := Lib.hid (show (coreC V).take k = coreC V from List.take_of_length_le (by rw [HCL.out]; omega))
      go_wp2_with fail
      go_ret
      exact ⟨⟨_, rfl, by rw [← HT.out]; exact HO1.out.mono hsW⟩, HXW.out.trans HX.out⟩
set_option maxHeartbeats 4000000 in
theorem i_minusAll {w : World} {a : Option Addr} {n cap : Nat} {Y : List (Int × Int)} (h : Rats w a n cap Y) (hn : n ≤ 100000) (hY : ∀ k : Nat, -9223372036854775807 ≤ (Y[k]?.getD (0, 0)).1 ∧ (Y[k]?.getD (0, 0)).1 ≤ 9223372036854775807) :
    Calls Tryz.prog 89 #[.slice a n cap] w fun e w' => (∃ v, e = .returned v ∧ OwnR w' w.heap.size v (Y.map negR)) ∧ Ext w w' := by
  have HL := Lib.hid h.hlen
  have hc1 := h.hcap
  have hc2 := h.hmax
  have HI := Lib.hid h
  have HB := Lib.hid hY
  have HO := Lib.hid (OwnR.made w w.heap.size (Nat.le_refl _))
  clear h hY
  go_enter Tryz.func89, Tryz.ntmps89
  go_wp2_with fail
  go_loopg [3, 9] n (fun gk oo ii wr => ∃ (k : Nat) (a1 : Option Addr) (n1 p1 : Nat), Hid (gk + k = n) ∧ ii = .int .i64 (k : Int) ∧ oo = .slice a1 n1 p1 ∧ Hid (OwnR wr w.heap.size (.slice a1 n1 p1) ((Y.take k).map negR)) ∧ Hid (Ext w wr))
  case atStart => exact ⟨0, _, _, _, Lib.hid (by omega), rfl, rfl, HO, Lib.hid (Ext.alloc _ _)⟩
  case round =>
    obtain ⟨g1, h_g1⟩ : ∃ x, x = gk := ⟨_, rfl⟩
    subst h_g1
    obtain ⟨wr1, h_wr1⟩ : ∃ x, x = wr := ⟨_, rfl⟩
    subst h_wr1
    obtain ⟨k, a1, n1, p1, HK, rfl, rfl, HO1, HX⟩ := hrel
    have hsz := HX.out.size
    by_cases hlt : k < n
    · obtain ⟨eb, eoff, x, y, hea, hxy, he0, he1⟩ := (HI.out.ext HX.out).at hlt
      subst hea
      have hb := HB.out k
      rw [hxy] at hb
      have HSN := Lib.hid (show (Y.take k).map negR ++ [(-x, y)] = (Y.take (k + 1)).map negR by
        have h1 : k < Y.length := by rw [HL.out]; exact hlt
        rw [List.take_succ_eq_append_getElem h1, List.map_append, List.map_singleton]
        rw [List.getElem?_eq_getElem h1, Option.getD_some] at hxy
        rw [hxy]; rfl)
      have hk0 : (0 : Int) ≤ (k : Int) := by omega
      have hk1 : (k : Int) < (n : Int) := by omega
      have HTL := Lib.hid (show ((Y.take k).map negR).length = k by rw [List.length_map, List.length_take, HL.out]; omega)
      have HM := Lib.hid (fun w' => i_minus x y w' hb.1 hb.2)
      clear hxy hb
      go_wp2_with fail
      refine (HM.out _).mono ?_
      rintro e w3 ⟨rfl, hx⟩
      have X3 := Lib.hid ((HX.out.trans (Ext.alloc _ _)).trans hx)
      have HO3 := Lib.hid ((HO1.out.ext (Ext.alloc _ _)).ext hx)
      have hs3 := X3.out.size
      clear hx
      go_wp2_with (first
        | (at_builtin; refine append_rats rfl _ _ rfl w.heap.size (.slice a1 n1 p1) _ rfl (HO3.out.ext (Ext.alloc _ _)) _ 1 _ [(-x, y)] rfl (Rats.one' _ _ _ _ _ (by simp)) (by rw [HTL.out]; omega) (by simp; omega) ?_; intro v5 w5 ho hg hnear; have X5 := Lib.hid (ext_grown (X3.out.trans (Ext.alloc _ _)) hg (fun j hj => (HO3.out.lt j hj).1)); obtain ⟨a5, n5, p5, rfl, HN5⟩ := ho.var; have HO5 := Lib.hid ho; clear ho hg hnear))
      go_roundg (g1 - 1)
      case measure => have := HK.out; omega
      case rel => exact ⟨k + 1, a5, n5, p5, Lib.hid (by have := HK.out; omega), by go_num, rfl, Lib.hid (by rw [← HSN.out]; exact HO5.out), X5⟩
    · have HT := Lib.hid (show Y.take k = Y from List.take_of_length_le (by rw [HL.out]; omega))
      rw [HT.out] at HO1
      go_wp2_with fail
      go_ret
      exact ⟨⟨_, rfl, HO1.out⟩, HX.out⟩
end Go.Proofs.YtgohdmnbnhehnaaGreat
namespace Go.Proofs.YtgohdmnbnhehnaaGreat
set_option linter.unusedVariables false
set_option linter.unusedSimpArgs false
set_option maxRecDepth 100000
open Go.RowKit
def LpcR (w : World) (e : Ending) (A : List (List Int)) (B : List Int) (C : List (Int × Int)) (ok : Bool) : Prop :=
  ∃ a na ca b nb cb c nc cc, e = .returned (.tuple #[lpW a na ca b nb cb c nc cc, .bool ok]) ∧ (ok = true → LpC w a na ca b nb cb c nc cc A B C)
theorem seqI_bd {n : Nat} (hn : n ≤ 32) : ∀ k : Nat, (seqI 1 (n - 1))[k]?.getD 0 ≤ 9223372036854775807 := by
  intro k
  by_cases h : k < (seqI 1 (n - 1)).length
  · rw [List.getElem?_eq_getElem h, Option.getD_some]
    simp only [seqI, List.length_map, List.length_range] at h
    simp only [seqI, List.getElem_map, List.getElem_range]
    omega
  · rw [List.getElem?_eq_none (by omega)]; decide
set_option maxHeartbeats 16000000 in
theorem i_BalancedLP {w : World} {p : Int} {a : Option Addr} {n cap : Nat} {V : List Int} (h : Ints w a n cap V) :
    Calls Tryz.prog 146 #[pair p a n cap] w fun e w' => LpcR w' e (coreA p.toNat n) (coreB p.toNat) (coreC V) (gameOk p V) ∧ Ext w w' := by
  obtain ⟨W, hW⟩ : ∃ W, W = (w.alloc (.cells #[.int .i64 p, .slice a n cap] 47)).alloc (.cells #[.slice none 0 0, .slice none 0 0, .slice none 0 0] 67) := ⟨_, rfl⟩
  have HWS := Lib.hid (show W.heap.size = w.heap.size + 2 by rw [hW]; simp)
  have HX0 := Lib.hid (show Ext w W by rw [hW]; exact (Ext.alloc _ _).trans (Ext.alloc _ _))
  have HWC := Lib.hid (show W.cell? ⟨w.heap.size, 1, none⟩ = some (.slice a n cap) by rw [hW]; simp)
  have HWD := Lib.hid (show W.cell? ⟨w.heap.size, 0, none⟩ = some (.int .i64 p) by rw [hW]; simp)
  have HWR := Lib.hid (show W.heap[w.heap.size + 1]? = some (.cells #[.slice none 0 0, .slice none 0 0, .slice none 0 0] 67 (0, 0)) by rw [hW]; exact heapA_new _ _ _ (by simp))
  obtain ⟨WG, hWG⟩ : ∃ x, x = w.alloc (.cells #[.int .i64 p, .slice a n cap] 47) := ⟨_, rfl⟩
  have HXG := Lib.hid (show Ext WG W by rw [hW, hWG]; exact Ext.alloc _ _)
  have HGS := Lib.hid (show WG.heap.size = w.heap.size + 1 by rw [hWG]; simp)
  have HG0 := Lib.hid (show WG.cell? ⟨w.heap.size, 0, none⟩ = some (.int .i64 p) by rw [hWG]; simp)
  have HG1 := Lib.hid (show WG.cell? ⟨w.heap.size, 1, none⟩ = some (.slice a n cap) by rw [hWG]; simp)
  clear hWG
  have HVL := Lib.hid h.hlen
  have hvcap := h.hcap
  have hvmax := h.hmax
  have HVE := Lib.hid (h.ext HX0.out)
  have HC := Lib.hid (i_IsValidGame (p := p) (h.ext HX0.out))
  have hrbl : (w.heap.size + 1) < W.heap.size := by rw [HWS.out]; omega
  have HRB := Lib.hid (fun (w' : World) (hx : Ext W w') => (hx.block _ hrbl).trans HWR.out)
  clear h hrbl
  cases hg : gameOk p V
  · rw [hg, hW] at HC
    clear hg
    go_enter Tryz.func146, Tryz.ntmps146
    go_wp2_with fail
    refine HC.out.mono ?_
    rw [← hW]
    rintro e w1 ⟨rfl, hx1⟩
    have hr0 := LpO.boxc0 (HRB.out w1 hx1)
    have hr1 := LpO.boxc1 (HRB.out w1 hx1)
    have hr2 := LpO.boxc2 (HRB.out w1 hx1)
    have hrf := LpO.boxf (HRB.out w1 hx1)
    have HX1 := Lib.hid hx1
    clear hx1
    go_wp2_with fail
    refine bodyPost_ret (v := .tuple #[.agg #[.slice none 0 0, .slice none 0 0, .slice none 0 0], .bool false]) (by simp [results, Tryz.results146, go_sem, hr0, hr1, hr2]) rfl ⟨⟨none, 0, 0, none, 0, 0, none, 0, 0, rfl, fun h => Bool.noConfusion h⟩, (((HX0.out.trans HX1.out).store 0 (by omega) _).store 1 (by omega) _).store 2 (by omega) _⟩
  · obtain ⟨q, rfl, h1, h5, hlen, _, hvb⟩ := gameOk_len hg
    have hq := cN_le q h5
    have hn32 : n ≤ 32 := by rw [← HVL.out, hlen]; omega
    have hn1 : 1 ≤ n := by rw [← HVL.out, hlen]; omega
    have HVB := Lib.hid hvb
    have hlen1 : IntKind.i64.wrap ((n : Int) - 1) = (n : Int) - 1 := by rw [IntKind.wrap_i64]; omega
    rw [hg, hW] at HC
    clear hg hlen hvb hq
    go_enter Tryz.func146, Tryz.ntmps146
    go_wp2_with fail
    refine HC.out.mono ?_
    rw [← hW]
    clear hW
    rintro e w1 ⟨rfl, hx1⟩
    have hc0 := hx1.cellSome HWD.out
    have hc1 := hx1.cellSome HWC.out
    have HX1 := Lib.hid hx1
    clear hx1 HC
    have HXA := Lib.hid (HX0.out.trans HX1.out)
    have HSB := Lib.hid (seqI_bd hn32)
    have HSL := Lib.hid (show (seqI 1 (n - 1)).length = n - 1 by simp [seqI])
    go_wp2_with fail
    have hk : Ext w1 w1.drew := Ext.drew w1
    refine wp_region_held_drew (S := (fun w' => w'.cell? ⟨w.heap.size, 0, none⟩ = some (.int .i64 (q : Int)) ∧ w'.cell? ⟨w.heap.size, 1, none⟩ = some (.slice a n cap) ∧ Ext w w')) (by kernel_rfl) ?_ (fun hHeld => ?_)
    · exact ⟨hk.cellSome hc0, hk.cellSome hc1, HXA.out.trans hk⟩
    refine tk (i := 0) (h := ?_)
    try simp only [Act.put, sA, sB, sC]
    refine tk (i := 1) (h := ?_)
    try simp only [Act.put, sA, sB, sC]
    refine tk (i := 2) (h := ?_)
    try simp only [Act.put, sA, sB, sC]
    refine tk (i := 5) (h := ?_)
    try simp only [Act.put, sA, sB, sC]
    refine tk (i := 6) (h := ?_)
    try simp only [Act.put, sA, sB, sC]
    refine tk (i := 8) (h := ?_)
    try simp only [Act.put, sA, sB, sC]
    refine tk (i := 9) (h := ?_)
    try simp only [Act.put, sA, sB, sC]
    refine rd (i := 3) (h := fun K hK => ?_)
    go_simp
    (go_at_call 151; refine (i_coalitions 1 ((n : Int) - 1) (n - 1) (by omega) (by omega) (by omega) (by omega)).mono ?_; rintro e w3 ⟨⟨v3, rfl, ho3⟩, hx3⟩; obtain ⟨a3, n3, c3, rfl, HN3⟩ := ho3.var; have hk := hk.trans hx3; have HO3 := Lib.hid ho3; clear ho3 hx3)
    go_wp2_with fail
    refine hK.out _ _ ?_ (fun hHeld => ?_)
    · exact ⟨hk.cellSome hc0, hk.cellSome hc1, HXA.out.trans hk⟩
    clear hK K
    try simp only [Act.put, sA, sB, sC]
    refine rd (i := 4) (h := fun K hK => ?_)
    go_simp
    (go_at_call 66; refine (i_members q h5 HO3.out.ints HSB.out (by have h1 := HN3.out; have h2 := HSL.out; omega)).mono ?_; rintro e w4 ⟨⟨v4, rfl, ho4⟩, hx4⟩; obtain ⟨a4, n4, c4, rfl, HN4⟩ := ho4.var; have HO4 := Lib.hid (OwnSS.mono' ho4 hk.size); have hk := hk.trans hx4; clear ho4 hx4)
    go_wp2_with fail
    refine hK.out _ _ ?_ (fun hHeld => ?_)
    · exact ⟨hk.cellSome hc0, hk.cellSome hc1, HXA.out.trans hk⟩
    clear hK K
    try simp only [Act.put, sA, sB, sC]
    refine rd (i := 7) (h := fun K hK => ?_)
    go_simp
    (go_at_call 68; refine (i_times q 1 (by omega)).mono ?_; rintro e w5 ⟨⟨v5, rfl, ho5⟩, hx5⟩; obtain ⟨a5, n5, c5, rfl, HN5⟩ := ho5.var; have HO4 := Lib.hid (OwnSS.ext HO4.out hx5); have HO5 := Lib.hid (ho5.mono hk.size); have hk := hk.trans hx5; clear ho5 hx5)
    go_wp2_with fail
    refine hK.out _ _ ?_ (fun hHeld => ?_)
    · exact ⟨hk.cellSome hc0, hk.cellSome hc1, HXA.out.trans hk⟩
    clear hK K
    try simp only [Act.put, sA, sB, sC]
    refine rd (i := 10) (h := fun K hK => ?_)
    go_simp
    (go_at_call 204; refine (i_minusValues (p := (q : Int)) (((HVE.out.ext HX1.out).ext hk)) hn1 (by omega) HVB.out).mono ?_; rintro e w6 ⟨⟨v6, rfl, ho6⟩, hx6⟩; obtain ⟨a6, n6, c6, rfl, HN6⟩ := ho6.var; have HO4 := Lib.hid (OwnSS.ext HO4.out hx6); have HO5 := Lib.hid (HO5.out.ext hx6); have HO6 := Lib.hid (ho6.mono hk.size); have hk := hk.trans hx6; have hrA := HRB.out _ (HX1.out.trans hk); have hr0 := LpO.boxc0 hrA; have hr1 := LpO.boxc1 hrA; have hr2 := LpO.boxc2 hrA; have hrf := LpO.boxf hrA; clear ho6 hx6 hrA)
    go_wp2_with fail
    refine hK.out _ _ ?_ (fun hHeld => ?_)
    · exact ⟨hk.cellSome hc0, hk.cellSome hc1, HXA.out.trans hk⟩
    clear hK K
    try simp only [Act.put, sA, sB, sC]
    refine tk (i := 11) (h := ?_)
    try simp only [Act.put, sA, sB, sC]
    have hgx := fun u0 u1 u2 => ((((HXG.out.trans HX1.out).trans hk).store (b := w.heap.size + 1) 0 (Nat.le_of_eq HGS.out) u0).store (b := w.heap.size + 1) 1 (Nat.le_of_eq HGS.out) u1).store (b := w.heap.size + 1) 2 (Nat.le_of_eq HGS.out) u2
    refine rd (i := 12) (h := fun K hK => ?_)
    go_simp
    refine hK.out _ _ ?_ (fun hHeld => ?_)
    · exact ⟨(hgx _ _ _).cellSome HG0.out, (hgx _ _ _).cellSome HG1.out, (((HXA.out.trans hk).store 0 (by omega) _).store 1 (by omega) _).store 2 (by omega) _⟩
    clear hK K
    try simp only [Act.put, sA, sB, sC]
    refine tk (i := 13) (h := ?_)
    try simp only [Act.put, sA, sB, sC]
    refine wpAnyH_done (by kernel_rfl) ?_ _
    have hs1 := HX1.out.size
    rw [HWS.out] at hs1
    have hkp : ∀ k, w1.heap.size ≤ k → (((w6.setCell ⟨w.heap.size + 1, 0, none⟩ (.slice a4 n4 c4)).setCell ⟨w.heap.size + 1, 1, none⟩ (.slice a5 n5 c5)).setCell ⟨w.heap.size + 1, 2, none⟩ (.slice a6 n6 c6)).heap[k]? = w6.heap[k]? := fun k hk1 => by
      rw [heap_setCell_other _ _ _ _ (show k ≠ w.heap.size + 1 by omega), heap_setCell_other _ _ _ _ (show k ≠ w.heap.size + 1 by omega), heap_setCell_other _ _ _ _ (show k ≠ w.heap.size + 1 by omega)]
    go_wp2_with fail
    refine bodyPost_ret (v := .tuple #[lpW a4 n4 c4 a5 n5 c5 a6 n6 c6, .bool true]) (by simp [results, Tryz.results146, go_sem, hr0, hr1, hr2]) rfl ⟨⟨a4, n4, c4, a5, n5, c5, a6, n6, c6, rfl, fun _ => ⟨?_, ?_, ?_⟩⟩, (((HXA.out.trans hk).store 0 (by omega) _).store 1 (by omega) _).store 2 (by omega) _⟩
    · exact OwnSS.intss (HO4.out.on _ fun k h1 _ => hkp k h1)
    · exact (HO5.out.on _ fun k h1 _ => hkp k h1).ints
    · exact (HO6.out.keep fun k h1 => hkp k (HO6.out.lt k h1).1).rats
end Go.Proofs.YtgohdmnbnhehnaaGreat
namespace Go.Proofs.YtgohdmnbnhehnaaGreat
set_option linter.unusedVariables false
theorem raw_val {A : List (List Int)} {B : List Int} {C : List (Int × Int)} (ok : okLP A B C = true) {r : LpR} (h : rawT A B C = some r) (hs : r.status = 1) :
    r.Y.length = B.length ∧ valR r.value = true ∧ (∀ k, k < r.Y.length → valR (r.Y[k]?.getD (0, 0)) = true) := by
  obtain ⟨h1, h2, h3, h4, h5, h6⟩ := okLP_parts ok
  unfold rawT at h
  rw [h3] at h
  cases e1 : phaseT (costs1 C.length A.length) 1000 (startT A B C.length) with
  | none => rw [e1] at h; cases h
  | some p1 =>
    rw [e1] at h
    simp only [Option.bind_some] at h
    split at h
    · rw [Option.map_eq_some_iff] at h
      obtain ⟨Y, _, rfl⟩ := h
      cases hs
    · cases e2 : driveN C.length (p1.t, p1.left) A.length with
      | none => rw [e2] at h; cases h
      | some s =>
        rw [e2] at h
        simp only [Option.bind_some] at h
        rw [Option.map_eq_some_iff] at h
        obtain ⟨p2, e3, h⟩ := h
        split at h
        · subst h; cases hs
        · have i1 := (phaseT_inv (start_inv ok) e1).1
          have i2 := (driveN_inv (s := (p1.t, p1.left)) i1 e2).1
          obtain ⟨i3, e4, _⟩ := phaseT_inv i2 e3
          obtain ⟨c1, c2⟩ := costT_spec i3 e4
          subst h
          refine ⟨by simp [h3], ?_, fun k hk => ?_⟩
          · simp only
            rw [valR_negR]
            exact c1.2 _ (by omega)
          · simp only [List.length_map, List.length_range] at hk
            simp only
            rw [List.getElem?_map, List.getElem?_range hk, Option.map_some, Option.getD_some]
            have hv := c1.2 (C.length + k) (by omega)
            unfold dualO sgnR
            split
            · rw [valR_negR, valR_negR]; exact hv
            · rw [valR_negR]; exact hv
theorem solveG_val {bound : List (List Int) → List (Int × Int) → List (Int × Int) → Nat → Bool} {A : List (List Int)} {B : List Int} {C : List (Int × Int)} (h : (solveG bound A B C).status = 1) :
    okLP A B C = true ∧ rawT A B C = some (solveG bound A B C) ∧ checkG bound A B C (solveG bound A B C) = true ∧ (solveG bound A B C).Y.length = B.length ∧ valR (solveG bound A B C).value = true ∧ ∀ k, k < (solveG bound A B C).Y.length → valR ((solveG bound A B C).Y[k]?.getD (0, 0)) = true := by
  cases ok : okLP A B C with
  | false => unfold solveG at h; rw [if_neg (by rw [ok]; simp)] at h; cases h
  | true =>
    cases hr : rawT A B C with
    | none =>
      have e : solveG bound A B C = lpZero 4 := by unfold solveG; rw [if_pos ok, hr]
      rw [e] at h; cases h
    | some r =>
      have e : solveG bound A B C = if checkG bound A B C r = true then r else lpZero 4 := by unfold solveG; rw [if_pos ok, hr]
      by_cases hc : checkG bound A B C r = true
      · rw [if_pos hc] at e
        rw [e] at h ⊢
        have := raw_val ok hr h
        exact ⟨rfl, rfl, hc, this⟩
      · rw [if_neg hc] at e
        rw [e] at h
        cases h
end Go.Proofs.YtgohdmnbnhehnaaGreat
