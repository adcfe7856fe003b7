import Derived.Test.YtgohdmnbnhehnaaGreatFnAllG11
import Derived.Test.YtgohdmnbnhehnaaGreatFnAllG6
import Derived.Test.YtgohdmnbnhehnaaGreatFnAllG2
namespace Go.Proofs.YtgohdmnbnhehnaaGreat
set_option linter.unusedVariables false
open Go.RowKit
def extE (n : Nat) (L : List (Int × Int × Int)) : List (Int × Int × Int) := L ++ [((n : Int) - 1, 0, 1)]
theorem subR_zero {v : Int} (h : -500 ≤ v ∧ v ≤ 500) : subR (0, 1) (v, 1) = ((-v, 1), true) := by
 have h1 : valR (0, 1) = true := by decide
 have h2 : valR (v, 1) = true := valR_mk (by omega) (by omega) (by simp only; omega) (by simp only; omega) (by simp only; rw [gI_nat]; simp)
 unfold subR
 rw [h1, h2]
 simp only [Bool.and_self, if_true]
 rw [show (0 : Int) * 1 - v * 1 = -v by omega, show (1 : Int) * 1 = 1 by rfl]
 have h3 : valR (-v, 1) = true := valR_mk (by omega) (by omega) (by simp only; omega) (by simp only; omega) (by simp only; rw [gI_nat]; simp)
 have hg : gI (-v) 1 = 1 := by rw [gI_nat]; simp
 unfold ratOf
 rw [if_neg (by simp [inB]; omega), if_neg (by omega), hg]
 simp only [Int.tdiv_one]
 unfold cutR
 rw [if_pos h3]
theorem costC_grand {V : List Int} {n : Nat} (hn : V.length = n) (h1 : 1 ≤ n) (hV : ∀ y ∈ V, -500 ≤ y ∧ y ≤ 500) : costC V ((n : Int) - 1, 0, 1) = (-(V[n - 1]?.getD 0), 1) := by
 have hb := getD_bd hV (n - 1)
 unfold costC
 simp only
 rw [show ((n : Int) - 1).toNat = n - 1 by omega, subR_zero hb]
theorem cols_ext {V : List Int} {n : Nat} (hn : V.length = n) (h1 : 1 ≤ n) (hV : ∀ y ∈ V, -500 ≤ y ∧ y ≤ 500) (L : List (Int × Int × Int)) : frontC V (freeL L (n - 2)) ++ fixedC V (extE n L) = colsL V L := by
 have e1 : fixedC V (extE n L) = fixedC V L ++ twoC ((n : Int) - 1) (costC V ((n : Int) - 1, 0, 1)) := by
  unfold extE fixedC
  rw [List.flatMap_append]
  simp
 rw [e1, costC_grand hn h1 hV]
 unfold colsL
 rw [hn, List.append_assoc]
def fitC (V : List Int) (f : Int × Int × Int) : Bool := (subR f.2 (V[f.1.toNat]?.getD 0, 1)).2
theorem subR_val {a b : Int × Int} (h : (subR a b).2 = true) : valR (subR a b).1 = true := by
 unfold subR at h ⊢
 split at h
 ·next h1 => rw [if_pos h1]; exact ratOf_val h
 ·simp at h
theorem subR_no {a b : Int × Int} (h : (subR a b).2 = false) : (subR a b).1 = (0, 0) := by
 unfold subR at h ⊢
 split at h
 ·next h1 => rw [if_pos h1]; exact ratOf_fail h
 ·next h1 => rw [if_neg h1]
theorem valR_int {v : Int} (h : -1000000000 ≤ v ∧ v ≤ 1000000000) : valR (v, 1) = true := valR_mk (by simp) (by simp) (by simp only; omega) (by simp only; omega) (by simp only; rw [gI_nat]; simp)
theorem allV_cols {V : List Int} {n : Nat} (hn : V.length = n) (h1 : 1 ≤ n) (hV : ∀ y ∈ V, -500 ≤ y ∧ y ≤ 500) {L : List (Int × Int × Int)} : allV (stC V L) = (extE n L).all (fitC V) := by
 have h0 : stC V L = (frontC V (freeL L (n - 2))).map (fun c => c.2.2.2) ++ (extE n L).flatMap fun f => [costC V f, (-(costC V f).1, (costC V f).2)] := by
  unfold stC
  rw [← cols_ext hn h1 hV, List.map_append]
  congr 1
  unfold fixedC
  rw [List.map_flatMap]
  rfl
 have h2 : ((frontC V (freeL L (n - 2))).map fun c => c.2.2.2).all valR = true := by
  rw [List.all_eq_true]
  intro x hx
  obtain ⟨c, hc, rfl⟩ := List.mem_map.1 hx
  obtain ⟨s, _, rfl⟩ := List.mem_map.1 hc
  have := getD_bd hV s.toNat
  exact valR_int (by omega)
 unfold allV
 rw [h0, List.all_append, h2, Bool.true_and, List.all_flatMap]
 congr 1
 funext f
 unfold fitC
 cases hf : (subR f.2 (V[f.1.toNat]?.getD 0, 1)).2
 ·have := subR_no hf
  unfold costC
  rw [this]
  decide
 ·have := subR_val hf
  have h3 := valR_neg (subR f.2 (V[f.1.toNat]?.getD 0, 1)).1.1 (subR f.2 (V[f.1.toNat]?.getD 0, 1)).1.2
  unfold costC
  simp only [List.all_cons, List.all_nil, Bool.and_true]
  rw [h3, this]; rfl
def negTo (m j : Nat) (r : List Int) : List Int := r.mapIdx fun i x => if m < i ∧ (i - m) % 2 = 1 ∧ i < j then -x else x
theorem negTo_len (m j : Nat) (r : List Int) : (negTo m j r).length = r.length := by simp [negTo]
theorem negTo_at {m j : Nat} {r : List Int} {i : Nat} (h : i < r.length) : (negTo m j r)[i]?.getD 0 = if m < i ∧ (i - m) % 2 = 1 ∧ i < j then -(r[i]?.getD 0) else r[i]?.getD 0 := by
 simp [negTo, h]
theorem negTo_start (m : Nat) (r : List Int) : negTo m (m + 1) r = r := by
 apply List.ext_getElem (by simp [negTo])
 intro i h1 h2
 simp only [negTo, List.getElem_mapIdx]
 rw [if_neg (by omega)]
theorem negTo_step {m t : Nat} {r : List Int} (h : m + 1 + 2 * t < r.length) : (negTo m (m + 1 + 2 * t) r).set (m + 1 + 2 * t) (-(r[m + 1 + 2 * t]?.getD 0)) = negTo m (m + 1 + 2 * (t + 1)) r := by
 apply List.ext_getElem (by simp [negTo])
 intro i h1 h2
 rw [List.getElem_set]
 simp only [negTo, List.getElem_mapIdx]
 simp only [negTo, List.length_mapIdx] at h2
 split
 ·next e => subst e; rw [if_pos (by omega), List.getElem?_eq_getElem h]; rfl
 ·next e =>
  by_cases hc : m < i ∧ (i - m) % 2 = 1 ∧ i < m + 1 + 2 * t
  ·rw [if_pos hc, if_pos (by omega)]
  ·rw [if_neg hc, if_neg (by omega)]
theorem negTo_end {m j : Nat} {r : List Int} (h : r.length ≤ j) : negTo m j r = negTo m r.length r := by
 apply List.ext_getElem (by simp [negTo])
 intro i h1 h2
 simp only [negTo, List.getElem_mapIdx]
 simp only [negTo, List.length_mapIdx] at h2
 by_cases hc : m < i ∧ (i - m) % 2 = 1
 ·rw [if_pos ⟨hc.1, hc.2, by omega⟩, if_pos ⟨hc.1, hc.2, by omega⟩]
 ·rw [if_neg (by omega), if_neg (by omega)]
theorem fixed_sign (V : List Int) : ∀ (E : List (Int × Int × Int)) (i : Nat) (c : Col), (fixedC V E)[i]? = some c → c.2.1 = if i % 2 = 1 then -1 else 1
 | [], i, c, h => by simp [fixedC] at h
 | f :: E, 0, c, h => by
   simp only [fixedC, List.flatMap_cons, twoC, List.cons_append, List.getElem?_cons_zero, Option.some.injEq] at h
   subst h; rfl
 | f :: E, 1, c, h => by
   simp only [fixedC, List.flatMap_cons, twoC, List.cons_append, List.getElem?_cons_succ, List.getElem?_cons_zero, Option.some.injEq] at h
   subst h; rfl
 | f :: E, i + 2, c, h => by
   simp only [fixedC, List.flatMap_cons, twoC, List.cons_append, List.nil_append, List.getElem?_cons_succ] at h
   have := fixed_sign V E i c h
   rw [this]
   have : (i + 2) % 2 = i % 2 := by omega
   rw [this]
theorem fixed_free (V : List Int) (E : List (Int × Int × Int)) : ∀ c ∈ fixedC V E, c.2.2.1 = false := by
 intro c hc
 obtain ⟨f, _, h2⟩ := List.mem_flatMap.1 hc
 simp only [twoC, List.mem_cons, List.not_mem_nil, or_false] at h2
 rcases h2 with rfl | rfl <;> rfl
theorem neg_rows (V : List Int) (fr : List Int) (E : List (Int × Int × Int)) (q k : Nat) (hk : k < q) :
 negTo fr.length ((frontC V fr ++ fixedC V E).map (·.1)).length (memR ((frontC V fr ++ fixedC V E).map (·.1)) k) = rowC (frontC V fr ++ fixedC V E) q k := by
 apply List.ext_getElem (by simp [negTo, memR, rowC])
 intro i h1 h2
 simp only [rowC, List.length_map] at h2
 simp only [negTo, memR, rowC, List.getElem_mapIdx, List.getElem_map, List.length_map]
 unfold onC
 rw [if_pos hk]
 by_cases hi : i < fr.length
 ·rw [if_neg (by omega)]
  have : (frontC V fr ++ fixedC V E)[i].2.1 = 1 := by
   rw [List.getElem_append_left (by rw [frontC_len]; exact hi)]
   simp [frontC]
  rw [this]; omega
 ·have hl := frontC_len V fr
  have hb : i - (frontC V fr).length < (fixedC V E).length := by rw [List.length_append] at h2; omega
  have e : (frontC V fr ++ fixedC V E)[i] = (fixedC V E)[i - (frontC V fr).length] := List.getElem_append_right (by omega)
  have hs := fixed_sign V E (i - (frontC V fr).length) _ (List.getElem?_eq_getElem hb)
  rw [← e, hl] at hs
  rw [hs]
  by_cases hc : (i - fr.length) % 2 = 1
  ·rw [if_pos ⟨by omega, hc, h2⟩, if_pos hc]; omega
  ·rw [if_neg (by omega), if_neg hc]; omega
theorem last_row (V : List Int) (fr : List Int) (E : List (Int × Int × Int)) (q : Nat) : List.replicate fr.length 1 ++ List.replicate (2 * E.length) 0 = rowC (frontC V fr ++ fixedC V E) q q := by
 unfold rowC
 rw [List.map_append]
 congr 1
 ·refine (List.eq_replicate_iff.2 ⟨by rw [List.length_map, frontC_len], fun x hx => ?_⟩).symm
  obtain ⟨c, hc, rfl⟩ := List.mem_map.1 hx
  obtain ⟨s, _, rfl⟩ := List.mem_map.1 hc
  simp [onC, bitI]
 ·refine (List.eq_replicate_iff.2 ⟨by rw [List.length_map, fixedC_len], fun x hx => ?_⟩).symm
  obtain ⟨c, hc, rfl⟩ := List.mem_map.1 hx
  have := fixed_free V E c hc
  simp [onC, this, bitI]
theorem ones_last (q : Nat) : List.replicate q 0 ++ [(1 : Int)] = stB q := by
 unfold stB
 rw [List.range_succ, List.map_append]
 congr 1
 ·refine (List.eq_replicate_iff.2 ⟨by simp, fun x hx => ?_⟩).symm
  obtain ⟨k, hk, rfl⟩ := List.mem_map.1 hx
  have : k < q := List.mem_range.1 hk
  rw [decide_eq_false (by omega)]; rfl
 ·simp [bitI]
def negM (m N i : Nat) (A : List (List Int)) : List (List Int) := A.mapIdx fun r row => if r < i then negTo m N row else row
theorem negM_len (m N i : Nat) (A : List (List Int)) : (negM m N i A).length = A.length := by simp [negM]
theorem negM_zero (m N : Nat) (A : List (List Int)) : negM m N 0 A = A := by
 apply List.ext_getElem (by simp [negM])
 intro r h1 h2
 simp [negM]
theorem negM_at {m N i : Nat} {A : List (List Int)} (h : i < A.length) : (negM m N i A)[i]?.getD [] = A[i]?.getD [] := by
 simp [negM, h]
theorem negM_step {m N i : Nat} {A : List (List Int)} (h : i < A.length) : (negM m N i A).set i (negTo m N (A[i]?.getD [])) = negM m N (i + 1) A := by
 apply List.ext_getElem (by simp [negM])
 intro r h1 h2
 rw [List.getElem_set]
 simp only [negM, List.getElem_mapIdx]
 split
 ·next e => subst e; rw [if_pos (by omega), List.getElem?_eq_getElem h]; rfl
 ·next e =>
  by_cases hr : r < i
  ·rw [if_pos hr, if_pos (by omega)]
  ·rw [if_neg hr, if_neg (by omega)]
theorem negM_all (m N : Nat) (A : List (List Int)) : negM m N A.length A = A.map (negTo m N) := by
 apply List.ext_getElem (by simp [negM])
 intro r h1 h2
 simp only [negM, List.length_mapIdx] at h1
 simp only [negM, List.getElem_mapIdx, List.getElem_map]
 rw [if_pos h1]
theorem memM_len (q : Nat) (l : List Int) : (memM q l).length = q := by simp [memM]
theorem memM_row {q : Nat} {l : List Int} {k : Nat} (h : k < q) : (memM q l)[k]?.getD [] = memR l k := by simp [memM, h]
theorem memR_len (l : List Int) (k : Nat) : (memR l k).length = l.length := by simp [memR]
theorem bitI_bd (b : Bool) : 0 ≤ bitI b ∧ bitI b ≤ 1 := by cases b <;> decide
theorem memR_bd (l : List Int) (k j : Nat) : 0 ≤ (memR l k)[j]?.getD 0 ∧ (memR l k)[j]?.getD 0 ≤ 1 := by
 by_cases h : j < l.length
 ·have : (memR l k)[j]?.getD 0 = bitI (hasP l[j] (k : Int)) := by simp [memR, h]
  rw [this]; exact bitI_bd _
 ·rw [List.getElem?_eq_none (by rw [memR_len]; omega)]; simp
theorem neg_all (V : List Int) (fr : List Int) (E : List (Int × Int × Int)) (q : Nat) :
 negM fr.length ((frontC V fr ++ fixedC V E).map (·.1)).length q (memM q ((frontC V fr ++ fixedC V E).map (·.1))) = (List.range q).map (rowC (frontC V fr ++ fixedC V E) q) := by
 have := negM_all fr.length ((frontC V fr ++ fixedC V E).map (·.1)).length (memM q ((frontC V fr ++ fixedC V E).map (·.1)))
 rw [memM_len] at this
 rw [this]
 unfold memM
 rw [List.map_map]
 apply List.map_congr_left
 intro k hk
 exact neg_rows V fr E q k (List.mem_range.1 hk)
structure St3 (W Wc : World) (B z : Nat) (va : Value) (us rs : List Value) (A : List (List Int)) (vc : Value) (C : List (Int × Int)) : Prop where
 out : OwnV Wc B va us
 rows : RowsI Wc B rs A
 top : ∀ i k, i < A.length → (rs[i]?.getD undef).ownBlock = some k → k < z
 c : OwnR Wc B vc C
 ext : Ext W Wc
 hz : z ≤ Wc.heap.size
theorem St3.more {W Wc Wd : World} {B z : Nat} {va : Value} {us rs : List Value} {A : List (List Int)} {vc : Value} {C : List (Int × Int)} (h : St3 W Wc B z va us rs A vc C) (hx : Ext Wc Wd) : St3 W Wd B z va us rs A vc C :=
 ⟨h.out.ext hx, h.rows.ext hx, h.top, h.c.ext hx, h.ext.trans hx, Nat.le_trans h.hz hx.size⟩
theorem St3.push {W Wc Wd We : World} {B z : Nat} {va va' : Value} {us us' rs : List Value} {A : List (List Int)} {vc : Value} {C : List (Int × Int)} (h : St3 W Wc B z va us rs A vc C) (hx : Ext Wc Wd) (hg : Wd.grownBy We va.ownBlock) (ho : OwnV We B va' us') (hB : W.heap.size ≤ B) : St3 W We B z va' us' rs A vc C := by
 have h1 := h.more hx
 refine ⟨ho, h1.rows.keep fun i k hi hk => hg.block k ((h1.rows.row i hi).lt k hk).2 fun e => (h1.rows.row i hi).apart h1.out k hk e.symm, h.top, ?_, h1.ext.grown hg fun k hk => Nat.le_trans hB (h1.out.lt k hk).1, Nat.le_trans h1.hz hg.size⟩
 exact h1.c.keep fun k hk => hg.block k (h1.c.lt k hk).2 fun e => ownsRow_apart (by decide) h1.c h1.out k hk e.symm
theorem St3.growT {W Wc Wd We : World} {B z : Nat} {va : Value} {us rs : List Value} {A : List (List Int)} {vc : Value} {C : List (Int × Int)} (h : St3 W Wc B z va us rs A vc C) (hx : Ext Wc Wd) {vT : Value} {l : List Int} (hT : OwnI Wd z vT l) (hg : Wd.grownBy We vT.ownBlock) (hzW : W.heap.size ≤ z) : St3 W We B z va us rs A vc C := by
 have h1 := h.more hx
 refine ⟨h1.out.keep fun k hk => hg.block k (h1.out.lt k hk).2 fun e => hT.apart h1.out k e.symm hk, h1.rows.keep fun i k hi hk => hg.block k ((h1.rows.row i hi).lt k hk).2 fun e => ?_, h.top, h1.c.keep fun k hk => hg.block k (h1.c.lt k hk).2 fun e => ownsRow_apart (by decide) h1.c hT k hk e.symm, h1.ext.grown hg fun k hk => Nat.le_trans hzW (hT.lt k hk).1, Nat.le_trans h1.hz hg.size⟩
 have h2 := h.top i k hi hk
 have h3 := (hT.lt k e.symm).1
 omega
theorem St3.start {W w4 w15 : World} {B : Nat} {a : Option Addr} {N cap : Nat} {vs : List Value} {A : List (List Int)} {vl : Value} {l : List Int} {vc : Value} {C : List (Int × Int)} (hM : Mat w4 B a N cap vs A) (hx : Ext w4 w15) (hl : OwnI w15 w4.heap.size vl l) (hb : B ≤ w4.heap.size) (hc : OwnR w15 B vc C) (hW : Ext W w15) :
 St3 W w15 B w15.heap.size (.slice a N cap) vs (vs ++ [vl]) (A ++ [l]) vc C :=
 have hr := hM.rows.snoc hx hl hb
 ⟨hM.own.ext hx, hr, fun i k hi hk => ((hr.row i hi).lt k hk).2, hc, hW, Nat.le_refl _⟩
theorem Ints.ofCell {w : World} {n : Nat} {x : Int} (h : w.cell? ⟨n, 0, none⟩ = some (.int .i64 x)) : Ints w (some ⟨n, 0, none⟩) 1 1 [x] :=
 ⟨rfl, Nat.le_refl _, by omega, fun k hk => ⟨n, 0, rfl, fun k hk => by
  obtain rfl : k = 0 := by omega
  exact h⟩⟩
set_option linter.unusedSimpArgs false
set_option maxRecDepth 100000
theorem stBx_is {p : Int} {V : List Int} {L : List (Int × Int × Int)} (h : stOk p V L = true) : stAx p V L = stA p.toNat V L ∧ stBx p V L = stB p.toNat ∧ stCx p V L = stC V L := by unfold stAx stBx stCx; rw [h]; exact ⟨rfl, rfl, rfl⟩
theorem map_app3 {α β : Type} (f : α → β) (A B T : List α) : (A ++ B).map f ++ T.map f = (A ++ (B ++ T)).map f := by simp
theorem stOk_ext {p : Int} {V : List Int} {L : List (Int × Int × Int)} {n : Nat} (hg : goodL p V L = true) (hn : V.length = n) (h1 : 1 ≤ n) (hV : ∀ y ∈ V, -500 ≤ y ∧ y ≤ 500) : stOk p V L = (extE n L).all (fitC V) := by
 unfold stOk; rw [hg, allV_cols hn h1 hV]; rfl
set_option maxHeartbeats 16000000 in
theorem i_StageLP {w : World} {p : Int} {a : Option Addr} {n cap : Nat} {V : List Int} (hV : Ints w a n cap V) {fa : Option Addr} {fn fcap : Nat} {L : List (Int × Int × Int)} (h : Fixs w fa fn fcap L) (hfn : fn ≤ 1048576) :
 Calls Tryz.prog 42 #[pair p a n cap, .slice fa fn fcap] w fun e w' =>
  LpRet w' w.heap.size e (stAx p V L) (stBx p V L) (stCx p V L) (stOk p V L) ∧ Ext w w' := by
 obtain ⟨W, hW⟩ : ∃ W, W = (w.alloc (.cells #[.int .i64 p, .slice a n cap] 47)).alloc (.cells #[.slice none 0 0, .slice none 0 0, .slice none 0 0] 67) := ⟨_, rfl⟩
 have HWS := Lib.hid (show W.heap.size = w.heap.size + 2 by rw [hW]; simp)
 have HX0 := Lib.hid (show Ext w W by rw [hW]; exact (Ext.alloc _ _).trans (Ext.alloc _ _))
 have HWC := Lib.hid (show W.cell? ⟨w.heap.size, 1, none⟩ = some (.slice a n cap) by rw [hW]; simp)
 have HWD := Lib.hid (show W.cell? ⟨w.heap.size, 0, none⟩ = some (.int .i64 p) by rw [hW]; simp)
 have HWR := Lib.hid (show W.heap[w.heap.size + 1]? = some (.cells #[.slice none 0 0, .slice none 0 0, .slice none 0 0] 67 (0, 0)) by rw [hW]; exact heapA_new _ _ _ (by simp))
 have HVL := Lib.hid hV.hlen
 have hvcap := hV.hcap
 have hvmax := hV.hmax
 have hfcap := h.hcap
 have hfmax := h.hmax
 have HFL := Lib.hid h.hlen
 have HF := Lib.hid (h.ext HX0.out)
 have HVE := Lib.hid (hV.ext HX0.out)
 have HC := Lib.hid (i_IsValidGame (p := p) (hV.ext HX0.out))
 have hrbl : (w.heap.size + 1) < W.heap.size := by rw [HWS.out]; omega
 have HRB := Lib.hid (fun (w' : World) (hx : Ext W w') => (hx.block _ hrbl).trans HWR.out)
 have HEND := Lib.hid (fun (w' : World) (hx : Ext W w') (hno : stOk p V L = false) (e : Ending) (he : e = .returned (.tuple #[.agg #[.slice none 0 0, .slice none 0 0, .slice none 0 0], .bool false])) =>
  show LpRet (((w'.setCell ⟨w.heap.size + 1, 0, none⟩ (.slice none 0 0)).setCell ⟨w.heap.size + 1, 1, none⟩ (.slice none 0 0)).setCell ⟨w.heap.size + 1, 2, none⟩ (.slice none 0 0)) w.heap.size e (stAx p V L) (stBx p V L) (stCx p V L) (stOk p V L) ∧ Ext w (((w'.setCell ⟨w.heap.size + 1, 0, none⟩ (.slice none 0 0)).setCell ⟨w.heap.size + 1, 1, none⟩ (.slice none 0 0)).setCell ⟨w.heap.size + 1, 2, none⟩ (.slice none 0 0)) from
   ⟨⟨_, _, _, [], by rw [hno]; exact he, OwnV.nil _ _, by unfold stAx; rw [hno, if_neg (by simp)]; exact RowsI.nil _ _, by unfold stBx; rw [hno, if_neg (by simp)]; exact OwnI.nil _ _, by unfold stCx; rw [hno, if_neg (by simp)]; exact OwnR.nil _ _, OffV.nil _⟩,
     (((HX0.out.trans hx).store 0 (by omega) _).store 1 (by omega) _).store 2 (by omega) _⟩)
 clear h hV hrbl
 cases hg : gameOk p V
 ·have HG := Lib.hid (show stOk p V L = false by unfold stOk goodL; rw [hg]; rfl)
  rw [hg, hW] at HC
  clear hg
  go_enter Tryz.func42, Tryz.ntmps42
  go_wp2_with fail
  refine HC.out.mono ?_
  rw [← hW]
  rintro e w1 ⟨rfl, hx1⟩
  have hr0 := LpO.boxc0 (HRB.out w1 hx1)
  have hr1 := LpO.boxc1 (HRB.out w1 hx1)
  have hr2 := LpO.boxc2 (HRB.out w1 hx1)
  have hrf := LpO.boxf (HRB.out w1 hx1)
  have HX1 := Lib.hid hx1
  clear hx1
  go_wp2_with fail
  refine bodyPost_ret (v := .tuple #[.agg #[.slice none 0 0, .slice none 0 0, .slice none 0 0], .bool false]) (by simp [results, Tryz.results42, go_sem, hr0, hr1, hr2]) rfl (HEND.out _ HX1.out HG.out _ rfl)
 ·obtain ⟨q, rfl, h1, h5, hlen, _, hvb⟩ := gameOk_len hg
  have HGO := Lib.hid hg
  rw [hg, hW] at HC
  clear hg
  by_cases hq2 : q < 2
  ·have HG := Lib.hid (show stOk (q : Int) V L = false by unfold stOk goodL; rw [HGO.out, decide_eq_false (by omega : ¬ (2 : Int) ≤ (q : Int))]; rfl)
   clear hlen hvb
   have hq2' : (q : Int) < 2 := by omega
   go_enter Tryz.func42, Tryz.ntmps42
   go_wp2_with fail
   refine HC.out.mono ?_
   rw [← hW]
   rintro e w1 ⟨rfl, hx1⟩
   have hc0 := hx1.cellSome HWD.out
   have hr0 := LpO.boxc0 (HRB.out w1 hx1)
   have hr1 := LpO.boxc1 (HRB.out w1 hx1)
   have hr2 := LpO.boxc2 (HRB.out w1 hx1)
   have hrf := LpO.boxf (HRB.out w1 hx1)
   have HX1 := Lib.hid hx1
   clear hx1
   go_wp2_with fail
   refine bodyPost_ret (v := .tuple #[.agg #[.slice none 0 0, .slice none 0 0, .slice none 0 0], .bool false]) (by simp [results, Tryz.results42, go_sem, hr0, hr1, hr2]) rfl (HEND.out _ HX1.out HG.out _ rfl)
  ·have hn4 : 4 ≤ n := by have := cN_ge (n := q) (by omega) h5; rw [← HVL.out, hlen]; exact this
   have hn32 : n ≤ 32 := by have := cN_le q h5; rw [← HVL.out, hlen]; exact this.2
   obtain ⟨u, rfl⟩ : ∃ u, n = u + 1 := ⟨n - 1, by omega⟩
   have HVB := Lib.hid hvb
   have HOG := Lib.hid (show goodL (q : Int) V L = (ordX L ((u : Int) - 1) fn && decide (0 < (freeL L (u + 1 - 2)).length)) by
    unfold goodL; rw [HGO.out, decide_eq_true (by omega : (2 : Int) ≤ (q : Int)), HVL.out, HFL.out]
    rw [show (((u + 1 : Nat) : Int)) - 2 = (u : Int) - 1 by omega]; rfl)
   have hq2' : ¬ (q : Int) < 2 := by omega
   have hlen1 : ((u + 1 : Nat) : Int) - 1 = (u : Int) := by omega
   clear hlen hvb
   go_enter Tryz.func42, Tryz.ntmps42
   go_wp2_with fail
   refine HC.out.mono ?_
   rw [← hW]
   clear hW
   rintro e w1 ⟨rfl, hx1⟩
   have hc0 := hx1.cellSome HWD.out
   have hc1 := hx1.cellSome HWC.out
   have HX1 := Lib.hid hx1
   clear hx1 HC
   go_wp2_with fail
   clear hc0 hc1
   go_loopg [7, 39] fn (fun gk ss ii wr => ∃ k : Nat, Hid (gk + k = fn) ∧ ii = .int .i64 (k : Int) ∧ ss = .int .i64 ((seenN (L.take k) : Nat) : Int) ∧ Hid (ordX L ((u : Int) - 1) k = true) ∧ Hid (Ext W wr))
   case atStart => exact ⟨0, Lib.hid (by omega), rfl, rfl, Lib.hid rfl, HX1⟩
   case round =>
    obtain ⟨g1, h_g1⟩ : ∃ x, x = gk := ⟨_, rfl⟩
    subst h_g1
    obtain ⟨wr1, h_wr1⟩ : ∃ x, x = wr := ⟨_, rfl⟩
    subst h_wr1
    obtain ⟨k, HK, rfl, rfl, HO, HX⟩ := hrel
    have hszr := HX.out.size
    rw [HWS.out] at hszr
    by_cases hlt : k < fn
    ·obtain ⟨b, off, c, x, y, rfl, hxy, hf0, hf1, hf2⟩ := (HF.out.ext HX.out).at hlt
     have hkl : k < L.length := by rw [HFL.out]; exact hlt
     have hrw := HRB.out wr1 HX.out
     have hwn : IntKind.i64.wrap ((u : Int) - 1) = (u : Int) - 1 := by rw [IntKind.wrap_i64]; omega
     cases hb : inB c 1 ((u : Int) - 1)
     ·have HG := Lib.hid (show stOk (q : Int) V L = false by
       unfold stOk; rw [HOG.out, ordX_false (k := k) (m := fn) (by rw [hxy]; simp only; rw [hb]; rfl) hlt]; rfl)
      have hrA := HRB.out _ (HX.out.trans (Ext.alloc wr1 (.cells #[.int .i64 c, .int .i64 x, .int .i64 y] 108)))
      have hr0 := LpO.boxc0 hrA
      have hr1 := LpO.boxc1 hrA
      have hr2 := LpO.boxc2 hrA
      have hrf := LpO.boxf hrA
      clear hrA
      clear hxy hrw
      go_wp2_with (first | (go_at_call 62; refine (i_within _ _ _ _).mono ?_; rw [hb]; rintro e w' ⟨rfl, rfl⟩))
      refine bodyPost_ret (v := .tuple #[.agg #[.slice none 0 0, .slice none 0 0, .slice none 0 0], .bool false]) (by simp [results, Tryz.results42, go_sem, hr0, hr1, hr2]) rfl (HEND.out _ (HX.out.trans (Ext.alloc _ _)) HG.out _ rfl)
     ·have hcb : 1 ≤ c ∧ c ≤ (u : Int) - 1 := by unfold inB at hb; simpa using hb
      obtain ⟨t, rfl⟩ : ∃ t : Nat, c = t := ⟨c.toNat, by omega⟩
      have hLk : ∀ f ∈ L.take k, 1 ≤ f.1 ∧ f.1 ≤ (u : Int) - 1 := by
       intro f hf
       obtain ⟨i, hi, rfl⟩ := List.mem_take_iff_getElem.1 hf
       have := (List.all_eq_true.1 HO.out) i (List.mem_range.2 (by omega))
       rw [List.getElem?_eq_getElem (by omega)] at this
       simp only [Option.getD_some, Bool.and_eq_true, inB, decide_eq_true_eq] at this
       exact this.1
      have hsl := seenN_lt (L.take k) (fun f hf => by have := hLk f hf; omega)
      have hbt := bit_test ((seenN (L.take k) : Nat) : Int) t (by omega) (by omega)
      rw [bit_nat, seenN_bit t _ (fun f hf => by have := hLk f hf; omega)] at hbt
      have hpw := pow_le30 t (by omega)
      have hkw : IntKind.i64.wrap ((2 : Int) ^ t) = 2 ^ t := by rw [IntKind.wrap_i64]; omega
      cases hh : hasX (L.take k) (t : Int)
      ·rw [hh] at hbt
       have HN := Lib.hid (show ordX L ((u : Int) - 1) (k + 1) = true by rw [ordX_succ, HO.out, hxy]; simp only; rw [hb, hh]; rfl)
       have hsn := seenN_snoc hkl
       rw [hxy] at hsn
       simp only [Int.toNat_natCast] at hsn
       have hor := or_pow (k := t) hsl (by omega)
       rw [← hsn] at hor
       clear hsn hxy hLk hh
       obtain ⟨s0, hs0⟩ : ∃ s, s = seenN (L.take k) := ⟨_, rfl⟩
       obtain ⟨s1, hs1⟩ : ∃ s, s = seenN (L.take (k + 1)) := ⟨_, rfl⟩
       rw [← hs0] at hbt hor hsl
       rw [← hs1] at hor
       rw [← hs0]
       have HS1 := Lib.hid hs1
       clear hs0 hs1
       go_wp2_with (first | (go_at_call 62; refine (i_within _ _ _ _).mono ?_; rw [hb]; rintro e w' ⟨rfl, rfl⟩))
       go_roundg (g1 - 1)
       case measure => have := HK.out; omega
       case rel => exact ⟨k + 1, Lib.hid (by have := HK.out; omega), by go_num, by rw [← HS1.out], HN, Lib.hid (HX.out.trans (Ext.alloc _ _))⟩
      ·rw [hh] at hbt
       have HG := Lib.hid (show stOk (q : Int) V L = false by
        unfold stOk; rw [HOG.out, ordX_false (k := k) (m := fn) (by rw [hxy]; simp only; rw [hh]; simp) hlt]; rfl)
       have hrA := HRB.out _ (HX.out.trans (Ext.alloc wr1 (.cells #[.int .i64 (t : Int), .int .i64 x, .int .i64 y] 108)))
       have hr0 := LpO.boxc0 hrA
       have hr1 := LpO.boxc1 hrA
       have hr2 := LpO.boxc2 hrA
       have hrf := LpO.boxf hrA
       clear hrA
       clear hxy hrw hLk hh
       obtain ⟨s0, hs0⟩ : ∃ s, s = seenN (L.take k) := ⟨_, rfl⟩
       rw [← hs0] at hbt hsl
       rw [← hs0]
       clear hs0
       go_wp2_with (first | (go_at_call 62; refine (i_within _ _ _ _).mono ?_; rw [hb]; rintro e w' ⟨rfl, rfl⟩))
       refine bodyPost_ret (v := .tuple #[.agg #[.slice none 0 0, .slice none 0 0, .slice none 0 0], .bool false]) (by simp [results, Tryz.results42, go_sem, hr0, hr1, hr2]) rfl (HEND.out _ (HX.out.trans (Ext.alloc _ _)) HG.out _ rfl)
    ·have hkf : k = fn := by have := HK.out; omega
     subst hkf
     have hLb : ∀ f ∈ L, 1 ≤ f.1 ∧ f.1 ≤ (u : Int) - 1 := by
      intro f hf
      obtain ⟨i, hi, rfl⟩ := List.getElem_of_mem hf
      have := (List.all_eq_true.1 HO.out) i (List.mem_range.2 (by rw [← HFL.out]; exact hi))
      rw [List.getElem?_eq_getElem hi] at this
      simp only [Option.getD_some, Bool.and_eq_true, inB, decide_eq_true_eq] at this
      exact this.1
     have HLB := Lib.hid hLb
     have HFRE := Lib.hid (i_freeCoalitions (w := wr1) (q : Int) a (u + 1) cap (by omega) (by omega) (HF.out.ext HX.out))
     have HMM := Lib.hid (fun s => freeL_mem (L := L) (m := u + 1 - 2) (s := s))
     have HML := Lib.hid (freeL_len L (u + 1 - 2))
     have hcA := HX.out.cellSome HWD.out
     have hcB := HX.out.cellSome HWC.out
     clear hLb
     go_wp2_with fail
     refine HFRE.out.mono ?_
     rintro e w2 ⟨⟨vf, rfl, hfo⟩, hx2⟩
     obtain ⟨af, m, cf, rfl, hfm⟩ := hfo.var
     have HX2 := Lib.hid (HX.out.trans hx2)
     have HFO := Lib.hid (hfo.mono (base' := w.heap.size + 2) hszr)
     have HFM := Lib.hid hfm.out
     have hmb : m ≤ 32 := by have := HML.out; have := hfm.out; omega
     have hsz2 := HX2.out.size
     rw [HWS.out] at hsz2
     clear hfo hfm hx2 hcA hcB HFRE
     by_cases hm0 : m = 0
     ·subst hm0
      have HG := Lib.hid (show stOk (q : Int) V L = false by
       unfold stOk; rw [HOG.out, HFM.out]; simp)
      have hrA := HRB.out _ HX2.out
      have hr0 := LpO.boxc0 hrA
      have hr1 := LpO.boxc1 hrA
      have hr2 := LpO.boxc2 hrA
      have hrf := LpO.boxf hrA
      clear hrA
      go_wp2_with fail
      refine bodyPost_ret (v := .tuple #[.agg #[.slice none 0 0, .slice none 0 0, .slice none 0 0], .bool false]) (by simp [results, Tryz.results42, go_sem, hr0, hr1, hr2]) rfl (HEND.out _ HX2.out HG.out _ rfl)
     ·have HGL := Lib.hid (show goodL (q : Int) V L = true by rw [HOG.out, HO.out, HFM.out]; simp; omega)
      have hmz : ((m : Int) == 0) = false := by simpa using hm0
      have HCLN := Lib.hid (clone_ints HFO.out.ints (by omega))
      have hmcap := HFO.out.ints.hcap
      have hmmax := HFO.out.ints.hmax
      go_wp2_with fail
      refine HCLN.out.mono ?_
      rintro e w3 ⟨vcl, rfl, hco, hx3⟩
      obtain ⟨acl, ncl, ccl, rfl, hncl⟩ := hco.var
      have HNCL := Lib.hid (show ncl = m by rw [← hncl.out, HFM.out])
      have HX3 := Lib.hid (HX2.out.trans hx3)
      have HFO3 := Lib.hid (HFO.out.ext hx3)
      have HCO3 := Lib.hid (hco.mono (base' := w.heap.size + 2) hsz2)
      have hsz3 := HX3.out.size
      rw [HWS.out] at hsz3
      have HR0 := Lib.hid (OwnR.made w3 (w.heap.size + 2) hsz3)
      clear hco hncl hx3
      go_wp2_with fail
      go_loopg [12, 76] m (fun gk cc ii wr => ∃ (k : Nat) (a1 : Option Addr) (n1 p1 : Nat), Hid (gk + k = m) ∧ ii = .int .i64 (k : Int) ∧ cc = .slice a1 n1 p1 ∧ Hid (OwnR wr (w.heap.size + 2) (.slice a1 n1 p1) ((frontC V ((freeL L (u + 1 - 2)).take k)).map fun c => c.2.2.2)) ∧ Hid (OwnI wr (w.heap.size + 2) (.slice af m cf) (freeL L (u + 1 - 2))) ∧ Hid (OwnI wr (w.heap.size + 2) (.slice acl ncl ccl) (freeL L (u + 1 - 2))) ∧ Hid (Ext W wr))
      case atStart => exact ⟨0, _, _, _, Lib.hid (by omega), rfl, rfl, HR0, Lib.hid (HFO3.out.ext (Ext.alloc _ _)), Lib.hid (HCO3.out.ext (Ext.alloc _ _)), Lib.hid (HX3.out.trans (Ext.alloc _ _))⟩
      case round =>
       obtain ⟨g2, h_g2⟩ : ∃ x, x = gk := ⟨_, rfl⟩
       subst h_g2
       obtain ⟨wr2, h_wr2⟩ : ∃ x, x = wr := ⟨_, rfl⟩
       subst h_wr2
       obtain ⟨j, a1, n1, p1, HJ, rfl, rfl, HRO, HFK, HCK, HXK⟩ := hrel
       have hszk := HXK.out.size
       rw [HWS.out] at hszk
       have hcB := HXK.out.cellSome HWC.out
       by_cases hjm : j < m
       ·obtain ⟨b, off, he, hsc⟩ := HFK.out.ints.at hjm
        subst he
        obtain ⟨s, hs⟩ : ∃ s, s = (freeL L (u + 1 - 2))[j]?.getD 0 := ⟨_, rfl⟩
        rw [← hs] at hsc
        have hjl : j < (freeL L (u + 1 - 2)).length := by rw [HFM.out]; exact hjm
        have hsm := HMM.out s (by rw [hs, List.getElem?_eq_getElem hjl]; exact List.getElem_mem hjl)
        obtain ⟨t, rfl⟩ : ∃ t : Nat, s = t := ⟨s.toNat, by omega⟩
        have htn : t < u + 1 := by omega
        obtain ⟨vb, voff, hve, hvc⟩ := ((HVE.out.ext HXK.out).at htn)
        subst hve
        have hyb := getD_bd HVB.out t
        obtain ⟨y, hy⟩ : ∃ y, y = V[t]?.getD 0 := ⟨_, rfl⟩
        rw [← hy] at hvc hyb
        have HSN := Lib.hid (show ((frontC V ((freeL L (u + 1 - 2)).take j)).map fun c => c.2.2.2) ++ [(-y, 1)] = (frontC V ((freeL L (u + 1 - 2)).take (j + 1))).map fun c => c.2.2.2 by
         rw [← frontC_snoc V hjl, ← hs, hy]; simp)
        have hwn : IntKind.i64.wrap (-y) = -y := by rw [IntKind.wrap_i64]; omega
        have HLK := Lib.hid (show ((frontC V ((freeL L (u + 1 - 2)).take j)).map fun c => c.2.2.2).length ≤ 1000 by rw [List.length_map, frontC_len, List.length_take]; have := HML.out; omega)
        clear hs hsm hy hjl
        go_wp2_with (first
         | (go_at_call 87; refine (i_whole _ _).mono ?_; rintro e w4 ⟨rfl, hx4⟩; have hs4 := hx4.size; have HR4 := Lib.hid (HRO.out.ext hx4); have HF4 := Lib.hid (HFK.out.ext hx4); have HC4 := Lib.hid (HCK.out.ext hx4); have HX4 := Lib.hid (HXK.out.trans hx4); clear hx4)
         | (at_builtin; refine append_rats rfl _ _ rfl (w.heap.size + 2) (.slice a1 n1 p1) _ rfl (HR4.out.ext (Ext.alloc _ _)) _ 1 _ [(-y, 1)] rfl (Rats.one' _ _ _ _ _ (by simp)) (by have := HLK.out; omega) (by simp; omega) ?_; intro v5 w5 ho hg hnear; have HF5 := Lib.hid (HF4.out.keptR (Ext.alloc _ _) HR4.out hg); have HC5 := Lib.hid (HC4.out.keptR (Ext.alloc _ _) HR4.out hg); have X5 := Lib.hid ((HX4.out.trans (Ext.alloc _ _)).grown hg (fun j hj => by rw [HWS.out]; exact (HR4.out.lt j hj).1)); obtain ⟨a5, n5, p5, rfl, HN5⟩ := ho.var; have HO5 := Lib.hid ho; clear ho hg hnear))
        go_roundg (g2 - 1)
        case measure => have := HJ.out; omega
        case rel => exact ⟨j + 1, a5, n5, p5, Lib.hid (by have := HJ.out; omega), by go_num, rfl, Lib.hid (by rw [← HSN.out]; exact HO5.out), HF5, HC5, X5⟩
       ·have hjm' : m = j := by have := HJ.out; omega
        subst hjm'
        have HFT := Lib.hid (show (freeL L (u + 1 - 2)).take m = freeL L (u + 1 - 2) from List.take_of_length_le (by rw [HFM.out]; exact Nat.le_refl _))
        rw [HFT.out] at HRO
        have HCF := Lib.hid (clone_fixs (HF.out.ext HXK.out) (by omega))
        clear HFK hcB
        go_wp2_with fail
        refine HCF.out.mono ?_
        rintro e w4 ⟨vE, rfl, hE, hx4⟩
        obtain ⟨aE0, nE0, cE0, rfl, hnE⟩ := hE.var
        have HNE0 := Lib.hid (show nE0 = k by rw [← hnE.out, HFL.out])
        have HX4 := Lib.hid (HXK.out.trans hx4)
        have HR4 := Lib.hid (HRO.out.ext hx4)
        have HC4 := Lib.hid (HCK.out.ext hx4)
        have HE4 := Lib.hid (hE.mono (base' := w.heap.size + 2) hszk)
        have hsz4 := HX4.out.size
        rw [HWS.out] at hsz4
        clear hE hnE hx4 HCF
        go_wp2_with (first
         | (go_at_call 87; refine (i_whole _ _).mono ?_; rintro e w5 ⟨rfl, hx5⟩; have hs5 := hx5.size; have HE5 := Lib.hid (HE4.out.ext hx5); have HR5 := Lib.hid (HR4.out.ext hx5); have HC5 := Lib.hid (HC4.out.ext hx5); have HX5 := Lib.hid (HX4.out.trans hx5); clear hx5)
         | (at_builtin; refine append_g fixE Tryz.infoFix rfl Tryz.underlying43 (by decide) rfl _ _ rfl (w.heap.size + 2) (.slice aE0 nE0 cE0) L rfl (HE5.out.ext (Ext.alloc _ _)) _ 1 1 [((u : Int), 0, 1)] rfl (Slc.lit fixE _ _ _ 1 (by rfl) _ (by rfl) _ (by rfl) (by omega)) (by rw [HFL.out]; omega) (by simp; omega) ?_; intro v6 w6 ho hg hnear; have HR6 := Lib.hid (show OwnR w6 _ _ _ from ownsRow_grown (HR5.out.ext (Ext.alloc _ _)) (HE5.out.ext (Ext.alloc _ _)) (by decide) hg); have HC6 := Lib.hid (show OwnI w6 _ _ _ from ownsRow_grown (HC5.out.ext (Ext.alloc _ _)) (HE5.out.ext (Ext.alloc _ _)) (by decide) hg); have X6 := Lib.hid ((HX5.out.trans (Ext.alloc _ _)).grown hg (fun j hj => by rw [HWS.out]; exact (HE5.out.lt j hj).1)); obtain ⟨aE, nE, cE, rfl, HNE⟩ := ho.var; have HE6 := Lib.hid ho; clear ho hg hnear))
        obtain ⟨EE, hEE⟩ : ∃ E, E = extE (u + 1) L := ⟨_, rfl⟩
        have HEL := Lib.hid (show L ++ [((u : Int), 0, 1)] = EE by rw [hEE]; unfold extE; rw [hlen1])
        have HEM := Lib.hid (show ∀ f ∈ EE, 1 ≤ f.1 ∧ f.1 ≤ (u : Int) by
         intro f hf
         rw [← HEL.out] at hf
         rcases List.mem_append.1 hf with h | h
         ·have := HLB.out f h; omega
         ·rw [List.mem_singleton] at h; subst h; simp only; omega)
        have HEN := Lib.hid (show EE.length = k + 1 by rw [← HEL.out, List.length_append, HFL.out]; rfl)
        have HNEE := Lib.hid (show nE = k + 1 by rw [← HNE.out, HEL.out, HEN.out])
        rw [HEL.out] at HE6
        have HST := Lib.hid (stOk_ext HGL.out HVL.out (by omega) HVB.out)
        rw [← hEE] at HST
        have HCE := Lib.hid (cols_ext HVL.out (by omega) HVB.out L)
        rw [← hEE] at HCE
        have hecap := HE6.out.slc.hcap
        have hemax := HE6.out.slc.hmax
        have HFV := Lib.hid (show (frontC V (freeL L (u + 1 - 2))).length ≤ 1000 by rw [frontC_len]; have := HML.out; omega)
        obtain ⟨FC, hFC⟩ : ∃ F, F = frontC V (freeL L (u + 1 - 2)) := ⟨_, rfl⟩
        have HFC1 := Lib.hid (show freeL L (u + 1 - 2) = FC.map (·.1) by rw [hFC]; simp [frontC, Function.comp_def])
        rw [HFC1.out] at HC6
        rw [← hFC] at HR6 HCE HFV
        have HFC := Lib.hid hFC
        clear hEE hFC hlen1
        go_wp2_with fail
        go_loopg [11, 12, 99] (k + 1) (fun gk cc rr ii wr => ∃ (i : Nat) (aC : Option Addr) (nC cC : Nat) (aR : Option Addr) (nR cR : Nat), Hid (gk + i = k + 1) ∧ ii = .int .i64 (i : Int) ∧ cc = .slice aC nC cC ∧ rr = .slice aR nR cR ∧ Hid (OwnI wr (w.heap.size + 2) (.slice aC nC cC) ((FC ++ fixedC V (EE.take i)).map (·.1))) ∧ Hid (OwnR wr (w.heap.size + 2) (.slice aR nR cR) ((FC ++ fixedC V (EE.take i)).map fun c => c.2.2.2)) ∧ Hid (OwnG fixE 108 wr (w.heap.size + 2) (.slice aE nE cE) EE) ∧ Hid ((EE.take i).all (fitC V) = true) ∧ Hid (Ext W wr))
        case atStart => exact ⟨0, _, _, _, _, _, _, Lib.hid (by omega), rfl, rfl, rfl, Lib.hid (by simpa [fixedC] using HC6.out), Lib.hid (by simpa [fixedC] using HR6.out), HE6, Lib.hid rfl, X6⟩
        case round =>
         obtain ⟨g3, h_g3⟩ : ∃ x, x = gk := ⟨_, rfl⟩
         subst h_g3
         obtain ⟨wr3, h_wr3⟩ : ∃ x, x = wr := ⟨_, rfl⟩
         subst h_wr3
         obtain ⟨i, aC, nC, cC, aR, nR, cR, HI, rfl, rfl, rfl, HOC, HOR, HOE, HOF, HX3⟩ := hrel
         have hszr3 := HX3.out.size
         rw [HWS.out] at hszr3
         by_cases hik : i < k + 1
         ·have hine : i < nE := by rw [HNEE.out]; exact hik
          obtain ⟨eb, eoff, ⟨c, x, y⟩, hea, hex, hec⟩ := HOE.out.slc.at hine
          subst hea
          have e0 : wr3.cell? ⟨eb, eoff + i * 3, none⟩ = some (.int .i64 c) := hec 0 _ rfl
          have e1 : wr3.cell? ⟨eb, eoff + i * 3 + 1, none⟩ = some (.int .i64 x) := hec 1 _ rfl
          have e2 : wr3.cell? ⟨eb, eoff + i * 3 + 2, none⟩ = some (.int .i64 y) := hec 2 _ rfl
          have hcm := HEM.out (c, x, y) (List.mem_of_getElem? hex)
          simp only at hcm
          obtain ⟨t, rfl⟩ : ∃ t : Nat, c = t := ⟨c.toNat, by omega⟩
          have htn : t < u + 1 := by omega
          obtain ⟨vb, voff, hve, hvc⟩ := HVE.out.at htn
          subst hve
          obtain ⟨z, hz⟩ : ∃ z, z = V[t]?.getD 0 := ⟨_, rfl⟩
          rw [← hz] at hvc
          obtain ⟨p, q', ok, hpq⟩ : ∃ p q ok, subR (x, y) (z, 1) = ((p, q), ok) := ⟨_, _, _, rfl⟩
          have HPQ := Lib.hid hpq
          have HPB := Lib.hid (show -1000000000 ≤ p ∧ p ≤ 1000000000 by have := subR_bd9 (x, y) (z, 1); rw [hpq] at this; exact this)
          have HFIT := Lib.hid (show fitC V ((t : Int), x, y) = ok by unfold fitC; simp only; rw [Int.toNat_natCast, ← hz, hpq])
          have HTW := Lib.hid (show fixedC V (EE.take i) ++ twoC (t : Int) (p, q') = fixedC V (EE.take (i + 1)) by
           rw [take_snocG hex]; unfold fixedC; rw [List.flatMap_append]; simp only [List.flatMap_cons, List.flatMap_nil, List.append_nil]; unfold costC; simp only; rw [Int.toNat_natCast, ← hz, hpq])
          have HXI := Lib.hid hex
          clear hec hex hz hpq
          go_upto_region 25 with fail
          obtain ⟨wb, hwb⟩ : ∃ x', x' = wr3.alloc (.cells #[.int .i64 (t : Int), .int .i64 x, .int .i64 y] 108) := ⟨_, rfl⟩
          have HXB := Lib.hid (show Ext wr3 wb by rw [hwb]; exact Ext.alloc _ _)
          have f0 : wb.cell? ⟨wr3.heap.size, 0, none⟩ = some (.int .i64 (t : Int)) := by rw [hwb]; simp
          have f1 : wb.cell? ⟨wr3.heap.size, 1, none⟩ = some (.int .i64 x) := by rw [hwb]; simp
          have f2 : wb.cell? ⟨wr3.heap.size, 2, none⟩ = some (.int .i64 y) := by rw [hwb]; simp
          have hgv : wb.cell? ⟨w.heap.size, 1, none⟩ = some (.slice (some ⟨vb, voff, none⟩) (u + 1) cap) := (HX3.out.trans HXB.out).cellSome HWC.out
          have hvt : wb.cell? ⟨vb, voff + t, none⟩ = some (.int .i64 z) := (HX3.out.trans HXB.out).cellSome hvc
          rw [← hwb]
          have hti : (t : Int) < (u : Int) + 1 := by omega
          clear hwb e0 e1 e2 hvc
          go_upto_region 25 with fail
          go_cut [17, 18] (fun sx so wx => ∃ g : Nat, sx = .pointer (some ⟨g, 0, none⟩) ∧ so = .bool ok ∧ Hid (Boxed wb wx g p q'))
          case first =>
           have hk2 : Ext wb wb.drew := Ext.drew wb
           have hka : Ext wb (wb.alloc (.cells #[.int .i64 0, .int .i64 0] 85)).drew := (Ext.alloc _ _).trans (Ext.drew _)
           have HKEEP := Lib.hid (fun (w' : World) (h : Ext wb w') => (⟨h.cellSome f0, h.cellSome f1, h.cellSome f2, h.cellSome hgv, h.cellSome hvt, h⟩ : w'.cell? ⟨wr3.heap.size, 0, none⟩ = some (.int .i64 (t : Int)) ∧ w'.cell? ⟨wr3.heap.size, 1, none⟩ = some (.int .i64 x) ∧ w'.cell? ⟨wr3.heap.size, 2, none⟩ = some (.int .i64 y) ∧ w'.cell? ⟨w.heap.size, 1, none⟩ = some (.slice (some ⟨vb, voff, none⟩) (u + 1) cap) ∧ w'.cell? ⟨vb, voff + t, none⟩ = some (.int .i64 z) ∧ Ext wb w'))
           go_region_held3 (fun w' => w'.cell? ⟨wr3.heap.size, 0, none⟩ = some (.int .i64 (t : Int)) ∧ w'.cell? ⟨wr3.heap.size, 1, none⟩ = some (.int .i64 x) ∧ w'.cell? ⟨wr3.heap.size, 2, none⟩ = some (.int .i64 y) ∧ w'.cell? ⟨w.heap.size, 1, none⟩ = some (.slice (some ⟨vb, voff, none⟩) (u + 1) cap) ∧ w'.cell? ⟨vb, voff + t, none⟩ = some (.int .i64 z) ∧ Ext wb w')
            (first
              | with_reducible exact HKEEP.out _ hk2
              | with_reducible exact HKEEP.out _ hka
              | with_reducible exact HKEEP.out _ ((hk2.setCell (by first | (simp; done) | (simp; omega)) _).setCell (by first | (simp; done) | (simp; omega)) _)
              | with_reducible exact HKEEP.out _ (hk2.trans (Ext.alloc _ _))
              | with_reducible exact HKEEP.out _ (hBB.put _ _).ext)
            (first
              | (go_at_call 87
                 (with_reducible refine (i_whole _ _).mono ?_)
                 rintro e w7 ⟨rfl, hx_w7⟩
                 first | (with_reducible have hBB := Boxed.grow hBB hx_w7) | (with_reducible have hBB := Boxed.firstD hx_w7) | (with_reducible have hBB := Boxed.laterD hk2 hx_w7) | skip
                 first | (have b0_ := hBB.c0; have b1_ := hBB.c1; have fb_ := hBB.free) | skip
                 have hk2 : Ext wb w7 := by first | with_reducible exact hk2.trans hx_w7 | with_reducible exact hka.trans hx_w7 | with_reducible exact (hk2.trans (Ext.alloc _ _)).trans hx_w7
                 have hk2s := hk2.size)
              | (go_at_call 107
                 (with_reducible refine (i_SubRat _ _ _ _ _).mono ?_)
                 rw [HPQ.out]
                 rintro e w8 ⟨rfl, hx_w8⟩
                 first | (with_reducible have hBB := Boxed.grow hBB hx_w8) | (with_reducible have hBB := Boxed.firstD hx_w8) | (with_reducible have hBB := Boxed.laterD hk2 hx_w8) | skip
                 first | (have b0_ := hBB.c0; have b1_ := hBB.c1; have fb_ := hBB.free) | skip
                 have hk2 : Ext wb w8 := by first | with_reducible exact hk2.trans hx_w8 | with_reducible exact hka.trans hx_w8 | with_reducible exact (hk2.trans (Ext.alloc _ _)).trans hx_w8
                 have hk2s := hk2.size)
              | fail)
           all_goals (go_wp2_with fail; go_meet; first | exact ⟨_, rfl, rfl, Lib.hid (hBB.put _ _)⟩ | exact ⟨_, rfl, rfl, Lib.hid (Boxed.new hk2 _ _)⟩ | exact ⟨_, rfl, rfl, Lib.hid (Boxed.new' hk2 _ _ (by simp))⟩)
          obtain ⟨g, rfl, rfl, HB⟩ := hcut
          have XC := Lib.hid ((HX3.out.trans HXB.out).trans HB.out.ext)
          have HOCc := Lib.hid ((HOC.out.ext HXB.out).ext HB.out.ext)
          have HORc := Lib.hid ((HOR.out.ext HXB.out).ext HB.out.ext)
          have HOEc := Lib.hid ((HOE.out.ext HXB.out).ext HB.out.ext)
          have hg0 := HB.out.ext.cellSome f0
          have hszc := XC.out.size
          rw [HWS.out] at hszc
          have HGE := Lib.hid (show wr3.heap.size < g by have := HB.out.ge; have := World.block_lt_of_cell? _ _ f0; simp only at this; omega)
          clear f0 f1 f2 hgv hvt hti
          cases ok
          ·have HG := Lib.hid (show stOk (q : Int) V L = false from by
            rw [HST.out, List.all_eq_false]; exact ⟨_, List.mem_of_getElem? HXI.out, by rw [HFIT.out]; simp⟩)
           have hrA := HRB.out _ XC.out
           have hr0 := LpO.boxc0 hrA
           have hr1 := LpO.boxc1 hrA
           have hr2 := LpO.boxc2 hrA
           have hrf := LpO.boxf hrA
           clear hrA
           go_wp2_with fail
           refine bodyPost_ret (v := .tuple #[.agg #[.slice none 0 0, .slice none 0 0, .slice none 0 0], .bool false]) (by simp [results, Tryz.results42, go_sem, hr0, hr1, hr2]) rfl (HEND.out _ XC.out HG.out _ rfl)
          ·have HTK := Lib.hid (show (EE.take (i + 1)).all (fitC V) = true by rw [take_snocG HXI.out, List.all_append, HOF.out]; simp [HFIT.out])
           have HLC := Lib.hid (show ((FC ++ fixedC V (EE.take i)).map (·.1)).length ≤ 3000000 by rw [List.length_map, List.length_append, fixedC_len, List.length_take]; have := HFV.out; have := HEN.out; omega)
           have HLR := Lib.hid (show ((FC ++ fixedC V (EE.take i)).map fun c => c.2.2.2).length ≤ 3000000 by rw [List.length_map, List.length_append, fixedC_len, List.length_take]; have := HFV.out; have := HEN.out; omega)
           have HSC := Lib.hid (show (FC ++ fixedC V (EE.take i)).map (·.1) ++ [(t : Int), (t : Int)] = (FC ++ fixedC V (EE.take (i + 1))).map (·.1) by rw [← HTW.out]; exact map_app3 _ FC _ (twoC (t : Int) (p, q')))
           have HSR := Lib.hid (show ((FC ++ fixedC V (EE.take i)).map fun c => c.2.2.2) ++ [(p, q'), (-p, q')] = (FC ++ fixedC V (EE.take (i + 1))).map fun c => c.2.2.2 by rw [← HTW.out]; exact map_app3 _ FC _ (twoC (t : Int) (p, q')))
           have HBC := Lib.hid (HB.out.cell)
           go_wp2_with (first
            | (at_builtin; go_loud (refine append_ints rfl _ _ rfl (w.heap.size + 2) (.slice aC nC cC) _ rfl (HOCc.out.ext (Ext.alloc _ _)) _ 2 _ [(t : Int), (t : Int)] rfl (Ints.litM [(t : Int), (t : Int)] _ (by rfl) (by rfl) (by rfl) (by simp)) (Nat.le_trans (Nat.add_le_add_right HLC.out 2) (by decide)) (by simp; omega) ?_; intro v9 w9 ho hg hnear; have HR9 := Lib.hid (HORc.out.keptI (Ext.alloc _ _) HOCc.out hg); have HE9 := Lib.hid (show OwnG fixE 108 w9 _ _ _ from HOEc.out.grownI (Ext.alloc _ _) HOCc.out (by decide) hg); have X9 := Lib.hid ((XC.out.trans (Ext.alloc _ _)).grown hg (fun j hj => by rw [HWS.out]; exact (HOCc.out.lt j hj).1)); have HB9 := Lib.hid (show w9.heap[g]? = _ from (hg.block g (by have := HB.out.lt; simp; omega) (ownsRow_ne HOCc.out HBC.out (by decide))).trans ((heapA_old _ _ _ HB.out.lt).trans HBC.out)); obtain ⟨a9, n9, p9, rfl, HN9⟩ := ho.var; have HC9 := Lib.hid ho; clear ho hg hnear)))
           have hb0 : w9.cell? ⟨g, 0, none⟩ = some (.int .i64 p) := (rcell HB9.out).1
           have hb1 : w9.cell? ⟨g, 1, none⟩ = some (.int .i64 q') := (rcell HB9.out).2.1
           have hpb := HPB.out
           have HNE9 := Lib.hid (show some g ≠ (Value.slice aR nR cR).ownBlock from fun e => by have := (HOR.out.lt g e.symm).2; have := HGE.out; omega)
           have hk1 : Ext W w9 := X9.out
           have hk2 : Ext w9 w9.drew := Ext.drew w9
           have hsz9 := X9.out.size
           rw [HWS.out] at hsz9
           have HKEEP := Lib.hid (fun (w' : World) (h : Ext W w') (h0 : w'.cell? ⟨g, 0, none⟩ = some (.int .i64 p)) (h1 : w'.cell? ⟨g, 1, none⟩ = some (.int .i64 q')) => (⟨h0, h1, h⟩ : w'.cell? ⟨g, 0, none⟩ = some (.int .i64 p) ∧ w'.cell? ⟨g, 1, none⟩ = some (.int .i64 q') ∧ Ext W w'))
           clear hg0
           go_region_held3 (fun w' => w'.cell? ⟨g, 0, none⟩ = some (.int .i64 p) ∧ w'.cell? ⟨g, 1, none⟩ = some (.int .i64 q') ∧ Ext W w')
            (first
              | with_reducible exact HKEEP.out _ (hk1.trans hk2) (hk2.cellSome hb0) (hk2.cellSome hb1)
              | with_reducible exact HKEEP.out _ (hk1.trans (hk2.trans (Ext.alloc _ _))) ((hk2.trans (Ext.alloc _ _)).cellSome hb0) ((hk2.trans (Ext.alloc _ _)).cellSome hb1)
              | with_reducible exact HKEEP.out _ hk5 hc5 hc6)
            (first
              | (go_at_call 91
                 (with_reducible refine (i_minus _ _ _ (by omega) (by omega)).mono ?_)
                 rintro e w10 ⟨rfl, hx10⟩
                 have hk2 : Ext w9 w10 := hk2.trans hx10
                 have hs10 := hk2.size)
              | (refine step_of_wp _ (by rfl) ?_
                 refine wp_append_rats _ _ (by rfl) (w.heap.size + 2) (.slice aR nR cR) _ (by rfl) (HR9.out.ext (hk2.trans (Ext.alloc _ _))) _ 2 2 [(p, q'), (-p, q')] (by rfl) (Rats.two _ _ _ _ _ _ (by rfl)) (Nat.le_trans (Nat.add_le_add_right HLR.out 2) (by decide)) (by simp; omega) ?_
                 intro v11 w11 ho hg hnear
                 have hc5 := hg.cell ((hk2.trans (Ext.alloc _ _)).cellSome hb0) HNE9.out
                 have hc6 := hg.cell ((hk2.trans (Ext.alloc _ _)).cellSome hb1) HNE9.out
                 have HC11 := Lib.hid (HC9.out.keptR (hk2.trans (Ext.alloc _ _)) HR9.out hg)
                 have HE11 := Lib.hid (HE9.out.grownR (hk2.trans (Ext.alloc _ _)) HR9.out (by decide) hg)
                 have hk5 : Ext W w11 := (hk1.trans (hk2.trans (Ext.alloc _ _))).grown hg (fun j hj => by rw [HWS.out]; exact (HR9.out.lt j hj).1)
                 obtain ⟨a11, n11, p11, rfl, HN11⟩ := ho.var
                 have HR11 := Lib.hid ho
                 clear ho hg hnear)
              | fail)
           have X11 := Lib.hid hk5
           clear hk1 hk5 hc5 hc6
           go_wp2_with fail
           go_roundg (g3 - 1)
           case measure => have := HI.out; omega
           case rel => exact ⟨i + 1, a9, n9, p9, a11, n11, p11, Lib.hid (by have := HI.out; omega), by go_num, rfl, rfl, Lib.hid (by rw [← HSC.out]; exact HC11.out), Lib.hid (by rw [← HSR.out]; exact HR11.out), HE11, HTK, X11⟩
         ·have hik' : i = k + 1 := by have := HI.out; omega
          subst hik'
          have HTE := Lib.hid (show EE.take (k + 1) = EE from List.take_of_length_le (by rw [HEN.out]; exact Nat.le_refl _))
          rw [HTE.out] at HOC HOR HOF
          have HYES := Lib.hid (show stOk (q : Int) V L = true by rw [HST.out, HOF.out])
          obtain ⟨CI, hCI⟩ : ∃ x, x = (FC ++ fixedC V EE).map (·.1) := ⟨_, rfl⟩
          have HRC := Lib.hid (show ((FC ++ fixedC V EE).map fun c => c.2.2.2) = stC V L by rw [HCE.out]; rfl)
          have HCIL := Lib.hid (show CI.length = m + 2 * (k + 1) by rw [hCI, List.length_map, List.length_append, fixedC_len, HEN.out, HFC.out, frontC_len, HFM.out])
          have HROWS := Lib.hid (show negM m CI.length q (memM q CI) = (List.range q).map (rowC (colsL V L) q) by
           have := neg_all V (freeL L (u + 1 - 2)) EE q
           rw [HFM.out, ← HFC.out, ← hCI, HCE.out] at this
           exact this)
          have HLAST := Lib.hid (show List.replicate m 1 ++ List.replicate (2 * (k + 1)) 0 = rowC (colsL V L) q q by
           have := last_row V (freeL L (u + 1 - 2)) EE q
           rw [HFM.out, ← HFC.out, HCE.out, HEN.out] at this
           exact this)
          have HCB := Lib.hid (show ∀ r : Nat, CI[r]?.getD 0 ≤ 9223372036854775807 by
           intro r
           by_cases hr : r < CI.length
           ·rw [List.getElem?_eq_getElem hr]
            have hm := List.getElem_mem hr
            simp only [hCI] at hm
            obtain ⟨c, hc, hce⟩ := List.mem_map.1 hm
            have hc2 := cols_mem HVL.out (by omega) (fun f hf => by have := HLB.out f hf; omega) c (by rw [← HCE.out]; exact hc)
            simp only [Option.getD_some]
            have e : CI[r] = c.1 := by simp only [hCI]; exact hce.symm
            rw [e]; omega
           ·rw [List.getElem?_eq_none (by omega)]; simp)
          rw [← hCI] at HOC
          rw [HRC.out] at HOR
          have HNC := Lib.hid (show nC = m + 2 * (k + 1) by obtain ⟨_, _, he, _⟩ := HOC.out.form; simp only [Value.slice.injEq] at he; rw [he.2.1, HCIL.out])
          have HMEM := Lib.hid (i_members (w := wr3) q h5 HOC.out.ints HCB.out (by rw [HNC.out]; omega))
          have hcA := HX3.out.cellSome HWD.out
          have hnlt : ¬ ((k : Int) + 1 < (nE : Int)) := by have := HNEE.out; omega
          clear hCI
          go_wp2_with fail
          refine HMEM.out.mono ?_
          rintro e w12 ⟨⟨vA, rfl, vs, hov, hrows⟩, hx12⟩
          obtain ⟨aA, nA, cA, rfl, hna⟩ := hov.var
          have hnq : nA = q := by rw [← hna.out, hrows.len, memM_len]
          subst hnq
          have HM12 := Lib.hid (show Mat w12 (w.heap.size + 2) aA nA cA vs (memM nA CI) from ⟨hov.mono' hszr3, ⟨hrows.len, fun i hi => (hrows.row i hi).mono hszr3, hrows.apart⟩⟩)
          have HR12 := Lib.hid (HOR.out.ext hx12)
          have X12 := Lib.hid (HX3.out.trans hx12)
          have hacap := HM12.out.cap.1
          have hamax := HM12.out.cap.2
          clear hov hrows hna hx12 hcA HMEM
          go_wp2_with fail
          go_loopg [139] nA (fun gk ii wr => ∃ i : Nat, Hid (gk + i = nA) ∧ ii = .int .i64 (i : Int) ∧ Hid (Mat wr (w.heap.size + 2) aA nA cA vs (negM m CI.length i (memM nA CI))) ∧ Hid (OwnR wr (w.heap.size + 2) (.slice aR nR cR) (stC V L)) ∧ Hid (Ext W wr))
          case atStart => exact ⟨0, Lib.hid (by omega), rfl, Lib.hid (by rw [negM_zero]; exact HM12.out), HR12, X12⟩
          case round =>
           obtain ⟨g4, h_g4⟩ : ∃ x, x = gk := ⟨_, rfl⟩
           subst h_g4
           obtain ⟨wr4, h_wr4⟩ : ∃ x, x = wr := ⟨_, rfl⟩
           subst h_wr4
           obtain ⟨i, HI4, rfl, HM4, HR4', HX4'⟩ := hrel
           have hsz4' := HX4'.out.size
           rw [HWS.out] at hsz4'
           by_cases hin : i < nA
           ·obtain ⟨G, rfl, _, hGl, _⟩ := HM4.out.outer (by omega)
            have hil : i < (memM nA CI).length := by rw [memM_len]; exact hin
            have hrl : ((negM m CI.length i (memM nA CI))[i]?.getD []).length = m + 2 * (k + 1) := by rw [negM_at hil, memM_row hin, memR_len, HCIL.out]
            obtain ⟨gr, cr, hvr, hcr, hor, hne, hbr, hgrl, hncr, hcrm⟩ := HM4.out.row hin hrl (by omega)
            have HVR := Lib.hid hvr
            clear hvr hor hrl
            go_wp2_with fail
            go_loopg [22] (m + 2 * (k + 1)) (fun gk jj wr => ∃ t : Nat, Hid (gk + t = m + 2 * (k + 1)) ∧ jj = .int .i64 ((m + 1 + 2 * t : Nat) : Int) ∧ Hid (Mat wr (w.heap.size + 2) (some ⟨G, 0, none⟩) nA cA vs ((negM m CI.length i (memM nA CI)).set i (negTo m (m + 1 + 2 * t) (memR CI i)))) ∧ Hid (OwnR wr (w.heap.size + 2) (.slice aR nR cR) (stC V L)) ∧ Hid (Ext W wr))
            case atStart => exact ⟨0, Lib.hid (by omega), by simp, Lib.hid (by
             rw [negTo_start]
             have e : (negM m CI.length i (memM nA CI)).set i (memR CI i) = negM m CI.length i (memM nA CI) := by
              have h0 := negM_at (m := m) (N := CI.length) hil
              rw [memM_row hin] at h0
              apply List.ext_getElem (by simp)
              intro r h1 h2
              rw [List.getElem_set]
              split
              ·next er => subst er; rw [List.getElem?_eq_getElem h2] at h0; simpa using h0.symm
              ·rfl
             rw [e]; exact HM4.out), HR4', HX4'⟩
            case round =>
             obtain ⟨g5, h_g5⟩ : ∃ x, x = gk := ⟨_, rfl⟩
             subst h_g5
             obtain ⟨wr5, h_wr5⟩ : ∃ x, x = wr := ⟨_, rfl⟩
             subst h_wr5
             obtain ⟨t, HT5, rfl, HM5, HR5', HX5'⟩ := hrel
             have hsz5' := HX5'.out.size
             rw [HWS.out] at hsz5'
             by_cases hjl : m + 1 + 2 * t < m + 2 * (k + 1)
             ·obtain ⟨j, hj⟩ : ∃ j, j = m + 1 + 2 * t := ⟨_, rfl⟩
              have hrow5 : ((negM m CI.length i (memM nA CI)).set i (negTo m (m + 1 + 2 * t) (memR CI i)))[i]?.getD [] = negTo m (m + 1 + 2 * t) (memR CI i) := by
               rw [List.getElem?_set_self (by rw [negM_len]; exact hil)]; rfl
              obtain ⟨gr', cr', hvr', hcr', hor', hne', hbr', hgrl', hncr', hcrm'⟩ := HM5.out.row (n := m + 2 * (k + 1)) hin (by rw [hrow5, negTo_len, memR_len, HCIL.out]) (by omega)
              have hsame := HVR.out.symm.trans hvr'
              simp only [Value.slice.injEq, Option.some.injEq, Addr.mk.injEq, and_true, true_and] at hsame
              have hor2 := hor'
              rw [← hsame.1, ← hsame.2, hrow5] at hor2
              have hcell := hor2.outS.2.2.2 (m + 1 + 2 * t) hjl
              have hfz := hor2.outS.2.2.1 (m + 1 + 2 * t)
              rw [negTo_at (by rw [memR_len, HCIL.out]; exact hjl), if_neg (by omega)] at hcell
              obtain ⟨x, hx⟩ : ∃ x, x = (memR CI i)[m + 1 + 2 * t]?.getD 0 := ⟨_, rfl⟩
              have hxb := memR_bd CI i (m + 1 + 2 * t)
              rw [← hx] at hcell hxb
              have hwx : IntKind.i64.wrap (-x) = -x := by rw [IntKind.wrap_i64]; omega
              have HM6 := Lib.hid (show Mat (wr5.setCell ⟨gr, m + 1 + 2 * t, none⟩ (.int .i64 (-x))) (w.heap.size + 2) (some ⟨G, 0, none⟩) nA cA vs ((negM m CI.length i (memM nA CI)).set i (negTo m (m + 1 + 2 * (t + 1)) (memR CI i))) by
               have := HM5.out.inrow hin HVR.out (m + 1 + 2 * t) (-x)
               rw [hrow5, hx, negTo_step (by rw [memR_len, HCIL.out]; exact hjl), List.set_set] at this
               rw [hx]; exact this)
              have HR6' := Lib.hid (show OwnR (wr5.setCell ⟨gr, m + 1 + 2 * t, none⟩ (.int .i64 (-x))) (w.heap.size + 2) (.slice aR nR cR) (stC V L) from
               HR5'.out.keep fun b hb => heap_setCell_other _ _ _ _ fun e => ownsRow_apart (by decide) HR5'.out hor2 b hb (by rw [e]; rfl))
              have HX6' := Lib.hid (HX5'.out.store (b := gr) (m + 1 + 2 * t) (by rw [HWS.out]; exact hbr) (.int .i64 (-x)))
              clear hor' hor2 hrow5 hvr' hcr' hne' hbr' hgrl' hncr' hcrm' hsame hx
              rw [← hj] at hcell hfz HM6 HR6' HX6' hjl
              have HJ6 := Lib.hid hj
              rw [← hj]
              clear hj
              go_wp2_with fail
              go_roundg (g5 - 1)
              case measure => have := HT5.out; have := HJ6.out; omega
              case rel => exact ⟨t + 1, Lib.hid (by have := HT5.out; have := HJ6.out; omega), by have := HJ6.out; go_num, HM6, HR6', HX6'⟩
             ·have hnlt2 : ¬ (((m + 1 + 2 * t : Nat) : Int) < ((m + 2 * (k + 1) : Nat) : Int)) := by omega
              have HM7 := Lib.hid (show Mat wr5 (w.heap.size + 2) (some ⟨G, 0, none⟩) nA cA vs (negM m CI.length (i + 1) (memM nA CI)) by
               have h1 := negM_step (m := m) (N := CI.length) hil
               rw [memM_row hin] at h1
               rw [← h1]
               have h2 := negTo_end (m := m) (j := m + 1 + 2 * t) (r := memR CI i) (by rw [memR_len, HCIL.out]; omega)
               rw [memR_len] at h2
               rw [← h2]; exact HM5.out)
              obtain ⟨j, hj⟩ : ∃ j, j = m + 1 + 2 * t := ⟨_, rfl⟩
              obtain ⟨N, hN⟩ : ∃ j, j = m + 2 * (k + 1) := ⟨_, rfl⟩
              go_wp2_with fail
              go_roundg (g4 - 1)
              case measure => have := HI4.out; omega
              case rel => exact ⟨i + 1, Lib.hid (by have := HI4.out; omega), by go_num, HM7, HR5', HX5'⟩
           ·have hin' : nA = i := by have := HI4.out; omega
            subst hin'
            rw [HROWS.out] at HM4
            have HLB0 := Lib.hid (stBx_is HYES.out)
            obtain ⟨d, hd⟩ : ∃ d, d = 2 * (k + 1) := ⟨_, rfl⟩
            have hncd : (nC : Int) - (m : Int) = (d : Int) := by have := HNC.out; omega
            have HD := Lib.hid hd
            have HT1 := Lib.hid (i_times (w := wr4) m 1 (by omega))
            have HT2 := Lib.hid (fun (w13 : World) => i_times (w := w13) d 0 (by omega))
            have hnc0 : (0 : Int) ≤ (nC : Int) - (m : Int) := by omega
            clear hd
            go_wp2_with fail
            refine HT1.out.mono ?_
            rintro e w13 ⟨⟨v13, rfl, ho13⟩, hx13⟩
            obtain ⟨a13, n13, c13, rfl, hn13⟩ := ho13.var
            have HO13 := Lib.hid ho13
            have HX13 := Lib.hid hx13
            have HN13 := Lib.hid hn13.out
            clear ho13 hx13 hn13 HT1
            go_wp2_with fail
            rw [show wrap64 (d : Int) = (d : Int) by unfold wrap64; have := HD.out; omega]
            refine (HT2.out w13).mono ?_
            rintro e w14 ⟨⟨v14, rfl, ho14⟩, hx14⟩
            obtain ⟨a14, n14, c14, rfl, hn14⟩ := ho14.var
            have HO14 := Lib.hid ho14
            have HX14 := Lib.hid hx14
            have HN14 := Lib.hid hn14.out
            have HLEN := Lib.hid (show (List.replicate m (1 : Int)).length + n14 ≤ 1099511627776 by rw [← HN14.out, List.length_replicate, List.length_replicate]; have := HD.out; omega)
            have hs13 := HX13.out.size
            have hs14 := HX14.out.size
            clear ho14 hx14 hn14 HT2
            go_wp2_with (first
             | (at_builtin; go_loud (refine append_ints rfl _ _ rfl wr4.heap.size (.slice a13 n13 c13) _ rfl (HO13.out.ext HX14.out) _ n14 _ _ rfl HO14.out.ints HLEN.out (by omega) ?_; intro v15 w15 ho hg hnear; have hx15 := ((HX13.out.trans HX14.out).grown hg (fun j hj => (HO13.out.lt j hj).1)); obtain ⟨a15, n15, c15, rfl, HN15⟩ := ho.var; have HO15 := Lib.hid ho; have HX15 := Lib.hid hx15; clear ho hg hnear hx15)))
            obtain ⟨lr, hlr⟩ : ∃ l, l = List.replicate m (1 : Int) ++ List.replicate d 0 := ⟨_, rfl⟩
            have HLR0 := Lib.hid (show lr = rowC (colsL V L) nA nA by rw [hlr, HD.out]; exact HLAST.out)
            rw [← hlr] at HO15
            have hX15 : Ext W w15 := HX4'.out.trans HX15.out
            have hS : St3 W w15 (w.heap.size + 2) w15.heap.size (.slice aA nA cA) vs (vs ++ [.slice a15 n15 c15]) ((List.range nA).map (rowC (colsL V L) nA) ++ [lr]) (.slice aR nR cR) (stC V L) :=
             St3.start HM4.out HX15.out HO15.out hsz4' (HR4'.out.ext HX15.out) hX15
            have hsz15 := hX15.size
            rw [HWS.out] at hsz15
            have HVSL := Lib.hid (show vs.length ≤ 1099511627775 by rw [HM4.out.vlen]; omega)
            have HT3 := Lib.hid (fun (w16 : World) => i_times (w := w16) nA 0 (by omega))
            have HKEEP := Lib.hid (fun (w' : World) (h : Ext W w') => (h.cellSome HWD.out : w'.cell? ⟨w.heap.size, 0, none⟩ = some (.int .i64 (nA : Int))))
            have HKST := Lib.hid (fun (w' : World) (h : Ext W w') (a b c : Value) => (show (((w'.setCell ⟨w.heap.size + 1, 0, none⟩ a).setCell ⟨w.heap.size + 1, 1, none⟩ b).setCell ⟨w.heap.size + 1, 2, none⟩ c).cell? ⟨w.heap.size, 0, none⟩ = some (.int .i64 (nA : Int)) from
             (World.cell?_of_block (a := ⟨w.heap.size, 0, none⟩) (by
               show (((w'.setCell ⟨w.heap.size + 1, 0, none⟩ a).setCell ⟨w.heap.size + 1, 1, none⟩ b).setCell ⟨w.heap.size + 1, 2, none⟩ c).heap[w.heap.size]? = w'.heap[w.heap.size]?
               rw [heap_setCell_other _ _ _ _ (by simp), heap_setCell_other _ _ _ _ (by simp), heap_setCell_other _ _ _ _ (by simp)])).trans (HKEEP.out w' h)))
            have HNA := Lib.hid (fun (n : Nat) (hn : w15.heap.size ≤ n) => (show some n ≠ (Value.slice aA nA cA).ownBlock from fun e => by have := (hS.out.lt n e.symm).2; omega))
            have HB2 := Lib.hid (show W.heap.size ≤ w.heap.size + 2 by rw [HWS.out]; exact Nat.le_refl _)
            have HZW := Lib.hid (show W.heap.size ≤ w15.heap.size from hX15.size)
            have e0 : Ext w15 w15.drew := Ext.drew _
            have e1 : Ext w15 (w15.alloc (.cells #[.slice a15 n15 c15] 22)).drew := (Ext.alloc _ _).trans (Ext.drew _)
            have e2 : Ext w15 (w15.alloc (.cells #[.int .i64 1] 3)).drew := (Ext.alloc _ _).trans (Ext.drew _)
            have e12 : Ext w15 ((w15.alloc (.cells #[.slice a15 n15 c15] 22)).alloc (.cells #[.int .i64 1] 3)).drew := ((Ext.alloc _ _).trans (Ext.alloc _ _)).trans (Ext.drew _)
            have e21 : Ext w15 ((w15.alloc (.cells #[.int .i64 1] 3)).alloc (.cells #[.slice a15 n15 c15] 22)).drew := ((Ext.alloc _ _).trans (Ext.alloc _ _)).trans (Ext.drew _)
            have b12 : ((w15.alloc (.cells #[.slice a15 n15 c15] 22)).alloc (.cells #[.int .i64 1] 3)).drew.cell? ⟨w15.heap.size + 1, 0, none⟩ = some (.int .i64 1) := by simp
            have b21 : ((w15.alloc (.cells #[.int .i64 1] 3)).alloc (.cells #[.slice a15 n15 c15] 22)).drew.cell? ⟨w15.heap.size, 0, none⟩ = some (.int .i64 1) := by simp
            clear hlr
            go_region_held3 (fun w' => w'.cell? ⟨w.heap.size, 0, none⟩ = some (.int .i64 (nA : Int)))
             (first
               | with_reducible exact HKEEP.out _ (hS.ext.trans e0)
               | with_reducible exact HKEEP.out _ (hS.ext.trans e1)
               | with_reducible exact HKEEP.out _ (hS.ext.trans e2)
               | with_reducible exact HKEEP.out _ (hS.ext.trans e12)
               | with_reducible exact HKEEP.out _ (hS.ext.trans e21)
               | with_reducible exact HKEEP.out _ hS.ext
               | with_reducible exact HKEEP.out _ (hS.ext.trans (Ext.alloc _ _))
               | with_reducible exact HKST.out _ hS.ext _ _ _)
             (first
               | (go_at_call 68
                  (with_reducible refine (HT3.out _).mono ?_)
                  rintro e w17 ⟨⟨vT, rfl, hoT⟩, hxT⟩
                  obtain ⟨aT, nT, cT, rfl, hnT⟩ := hoT.var
                  have hzz := hS.hz
                  have HT := Lib.hid (hoT.mono (base' := w15.heap.size) (by first | exact hzz | (simp; omega)))
                  first
                   | (with_reducible have hS := hS.more hxT)
                   | (with_reducible have hS := hS.more ((Ext.alloc _ _).trans hxT))
                  first
                   | (with_reducible have hb2 := hxT.cellSome hb2)
                   | (have hb2 : w17.cell? ⟨wA.heap.size, 0, none⟩ = some (.int .i64 1) := hxT.cellSome (by simp; done))
                   | skip
                  have hs17 := hS.ext.size
                  clear hoT hnT hxT)
               | (refine step_of_wp _ (by rfl) ?_
                  refine wp_append_slice _ _ (by rfl) (w.heap.size + 2) (.slice aA nA cA) vs (by rfl) (by with_reducible exact hS.out.ext e1) _ _ 1 (by rfl) (by simp; rfl) (by rfl) HVSL.out (by simp; omega) ?_
                  intro v16 wA ho hg hnear
                  have hS := hS.push e1 hg ho HB2.out
                  obtain ⟨a16, n16, c16, rfl, HN16⟩ := ho.var
                  have hs16 := hS.ext.size
                  clear ho hg hnear)
               | (refine step_of_wp _ (by rfl) ?_
                  refine wp_append_slice _ _ (by rfl) (w.heap.size + 2) (.slice aA nA cA) vs (by rfl) (by with_reducible exact hS.out.ext e12) _ _ 1 (by rfl) (by simp; rfl) (by rfl) HVSL.out (by simp; omega) ?_
                  intro v16 wA ho hg hnear
                  have hb2 := hg.cell b12 (HNA.out _ (Nat.le_succ _))
                  have hS := hS.push e12 hg ho HB2.out
                  obtain ⟨a16, n16, c16, rfl, HN16⟩ := ho.var
                  have hs16 := hS.ext.size
                  clear ho hg hnear)
               | (refine step_of_wp _ (by rfl) ?_
                  refine wp_append_slice _ _ (by rfl) (w.heap.size + 2) (.slice aA nA cA) vs (by rfl) (by with_reducible exact hS.out.ext e21) _ _ 1 (by rfl) (by simp; rfl) (by rfl) HVSL.out (by simp; omega) ?_
                  intro v16 wA ho hg hnear
                  have hb2 := hg.cell b21 (HNA.out _ (Nat.le_refl _))
                  have hS := hS.push e21 hg ho HB2.out
                  obtain ⟨a16, n16, c16, rfl, HN16⟩ := ho.var
                  have hs16 := hS.ext.size
                  clear ho hg hnear)
               | (refine step_of_wp _ (by rfl) ?_
                  refine wp_append_ints _ _ (by rfl) w15.heap.size (.slice aT nT cT) (List.replicate nA 0) (by rfl) (by with_reducible exact HT.out) _ 1 _ [(1 : Int)] (by rfl) (Ints.ofCell hb2) (by simp; omega) hS.hz ?_
                  intro v18 wZ ho hg hnear
                  have hS := hS.growT (Ext.refl _) HT.out hg HZW.out
                  obtain ⟨a18, n18, c18, rfl, HN18⟩ := ho.var
                  have HZ := Lib.hid ho
                  have hs18 := hS.ext.size
                  have hgz := HKEEP.out _ hS.ext
                  have hr0 := LpO.boxc0 (HRB.out _ hS.ext)
                  have hr1 := LpO.boxc1 (HRB.out _ hS.ext)
                  have hr2 := LpO.boxc2 (HRB.out _ hS.ext)
                  have hrf := LpO.boxf (HRB.out _ hS.ext)
                  clear ho hg hnear)
               | (refine step_of_wp _ (by rfl) ?_
                  refine wp_append_ints _ _ (by rfl) w15.heap.size (.slice aT nT cT) (List.replicate nA 0) (by rfl) (HT.out.ext (Ext.alloc _ _)) _ 1 _ [(1 : Int)] (by rfl) (Ints.oneS w17 _ _ _ (by rfl)) (by simp; omega) (by have := hS.hz; simp; omega) ?_
                  intro v18 wZ ho hg hnear
                  have hS := hS.growT (Ext.alloc _ _) (HT.out.ext (Ext.alloc _ _)) hg HZW.out
                  obtain ⟨a18, n18, c18, rfl, HN18⟩ := ho.var
                  have HZ := Lib.hid ho
                  have hs18 := hS.ext.size
                  have hgz := HKEEP.out _ hS.ext
                  have hr0 := LpO.boxc0 (HRB.out _ hS.ext)
                  have hr1 := LpO.boxc1 (HRB.out _ hS.ext)
                  have hr2 := LpO.boxc2 (HRB.out _ hS.ext)
                  have hrf := LpO.boxf (HRB.out _ hS.ext)
                  clear ho hg hnear)
               | fail)
            all_goals
             have HS := Lib.hid hS
             clear hS hX15 e0 e1 e2 e12 e21 b12 b21 hgz
             try clear hb2
             go_wp2_with fail
             refine bodyPost_ret (v := .tuple #[.agg #[.slice a16 n16 c16, .slice a18 n18 c18, .slice aR nR cR], .bool true]) (by simp [results, Tryz.results42, go_sem, hr0, hr1, hr2]) rfl ⟨⟨_, _, _, _, by rw [HYES.out], (((((OwnV.on HS.out.out).set (by simp) _).set (by simp) _).set (by simp) _).here).mono' (by omega), ?_, ?_, ?_, ?_⟩, ?_⟩
             ·rw [HLB0.out.1, Int.toNat_natCast]
              have hA : (List.range nA).map (rowC (colsL V L) nA) ++ [lr] = stA nA V L := by unfold stA; rw [List.range_succ, List.map_append, HLR0.out]; rfl
              rw [← hA]
              exact (((((RowsI.on HS.out.rows).set (by simp) _).set (by simp) _).set (by simp) _).here).mono' (by omega)
             ·rw [HLB0.out.2.1, Int.toNat_natCast, ← ones_last]
              exact (((((OwnI.on HZ.out).set (by simp; omega) _).set (by simp; omega) _).set (by simp; omega) _).here).mono (by omega)
             ·rw [HLB0.out.2.2]
              exact (((((OwnR.on HS.out.c).set (by simp) _).set (by simp) _).set (by simp) _).here).mono (by omega)
             ·exact fun i k hi hk hk' => by
               have h1 := HS.out.top i k (by rw [← HS.out.rows.len]; exact hi) hk
               have h2 := (HZ.out.lt k hk').1
               omega
             ·exact (((HX0.out.trans HS.out.ext).store 0 (by omega) _).store 1 (by omega) _).store 2 (by omega) _
def grandV (p : Int) (V : List Int) : Int := if gameOk p V = true then V[V.length - 1]?.getD 0 else 0
theorem grandV_no {p : Int} {V : List Int} (h : gameOk p V = false) : grandV p V = 0 := by unfold grandV; rw [h]; rfl
theorem grandV_ok {p : Int} {V : List Int} (h : gameOk p V = true) : grandV p V = V[V.length - 1]?.getD 0 := by unfold grandV; rw [if_pos h]
set_option maxHeartbeats 1000000 in
theorem s_GrandValue {w : World} {p : Int} {a : Option Addr} {n cap : Nat} {V : List Int} (h : Ints w a n cap V) :
 Calls Tryz.prog 82 #[pair p a n cap] w fun e w' => e = .returned (.int .i64 (grandV p V)) ∧ Ext w w' := by
 have hi := h.alloc (.cells #[.int .i64 p, .slice a n cap] 47)
 have HX := Lib.hid (Ext.alloc w (.cells #[.int .i64 p, .slice a n cap] 47))
 have HL := Lib.hid h.hlen
 have HI := Lib.hid hi
 have HV := Lib.hid (s_IsValidGame (p := p) hi)
 clear h hi
 cases hv : gameOk p V
 ·rw [hv] at HV
  have HG := Lib.hid (grandV_no hv)
  clear hv
  go_enter Tryz.func82, Tryz.ntmps82
  go_wp2_with fail
  refine HV.out.mono ?_
  rintro e w1 ⟨rfl, hx⟩
  have X1 := Lib.hid (HX.out.trans hx)
  clear hx
  go_wp2_with fail
  go_ret
  exact ⟨ret_int HG.out.symm, X1.out⟩
 ·rw [hv] at HV
  obtain ⟨q, rfl, h1, h5, hlen, _, hbd⟩ := gameOk_len hv
  have hN := cN_le q h5
  obtain ⟨u, rfl⟩ : ∃ u, n = u + 1 := ⟨n - 1, by have := HL.out; omega⟩
  have HG := Lib.hid (show grandV (q : Int) V = V[u]?.getD 0 by rw [grandV_ok hv, HL.out]; rfl)
  have hu32 : u ≤ 31 := by have := HL.out; omega
  clear hv hlen hbd hN
  go_enter Tryz.func82, Tryz.ntmps82
  go_wp2_with fail
  refine HV.out.mono ?_
  rintro e w1 ⟨rfl, hx⟩
  have c1 : w1.cell? ⟨w.heap.size, 1, none⟩ = some (.slice a (u + 1) cap) := hx.cellSome (by simp)
  obtain ⟨b, off, rfl, hc⟩ := (HI.out.ext hx).at (show u < u + 1 by omega)
  have hlen1 : ((u + 1 : Nat) : Int) - 1 = (u : Int) := by omega
  have X1 := Lib.hid (HX.out.trans hx)
  clear hx
  go_wp2_with fail
  go_ret
  exact ⟨ret_int HG.out.symm, X1.out⟩
end Go.Proofs.YtgohdmnbnhehnaaGreat
