/- Sums of games: the reference. -/
import Derived.Test.YtgohdmnbnhehnaaGame
import Derived.Test.YtgohdmnbnhehnaaLpO
import Derived.Test.YtgohdmnbnhehnaaAvg
import Derived.Test.YtgohdmnbnhehnaaSort2
import Derived.Deep.DeepCutAuto
namespace Go.Proofs.Ytgohdmnbnhehnaa
set_option linter.unusedVariables false
set_option linter.unusedSimpArgs false
set_option maxRecDepth 100000
open Go.RowKit

set_option maxHeartbeats 2000000 in
theorem s_l8Copy {w : World} {p : Int} {a : Option Addr} {n cap : Nat} {V : List Int} (h : Ints w a n cap V) (hb : n ≤ 1048576) :
    Calls Try.prog 79 #[pair p a n cap] w fun e w' => (∃ v, e = .returned (.agg #[.int .i64 p, v]) ∧ OwnI w' w.heap.size v V) ∧ Ext w w' := by
  obtain ⟨W, hW⟩ : ∃ W, W = (w.alloc (.cells #[.int .i64 p, .slice a n cap] 26)).alloc (.cells #[.int .i64 0, .slice none 0 0] 26) := ⟨_, rfl⟩
  have HWS := Lib.hid (show W.heap.size = w.heap.size + 2 by rw [hW]; simp)
  have hX := show Ext w W by rw [hW]; exact (Ext.alloc _ _).trans (Ext.alloc _ _)
  have c0 : W.cell? ⟨w.heap.size, 0, none⟩ = some (.int .i64 p) := by rw [hW]; simp
  have c1 : W.cell? ⟨w.heap.size, 1, none⟩ = some (.slice a n cap) := by rw [hW]; simp
  have HRB := Lib.hid (show W.heap[w.heap.size + 1]? = some (.cells #[.int .i64 0, .slice none 0 0] 26 (0, 0)) by rw [hW]; exact heapA_new _ _ _ (by simp))
  have HI := Lib.hid (h.ext hX)
  have HX := Lib.hid hX
  have HO := Lib.hid (OwnI.madeS W (w.heap.size + 2) (w.heap.size + 2) HWS.out.symm (by rw [HWS.out]; exact Nat.le_refl _))
  have hcap := h.hcap
  have hmax := h.hmax
  have hlt : w.heap.size < W.heap.size := by rw [HWS.out]; omega
  have hlt1 : w.heap.size + 1 < W.heap.size := by rw [HWS.out]; omega
  clear h hX
  go_enter Try.func79, Try.ntmps79
  go_upto_region 1 with fail
  rw [← hW]
  clear hW
  go_region_law (first
    | (refine step_of_wp _ rfl (wp_append_ints _ _ rfl (w.heap.size + 2) (.slice (some ⟨W.heap.size, 0, none⟩) 0 0) [] rfl (by rw [HWS.out]; exact HO.out.ext (Ext.drew _)) a n cap V rfl ((HI.out.ext (Ext.alloc _ _)).ext (Ext.drew _)) (by simp; omega) (by simp [HWS.out]) ?_); intro v8 w8 ho hg hnear; have XA := (Ext.alloc W (.cells #[] 3)).trans (Ext.drew _); have X8 := Lib.hid ((XA).grown hg (fun j hj => by have := Option.some.inj (show some W.heap.size = some j from hj); omega)); have c08 := Ext.cellSome X8.out c0; have hr := (X8.out.block _ hlt1).trans HRB.out; have hr0 := gbox0 hr; have hr1 := gbox1 hr; have hrf := fun k => frozen_of_row w8 (w.heap.size + 1) k _ _ hr; obtain ⟨a8, n8, p8, rfl, HN8⟩ := ho.var; have HO8 := Lib.hid ho; clear ho hg hnear hr))
  all_goals
    go_wp2
    refine bodyPost_ret (v := .agg #[.int .i64 p, .slice a8 n8 p8]) (by simp [results, Try.results79, go_sem, hr0, hr1]) rfl ⟨⟨_, rfl, ?_⟩, ?_⟩
    · have := HO8.out
      rw [List.nil_append] at this
      exact (((OwnI.on this).set (by simp) _).set (by simp) _).here.mono (by omega)
    · exact ((HX.out.trans X8.out).store 0 (by omega) _).store 1 (by omega) _

def addL (V V' : List Int) : List Int := List.zipWith (· + ·) V V'
def addOk (p : Int) (V : List Int) (p' : Int) (V' : List Int) : Bool := gameOk p V && (gameOk p' V' && (decide (p = p') && gameOk p (addL V V')))
/-- The first k sums, then V. -/
def addK (V V' : List Int) (k : Nat) : List Int := addL (V.take k) (V'.take k) ++ V.drop k
theorem addK_zero (V V' : List Int) : addK V V' 0 = V := by simp [addK, addL]
theorem addK_len {V V' : List Int} (h : V'.length = V.length) {k : Nat} (hk : k ≤ V.length) : (addK V V' k).length = V.length := by simp [addK, addL]; omega
theorem addK_all {V V' : List Int} (h : V'.length = V.length) : addK V V' V.length = addL V V' := by
  unfold addK; rw [List.take_length, ← h, List.take_length, h, List.drop_length, List.append_nil]
theorem addK_set {V V' : List Int} (h : V'.length = V.length) {k : Nat} (hk : k < V.length) : (addK V V' k).set k (V[k]?.getD 0 + V'[k]?.getD 0) = addK V V' (k + 1) := by
  have hl : (addL (V.take k) (V'.take k)).length = k := by simp [addL]; omega
  unfold addK
  rw [List.set_append_right _ _ (by omega), hl, Nat.sub_self, List.drop_eq_getElem_cons hk, List.set_cons_zero]
  have e : addL (V.take (k + 1)) (V'.take (k + 1)) = addL (V.take k) (V'.take k) ++ [V[k]?.getD 0 + V'[k]?.getD 0] := by
    unfold addL
    rw [take_snoc hk, take_snoc (by omega : k < V'.length), List.zipWith_append (by simp; omega)]
    simp
  rw [e, List.append_assoc]; rfl
theorem addL_at {V V' : List Int} (h : V'.length = V.length) (t : Nat) : (addL V V')[t]?.getD 0 = V[t]?.getD 0 + V'[t]?.getD 0 := by
  unfold addL
  by_cases ht : t < V.length
  · rw [List.getElem?_zipWith, List.getElem?_eq_getElem ht, List.getElem?_eq_getElem (by omega : t < V'.length)]; rfl
  · rw [List.getElem?_eq_none (by simp; omega), List.getElem?_eq_none (by omega), List.getElem?_eq_none (by omega)]; rfl

set_option maxHeartbeats 4000000 in
theorem s_AddGames {w : World} {p p' : Int} {a a' : Option Addr} {n n' cap cap' : Nat} {V V' : List Int} (h : Ints w a n cap V) (h' : Ints w a' n' cap' V') :
    Calls Try.prog 25 #[pair p a n cap, pair p' a' n' cap'] w fun e w' =>
      (∃ v, e = .returned (.tuple #[.agg #[.int .i64 (if addOk p V p' V' = true then p else 0), v], .bool (addOk p V p' V')]) ∧ OwnI w' w.heap.size v (if addOk p V p' V' = true then addL V V' else [])) ∧ Ext w w' := by
  obtain ⟨W, hW⟩ : ∃ W, W = ((w.alloc (.cells #[.int .i64 p, .slice a n cap] 26)).alloc (.cells #[.int .i64 p', .slice a' n' cap'] 26)).alloc (.cells #[.int .i64 0, .slice none 0 0] 26) := ⟨_, rfl⟩
  have HWS := Lib.hid (show W.heap.size = w.heap.size + 3 by rw [hW]; simp)
  have hX : Ext w W := by rw [hW]; exact ((Ext.alloc _ _).trans (Ext.alloc _ _)).trans (Ext.alloc _ _)
  have HA0 := Lib.hid (show W.cell? ⟨w.heap.size, 0, none⟩ = some (.int .i64 p) by rw [hW]; exact Ext.cellSome ((Ext.alloc _ _).trans (Ext.alloc _ _)) (by simp))
  have HA1 := Lib.hid (show W.cell? ⟨w.heap.size, 1, none⟩ = some (.slice a n cap) by rw [hW]; exact Ext.cellSome ((Ext.alloc _ _).trans (Ext.alloc _ _)) (by simp))
  have HB0 := Lib.hid (show W.cell? ⟨w.heap.size + 1, 0, none⟩ = some (.int .i64 p') by rw [hW]; exact Ext.cellSome (Ext.alloc _ _) (by simp))
  have HB1 := Lib.hid (show W.cell? ⟨w.heap.size + 1, 1, none⟩ = some (.slice a' n' cap') by rw [hW]; exact Ext.cellSome (Ext.alloc _ _) (by simp))
  have HRB := Lib.hid (show W.heap[w.heap.size + 2]? = some (.cells #[.int .i64 0, .slice none 0 0] 26 (0, 0)) by rw [hW]; exact heapA_new _ _ _ (by simp))
  have HI := Lib.hid (h.ext hX)
  have HI' := Lib.hid (h'.ext hX)
  have HX := Lib.hid hX
  have hlt2 : w.heap.size + 2 < W.heap.size := by rw [HWS.out]; omega
  have HRR := Lib.hid (fun (w' : World) (hx : Ext W w') => (hx.block _ hlt2).trans HRB.out)
  have HL := Lib.hid h.hlen
  have HL' := Lib.hid h'.hlen
  have HV := Lib.hid (s_IsValidGame (p := p) HI.out)
  have hcap := h.hcap
  have hmax := h.hmax
  have HEND := Lib.hid (fun (w' : World) (hx : Ext W w') (hno : addOk p V p' V' = false) =>
    show (∃ v, (Ending.returned (.tuple #[.agg #[.int .i64 0, .slice none 0 0], .bool false])) = .returned (.tuple #[.agg #[.int .i64 (if addOk p V p' V' = true then p else 0), v], .bool (addOk p V p' V')]) ∧ OwnI ((w'.setCell ⟨w.heap.size + 2, 0, none⟩ (.int .i64 0)).setCell ⟨w.heap.size + 2, 1, none⟩ (.slice none 0 0)) w.heap.size v (if addOk p V p' V' = true then addL V V' else [])) ∧ Ext w ((w'.setCell ⟨w.heap.size + 2, 0, none⟩ (.int .i64 0)).setCell ⟨w.heap.size + 2, 1, none⟩ (.slice none 0 0)) from
      ⟨⟨.slice none 0 0, by rw [hno]; rfl, by rw [hno, if_neg (by simp)]; exact OwnI.nil _ _⟩, ((HX.out.trans hx).store 0 (by omega) _).store 1 (by omega) _⟩)
  obtain ⟨ok, hok⟩ : ∃ b, b = addOk p V p' V' := ⟨_, rfl⟩
  rw [← hok] at HEND
  rw [← hok]
  have HOK := Lib.hid hok
  clear h h' hX hlt2 hok
  cases hv : gameOk p V
  · have HN := Lib.hid (show ok = false by rw [HOK.out]; unfold addOk; rw [hv]; rfl)
    rw [hv, hW] at HV
    clear hv
    go_enter Try.func25, Try.ntmps25
    go_wp2_with fail
    refine HV.out.mono ?_
    rw [← hW]
    rintro e w1 ⟨rfl, hx1⟩
    have hr := HRR.out w1 hx1
    have hr0 := gbox0 hr
    have hr1 := gbox1 hr
    have hrf := fun k => frozen_of_row w1 (w.heap.size + 2) k _ _ hr
    have X1 := Lib.hid hx1
    have hno := HN.out
    subst hno
    clear hr hx1
    go_wp2_with fail
    refine bodyPost_ret (v := .tuple #[.agg #[.int .i64 0, .slice none 0 0], .bool false]) (by simp [results, Try.results25, go_sem, hr0, hr1]) rfl (HEND.out w1 X1.out (by trivial))
  have HVV := Lib.hid hv
  rw [hv, hW] at HV
  clear hv
  cases hv' : gameOk p' V'
  · have HN := Lib.hid (show ok = false by rw [HOK.out]; unfold addOk; rw [hv']; simp)
    have HV' := Lib.hid (fun (w' : World) (hx : Ext W w') => s_IsValidGame (p := p') (HI'.out.ext hx))
    rw [hv'] at HV'
    clear hv'
    go_enter Try.func25, Try.ntmps25
    go_wp2_with fail
    refine HV.out.mono ?_
    rw [← hW]
    rintro e w1 ⟨rfl, hx1⟩
    have b0 := hx1.cellSome HB0.out
    have b1 := hx1.cellSome HB1.out
    have HV1 := Lib.hid (HV'.out w1 hx1)
    have X1 := Lib.hid hx1
    clear hx1
    go_wp2_with fail
    refine HV1.out.mono ?_
    rintro e w2 ⟨rfl, hx2⟩
    have X2 := Lib.hid (X1.out.trans hx2)
    have hr := HRR.out w2 X2.out
    have hr0 := gbox0 hr
    have hr1 := gbox1 hr
    have hrf := fun k => frozen_of_row w2 (w.heap.size + 2) k _ _ hr
    have hno := HN.out
    subst hno
    clear hr hx2
    go_wp2_with fail
    refine bodyPost_ret (v := .tuple #[.agg #[.int .i64 0, .slice none 0 0], .bool false]) (by simp [results, Try.results25, go_sem, hr0, hr1]) rfl (HEND.out w2 X2.out (by trivial))
  have HVV' := Lib.hid hv'
  have HV' := Lib.hid (fun (w' : World) (hx : Ext W w') => s_IsValidGame (p := p') (HI'.out.ext hx))
  rw [hv'] at HV'
  clear hv'
  by_cases hpp : p = p'
  case neg =>
    have HN := Lib.hid (show ok = false by rw [HOK.out]; unfold addOk; rw [decide_eq_false hpp]; simp)
    have hbne : (p != p') = true := by simp [hpp]
    clear hpp
    go_enter Try.func25, Try.ntmps25
    go_wp2_with fail
    refine HV.out.mono ?_
    rw [← hW]
    rintro e w1 ⟨rfl, hx1⟩
    have b0 := hx1.cellSome HB0.out
    have b1 := hx1.cellSome HB1.out
    have HV1 := Lib.hid (HV'.out w1 hx1)
    have X1 := Lib.hid hx1
    clear hx1
    go_wp2_with fail
    refine HV1.out.mono ?_
    rintro e w2 ⟨rfl, hx2⟩
    have X2 := Lib.hid (X1.out.trans hx2)
    have a0 := X2.out.cellSome HA0.out
    have d0 := X2.out.cellSome HB0.out
    have hr := HRR.out w2 X2.out
    have hr0 := gbox0 hr
    have hr1 := gbox1 hr
    have hrf := fun k => frozen_of_row w2 (w.heap.size + 2) k _ _ hr
    have hno := HN.out
    subst hno
    clear hr hx2
    go_wp2_with fail
    refine bodyPost_ret (v := .tuple #[.agg #[.int .i64 0, .slice none 0 0], .bool false]) (by simp [results, Try.results25, go_sem, hr0, hr1]) rfl (HEND.out w2 X2.out (by trivial))
  subst hpp
  have hbne : (p != p) = false := by simp
  have HC := Lib.hid (fun (w' : World) (hx : Ext W w') => s_l8Copy (p := p) (HI.out.ext hx) (by have := gameOk_len HVV.out; obtain ⟨q, rfl, h1, h5, hlen, _⟩ := this; have := cN_le q h5; have := HL.out; omega))
  go_enter Try.func25, Try.ntmps25
  go_wp2_with fail
  refine HV.out.mono ?_
  rw [← hW]
  rintro e w1 ⟨rfl, hx1⟩
  have b0 := hx1.cellSome HB0.out
  have b1 := hx1.cellSome HB1.out
  have HV1 := Lib.hid (HV'.out w1 hx1)
  have X1 := Lib.hid hx1
  clear hx1
  go_wp2_with fail
  refine HV1.out.mono ?_
  rintro e w2 ⟨rfl, hx2⟩
  have X2 := Lib.hid (X1.out.trans hx2)
  have a0 := X2.out.cellSome HA0.out
  have a1 := X2.out.cellSome HA1.out
  have d0 := X2.out.cellSome HB0.out
  have HC2 := Lib.hid (HC.out w2 X2.out)
  clear hx2
  go_wp2_with fail
  refine HC2.out.mono ?_
  rintro e w3 ⟨⟨v, rfl, ho⟩, hx3⟩
  obtain ⟨ac, nc, cc, rfl, HO⟩ := ho.var
  have HO3 := Lib.hid ho
  have X3 := Lib.hid (X2.out.trans hx3)
  clear ho hx3
  go_upto_region 5 with fail
  have hnc : n = nc := by have := HO.out; have := HL.out; omega
  subst hnc
  obtain ⟨q, hpq, hq1, hq5, hVlen, _, hVb⟩ := gameOk_len HVV.out
  obtain ⟨q', hpq', _, _, hVlen', _, hVb'⟩ := gameOk_len HVV'.out
  have hnn : n = n' := by
    have : q = q' := by omega
    subst this
    have := HL.out; have := HL'.out; omega
  subst hnn
  have hn1 : 0 < n := by
    have := HL.out
    have := cN_le q hq5
    omega
  have hn32 : n ≤ 32 := by have := cN_le q hq5; have := HL.out; omega
  have HBV := Lib.hid (fun i => getD_bd hVb i)
  have HBV' := Lib.hid (fun i => getD_bd hVb' i)
  have HLL := Lib.hid (show V'.length = V.length by rw [HL.out, HL'.out])
  obtain ⟨g, rfl, hgb, hfz, hgl⟩ := HO3.out.block (k := 0) hn1
  clear hpq hpq' hVlen hVlen' hVb hVb' hfz
  have HGB := Lib.hid hgb
  have HGL := Lib.hid hgl
  have HW2 := Lib.hid X2.out.size
  clear hgb hgl
  go_loopg [7] n (fun gk ii wr => ∃ k : Nat, Hid (gk + k = n) ∧ ii = .int .i64 (k : Int) ∧ Hid (OwnI wr w2.heap.size (.slice (some ⟨g, 0, none⟩) n cc) (addK V V' k)) ∧ Hid (wr.heap[w3.heap.size]? = some (.cells #[.int .i64 p, .slice (some ⟨g, 0, none⟩) n cc] 26 (0, 0))) ∧ Hid (Ext W wr))
  case atStart =>
    exact ⟨0, Lib.hid (by omega), rfl, Lib.hid (by rw [addK_zero]; exact HO3.out.ext (Ext.alloc _ _)), Lib.hid (heapA_new _ _ _ rfl), Lib.hid (X3.out.trans (Ext.alloc _ _))⟩
  case round =>
    obtain ⟨g1, h_g1⟩ : ∃ x, x = gk := ⟨_, rfl⟩
    subst h_g1
    obtain ⟨wr, h_wr⟩ : ∃ x, x = wr := ⟨_, rfl⟩
    subst h_wr
    obtain ⟨k, HK, rfl, HOW, HRW, HXW⟩ := hrel
    have r0 := gbox0 HRW.out
    have r1 := gbox1 HRW.out
    have a0 := HXW.out.cellSome HA1.out
    have d0 := HXW.out.cellSome HB1.out
    by_cases hlt : k < n
    · obtain ⟨ba, oa, rfl, x0⟩ := (HI.out.ext HXW.out).at hlt
      obtain ⟨bb, ob, rfl, y0⟩ := (HI'.out.ext HXW.out).at hlt
      obtain ⟨g2, hg2, _, hfree, _⟩ := HOW.out.block hlt
      obtain rfl : g = g2 := by simpa using hg2
      obtain ⟨g3, o3, hg3, hold⟩ := HOW.out.ints.at hlt
      simp only [Option.some.injEq, Addr.mk.injEq] at hg3
      obtain ⟨rfl, rfl, _⟩ := hg3
      rw [Nat.zero_add] at hold
      clear hg2
      have hbx := HBV.out k
      have hby := HBV'.out k
      obtain ⟨x, hx⟩ : ∃ x, x = V[k]?.getD 0 := ⟨_, rfl⟩
      obtain ⟨y, hy⟩ : ∃ y, y = V'[k]?.getD 0 := ⟨_, rfl⟩
      rw [← hx] at x0 hbx
      rw [← hy] at y0 hby
      have HXX := Lib.hid hx
      have HYY := Lib.hid hy
      clear hx hy
      go_wp2_with fail
      go_still_tail 15, (by kernel_rfl)
      change wpList _ _ _ _ _ wr.drew
      go_wp2_with fail
      go_roundg (g1 - 1)
      case measure => have := HK.out; omega
      case rel =>
        have hne : w3.heap.size ≠ g := by have := HGL.out; omega
        refine ⟨k + 1, Lib.hid (by have := HK.out; omega), by go_num, Lib.hid ?_, Lib.hid ?_, Lib.hid ((HXW.out.trans (Ext.drew wr)).store k (by have := HGB.out; have := HW2.out; omega) _)⟩
        · have := (HOW.out.ext (Ext.drew wr)).set k (x + y)
          rw [HXX.out, HYY.out, addK_set HLL.out (by have := HL.out; omega)] at this
          rw [HXX.out, HYY.out]
          exact this
        · exact (heap_setCell_other _ _ _ _ (by intro e; exact hne e)).trans HRW.out
    · have hkn : k = n := by have := HK.out; omega
      subst hkn
      have HOA := Lib.hid (show OwnI wr w2.heap.size (.slice (some ⟨g, 0, none⟩) k cc) (addL V V') by
        rw [← addK_all HLL.out, HL.out]; exact HOW.out)
      have HVA := Lib.hid (s_IsValidGame (p := p) HOA.out.ints)
      have hr := HRR.out wr HXW.out
      cases hva : gameOk p (addL V V')
      · rw [hva] at HVA
        have HN := Lib.hid (show ok = false by rw [HOK.out]; unfold addOk; rw [hva]; simp)
        clear hva
        go_wp2_with fail
        refine HVA.out.mono ?_
        rintro e w5 ⟨rfl, hx5⟩
        have X5 := Lib.hid (HXW.out.trans hx5)
        have hr := HRR.out w5 X5.out
        have hr0 := gbox0 hr
        have hr1 := gbox1 hr
        have hrf := fun k => frozen_of_row w5 (w.heap.size + 2) k _ _ hr
        have hno := HN.out
        subst hno
        clear hr hx5
        go_wp2_with fail
        refine bodyPost_ret (v := .tuple #[.agg #[.int .i64 0, .slice none 0 0], .bool false]) (by simp [results, Try.results25, go_sem, hr0, hr1]) rfl (HEND.out w5 X5.out (by trivial))
      · rw [hva] at HVA
        have HN := Lib.hid (show ok = true by rw [HOK.out]; unfold addOk; rw [hva, HVV.out, HVV'.out]; simp)
        clear hva
        go_wp2_with fail
        refine HVA.out.mono ?_
        rintro e w5 ⟨rfl, hx5⟩
        have X5 := Lib.hid (HXW.out.trans hx5)
        have e0 := hx5.cellSome r0
        have e1 := hx5.cellSome r1
        have hr := HRR.out w5 X5.out
        have hr0 := gbox0 hr
        have hr1 := gbox1 hr
        have hrf := fun k => frozen_of_row w5 (w.heap.size + 2) k _ _ hr
        have HO5 := Lib.hid (HOA.out.ext hx5)
        have hno := HN.out
        subst hno
        clear hr hx5
        go_wp2_with fail
        refine bodyPost_ret (v := .tuple #[.agg #[.int .i64 p, .slice (some ⟨g, 0, none⟩) k cc], .bool true]) (by simp [results, Try.results25, go_sem, hr0, hr1]) rfl ?_
        refine ⟨⟨_, rfl, ?_⟩, ?_⟩
        · try rw [if_pos rfl]
          refine (HO5.out.mono (by have := HW2.out; have := HWS.out; omega)).keep ?_
          intro j hj
          obtain rfl : g = j := by simpa [Value.ownBlock] using hj
          rw [heap_setCell_other _ _ _ _ (by have := HGB.out; have := HW2.out; have := HWS.out; simp; omega), heap_setCell_other _ _ _ _ (by have := HGB.out; have := HW2.out; have := HWS.out; simp; omega)]
        · exact ((HX.out.trans X5.out).store 0 (by omega) _).store 1 (by omega) _

end Go.Proofs.Ytgohdmnbnhehnaa
