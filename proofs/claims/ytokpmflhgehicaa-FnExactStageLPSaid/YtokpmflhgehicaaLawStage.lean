/- FnExactStageLP answers true, whatever the arguments: the walk. (Printed by genstage.py.) -/
import Derived.Test.YtokpmflhgehicaaLawLP
import Derived.Test.YtokpmflhgehicaaMarkF
import Derived.Test.YtokpmflhgehicaaStageW
namespace Go.Proofs.Ytokpmflhgehicaa
set_option linter.unusedVariables false
set_option linter.unusedSimpArgs false
set_option maxRecDepth 100000
open Go.RowKit

theorem stA_rows (q : Nat) (V : List Int) (L : List (Int × Int × Int)) : ∀ r ∈ stA q V L, r.length ≤ V.length + 2 * L.length + 2 := by
  intro r hr
  obtain ⟨k, _, rfl⟩ := List.mem_map.1 hr
  unfold rowC
  rw [List.length_map]
  exact colsL_len V L
theorem stx_small {p : Int} {V : List Int} {L : List (Int × Int × Int)} (hV : V.length ≤ 1048576) (hL : L.length ≤ 1048576) : cnt (stAx p V L) ≤ 100000000 ∧ (stBx p V L).length ≤ 6 ∧ (stCx p V L).length ≤ 4000000 := by
  cases hs : stOk p V L
  · unfold stAx stBx stCx; rw [hs]; simp [cnt]
  · obtain ⟨h1, h2, h3⟩ := stBx_is hs
    have hg : gameOk p V = true := by
      unfold stOk goodL at hs; simp only [Bool.and_eq_true] at hs; exact hs.1.1
    obtain ⟨n, rfl, _, h5, hlen, _⟩ := gameOk_len hg
    have hN := cN_le n h5
    rw [h1, h2, h3, Int.toNat_natCast]
    have hc := cnt_rows (stA n V L) (stA_rows n V L)
    have hl : (stA n V L).length = n + 1 := by simp [stA]
    rw [hl] at hc
    refine ⟨?_, by simp [stB]; omega, by unfold stC; rw [List.length_map]; have := colsL_len V L; omega⟩
    have : (V.length + 2 * L.length + 2) * (n + 1) ≤ 2097188 * 6 := Nat.mul_le_mul (by omega) (by omega)
    have h6 : ((V.length + 2 * L.length + 2 : Nat) : Int) * ((n + 1 : Nat) : Int) = (((V.length + 2 * L.length + 2) * (n + 1) : Nat) : Int) := by simp
    rw [h6] at hc
    omega
theorem LpRet.var {w : World} {base : Nat} {e : Ending} {A : List (List Int)} {B : List Int} {C : List (Int × Int)} {ok : Bool} (h : LpRet w base e A B C ok) :
    ∃ a na ca b nb cb c nc cc vs, e = .returned (.tuple #[lpV a na ca b nb cb c nc cc, .bool ok]) ∧ LpP w base a na ca b nb cb c nc cc vs A B C := by
  obtain ⟨va, vb, vc, vs, rfl, h1, h2, h3, h4, h5⟩ := h
  obtain ⟨a, na, ca, rfl, _⟩ := h1.var
  obtain ⟨b, nb, cb, rfl, _⟩ := h3.var
  obtain ⟨c, nc, cc, rfl, _⟩ := h4.var
  exact ⟨_, _, _, _, _, _, _, _, _, vs, rfl, h1, h2, h3, h4, h5⟩

theorem eqPS (p : Int) (l : List Int) : (decide (p = p) && decide (l = l)) = true := by simp
set_option maxHeartbeats 8000000 in
theorem l_FnExactStageLP {w : World} {x : Int} {a : Option Addr} {n cap : Nat} {V : List Int} (h : Ints w a n cap V) {fa : Option Addr} {fn fcap : Nat} {L : List (Int × Int × Int)} (hf : Fixs w fa fn fcap L) :
    Calls Try.prog 10 #[pair x a n cap, .slice fa fn fcap] w fun e w' => e = .returned (.bool true) ∧ Ext w w' := by
  have hm : n ≤ 9223372036854775807 := Nat.le_trans h.hcap h.hmax
  have hfm : fn ≤ 9223372036854775807 := Nat.le_trans hf.hcap hf.hmax
  have hz := szF_le 1048576 n (by omega) (by omega)
  have HX := Lib.hid (Ext.alloc w (.cells #[.int .i64 x, .slice a n cap] 61))
  have G2 := Lib.hid (show (w.alloc (.cells #[.int .i64 x, .slice a n cap] 61)).heap[w.heap.size]? = some (.cells #[.int .i64 x, .slice a n cap] 61 (0, 0)) from heapA_new _ _ _ rfl)
  have HA := Lib.hid h
  have HF := Lib.hid hf
  have hvl := h.hlen
  have hll := hf.hlen
  clear h hf
  by_cases hlt : szF 1048576 n < 0
  · go_enter Try.func10, Try.ntmps10
    go_wp2_with fail
    refine (l_szGame _ _ _ _ _ _ (by omega) (by omega) hm).mono ?_
    rintro e w1 ⟨rfl, hx⟩
    have HX1 := Lib.hid (HX.out.trans hx)
    clear hx
    go_wp2
    go_ret
    exact ⟨rfl, HX1.out⟩
  · have hn20 : n ≤ 1048576 := by omega
    have hlt' : (0 : Int) ≤ szF 1048576 n := by omega
    obtain ⟨s1, hs1⟩ : ∃ s, s = szF 1048576 n := ⟨_, rfl⟩
    rw [← hs1] at hlt hz hlt'
    have HS1 := Lib.hid hs1
    have hz2 := szF_le s1 fn (by omega) (by omega)
    clear hs1
    by_cases hlt2 : szF s1 fn < 0
    · go_enter Try.func10, Try.ntmps10
      go_wp2_with fail
      refine (l_szGame _ _ _ _ _ _ (by omega) (by omega) hm).mono ?_
      rw [← HS1.out]
      rintro e w1 ⟨rfl, hx⟩
      have HX1 := Lib.hid (HX.out.trans hx)
      clear hx
      go_wp2_with fail
      refine (l_szFixedS _ _ _ _ _ (by omega) (by omega) hfm).mono ?_
      rintro e w2 ⟨rfl, rfl⟩
      go_wp2
      go_ret
      exact ⟨rfl, HX1.out⟩
    have hfn20 : fn ≤ 1048576 := by omega
    have hsml := stx_small (p := x) (V := V) (L := L) (by omega) (by omega)
    obtain ⟨z, hzz⟩ : ∃ z, z = cnt (stAx x V L) := ⟨_, rfl⟩
    have hz0 := cnt_nonneg (stAx x V L)
    rw [← hzz] at hsml hz0
    have HZ := Lib.hid hzz
    have HSM := Lib.hid hsml
    obtain ⟨ok, hok⟩ : ∃ b, b = stOk x V L := ⟨_, rfl⟩
    have HOK := Lib.hid hok
    have hbb : (ok != ok) = false := by simp
    clear hzz hok
    go_enter Try.func10, Try.ntmps10
    go_wp2_with fail
    refine (l_szGame _ _ _ _ _ _ (by omega) (by omega) hm).mono ?_
    rw [← HS1.out]
    rintro e w1 ⟨rfl, hx⟩
    have X1 := Lib.hid (HX.out.trans hx)
    replace G2 := Lib.hid (Ext.blk hx G2.out)
    clear hx
    have G20 := gbox0 G2.out
    have G21 := gbox1 G2.out
    have G2t := lt_of_block G2.out
    go_wp2_with fail
    refine (l_szFixedS _ _ _ _ _ (by omega) (by omega) hfm).mono ?_
    rintro e w1' ⟨rfl, rfl⟩
    go_wp2_with fail
    clear G20 G21 G2t
    have X := Lib.hid X1.out
    clear X1
    -- the reference's answer
    refine (l_toGame (HA.out.ext X.out) (by omega)).mono ?_
    rintro e w2 ⟨bs, rfl, hrow, hbs, hx⟩
    replace X := Lib.hid (X.out.trans hx)
    replace G2 := Lib.hid (Ext.blk hx G2.out)
    clear hx
    have Rs := Lib.hid hrow
    clear hrow
    have G20 := gbox0 G2.out
    have G21 := gbox1 G2.out
    have G2t := lt_of_block G2.out
    go_wp2_with fail
    clear G20 G21 G2t
    refine (l_toFixedS (HF.out.ext X.out) (by omega)).mono ?_
    rintro e w3 ⟨bf, rfl, hrow, hbf, hx⟩
    replace X := Lib.hid (X.out.trans hx)
    replace G2 := Lib.hid (Ext.blk hx G2.out)
    replace Rs := Lib.hid (Rs.out.ext hx)
    clear hx
    have Rf := Lib.hid hrow
    clear hrow
    have G20 := gbox0 G2.out
    have G21 := gbox1 G2.out
    have G2t := lt_of_block G2.out
    go_wp2_with fail
    clear G20 G21 G2t
    have HC := Lib.hid (s_StageLP (p := x) (Rs.out.ints hvl (Nat.le_refl _) (by omega)) (Rf.out.fixs hll (Nat.le_refl _) (by omega)) (by omega))
    rw [← HOK.out] at HC
    refine HC.out.mono ?_
    rintro e w4 ⟨hret, hx⟩
    obtain ⟨a4, na4, ca4, b4, nb4, cb4, c4, nc4, cc4, vs4, rfl, hp4⟩ := hret.var
    have hs4 := hx.size
    clear hret HC
    replace X := Lib.hid (X.out.trans hx)
    replace G2 := Lib.hid (Ext.blk hx G2.out)
    replace Rs := Lib.hid (Rs.out.ext hx)
    replace Rf := Lib.hid (Rf.out.ext hx)
    clear hx
    have hw4 := Lib.hid (lt_of_block G2.out)
    clear Rs Rf
    have G20 := gbox0 G2.out
    have G21 := gbox1 G2.out
    have G2t := lt_of_block G2.out
    go_wp2_with fail
    clear G20 G21 G2t
    have P0 := Lib.hid hp4
    clear hp4
    have hx := Ext.alloc w4 (.cells #[.slice a4 na4 ca4, .slice b4 nb4 cb4, .slice c4 nc4 cc4] 81)
    have hnew := heapA_new w4 (.cells #[.slice a4 na4 ca4, .slice b4 nb4 cb4, .slice c4 nc4 cc4] 81) _ rfl
    replace X := Lib.hid (X.out.trans hx)
    replace G2 := Lib.hid (Ext.blk hx G2.out)
    replace P0 := Lib.hid (P0.out.ext hx)
    clear hx
    have L6 := Lib.hid hnew
    clear hnew
    have X4 := Lib.hid (Ext.refl (w4.alloc (.cells #[.slice a4 na4 ca4, .slice b4 nb4 cb4, .slice c4 nc4 cc4] 81)))
    have hE4 : (w4.alloc (.cells #[.slice a4 na4 ca4, .slice b4 nb4 cb4, .slice c4 nc4 cc4] 81)).heap.size = w4.heap.size + 1 := by simp
    -- the program's answer
    refine (l_toGame (HA.out.ext X.out) (by omega)).mono ?_
    rintro e w5 ⟨bx, rfl, hrow, hbx, hx⟩
    replace X := Lib.hid (X.out.trans hx)
    replace X4 := Lib.hid (X4.out.trans hx)
    replace G2 := Lib.hid (Ext.blk hx G2.out)
    replace L6 := Lib.hid (Ext.blk hx L6.out)
    clear hx
    have Rx := Lib.hid hrow
    clear hrow
    have hbx4 : w4.heap.size + 1 ≤ bx := by rw [hE4] at hbx; exact hbx
    have h45 : w4.heap.size + 1 ≤ w5.heap.size := by have := X4.out.size; rw [hE4] at this; exact this
    have G20 := gbox0 G2.out
    have G21 := gbox1 G2.out
    have G2t := lt_of_block G2.out
    have L60 := LpO.boxc0 L6.out
    have L61 := LpO.boxc1 L6.out
    have L62 := LpO.boxc2 L6.out
    have L6t := lt_of_block L6.out
    go_wp2_with fail
    clear G20 G21 G2t L60 L61 L62 L6t
    have hx := Ext.alloc w5 (.cells #[.int .i64 x, .slice (some ⟨bx, 0, none⟩) n n] 64)
    have hnew := heapA_new w5 (.cells #[.int .i64 x, .slice (some ⟨bx, 0, none⟩) n n] 64) _ rfl
    replace X := Lib.hid (X.out.trans hx)
    replace X4 := Lib.hid (X4.out.trans hx)
    replace G2 := Lib.hid (Ext.blk hx G2.out)
    replace L6 := Lib.hid (Ext.blk hx L6.out)
    replace Rx := Lib.hid (Rx.out.ext hx)
    clear hx
    have G8 := Lib.hid hnew
    clear hnew
    refine (l_toFixedS (HF.out.ext X.out) (by omega)).mono ?_
    rintro e w6 ⟨bq, rfl, hrow, hbq, hx⟩
    replace X := Lib.hid (X.out.trans hx)
    replace X4 := Lib.hid (X4.out.trans hx)
    replace G2 := Lib.hid (Ext.blk hx G2.out)
    replace L6 := Lib.hid (Ext.blk hx L6.out)
    replace G8 := Lib.hid (Ext.blk hx G8.out)
    replace Rx := Lib.hid (Rx.out.ext hx)
    clear hx
    have Rq := Lib.hid hrow
    clear hrow
    have hbq4 : w4.heap.size + 1 ≤ bq := by simp at hbq; omega
    have hbx6 : bx < w6.heap.size := Rx.out.lt
    have hbq6 : bq < w6.heap.size := Rq.out.lt
    have h46 : w4.heap.size + 1 ≤ w6.heap.size := by omega
    have h56 : w5.heap.size < w6.heap.size := by have h := hbq; simp at h; omega
    have G20 := gbox0 G2.out
    have G21 := gbox1 G2.out
    have G2t := lt_of_block G2.out
    have L60 := LpO.boxc0 L6.out
    have L61 := LpO.boxc1 L6.out
    have L62 := LpO.boxc2 L6.out
    have L6t := lt_of_block L6.out
    have G80 := gbox0 G8.out
    have G81 := gbox1 G8.out
    have G8t := lt_of_block G8.out
    go_wp2_with fail
    clear G20 G21 G2t L60 L61 L62 L6t G80 G81 G8t
    have HC := Lib.hid (i_StageLP (p := x) (Rx.out.ints hvl (Nat.le_refl _) (by omega)) (Rq.out.fixs hll (Nat.le_refl _) (by omega)) (by omega))
    rw [← HOK.out] at HC
    refine HC.out.mono ?_
    rintro e w7 ⟨hret, hx⟩
    obtain ⟨a7, na7, ca7, b7, nb7, cb7, c7, nc7, cc7, vs7, rfl, hp7⟩ := hret.var
    have hs7 := hx.size
    clear hret HC
    replace X := Lib.hid (X.out.trans hx)
    replace X4 := Lib.hid (X4.out.trans hx)
    replace G2 := Lib.hid (Ext.blk hx G2.out)
    replace L6 := Lib.hid (Ext.blk hx L6.out)
    replace G8 := Lib.hid (Ext.blk hx G8.out)
    replace Rx := Lib.hid (Rx.out.ext hx)
    replace Rq := Lib.hid (Rq.out.ext hx)
    clear hx
    have HBL := Lib.hid (fun (j : Nat) (hj : w7.heap.size ≤ j) => hp7.blks hj)
    have P1 := Lib.hid hp7
    have hnb : nb7 ≤ 6 := by have := hp7.pb.ints.hlen; have := HSM.out.2.1; omega
    have hnc : nc7 ≤ 4000000 := by have := hp7.pc.rats.hlen; have := HSM.out.2.2; omega
    clear hp7
    have G20 := gbox0 G2.out
    have G21 := gbox1 G2.out
    have G2t := lt_of_block G2.out
    have L60 := LpO.boxc0 L6.out
    have L61 := LpO.boxc1 L6.out
    have L62 := LpO.boxc2 L6.out
    have L6t := lt_of_block L6.out
    have G80 := gbox0 G8.out
    have G81 := gbox1 G8.out
    have G8t := lt_of_block G8.out
    go_wp2_with fail
    clear G20 G21 G2t L60 L61 L62 L6t G80 G81 G8t
    have hx := Ext.alloc w7 (.cells #[.slice a7 na7 ca7, .slice b7 nb7 cb7, .slice c7 nc7 cc7] 81)
    have hnew := heapA_new w7 (.cells #[.slice a7 na7 ca7, .slice b7 nb7 cb7, .slice c7 nc7 cc7] 81) _ rfl
    replace X := Lib.hid (X.out.trans hx)
    replace X4 := Lib.hid (X4.out.trans hx)
    replace G2 := Lib.hid (Ext.blk hx G2.out)
    replace L6 := Lib.hid (Ext.blk hx L6.out)
    replace G8 := Lib.hid (Ext.blk hx G8.out)
    replace Rx := Lib.hid (Rx.out.ext hx)
    replace Rq := Lib.hid (Rq.out.ext hx)
    replace P1 := Lib.hid (P1.out.ext hx)
    clear hx
    have L10 := Lib.hid hnew
    clear hnew
    -- they are equal
    refine (l_eqLP P1.out.lpI (P0.out.ext X4.out).lpI).mono ?_
    rintro e w8 ⟨rfl, hx⟩
    replace X := Lib.hid (X.out.trans hx)
    replace X4 := Lib.hid (X4.out.trans hx)
    replace G2 := Lib.hid (Ext.blk hx G2.out)
    replace L6 := Lib.hid (Ext.blk hx L6.out)
    replace G8 := Lib.hid (Ext.blk hx G8.out)
    replace L10 := Lib.hid (Ext.blk hx L10.out)
    replace Rx := Lib.hid (Rx.out.ext hx)
    replace Rq := Lib.hid (Rq.out.ext hx)
    replace P1 := Lib.hid (P1.out.ext hx)
    clear hx
    have G20 := gbox0 G2.out
    have G21 := gbox1 G2.out
    have G2t := lt_of_block G2.out
    have L60 := LpO.boxc0 L6.out
    have L61 := LpO.boxc1 L6.out
    have L62 := LpO.boxc2 L6.out
    have L6t := lt_of_block L6.out
    have G80 := gbox0 G8.out
    have G81 := gbox1 G8.out
    have G8t := lt_of_block G8.out
    have L100 := LpO.boxc0 L10.out
    have L101 := LpO.boxc1 L10.out
    have L102 := LpO.boxc2 L10.out
    have L10t := lt_of_block L10.out
    go_wp2_with fail
    -- the game is as before
    have hk : Ext w8 w8.drew := Ext.drew w8
    have HAd := Lib.hid ((HA.out.ext X.out).ext hk)
    have RXd := Lib.hid (Rx.out.ext hk)
    go_region_held3 (fun w' => w'.cell? ⟨w.heap.size, 0, none⟩ = some (.int .i64 x) ∧ w'.cell? ⟨w.heap.size, 1, none⟩ = some (.slice a n cap) ∧ w'.cell? ⟨w5.heap.size, 0, none⟩ = some (.int .i64 x) ∧ w'.cell? ⟨w5.heap.size, 1, none⟩ = some (.slice (some ⟨bx, 0, none⟩) n n) ∧ Ext w8 w')
      (exact ⟨hk.cellSome G20, hk.cellSome G21, hk.cellSome G80, hk.cellSome G81, hk⟩)
      (first
        | (go_at_call 39; refine (l_toGame HAd.out (by omega)).mono ?_; rintro e w9 ⟨b9, rfl, hrow9, hb9, hx9⟩; have hk := hk.trans hx9)
        | (go_at_call 41; refine (l_eqGame (x := x) (x' := x) ((RXd.out.ext hx9).ints hvl (Nat.le_refl _) (by omega)) (hrow9.ints hvl (Nat.le_refl _) (by omega))).mono ?_; rw [eqPS]; rintro e w10 ⟨rfl, hx10⟩; have hk := hk.trans hx10))
    clear HAd RXd
    clear G20 G21 G2t L60 L61 L62 L6t G80 G81 G8t L100 L101 L102 L10t
    replace X := Lib.hid (X.out.trans hk)
    replace X4 := Lib.hid (X4.out.trans hk)
    replace G2 := Lib.hid (Ext.blk hk G2.out)
    replace L6 := Lib.hid (Ext.blk hk L6.out)
    replace G8 := Lib.hid (Ext.blk hk G8.out)
    replace L10 := Lib.hid (Ext.blk hk L10.out)
    replace Rx := Lib.hid (Rx.out.ext hk)
    replace Rq := Lib.hid (Rq.out.ext hk)
    replace P1 := Lib.hid (P1.out.ext hk)
    clear hk
    clear hrow9 hb9 hx9 hx10
    have G20 := gbox0 G2.out
    have G21 := gbox1 G2.out
    have G2t := lt_of_block G2.out
    have L60 := LpO.boxc0 L6.out
    have L61 := LpO.boxc1 L6.out
    have L62 := LpO.boxc2 L6.out
    have L6t := lt_of_block L6.out
    have G80 := gbox0 G8.out
    have G81 := gbox1 G8.out
    have G8t := lt_of_block G8.out
    have L100 := LpO.boxc0 L10.out
    have L101 := LpO.boxc1 L10.out
    have L102 := LpO.boxc2 L10.out
    have L10t := lt_of_block L10.out
    go_wp2_with fail
    clear G20 G21 G2t L60 L61 L62 L6t G80 G81 G8t L100 L101 L102 L10t
    -- the levels are as before
    refine (l_toFixedS (HF.out.ext X.out) (by omega)).mono ?_
    rintro e w11 ⟨bt, rfl, hrow, hbt, hx⟩
    replace X := Lib.hid (X.out.trans hx)
    replace X4 := Lib.hid (X4.out.trans hx)
    replace G2 := Lib.hid (Ext.blk hx G2.out)
    replace L6 := Lib.hid (Ext.blk hx L6.out)
    replace G8 := Lib.hid (Ext.blk hx G8.out)
    replace L10 := Lib.hid (Ext.blk hx L10.out)
    replace Rx := Lib.hid (Rx.out.ext hx)
    replace Rq := Lib.hid (Rq.out.ext hx)
    replace P1 := Lib.hid (P1.out.ext hx)
    clear hx
    have Rt := Lib.hid hrow
    clear hrow
    have G20 := gbox0 G2.out
    have G21 := gbox1 G2.out
    have G2t := lt_of_block G2.out
    have L60 := LpO.boxc0 L6.out
    have L61 := LpO.boxc1 L6.out
    have L62 := LpO.boxc2 L6.out
    have L6t := lt_of_block L6.out
    have G80 := gbox0 G8.out
    have G81 := gbox1 G8.out
    have G8t := lt_of_block G8.out
    have L100 := LpO.boxc0 L10.out
    have L101 := LpO.boxc1 L10.out
    have L102 := LpO.boxc2 L10.out
    have L10t := lt_of_block L10.out
    go_wp2_with fail
    clear G20 G21 G2t L60 L61 L62 L6t G80 G81 G8t L100 L101 L102 L10t
    refine (l_eqFixedS (Rq.out.fixs hll (Nat.le_refl _) (by omega)) (Rt.out.fixs hll (Nat.le_refl _) (by omega))).mono ?_
    rw [decide_eq_true (rfl : L = L)]
    rintro e w12 ⟨rfl, hx⟩
    replace X := Lib.hid (X.out.trans hx)
    replace X4 := Lib.hid (X4.out.trans hx)
    replace G2 := Lib.hid (Ext.blk hx G2.out)
    replace L6 := Lib.hid (Ext.blk hx L6.out)
    replace G8 := Lib.hid (Ext.blk hx G8.out)
    replace L10 := Lib.hid (Ext.blk hx L10.out)
    replace Rx := Lib.hid (Rx.out.ext hx)
    replace Rq := Lib.hid (Rq.out.ext hx)
    replace P1 := Lib.hid (P1.out.ext hx)
    replace Rt := Lib.hid (Rt.out.ext hx)
    clear hx
    clear Rt
    have G20 := gbox0 G2.out
    have G21 := gbox1 G2.out
    have G2t := lt_of_block G2.out
    have L60 := LpO.boxc0 L6.out
    have L61 := LpO.boxc1 L6.out
    have L62 := LpO.boxc2 L6.out
    have L6t := lt_of_block L6.out
    have G80 := gbox0 G8.out
    have G81 := gbox1 G8.out
    have G8t := lt_of_block G8.out
    have L100 := LpO.boxc0 L10.out
    have L101 := LpO.boxc1 L10.out
    have L102 := LpO.boxc2 L10.out
    have L10t := lt_of_block L10.out
    go_wp2_with fail
    clear G20 G21 G2t L60 L61 L62 L6t G80 G81 G8t L100 L101 L102 L10t
    -- the arguments are marked
    have OX := Lib.hid (Rx.out.own (base := w4.heap.size + 1) hbx4 hvl (by omega))
    refine (l_markGame (x := x) OX.out 1 (by omega) (by omega)).mono ?_
    rintro e w13 ⟨rfl, _, hg⟩
    replace X4 := Lib.hid (show Ext (w4.alloc (.cells #[.slice a4 na4 ca4, .slice b4 nb4 cb4, .slice c4 nc4 cc4] 81)) w13 from X4.out.grown hg fun k e => by have := Option.some.inj (show some bx = some k from e); rw [hE4]; omega)
    replace X := Lib.hid (show Ext w w13 from X.out.grown hg fun k e => by have := Option.some.inj (show some bx = some k from e); have := hw4.out; omega)
    replace G2 := Lib.hid (grown_blk hg G2.out (ownsRow_ne OX.out G2.out (by decide)))
    replace L6 := Lib.hid (grown_blk hg L6.out (ownsRow_ne OX.out L6.out (by decide)))
    replace G8 := Lib.hid (grown_blk hg G8.out (ownsRow_ne OX.out G8.out (by decide)))
    replace L10 := Lib.hid (grown_blk hg L10.out (ownsRow_ne OX.out L10.out (by decide)))
    replace P1 := Lib.hid (P1.out.keep fun k hk1 hk2 => hg.block k hk2 fun e => by have := Option.some.inj (show some k = some bx from e); omega)
    replace Rq := Lib.hid (show FRow w13 bq 105 L from grown_blk hg Rq.out (ownsRow_ne OX.out Rq.out (by decide)))
    clear hg OX Rx
    have G20 := gbox0 G2.out
    have G21 := gbox1 G2.out
    have G2t := lt_of_block G2.out
    have L60 := LpO.boxc0 L6.out
    have L61 := LpO.boxc1 L6.out
    have L62 := LpO.boxc2 L6.out
    have L6t := lt_of_block L6.out
    have G80 := gbox0 G8.out
    have G81 := gbox1 G8.out
    have G8t := lt_of_block G8.out
    have L100 := LpO.boxc0 L10.out
    have L101 := LpO.boxc1 L10.out
    have L102 := LpO.boxc2 L10.out
    have L10t := lt_of_block L10.out
    go_wp2_with fail
    clear G20 G21 G2t L60 L61 L62 L6t G80 G81 G8t L100 L101 L102 L10t
    have hcs : (fixCells L).size = fn * 3 := by unfold fixCells; rw [List.size_toArray, fixC_len, hll]
    refine (l_markFixedS Rq.out hcs (Nat.le_refl _) (by omega) (1 + (n : Int)) (by omega) (by omega)).mono ?_
    rintro e w14 ⟨rfl, hg⟩
    replace X4 := Lib.hid (show Ext (w4.alloc (.cells #[.slice a4 na4 ca4, .slice b4 nb4 cb4, .slice c4 nc4 cc4] 81)) w14 from X4.out.grown hg fun k e => by have := Option.some.inj (show some bq = some k from e); rw [hE4]; omega)
    replace X := Lib.hid (show Ext w w14 from X.out.grown hg fun k e => by have := Option.some.inj (show some bq = some k from e); have := hw4.out; omega)
    replace G2 := Lib.hid (grown_blk hg G2.out (fun e => blk_ne G2.out Rq.out (by decide) (Option.some.inj e)))
    replace L6 := Lib.hid (grown_blk hg L6.out (fun e => blk_ne L6.out Rq.out (by decide) (Option.some.inj e)))
    replace G8 := Lib.hid (grown_blk hg G8.out (fun e => blk_ne G8.out Rq.out (by decide) (Option.some.inj e)))
    replace L10 := Lib.hid (grown_blk hg L10.out (fun e => blk_ne L10.out Rq.out (by decide) (Option.some.inj e)))
    replace P1 := Lib.hid (P1.out.keep fun k hk1 hk2 => hg.block k hk2 fun e => by have := Option.some.inj (show some k = some bq from e); omega)
    clear hg Rq hcs
    have hneg : ¬ (1 + (n : Int) + 3 * (fn : Int) < 0) := by omega
    have G20 := gbox0 G2.out
    have G21 := gbox1 G2.out
    have G2t := lt_of_block G2.out
    have L60 := LpO.boxc0 L6.out
    have L61 := LpO.boxc1 L6.out
    have L62 := LpO.boxc2 L6.out
    have L6t := lt_of_block L6.out
    have G80 := gbox0 G8.out
    have G81 := gbox1 G8.out
    have G8t := lt_of_block G8.out
    have L100 := LpO.boxc0 L10.out
    have L101 := LpO.boxc1 L10.out
    have L102 := LpO.boxc2 L10.out
    have L10t := lt_of_block L10.out
    go_wp2_with fail
    clear G20 G21 G2t L60 L61 L62 L6t G80 G81 G8t L100 L101 L102 L10t
    refine (l_eqLP P1.out.lpI (P0.out.ext X4.out).lpI).mono ?_
    rintro e w15 ⟨rfl, hx⟩
    replace X := Lib.hid (X.out.trans hx)
    replace X4 := Lib.hid (X4.out.trans hx)
    replace G2 := Lib.hid (Ext.blk hx G2.out)
    replace L6 := Lib.hid (Ext.blk hx L6.out)
    replace G8 := Lib.hid (Ext.blk hx G8.out)
    replace L10 := Lib.hid (Ext.blk hx L10.out)
    replace P1 := Lib.hid (P1.out.ext hx)
    clear hx
    have G20 := gbox0 G2.out
    have G21 := gbox1 G2.out
    have G2t := lt_of_block G2.out
    have L60 := LpO.boxc0 L6.out
    have L61 := LpO.boxc1 L6.out
    have L62 := LpO.boxc2 L6.out
    have L6t := lt_of_block L6.out
    have G80 := gbox0 G8.out
    have G81 := gbox1 G8.out
    have G8t := lt_of_block G8.out
    have L100 := LpO.boxc0 L10.out
    have L101 := LpO.boxc1 L10.out
    have L102 := LpO.boxc2 L10.out
    have L10t := lt_of_block L10.out
    go_wp2_with fail
    clear G20 G21 G2t L60 L61 L62 L6t G80 G81 G8t L100 L101 L102 L10t
    -- the answer is marked
    refine (l_markLP P1.out 1 (by omega) (by rw [← HZ.out]; have := HSM.out.1; omega) (by have := lt_of_block L10.out; omega)).mono ?_
    rw [← HZ.out]
    rintro e w16 ⟨rfl, hI, hbl, hfr⟩
    replace X4 := Lib.hid (show Ext (w4.alloc (.cells #[.slice a4 na4 ca4, .slice b4 nb4 cb4, .slice c4 nc4 cc4] 81)) w16 from Below.trans X4.out (Below.mono hbl (by rw [hE4]; exact h46)))
    replace X := Lib.hid (show Ext w w16 from Below.trans X.out (Below.mono hbl (by have := hw4.out; omega)))
    replace G2 := Lib.hid ((hbl.block _ (show w.heap.size < w6.heap.size by have := hw4.out; omega)).trans G2.out)
    replace L6 := Lib.hid ((hbl.block _ (show w4.heap.size < w6.heap.size by have := hw4.out; omega)).trans L6.out)
    replace G8 := Lib.hid ((hbl.block _ (show w5.heap.size < w6.heap.size by have := hw4.out; omega)).trans G8.out)
    replace L10 := Lib.hid ((hfr _ (lt_of_block L10.out) (HBL.out _ (Nat.le_refl _)).1 (HBL.out _ (Nat.le_refl _)).2.1 (HBL.out _ (Nat.le_refl _)).2.2).trans L10.out)
    have I1 := Lib.hid hI
    clear hI hbl hfr P1 HBL
    obtain ⟨M, hM⟩ : ∃ M, M = 1 + z + (nb7 : Int) + 2 * (nc7 : Int) := ⟨_, rfl⟩
    have HM := Lib.hid hM
    have hM0 : ¬ (M < 0) := by have := HSM.out; omega
    have hMM : (M != M) = false := by simp
    rw [← hM]
    clear hM
    have G20 := gbox0 G2.out
    have G21 := gbox1 G2.out
    have G2t := lt_of_block G2.out
    have L60 := LpO.boxc0 L6.out
    have L61 := LpO.boxc1 L6.out
    have L62 := LpO.boxc2 L6.out
    have L6t := lt_of_block L6.out
    have G80 := gbox0 G8.out
    have G81 := gbox1 G8.out
    have G8t := lt_of_block G8.out
    have L100 := LpO.boxc0 L10.out
    have L101 := LpO.boxc1 L10.out
    have L102 := LpO.boxc2 L10.out
    have L10t := lt_of_block L10.out
    go_wp2_with fail
    clear G20 G21 G2t L60 L61 L62 L6t G80 G81 G8t L100 L101 L102 L10t
    have HH := Lib.hid (l_heldLP (A := stAx x V L) (nb := nb7) (nc := nc7) 1 (by have h := I1.out; rw [HZ.out] at h; exact h) (by omega) (by rw [← HZ.out]; have := HSM.out.1; omega))
    rw [← HZ.out, ← HM.out] at HH
    refine HH.out.mono ?_
    rintro e w17 ⟨rfl, hx⟩
    clear HH
    replace X := Lib.hid (X.out.trans hx)
    replace X4 := Lib.hid (X4.out.trans hx)
    replace G2 := Lib.hid (Ext.blk hx G2.out)
    replace L6 := Lib.hid (Ext.blk hx L6.out)
    replace G8 := Lib.hid (Ext.blk hx G8.out)
    replace L10 := Lib.hid (Ext.blk hx L10.out)
    replace I1 := Lib.hid (I1.out.ext hx)
    clear hx
    have G20 := gbox0 G2.out
    have G21 := gbox1 G2.out
    have G2t := lt_of_block G2.out
    have L60 := LpO.boxc0 L6.out
    have L61 := LpO.boxc1 L6.out
    have L62 := LpO.boxc2 L6.out
    have L6t := lt_of_block L6.out
    have G80 := gbox0 G8.out
    have G81 := gbox1 G8.out
    have G8t := lt_of_block G8.out
    have L100 := LpO.boxc0 L10.out
    have L101 := LpO.boxc1 L10.out
    have L102 := LpO.boxc2 L10.out
    have L10t := lt_of_block L10.out
    go_wp2_with fail
    clear G20 G21 G2t L60 L61 L62 L6t G80 G81 G8t L100 L101 L102 L10t
    -- once more
    refine (l_toGame (HA.out.ext X.out) (by omega)).mono ?_
    rintro e w18 ⟨bv, rfl, hrow, hbv, hx⟩
    replace X := Lib.hid (X.out.trans hx)
    replace X4 := Lib.hid (X4.out.trans hx)
    replace G2 := Lib.hid (Ext.blk hx G2.out)
    replace L6 := Lib.hid (Ext.blk hx L6.out)
    replace G8 := Lib.hid (Ext.blk hx G8.out)
    replace L10 := Lib.hid (Ext.blk hx L10.out)
    replace I1 := Lib.hid (I1.out.ext hx)
    clear hx
    have Rv := Lib.hid hrow
    clear hrow
    have G20 := gbox0 G2.out
    have G21 := gbox1 G2.out
    have G2t := lt_of_block G2.out
    have L60 := LpO.boxc0 L6.out
    have L61 := LpO.boxc1 L6.out
    have L62 := LpO.boxc2 L6.out
    have L6t := lt_of_block L6.out
    have G80 := gbox0 G8.out
    have G81 := gbox1 G8.out
    have G8t := lt_of_block G8.out
    have L100 := LpO.boxc0 L10.out
    have L101 := LpO.boxc1 L10.out
    have L102 := LpO.boxc2 L10.out
    have L10t := lt_of_block L10.out
    go_wp2_with fail
    clear G20 G21 G2t L60 L61 L62 L6t G80 G81 G8t L100 L101 L102 L10t
    refine (l_toFixedS (HF.out.ext X.out) (by omega)).mono ?_
    rintro e w19 ⟨br, rfl, hrow, hbr, hx⟩
    replace X := Lib.hid (X.out.trans hx)
    replace X4 := Lib.hid (X4.out.trans hx)
    replace G2 := Lib.hid (Ext.blk hx G2.out)
    replace L6 := Lib.hid (Ext.blk hx L6.out)
    replace G8 := Lib.hid (Ext.blk hx G8.out)
    replace L10 := Lib.hid (Ext.blk hx L10.out)
    replace I1 := Lib.hid (I1.out.ext hx)
    replace Rv := Lib.hid (Rv.out.ext hx)
    clear hx
    have Rr := Lib.hid hrow
    clear hrow
    have G20 := gbox0 G2.out
    have G21 := gbox1 G2.out
    have G2t := lt_of_block G2.out
    have L60 := LpO.boxc0 L6.out
    have L61 := LpO.boxc1 L6.out
    have L62 := LpO.boxc2 L6.out
    have L6t := lt_of_block L6.out
    have G80 := gbox0 G8.out
    have G81 := gbox1 G8.out
    have G8t := lt_of_block G8.out
    have L100 := LpO.boxc0 L10.out
    have L101 := LpO.boxc1 L10.out
    have L102 := LpO.boxc2 L10.out
    have L10t := lt_of_block L10.out
    go_wp2_with fail
    clear G20 G21 G2t L60 L61 L62 L6t G80 G81 G8t L100 L101 L102 L10t
    have HC := Lib.hid (i_StageLP (p := x) (Rv.out.ints hvl (Nat.le_refl _) (by omega)) (Rr.out.fixs hll (Nat.le_refl _) (by omega)) (by omega))
    rw [← HOK.out] at HC
    refine HC.out.mono ?_
    rintro e w20 ⟨hret, hx⟩
    obtain ⟨a20, na20, ca20, b20, nb20, cb20, c20, nc20, cc20, vs20, rfl, hp20⟩ := hret.var
    have hs20 := hx.size
    clear hret HC
    replace X := Lib.hid (X.out.trans hx)
    replace X4 := Lib.hid (X4.out.trans hx)
    replace G2 := Lib.hid (Ext.blk hx G2.out)
    replace L6 := Lib.hid (Ext.blk hx L6.out)
    replace G8 := Lib.hid (Ext.blk hx G8.out)
    replace L10 := Lib.hid (Ext.blk hx L10.out)
    replace I1 := Lib.hid (I1.out.ext hx)
    replace Rv := Lib.hid (Rv.out.ext hx)
    replace Rr := Lib.hid (Rr.out.ext hx)
    clear hx
    clear Rv Rr
    have P2 := Lib.hid hp20
    clear hp20
    have G20 := gbox0 G2.out
    have G21 := gbox1 G2.out
    have G2t := lt_of_block G2.out
    have L60 := LpO.boxc0 L6.out
    have L61 := LpO.boxc1 L6.out
    have L62 := LpO.boxc2 L6.out
    have L6t := lt_of_block L6.out
    have G80 := gbox0 G8.out
    have G81 := gbox1 G8.out
    have G8t := lt_of_block G8.out
    have L100 := LpO.boxc0 L10.out
    have L101 := LpO.boxc1 L10.out
    have L102 := LpO.boxc2 L10.out
    have L10t := lt_of_block L10.out
    go_wp2_with fail
    clear G20 G21 G2t L60 L61 L62 L6t G80 G81 G8t L100 L101 L102 L10t
    have hx := Ext.alloc w20 (.cells #[.slice a20 na20 ca20, .slice b20 nb20 cb20, .slice c20 nc20 cc20] 81)
    have hnew := heapA_new w20 (.cells #[.slice a20 na20 ca20, .slice b20 nb20 cb20, .slice c20 nc20 cc20] 81) _ rfl
    replace X := Lib.hid (X.out.trans hx)
    replace X4 := Lib.hid (X4.out.trans hx)
    replace G2 := Lib.hid (Ext.blk hx G2.out)
    replace L6 := Lib.hid (Ext.blk hx L6.out)
    replace G8 := Lib.hid (Ext.blk hx G8.out)
    replace L10 := Lib.hid (Ext.blk hx L10.out)
    replace I1 := Lib.hid (I1.out.ext hx)
    replace P2 := Lib.hid (P2.out.ext hx)
    clear hx
    have L15 := Lib.hid hnew
    clear hnew
    refine (l_eqLP P2.out.lpI (P0.out.ext X4.out).lpI).mono ?_
    rintro e w21 ⟨rfl, hx⟩
    replace X := Lib.hid (X.out.trans hx)
    replace X4 := Lib.hid (X4.out.trans hx)
    replace G2 := Lib.hid (Ext.blk hx G2.out)
    replace L6 := Lib.hid (Ext.blk hx L6.out)
    replace G8 := Lib.hid (Ext.blk hx G8.out)
    replace L10 := Lib.hid (Ext.blk hx L10.out)
    replace L15 := Lib.hid (Ext.blk hx L15.out)
    replace I1 := Lib.hid (I1.out.ext hx)
    replace P2 := Lib.hid (P2.out.ext hx)
    clear hx
    clear P2
    have G20 := gbox0 G2.out
    have G21 := gbox1 G2.out
    have G2t := lt_of_block G2.out
    have L60 := LpO.boxc0 L6.out
    have L61 := LpO.boxc1 L6.out
    have L62 := LpO.boxc2 L6.out
    have L6t := lt_of_block L6.out
    have G80 := gbox0 G8.out
    have G81 := gbox1 G8.out
    have G8t := lt_of_block G8.out
    have L100 := LpO.boxc0 L10.out
    have L101 := LpO.boxc1 L10.out
    have L102 := LpO.boxc2 L10.out
    have L10t := lt_of_block L10.out
    have L150 := LpO.boxc0 L15.out
    have L151 := LpO.boxc1 L15.out
    have L152 := LpO.boxc2 L15.out
    have L15t := lt_of_block L15.out
    go_wp2_with fail
    clear G20 G21 G2t L60 L61 L62 L6t G80 G81 G8t L100 L101 L102 L10t L150 L151 L152 L15t
    have HH := Lib.hid (l_heldLP (A := stAx x V L) (nb := nb7) (nc := nc7) 1 (by have h := I1.out; rw [HZ.out] at h; exact h) (by omega) (by rw [← HZ.out]; have := HSM.out.1; omega))
    rw [← HZ.out, ← HM.out] at HH
    refine HH.out.mono ?_
    rintro e w22 ⟨rfl, hx⟩
    clear HH
    replace X := Lib.hid (X.out.trans hx)
    replace X4 := Lib.hid (X4.out.trans hx)
    replace G2 := Lib.hid (Ext.blk hx G2.out)
    replace L6 := Lib.hid (Ext.blk hx L6.out)
    replace G8 := Lib.hid (Ext.blk hx G8.out)
    replace L10 := Lib.hid (Ext.blk hx L10.out)
    replace L15 := Lib.hid (Ext.blk hx L15.out)
    replace I1 := Lib.hid (I1.out.ext hx)
    clear hx
    have G20 := gbox0 G2.out
    have G21 := gbox1 G2.out
    have G2t := lt_of_block G2.out
    have L60 := LpO.boxc0 L6.out
    have L61 := LpO.boxc1 L6.out
    have L62 := LpO.boxc2 L6.out
    have L6t := lt_of_block L6.out
    have G80 := gbox0 G8.out
    have G81 := gbox1 G8.out
    have G8t := lt_of_block G8.out
    have L100 := LpO.boxc0 L10.out
    have L101 := LpO.boxc1 L10.out
    have L102 := LpO.boxc2 L10.out
    have L10t := lt_of_block L10.out
    have L150 := LpO.boxc0 L15.out
    have L151 := LpO.boxc1 L15.out
    have L152 := LpO.boxc2 L15.out
    have L15t := lt_of_block L15.out
    go_wp2_with fail
    go_ret
    exact ⟨rfl, X.out⟩

end Go.Proofs.Ytokpmflhgehicaa
