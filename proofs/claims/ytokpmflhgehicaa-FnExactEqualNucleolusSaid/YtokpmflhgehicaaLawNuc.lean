/- FnExactEqualNucleolus answers true, whatever the results: the walk. -/
import Derived.Test.YtokpmflhgehicaaNuc
namespace Go.Proofs.Ytokpmflhgehicaa
set_option linter.unusedVariables false
open Go.RowKit

theorem szF_nn (left : Int) (n m : Nat) (h0 : 0 ≤ left) (h1 : left ≤ 1048576) : -1 ≤ szF (szF left n) m ∧ szF (szF left n) m ≤ 1048576 ∧ (0 ≤ szF (szF left n) m → n ≤ 1048576 ∧ m ≤ 1048576) := by
  unfold szF; split <;> split <;> omega
theorem eqN (o : Bool) (x : Int) (l : List (Int × Int)) (r : List (Int × Int × Int)) : (decide (o = o) && (decide (l = l) && (decide (r = r) && decide (x = x)))) = true := by simp

set_option maxHeartbeats 4000000 in
theorem l_FnExactEqualNucleolus {w : World} {o o' : Bool} {x x' : Int} {a a' : Option Addr} {n n' cap cap' : Nat} {l l' : List (Int × Int)} {v v' : Option Addr} {m m' dap dap' : Nat} {r r' : List (Int × Int × Int)} (h : Rats w a n cap l) (hr : Fixs w v m dap r) (h' : Rats w a' n' cap' l') (hr' : Fixs w v' m' dap' r') :
    Calls Try.prog 3 #[nuc o a n cap v m dap x, nuc o' a' n' cap' v' m' dap' x'] w fun e w' => e = .returned (.bool true) ∧ Ext w w' := by
  have hm : n ≤ 9223372036854775807 := Nat.le_trans h.hcap h.hmax
  have hm' : n' ≤ 9223372036854775807 := Nat.le_trans h'.hcap h'.hmax
  have km : m ≤ 9223372036854775807 := Nat.le_trans hr.hcap hr.hmax
  have km' : m' ≤ 9223372036854775807 := Nat.le_trans hr'.hcap hr'.hmax
  have hz0 := szF_le 1048576 n (by omega) (by omega)
  have hzz := szF_nn 1048576 n m (by omega) (by omega)
  have hx0 : Ext w ((w.alloc (.cells #[.bool o, .slice a n cap, .slice v m dap, .int .i64 x] 25)).alloc (.cells #[.bool o', .slice a' n' cap', .slice v' m' dap', .int .i64 x'] 25)) := (Ext.alloc _ _).trans (Ext.alloc _ _)
  have HX := Lib.hid hx0
  have HA := Lib.hid (h.ext hx0)
  have HB := Lib.hid (h'.ext hx0)
  have QA := Lib.hid (hr.ext hx0)
  have QB := Lib.hid (hr'.ext hx0)
  have QL := Lib.hid hr.hlen
  have QL' := Lib.hid hr'.hlen
  have HL := Lib.hid h.hlen
  have HL' := Lib.hid h'.hlen
  clear hx0 h h' hr hr'
  by_cases hlt : szF (szF 1048576 n) m < 0
  · go_enter Try.func3, Try.ntmps3
    go_wp2_with fail
    refine (l_szNuc _ _ _ _ _ _ _ _ _ _ (by omega) (by omega) hm km).mono ?_
    rintro e w1 ⟨rfl, hx⟩
    have HX1 := Lib.hid (HX.out.trans hx)
    clear hx
    go_wp2
    go_ret
    exact ⟨rfl, HX1.out⟩
  have hb : n ≤ 1048576 ∧ m ≤ 1048576 := hzz.2.2 (by omega)
  obtain ⟨hb, kb⟩ := hb
  obtain ⟨left, hleft⟩ : ∃ left, left = szF (szF 1048576 n) m := ⟨_, rfl⟩
  rw [← hleft] at hlt hzz
  have HLEFT := Lib.hid hleft
  clear hleft
  have hzz' := szF_nn left n' m' (by omega) (by omega)
  by_cases hlt' : szF (szF left n') m' < 0
  · go_enter Try.func3, Try.ntmps3
    go_wp2_with fail
    refine (l_szNuc _ _ _ _ _ _ _ _ _ _ (by omega) (by omega) hm km).mono ?_
    rw [← HLEFT.out]
    rintro e w1 ⟨rfl, hx⟩
    have d0 : w1.cell? ⟨w.heap.size + 1, 0, none⟩ = some (.bool o') := hx.cellSome (by simp)
    have d3 : w1.cell? ⟨w.heap.size + 1, 3, none⟩ = some (.int .i64 x') := hx.cellSome (by simp)
    have d1 : w1.cell? ⟨w.heap.size + 1, 1, none⟩ = some (.slice a' n' cap') := hx.cellSome (by simp)
    have d2 : w1.cell? ⟨w.heap.size + 1, 2, none⟩ = some (.slice v' m' dap') := hx.cellSome (by simp)
    have HX1 := Lib.hid (HX.out.trans hx)
    clear hx
    go_wp2_with fail
    refine (l_szNuc _ _ _ _ _ _ _ _ _ _ (by omega) (by omega) hm' km').mono ?_
    rintro e w2 ⟨rfl, hx⟩
    have HX2 := Lib.hid (HX1.out.trans hx)
    clear hx
    go_wp2
    go_ret
    exact ⟨rfl, HX2.out⟩
  have hb' : n' ≤ 1048576 ∧ m' ≤ 1048576 := hzz'.2.2 (by omega)
  obtain ⟨hb', kb'⟩ := hb'
  go_enter Try.func3, Try.ntmps3
  go_wp2_with fail
  refine (l_szNuc _ _ _ _ _ _ _ _ _ _ (by omega) (by omega) hm km).mono ?_
  rw [← HLEFT.out]
  rintro e w1 ⟨rfl, hx⟩
  have d0 : w1.cell? ⟨w.heap.size + 1, 0, none⟩ = some (.bool o') := hx.cellSome (by simp)
  have d3 : w1.cell? ⟨w.heap.size + 1, 3, none⟩ = some (.int .i64 x') := hx.cellSome (by simp)
  have d1 : w1.cell? ⟨w.heap.size + 1, 1, none⟩ = some (.slice a' n' cap') := hx.cellSome (by simp)
  have d2 : w1.cell? ⟨w.heap.size + 1, 2, none⟩ = some (.slice v' m' dap') := hx.cellSome (by simp)
  have X1 := Lib.hid hx
  clear hx
  go_wp2_with fail
  refine (l_szNuc _ _ _ _ _ _ _ _ _ _ (by omega) (by omega) hm' km').mono ?_
  rintro e w2 ⟨rfl, hx⟩
  have X2 := Lib.hid (X1.out.trans hx)
  have c0 : w2.cell? ⟨w.heap.size, 0, none⟩ = some (.bool o) := X2.out.cellSome (by simp)
  have c3 : w2.cell? ⟨w.heap.size, 3, none⟩ = some (.int .i64 x) := X2.out.cellSome (by simp)
  have c1 : w2.cell? ⟨w.heap.size, 1, none⟩ = some (.slice a n cap) := X2.out.cellSome (by simp)
  have c2 : w2.cell? ⟨w.heap.size, 2, none⟩ = some (.slice v m dap) := X2.out.cellSome (by simp)
  replace d0 := hx.cellSome d0
  replace d3 := hx.cellSome d3
  replace d1 := hx.cellSome d1
  replace d2 := hx.cellSome d2
  clear hx hzz hzz' hz0
  -- the reference's answer
  go_wp2_with fail
  have hk : Ext w2 w2.drew := Ext.drew w2
  have HA2 := Lib.hid ((HA.out.ext X2.out).ext hk)
  have HB2 := Lib.hid ((HB.out.ext X2.out).ext hk)
  have QA2 := Lib.hid ((QA.out.ext X2.out).ext hk)
  have QB2 := Lib.hid ((QB.out.ext X2.out).ext hk)
  go_region_held3 (fun w' => w'.cell? ⟨w.heap.size, 0, none⟩ = some (.bool o) ∧ w'.cell? ⟨w.heap.size, 3, none⟩ = some (.int .i64 x) ∧ w'.cell? ⟨w.heap.size, 1, none⟩ = some (.slice a n cap) ∧ w'.cell? ⟨w.heap.size, 2, none⟩ = some (.slice v m dap) ∧ w'.cell? ⟨w.heap.size + 1, 0, none⟩ = some (.bool o') ∧ w'.cell? ⟨w.heap.size + 1, 3, none⟩ = some (.int .i64 x') ∧ w'.cell? ⟨w.heap.size + 1, 1, none⟩ = some (.slice a' n' cap') ∧ w'.cell? ⟨w.heap.size + 1, 2, none⟩ = some (.slice v' m' dap') ∧ Ext w2 w')
    (exact ⟨hk.cellSome c0, hk.cellSome c3, hk.cellSome c1, hk.cellSome c2, hk.cellSome d0, hk.cellSome d3, hk.cellSome d1, hk.cellSome d2, hk⟩)
    (first
      | (go_at_call_of 16 (Value.slice a n cap); refine (l_toNuc HA2.out QA2.out (by omega) (by omega)).mono ?_; rintro e w3 ⟨b1, k1, rfl, hrow1, hrr1, _, _, hx3⟩; have hk := hk.trans hx3; have R1 := Lib.hid (hrow1.rats HL.out (Nat.le_refl _) hm); have S1 := Lib.hid (hrr1.fixs QL.out (Nat.le_refl _) km))
      | (go_at_call_of 16 (Value.slice a' n' cap'); refine (l_toNuc (HB2.out.ext hx3) (QB2.out.ext hx3) (by omega) (by omega)).mono ?_; rintro e w4 ⟨b2, k2, rfl, hrow2, hrr2, _, _, hx4⟩; have hk := hk.trans hx4; have R1 := Lib.hid (R1.out.ext hx4); have S1 := Lib.hid (S1.out.ext hx4); have R2 := Lib.hid (hrow2.rats HL'.out (Nat.le_refl _) hm'); have S2 := Lib.hid (hrr2.fixs QL'.out (Nat.le_refl _) km'))
      | (go_at_call 15; refine (s_EqualNucleolus R1.out S1.out R2.out S2.out).mono ?_; rintro e w5 ⟨rfl, hx5⟩; have hk := hk.trans hx5))
  replace c0 := hk.cellSome c0
  replace c3 := hk.cellSome c3
  replace c1 := hk.cellSome c1
  replace c2 := hk.cellSome c2
  replace d0 := hk.cellSome d0
  replace d3 := hk.cellSome d3
  replace d1 := hk.cellSome d1
  replace d2 := hk.cellSome d2
  have X5 := Lib.hid (X2.out.trans hk)
  clear hk HA2 HB2 QA2 QB2 R1 R2 S1 S2
  -- the program's answer
  go_wp2_with fail
  refine (l_toNuc (HA.out.ext X5.out) (QA.out.ext X5.out) (by omega) (by omega)).mono ?_
  rintro e w6 ⟨b3, k3, rfl, hrow, hrr, hbb, _, hx⟩
  replace c0 := hx.cellSome c0
  replace c3 := hx.cellSome c3
  replace c1 := hx.cellSome c1
  replace c2 := hx.cellSome c2
  replace d0 := hx.cellSome d0
  replace d3 := hx.cellSome d3
  replace d1 := hx.cellSome d1
  replace d2 := hx.cellSome d2
  have hlt6 : w.heap.size + 1 < w6.heap.size := World.block_lt_of_cell? _ _ d0
  have hlt60 : w.heap.size < w6.heap.size := by omega
  have hxb := Ext.alloc w6 (.cells #[.bool o, .slice (some ⟨b3, 0, none⟩) n n, .slice (some ⟨k3, 0, none⟩) m m, .int .i64 x] 31)
  have Hc0 := Lib.hid (hxb.cellSome c0)
  have Hc3 := Lib.hid (hxb.cellSome c3)
  have Hc1 := Lib.hid (hxb.cellSome c1)
  have Hc2 := Lib.hid (hxb.cellSome c2)
  have Hd0 := Lib.hid (hxb.cellSome d0)
  have Hd3 := Lib.hid (hxb.cellSome d3)
  have Hd1 := Lib.hid (hxb.cellSome d1)
  have Hd2 := Lib.hid (hxb.cellSome d2)
  have X6 := Lib.hid ((X5.out.trans hx).trans hxb)
  have R3 := Lib.hid ((hrow.rats HL.out (Nat.le_refl _) hm).ext hxb)
  have S3 := Lib.hid ((hrr.fixs QL.out (Nat.le_refl _) km).ext hxb)
  clear hx hrow hrr hbb hxb
  go_wp2_with fail
  refine (l_toNuc (HB.out.ext X6.out) (QB.out.ext X6.out) (by omega) (by omega)).mono ?_
  rintro e w7 ⟨b4, k4, rfl, hrow, hrr, hbb, _, hx⟩
  clear c0 c1 c2 c3 d0 d1 d2 d3
  have c0 := hx.cellSome Hc0.out
  have c3 := hx.cellSome Hc3.out
  have c1 := hx.cellSome Hc1.out
  have c2 := hx.cellSome Hc2.out
  have d0 := hx.cellSome Hd0.out
  have d3 := hx.cellSome Hd3.out
  have d1 := hx.cellSome Hd1.out
  have d2 := hx.cellSome Hd2.out
  have e0 : w7.cell? ⟨w6.heap.size, 0, none⟩ = some (.bool o) := hx.cellSome (by simp)
  have e3 : w7.cell? ⟨w6.heap.size, 3, none⟩ = some (.int .i64 x) := hx.cellSome (by simp)
  have e1 : w7.cell? ⟨w6.heap.size, 1, none⟩ = some (.slice (some ⟨b3, 0, none⟩) n n) := hx.cellSome (by simp)
  have e2 : w7.cell? ⟨w6.heap.size, 2, none⟩ = some (.slice (some ⟨k3, 0, none⟩) m m) := hx.cellSome (by simp)
  have hlt7 : w.heap.size + 1 < w7.heap.size := World.block_lt_of_cell? _ _ d0
  have hlt70 : w.heap.size < w7.heap.size := by omega
  have hlt76 : w6.heap.size < w7.heap.size := World.block_lt_of_cell? _ _ e0
  have hxb := Ext.alloc w7 (.cells #[.bool o', .slice (some ⟨b4, 0, none⟩) n' n', .slice (some ⟨k4, 0, none⟩) m' m', .int .i64 x'] 31)
  have X7 := Lib.hid ((X6.out.trans hx).trans hxb)
  have R4 := Lib.hid ((R3.out.ext hx).ext hxb)
  have R5 := Lib.hid ((hrow.rats HL'.out (Nat.le_refl _) hm').ext hxb)
  have S4 := Lib.hid ((S3.out.ext hx).ext hxb)
  have S5 := Lib.hid ((hrr.fixs QL'.out (Nat.le_refl _) km').ext hxb)
  have Jc0 := Lib.hid (hxb.cellSome c0)
  have Jc3 := Lib.hid (hxb.cellSome c3)
  have Jc1 := Lib.hid (hxb.cellSome c1)
  have Jc2 := Lib.hid (hxb.cellSome c2)
  have Jd0 := Lib.hid (hxb.cellSome d0)
  have Jd3 := Lib.hid (hxb.cellSome d3)
  have Jd1 := Lib.hid (hxb.cellSome d1)
  have Jd2 := Lib.hid (hxb.cellSome d2)
  have Je0 := Lib.hid (hxb.cellSome e0)
  have Je3 := Lib.hid (hxb.cellSome e3)
  have Je1 := Lib.hid (hxb.cellSome e1)
  have Je2 := Lib.hid (hxb.cellSome e2)
  clear hx hrow hrr hbb hxb Hc0 Hc1 Hc2 Hc3 Hd0 Hd1 Hd2 Hd3
  go_wp2_with fail
  refine (i_EqualNucleolus R4.out S4.out R5.out S5.out).mono ?_
  rintro e w8 ⟨rfl, hx⟩
  clear c0 c1 c2 c3 d0 d1 d2 d3 e0 e1 e2 e3
  have c0 := hx.cellSome Jc0.out
  have c3 := hx.cellSome Jc3.out
  have c1 := hx.cellSome Jc1.out
  have c2 := hx.cellSome Jc2.out
  have d0 := hx.cellSome Jd0.out
  have d3 := hx.cellSome Jd3.out
  have d1 := hx.cellSome Jd1.out
  have d2 := hx.cellSome Jd2.out
  have e0 := hx.cellSome Je0.out
  have e3 := hx.cellSome Je3.out
  have e1 := hx.cellSome Je1.out
  have e2 := hx.cellSome Je2.out
  have g0 : w8.cell? ⟨w7.heap.size, 0, none⟩ = some (.bool o') := hx.cellSome (by simp)
  have g3 : w8.cell? ⟨w7.heap.size, 3, none⟩ = some (.int .i64 x') := hx.cellSome (by simp)
  have g1 : w8.cell? ⟨w7.heap.size, 1, none⟩ = some (.slice (some ⟨b4, 0, none⟩) n' n') := hx.cellSome (by simp)
  have g2 : w8.cell? ⟨w7.heap.size, 2, none⟩ = some (.slice (some ⟨k4, 0, none⟩) m' m') := hx.cellSome (by simp)
  have X8 := Lib.hid (X7.out.trans hx)
  have R6 := Lib.hid (R4.out.ext hx)
  have R7 := Lib.hid (R5.out.ext hx)
  have S6 := Lib.hid (S4.out.ext hx)
  have S7 := Lib.hid (S5.out.ext hx)
  clear hx
  -- the arguments are as before
  go_wp2_with fail
  have hk : Ext w8 w8.drew := Ext.drew w8
  have HA8 := Lib.hid ((HA.out.ext X8.out).ext hk)
  have R8 := Lib.hid (R6.out.ext hk)
  have QA8 := Lib.hid ((QA.out.ext X8.out).ext hk)
  have S8 := Lib.hid (S6.out.ext hk)
  go_region_held3 (fun w' => w'.cell? ⟨w.heap.size, 0, none⟩ = some (.bool o) ∧ w'.cell? ⟨w.heap.size, 3, none⟩ = some (.int .i64 x) ∧ w'.cell? ⟨w.heap.size, 1, none⟩ = some (.slice a n cap) ∧ w'.cell? ⟨w.heap.size, 2, none⟩ = some (.slice v m dap) ∧ w'.cell? ⟨w6.heap.size, 0, none⟩ = some (.bool o) ∧ w'.cell? ⟨w6.heap.size, 3, none⟩ = some (.int .i64 x) ∧ w'.cell? ⟨w6.heap.size, 1, none⟩ = some (.slice (some ⟨b3, 0, none⟩) n n) ∧ w'.cell? ⟨w6.heap.size, 2, none⟩ = some (.slice (some ⟨k3, 0, none⟩) m m) ∧ Ext w8 w')
    (exact ⟨hk.cellSome c0, hk.cellSome c3, hk.cellSome c1, hk.cellSome c2, hk.cellSome e0, hk.cellSome e3, hk.cellSome e1, hk.cellSome e2, hk⟩)
    (first
      | (go_at_call 16; refine (l_toNuc HA8.out QA8.out (by omega) (by omega)).mono ?_; rintro e w9 ⟨b5, k5, rfl, hrow, hrr, _, _, hx6⟩; have hk := hk.trans hx6)
      | (go_at_call 18; refine (l_eqNuc (R8.out.ext hx6) (S8.out.ext hx6) (hrow.rats HL.out (Nat.le_refl _) hm) (hrr.fixs QL.out (Nat.le_refl _) km)).mono ?_; unfold sameN; rw [eqN]; rintro e w10 ⟨rfl, hx7⟩; have hk := hk.trans hx7))
  replace d0 := hk.cellSome d0
  replace d3 := hk.cellSome d3
  replace d1 := hk.cellSome d1
  replace d2 := hk.cellSome d2
  replace g0 := hk.cellSome g0
  replace g3 := hk.cellSome g3
  replace g1 := hk.cellSome g1
  replace g2 := hk.cellSome g2
  have X9 := Lib.hid (X8.out.trans hk)
  have R9 := Lib.hid (R7.out.ext hk)
  have S9 := Lib.hid (S7.out.ext hk)
  clear hk HA8 QA8 R8 S8 c0 c1 c2 c3 e0 e1 e2 e3
  go_wp2_with fail
  have hk := Ext.drew w10
  have HB9 := Lib.hid ((HB.out.ext X9.out).ext hk)
  have R10 := Lib.hid (R9.out.ext hk)
  have QB9 := Lib.hid ((QB.out.ext X9.out).ext hk)
  have S10 := Lib.hid (S9.out.ext hk)
  go_region_held3 (fun w' => w'.cell? ⟨w.heap.size + 1, 0, none⟩ = some (.bool o') ∧ w'.cell? ⟨w.heap.size + 1, 3, none⟩ = some (.int .i64 x') ∧ w'.cell? ⟨w.heap.size + 1, 1, none⟩ = some (.slice a' n' cap') ∧ w'.cell? ⟨w.heap.size + 1, 2, none⟩ = some (.slice v' m' dap') ∧ w'.cell? ⟨w7.heap.size, 0, none⟩ = some (.bool o') ∧ w'.cell? ⟨w7.heap.size, 3, none⟩ = some (.int .i64 x') ∧ w'.cell? ⟨w7.heap.size, 1, none⟩ = some (.slice (some ⟨b4, 0, none⟩) n' n') ∧ w'.cell? ⟨w7.heap.size, 2, none⟩ = some (.slice (some ⟨k4, 0, none⟩) m' m') ∧ Ext w10 w')
    (exact ⟨hk.cellSome d0, hk.cellSome d3, hk.cellSome d1, hk.cellSome d2, hk.cellSome g0, hk.cellSome g3, hk.cellSome g1, hk.cellSome g2, hk⟩)
    (first
      | (go_at_call 16; refine (l_toNuc HB9.out QB9.out (by omega) (by omega)).mono ?_; rintro e w12 ⟨b6, k6, rfl, hrow', hrr', _, _, hx8⟩; have hk := hk.trans hx8)
      | (go_at_call 18; refine (l_eqNuc (R10.out.ext hx8) (S10.out.ext hx8) (hrow'.rats HL'.out (Nat.le_refl _) hm') (hrr'.fixs QL'.out (Nat.le_refl _) km')).mono ?_; unfold sameN; rw [eqN]; rintro e w13 ⟨rfl, hx9⟩; have hk := hk.trans hx9))
  go_wp2
  go_ret
  exact ⟨rfl, HX.out.trans (X9.out.trans hk)⟩

end Go.Proofs.Ytokpmflhgehicaa

