/- FnExactSameVoting answers true, whatever the votings: the walk. -/
import Derived.Test.YtekgbblpnfohfaaSame
namespace Go.Proofs.Ytekgbblpnfohfaa
set_option linter.unusedVariables false
open Go.RowKit

set_option maxHeartbeats 4000000 in
theorem l_FnExactSameVoting {w : World} {x x' : Int} {a a' : Option Addr} {n n' cap cap' : Nat} {l l' : List Int} (h : Ints w a n cap l) (h' : Ints w a' n' cap' l') :
    Calls Try.prog 7 #[pair x a n cap, pair x' a' n' cap'] w fun e w' => e = .returned (.bool true) ∧ Ext w w' := by
  have hm : n ≤ 9223372036854775807 := Nat.le_trans h.hcap h.hmax
  have hm' : n' ≤ 9223372036854775807 := Nat.le_trans h'.hcap h'.hmax
  have hz := szF_le 1048576 n (by omega) (by omega)
  have hx0 : Ext w ((w.alloc (.cells #[.int .i64 x, .slice a n cap] 57)).alloc (.cells #[.int .i64 x', .slice a' n' cap'] 57)) := (Ext.alloc _ _).trans (Ext.alloc _ _)
  have HX := Lib.hid hx0
  have HA := Lib.hid (h.ext hx0)
  have HB := Lib.hid (h'.ext hx0)
  have HL := Lib.hid h.hlen
  have HL' := Lib.hid h'.hlen
  clear hx0 h h'
  by_cases hlt : szF 1048576 n < 0
  · go_enter Try.func7, Try.ntmps7
    go_wp2_with fail
    refine (l_szVoting _ _ _ _ _ _ (by omega) (by omega) hm).mono ?_
    rintro e w1 ⟨rfl, hx⟩
    have HX1 := Lib.hid (HX.out.trans hx)
    clear hx
    go_wp2
    go_ret
    exact ⟨rfl, HX1.out⟩
  have hb : n ≤ 1048576 := by omega
  obtain ⟨left, hleft⟩ : ∃ left, left = szF 1048576 n := ⟨_, rfl⟩
  rw [← hleft] at hlt hz
  have HLEFT := Lib.hid hleft
  clear hleft
  have hz' := szF_le left n' (by omega) (by omega)
  by_cases hlt' : szF left n' < 0
  · go_enter Try.func7, Try.ntmps7
    go_wp2_with fail
    refine (l_szVoting _ _ _ _ _ _ (by omega) (by omega) hm).mono ?_
    rw [← HLEFT.out]
    rintro e w1 ⟨rfl, hx⟩
    have d0 : w1.cell? ⟨w.heap.size + 1, 0, none⟩ = some (.int .i64 x') := hx.cellSome (by simp)
    have d1 : w1.cell? ⟨w.heap.size + 1, 1, none⟩ = some (.slice a' n' cap') := hx.cellSome (by simp)
    have HX1 := Lib.hid (HX.out.trans hx)
    clear hx
    go_wp2_with fail
    refine (l_szVoting _ _ _ _ _ _ (by omega) (by omega) hm').mono ?_
    rintro e w2 ⟨rfl, hx⟩
    have HX2 := Lib.hid (HX1.out.trans hx)
    clear hx
    go_wp2
    go_ret
    exact ⟨rfl, HX2.out⟩
  have hb' : n' ≤ 1048576 := by omega
  go_enter Try.func7, Try.ntmps7
  go_wp2_with fail
  refine (l_szVoting _ _ _ _ _ _ (by omega) (by omega) hm).mono ?_
  rw [← HLEFT.out]
  rintro e w1 ⟨rfl, hx⟩
  have d0 : w1.cell? ⟨w.heap.size + 1, 0, none⟩ = some (.int .i64 x') := hx.cellSome (by simp)
  have d1 : w1.cell? ⟨w.heap.size + 1, 1, none⟩ = some (.slice a' n' cap') := hx.cellSome (by simp)
  have X1 := Lib.hid hx
  clear hx
  go_wp2_with fail
  refine (l_szVoting _ _ _ _ _ _ (by omega) (by omega) hm').mono ?_
  rintro e w2 ⟨rfl, hx⟩
  have X2 := Lib.hid (X1.out.trans hx)
  have c0 : w2.cell? ⟨w.heap.size, 0, none⟩ = some (.int .i64 x) := X2.out.cellSome (by simp)
  have c1 : w2.cell? ⟨w.heap.size, 1, none⟩ = some (.slice a n cap) := X2.out.cellSome (by simp)
  replace d0 := hx.cellSome d0
  replace d1 := hx.cellSome d1
  clear hx hz hz'
  -- the reference's answer
  go_wp2_with fail
  have hk : Ext w2 w2.drew := Ext.drew w2
  have HA2 := Lib.hid ((HA.out.ext X2.out).ext hk)
  have HB2 := Lib.hid ((HB.out.ext X2.out).ext hk)
  go_region_held3 (fun w' => w'.cell? ⟨w.heap.size, 0, none⟩ = some (.int .i64 x) ∧ w'.cell? ⟨w.heap.size, 1, none⟩ = some (.slice a n cap) ∧ w'.cell? ⟨w.heap.size + 1, 0, none⟩ = some (.int .i64 x') ∧ w'.cell? ⟨w.heap.size + 1, 1, none⟩ = some (.slice a' n' cap') ∧ Ext w2 w')
    (exact ⟨hk.cellSome c0, hk.cellSome c1, hk.cellSome d0, hk.cellSome d1, hk⟩)
    (first
      | (go_at_call_of 37 (Value.slice a n cap); refine (l_toVoting HA2.out (by omega)).mono ?_; rintro e w3 ⟨b1, rfl, hrow1, hbb1, hx3⟩; have hk := hk.trans hx3; have R1 := Lib.hid (hrow1.ints HL.out (Nat.le_refl _) hm))
      | (go_at_call_of 37 (Value.slice a' n' cap'); refine (l_toVoting (HB2.out.ext hx3) (by omega)).mono ?_; rintro e w4 ⟨b2, rfl, hrow2, hbb2, hx4⟩; have hk := hk.trans hx4; have R1 := Lib.hid (R1.out.ext hx4); have R2 := Lib.hid (hrow2.ints HL'.out (Nat.le_refl _) hm'))
      | (go_at_call 41; refine (s_SameVoting R1.out R2.out).mono ?_; rintro e w5 ⟨rfl, hx5⟩; have hk := hk.trans hx5))
  replace c0 := hk.cellSome c0
  replace c1 := hk.cellSome c1
  replace d0 := hk.cellSome d0
  replace d1 := hk.cellSome d1
  have X5 := Lib.hid (X2.out.trans hk)
  clear hk HA2 HB2 R1 R2
  -- the program's answer
  go_wp2_with fail
  refine (l_toVoting (HA.out.ext X5.out) (by omega)).mono ?_
  rintro e w6 ⟨b3, rfl, hrow, hbb, hx⟩
  replace c0 := hx.cellSome c0
  replace c1 := hx.cellSome c1
  replace d0 := hx.cellSome d0
  replace d1 := hx.cellSome d1
  have hlt6 : w.heap.size + 1 < w6.heap.size := World.block_lt_of_cell? _ _ d0
  have hlt60 : w.heap.size < w6.heap.size := by omega
  have hxb := Ext.alloc w6 (.cells #[.int .i64 x, .slice (some ⟨b3, 0, none⟩) n n] 60)
  have Hc0 := Lib.hid (hxb.cellSome c0)
  have Hc1 := Lib.hid (hxb.cellSome c1)
  have Hd0 := Lib.hid (hxb.cellSome d0)
  have Hd1 := Lib.hid (hxb.cellSome d1)
  have X6 := Lib.hid ((X5.out.trans hx).trans hxb)
  have R3 := Lib.hid ((hrow.ints HL.out (Nat.le_refl _) hm).ext hxb)
  clear hx hrow hbb hxb
  go_wp2_with fail
  refine (l_toVoting (HB.out.ext X6.out) (by omega)).mono ?_
  rintro e w7 ⟨b4, rfl, hrow, hbb, hx⟩
  clear c0 c1 d0 d1
  have c0 := hx.cellSome Hc0.out
  have c1 := hx.cellSome Hc1.out
  have d0 := hx.cellSome Hd0.out
  have d1 := hx.cellSome Hd1.out
  have e0 : w7.cell? ⟨w6.heap.size, 0, none⟩ = some (.int .i64 x) := hx.cellSome (by simp)
  have e1 : w7.cell? ⟨w6.heap.size, 1, none⟩ = some (.slice (some ⟨b3, 0, none⟩) n n) := hx.cellSome (by simp)
  have hlt7 : w.heap.size + 1 < w7.heap.size := World.block_lt_of_cell? _ _ d0
  have hlt70 : w.heap.size < w7.heap.size := by omega
  have hlt76 : w6.heap.size < w7.heap.size := World.block_lt_of_cell? _ _ e0
  have hxb := Ext.alloc w7 (.cells #[.int .i64 x', .slice (some ⟨b4, 0, none⟩) n' n'] 60)
  have X7 := Lib.hid ((X6.out.trans hx).trans hxb)
  have R4 := Lib.hid ((R3.out.ext hx).ext hxb)
  have R5 := Lib.hid ((hrow.ints HL'.out (Nat.le_refl _) hm').ext hxb)
  have Jc0 := Lib.hid (hxb.cellSome c0)
  have Jc1 := Lib.hid (hxb.cellSome c1)
  have Jd0 := Lib.hid (hxb.cellSome d0)
  have Jd1 := Lib.hid (hxb.cellSome d1)
  have Je0 := Lib.hid (hxb.cellSome e0)
  have Je1 := Lib.hid (hxb.cellSome e1)
  clear hx hrow hbb hxb Hc0 Hc1 Hd0 Hd1
  go_wp2_with fail
  refine (i_SameVoting R4.out R5.out).mono ?_
  rintro e w8 ⟨rfl, hx⟩
  clear c0 c1 d0 d1 e0 e1
  have c0 := hx.cellSome Jc0.out
  have c1 := hx.cellSome Jc1.out
  have d0 := hx.cellSome Jd0.out
  have d1 := hx.cellSome Jd1.out
  have e0 := hx.cellSome Je0.out
  have e1 := hx.cellSome Je1.out
  have g0 : w8.cell? ⟨w7.heap.size, 0, none⟩ = some (.int .i64 x') := hx.cellSome (by simp)
  have g1 : w8.cell? ⟨w7.heap.size, 1, none⟩ = some (.slice (some ⟨b4, 0, none⟩) n' n') := hx.cellSome (by simp)
  have X8 := Lib.hid (X7.out.trans hx)
  have R6 := Lib.hid (R4.out.ext hx)
  have R7 := Lib.hid (R5.out.ext hx)
  clear hx
  -- the arguments are as before
  go_wp2_with fail
  have hk : Ext w8 w8.drew := Ext.drew w8
  have HA8 := Lib.hid ((HA.out.ext X8.out).ext hk)
  have R8 := Lib.hid (R6.out.ext hk)
  go_region_held3 (fun w' => w'.cell? ⟨w.heap.size, 0, none⟩ = some (.int .i64 x) ∧ w'.cell? ⟨w.heap.size, 1, none⟩ = some (.slice a n cap) ∧ w'.cell? ⟨w6.heap.size, 0, none⟩ = some (.int .i64 x) ∧ w'.cell? ⟨w6.heap.size, 1, none⟩ = some (.slice (some ⟨b3, 0, none⟩) n n) ∧ Ext w8 w')
    (exact ⟨hk.cellSome c0, hk.cellSome c1, hk.cellSome e0, hk.cellSome e1, hk⟩)
    (first
      | (go_at_call 37; refine (l_toVoting HA8.out (by omega)).mono ?_; rintro e w9 ⟨b5, rfl, hrow, hbb, hx6⟩; have hk := hk.trans hx6)
      | (go_at_call 39; refine (l_eqVoting (R8.out.ext hx6) (hrow.ints HL.out (Nat.le_refl _) hm)).mono ?_; rintro e w10 ⟨rfl, hx7⟩; have hk := hk.trans hx7))
  replace d0 := hk.cellSome d0
  replace d1 := hk.cellSome d1
  replace g0 := hk.cellSome g0
  replace g1 := hk.cellSome g1
  have X9 := Lib.hid (X8.out.trans hk)
  have R9 := Lib.hid (R7.out.ext hk)
  clear hk HA8 R8 c0 c1 e0 e1
  go_wp2_with fail
  rename_i w11 _ _ _ _ _ _ _
  have hk := Ext.drew w10
  have HB9 := Lib.hid ((HB.out.ext X9.out).ext hk)
  have R10 := Lib.hid (R9.out.ext hk)
  go_region_held3 (fun w' => w'.cell? ⟨w.heap.size + 1, 0, none⟩ = some (.int .i64 x') ∧ w'.cell? ⟨w.heap.size + 1, 1, none⟩ = some (.slice a' n' cap') ∧ w'.cell? ⟨w7.heap.size, 0, none⟩ = some (.int .i64 x') ∧ w'.cell? ⟨w7.heap.size, 1, none⟩ = some (.slice (some ⟨b4, 0, none⟩) n' n') ∧ Ext w10 w')
    (exact ⟨hk.cellSome d0, hk.cellSome d1, hk.cellSome g0, hk.cellSome g1, hk⟩)
    (first
      | (go_at_call 37; refine (l_toVoting HB9.out (by omega)).mono ?_; rintro e w12 ⟨b6, rfl, hrow', hbb', hx8⟩; have hk := hk.trans hx8)
      | (go_at_call 39; refine (l_eqVoting (R10.out.ext hx8) (hrow'.ints HL'.out (Nat.le_refl _) hm')).mono ?_; rintro e w13 ⟨rfl, hx9⟩; have hk := hk.trans hx9))
  go_wp2
  go_ret
  exact ⟨rfl, HX.out.trans (X9.out.trans hk)⟩

end Go.Proofs.Ytekgbblpnfohfaa
