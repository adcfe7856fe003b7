import Derived.Test.YthjjfkeacobikaaGreatTaAllG0
import Derived.Test.YthjjfkeacobikaaGreatTaAllG5
import Derived.Deep.RegionLaw
import Derived.Test.YthjjfkeacobikaaGreatTaAllG6
import Derived.Test.YthjjfkeacobikaaGreatTaAllG4
import Derived.Test.YthjjfkeacobikaaGreatTaAllG3
import Derived.Deep.DeepCutAuto
set_option linter.unusedVariables false
set_option linter.unusedSimpArgs false
namespace Go.Proofs.YthjjfkeacobikaaGreat
set_option maxRecDepth 100000
open Go.RowKit
def in18 (a : Int) : Prop := -1000000000000000000 ≤ a ∧ a ≤ 1000000000000000000
theorem tmod_lt (p : Int) {q : Int} (h : q ≠ 0) : (p.tmod q).natAbs < q.natAbs := by
 rw [Int.natAbs_tmod]
 exact Nat.mod_lt _ (by omega)
theorem tmod_in (p : Int) {q : Int} (h : q ≠ 0) (hq : in18 q) : in18 (p.tmod q) := by
 have := tmod_lt p h
 unfold in18 at *
 revert this
 generalize p.tmod q = r
 intro this
 omega
set_option maxHeartbeats 1000000 in
theorem i_common (a b : Int) (w : World) (ha : in18 a) (hb : in18 b) :
 Calls Tryz.prog 172 #[.int .i64 a, .int .i64 b] w fun e w' => e = .returned (.int .i64 (gI a b)) ∧ Drew w w' := by
 go_enter Tryz.func172, Tryz.ntmps172
 go_wp2
 go_loopw [0, 1] (fun x y wr => ∃ p q : Int, x = .int .i64 p ∧ y = .int .i64 q ∧ Hid (gI p q = gI a b) ∧ Hid (in18 p) ∧ Hid (in18 q) ∧ Drew w wr) (fun _ y _ => (intOf y).natAbs)
 case atStart => exact ⟨a, b, rfl, rfl, Lib.hid rfl, Lib.hid ha, Lib.hid hb, Drew.refl _⟩
 case round =>
  obtain ⟨p, q, rfl, rfl, HG, HP, HQ, hx⟩ := hrel
  obtain ⟨hp1, hp2⟩ := HP.out
  obtain ⟨hq1, hq2⟩ := HQ.out
  by_cases hq : q = 0
  ·subst hq
   go_wp2
   all_goals
    go_ret
    refine ⟨ret_int ?_, hx⟩
    have := HG.out
    rw [gI_zero] at this
    omega
  ·have hqb : (q != 0) = true := by simpa using hq
   have hqb' : (q == 0) = false := by simpa using hq
   have ht := tmod_lt p hq
   have HT := Lib.hid ht
   have HQ' := Lib.hid hq
   go_wp2
   go_quiet (fail)
   go_wp2
   go_roundw
   case rel => exact ⟨q, p.tmod q, rfl, by go_num, Lib.hid (by rw [gI_step]; exact HG.out), HQ, Lib.hid (tmod_in p HQ'.out HQ.out), hx.trans ⟨_, rfl⟩⟩
   case measure => have h := HT.out; rw [Int.natAbs_tmod] at h; simp [intOf, Int.natAbs_tmod]; omega
set_option maxHeartbeats 1000000 in
theorem s_l3Gcd (a b : Int) (w : World) (ha : in18 a) (hb : in18 b) :
 Calls Tryz.prog 164 #[.int .i64 a, .int .i64 b] w fun e w' => e = .returned (.int .i64 (gI a b)) ∧ Drew w w' := by
 have ha' := ha
 have hb' := hb
 obtain ⟨ha1, ha2⟩ := ha'
 obtain ⟨hb1, hb2⟩ := hb'
 by_cases h1 : a < 0
 all_goals
  by_cases h2 : b < 0
  all_goals
   go_enter Tryz.func164, Tryz.ntmps164
   go_wp2
   go_loop [0, 1, 5] (fun x y z => ∃ p q : Int, x = .int .i64 p ∧ y = .int .i64 q ∧ 0 ≤ p ∧ 0 ≤ q ∧ Hid (gI p q = gI a b) ∧ Hid (in18 p) ∧ Hid (in18 q)) (fun _ y _ => (intOf y).natAbs)
   case atStart =>
    first
     | exact ⟨_, _, rfl, rfl, by omega, by omega, Lib.hid rfl, Lib.hid ha, Lib.hid hb⟩
     | exact ⟨-a, _, by go_num, rfl, by omega, by omega, Lib.hid (gI_negl _ _), Lib.hid ⟨by omega, by omega⟩, Lib.hid hb⟩
     | exact ⟨_, -b, rfl, by go_num, by omega, by omega, Lib.hid (gI_negr _ _), Lib.hid ha, Lib.hid ⟨by omega, by omega⟩⟩
     | exact ⟨-a, -b, by go_num, by go_num, by omega, by omega, Lib.hid ((gI_negl _ _).trans (gI_negr _ _)), Lib.hid ⟨by omega, by omega⟩, Lib.hid ⟨by omega, by omega⟩⟩
   case round =>
    obtain ⟨p, q, rfl, rfl, hp0, hq0, HG, HP, HQ⟩ := hrel
    by_cases hq : q = 0
    ·subst hq
     go_wp2
     go_ret
     refine ⟨ret_int ?_, Drew.refl _⟩
     have := HG.out
     rw [gI_zero] at this
     omega
    ·have hqb' : (q == 0) = false := by simpa using hq
     have hgt : 0 < q := by omega
     have HT := Lib.hid (Int.emod_lt_of_pos p hgt)
     have HTN := Lib.hid (Int.emod_nonneg p hq)
     have HQ' := Lib.hid hq
     have HM := Lib.hid (Int.tmod_eq_emod_of_nonneg (b := q) hp0)
     go_wp2
     go_round
     case rel => exact ⟨q, p % q, rfl, by go_num, by omega, HTN.out, Lib.hid (by rw [← HM.out, gI_step]; exact HG.out), HQ, Lib.hid (by rw [← HM.out]; exact tmod_in p HQ'.out HQ.out)⟩
     case measure => have := HT.out; have := HTN.out; simp [intOf]; omega
abbrev ratV (x y : Int) : Value := .agg #[.int .i64 x, .int .i64 y]
abbrev resR (r : (Int × Int) × Bool) : Value := .tuple #[.agg #[.int .i64 r.1.1, .int .i64 r.1.2], .bool r.2]
theorem in18_neg {a : Int} (h : in18 a) : in18 (-a) := by unfold in18 at *; omega
theorem quo_in (n : Int) {g : Int} (hg : 1 ≤ g) (hn : in18 n) : in18 (n.tdiv g) := by
 have := tdiv_abs n g hg
 unfold in18 at *
 revert this
 generalize n.tdiv g = r
 intro this
 omega
theorem kwrap_in {a : Int} (h : in18 a) : IntKind.i64.wrap a = a ∧ wrap64 a = a := by
 unfold in18 at h
 have : wrap64 a = a := by unfold wrap64; omega
 exact ⟨by rw [IntKind.wrap_i64]; omega, this⟩
set_option maxHeartbeats 1000000 in
theorem i_IsValidRat (x y : Int) (w : World) :
 Calls Tryz.prog 105 #[ratV x y] w fun e w' => e = .returned (.bool (valR (x, y))) ∧ Ext w w' := by
 have HX := Lib.hid (Ext.alloc w (.cells #[.int .i64 x, .int .i64 y] 43))
 cases h1 : inB y 1 1000000000
 ·have H1 := Lib.hid h1
  clear h1
  go_enter Tryz.func105, Tryz.ntmps105
  go_wp2_with fail
  refine (i_within _ _ _ _).mono ?_
  rw [H1.out]
  rintro e w1 ⟨rfl, rfl⟩
  go_wp2
  go_ret
  exact ⟨ret_bool (by simp [valR, H1.out]), HX.out⟩
 ·have H1 := Lib.hid h1
  have hy : in18 y := by simp only [inB, Bool.and_eq_true, decide_eq_true_eq] at h1; exact ⟨by omega, by omega⟩
  clear h1
  cases h2 : inB x (-1000000000) 1000000000
  ·have H2 := Lib.hid h2
   clear h2
   go_enter Tryz.func105, Tryz.ntmps105
   go_wp2_with fail
   refine (i_within _ _ _ _).mono ?_
   rw [H1.out]
   rintro e w1 ⟨rfl, rfl⟩
   go_wp2_with fail
   refine (i_within _ _ _ _).mono ?_
   rw [H2.out]
   rintro e w1 ⟨rfl, rfl⟩
   go_wp2
   go_ret
   exact ⟨ret_bool (by simp [valR, H2.out]), HX.out⟩
  ·have H2 := Lib.hid h2
   have hx : in18 x := by simp only [inB, Bool.and_eq_true, decide_eq_true_eq] at h2; exact ⟨by omega, by omega⟩
   clear h2
   have HC := Lib.hid (i_common x y (w.alloc (.cells #[.int .i64 x, .int .i64 y] 43)) hx hy)
   go_enter Tryz.func105, Tryz.ntmps105
   go_wp2_with fail
   refine (i_within _ _ _ _).mono ?_
   rw [H1.out]
   rintro e w1 ⟨rfl, rfl⟩
   go_wp2_with fail
   refine (i_within _ _ _ _).mono ?_
   rw [H2.out]
   rintro e w1 ⟨rfl, rfl⟩
   go_wp2_with fail
   refine HC.out.mono ?_
   rintro e w1 ⟨rfl, hd⟩
   go_wp2
   go_ret
   exact ⟨ret_bool (by simp only [valR, H1.out, H2.out]; by_cases h : gI x y = 1 <;> simp [h]), HX.out.trans hd.ext⟩
set_option maxHeartbeats 1000000 in
theorem s_IsValidRat (x y : Int) (w : World) :
 Calls Tryz.prog 104 #[ratV x y] w fun e w' => e = .returned (.bool (valR (x, y))) ∧ Ext w w' := by
 have HX := Lib.hid (Ext.alloc w (.cells #[.int .i64 x, .int .i64 y] 43))
 cases h1 : inB y 1 1000000000
 ·have H1 := Lib.hid h1
  clear h1
  go_enter Tryz.func104, Tryz.ntmps104
  go_wp2_with fail
  refine (s_l1In _ _ _ _).mono ?_
  rw [H1.out]
  rintro e w1 ⟨rfl, rfl⟩
  go_wp2
  go_ret
  exact ⟨ret_bool (by simp [valR, H1.out]), HX.out⟩
 ·have H1 := Lib.hid h1
  have hy : in18 y := by simp only [inB, Bool.and_eq_true, decide_eq_true_eq] at h1; exact ⟨by omega, by omega⟩
  clear h1
  cases h2 : inB x (-1000000000) 1000000000
  ·have H2 := Lib.hid h2
   clear h2
   go_enter Tryz.func104, Tryz.ntmps104
   go_wp2_with fail
   refine (s_l1In _ _ _ _).mono ?_
   rw [H1.out]
   rintro e w1 ⟨rfl, rfl⟩
   go_wp2_with fail
   refine (s_l1In _ _ _ _).mono ?_
   rw [H2.out]
   rintro e w1 ⟨rfl, rfl⟩
   go_wp2
   go_ret
   exact ⟨ret_bool (by simp [valR, H2.out]), HX.out⟩
  ·have H2 := Lib.hid h2
   have hx : in18 x := by simp only [inB, Bool.and_eq_true, decide_eq_true_eq] at h2; exact ⟨by omega, by omega⟩
   clear h2
   have HC := Lib.hid (s_l3Gcd x y (w.alloc (.cells #[.int .i64 x, .int .i64 y] 43)) hx hy)
   go_enter Tryz.func104, Tryz.ntmps104
   go_wp2_with fail
   refine (s_l1In _ _ _ _).mono ?_
   rw [H1.out]
   rintro e w1 ⟨rfl, rfl⟩
   go_wp2_with fail
   refine (s_l1In _ _ _ _).mono ?_
   rw [H2.out]
   rintro e w1 ⟨rfl, rfl⟩
   go_wp2_with fail
   refine HC.out.mono ?_
   rintro e w1 ⟨rfl, hd⟩
   go_wp2
   go_ret
   exact ⟨ret_bool (by simp only [valR, H1.out, H2.out]; by_cases h : gI x y = 1 <;> simp [h]), HX.out.trans hd.ext⟩
set_option maxHeartbeats 4000000 in
theorem i_RatOf (n d : Int) (w : World) :
 Calls Tryz.prog 178 #[.int .i64 n, .int .i64 d] w fun e w' => e = .returned (resR (ratOf n d)) ∧ Ext w w' := by
 have HX := Lib.hid (Ext.alloc w (.cells #[.int .i64 0, .int .i64 0] 43))
 by_cases h0 : d = 0
 ·have HR := Lib.hid (show ratOf n d = ((0, 0), false) by unfold ratOf; rw [if_pos (.inl h0)])
  subst h0
  go_enter Tryz.func178, Tryz.ntmps178
  go_wp2
  rw [HR.out]
  refine bodyPost_ret (v := .tuple #[.agg #[.int .i64 0, .int .i64 0], .bool false]) (by simp [results, Tryz.results178, go_sem]) rfl ⟨rfl, HX.out⟩
 have h0b : (d == 0) = false := by simpa using h0
 cases h1 : inB n (-1000000000000000000) 1000000000000000000
 ·have H1 := Lib.hid h1
  clear h1
  have HR := Lib.hid (show ratOf n d = ((0, 0), false) by unfold ratOf; rw [if_pos (.inr (.inl H1.out))])
  go_enter Tryz.func178, Tryz.ntmps178
  go_wp2_with fail
  refine (i_within _ _ _ _).mono ?_
  rw [H1.out]
  rintro e w1 ⟨rfl, rfl⟩
  go_wp2
  rw [HR.out]
  refine bodyPost_ret (v := .tuple #[.agg #[.int .i64 0, .int .i64 0], .bool false]) (by simp [results, Tryz.results178, go_sem]) rfl ⟨rfl, HX.out⟩
 have H1 := Lib.hid h1
 have hn : in18 n := by simp only [inB, Bool.and_eq_true, decide_eq_true_eq] at h1; exact ⟨by omega, by omega⟩
 clear h1
 cases h2 : inB d (-1000000000000000000) 1000000000000000000
 ·have H2 := Lib.hid h2
  clear h2
  have HR := Lib.hid (show ratOf n d = ((0, 0), false) by unfold ratOf; rw [if_pos (.inr (.inr H2.out))])
  go_enter Tryz.func178, Tryz.ntmps178
  go_wp2_with fail
  refine (i_within _ _ _ _).mono ?_
  rw [H1.out]
  rintro e w1 ⟨rfl, rfl⟩
  go_wp2_with fail
  refine (i_within _ _ _ _).mono ?_
  rw [H2.out]
  rintro e w1 ⟨rfl, rfl⟩
  go_wp2
  rw [HR.out]
  refine bodyPost_ret (v := .tuple #[.agg #[.int .i64 0, .int .i64 0], .bool false]) (by simp [results, Tryz.results178, go_sem]) rfl ⟨rfl, HX.out⟩
 have H2 := Lib.hid h2
 have hd : in18 d := by simp only [inB, Bool.and_eq_true, decide_eq_true_eq] at h2; exact ⟨by omega, by omega⟩
 clear h2
 have hg1 := gI_pos n h0
 have hg2 := gI_le n h0
 have hq := quo_in n hg1 hn
 have hq' := quo_in d hg1 hd
 by_cases h3 : d < 0
 ·have HC := Lib.hid (i_common n d (w.alloc (.cells #[.int .i64 0, .int .i64 0] 43)) hn hd)
  obtain ⟨g, hg⟩ : ∃ g, g = gI n d := ⟨_, rfl⟩
  rw [← hg] at hg1 hg2 HC hq hq'
  have HG := Lib.hid hg
  have hg3 : g ≤ 1000000000000000000 := by obtain ⟨_, _⟩ := hd; omega
  have hgz : ¬ g = 0 := by omega
  have hgn : (-g == 0) = false := by simp; omega
  obtain ⟨hn1, hn2⟩ := hn
  obtain ⟨hd1, hd2⟩ := hd
  obtain ⟨q1, hq1⟩ : ∃ q1, q1 = -(n.tdiv g) := ⟨_, rfl⟩
  obtain ⟨q2, hq2⟩ : ∃ q2, q2 = -(d.tdiv g) := ⟨_, rfl⟩
  have HR := Lib.hid (show ratOf n d = cutR (q1, q2) by unfold ratOf; rw [if_neg (by simp [h0, H1.out, H2.out]), if_pos h3, ← HG.out, Int.tdiv_neg, Int.tdiv_neg, hq1, hq2])
  obtain ⟨e1, e2⟩ := kwrap_in (in18_neg hq)
  obtain ⟨e3, e4⟩ := kwrap_in (in18_neg hq')
  rw [← hq1] at e1 e2
  rw [← hq2] at e3 e4
  have m1 : (-n).tdiv g = q1 := by rw [Int.neg_tdiv, hq1]
  have m2 : (-d).tdiv g = q2 := by rw [Int.neg_tdiv, hq2]
  have m3 : n.tdiv (-g) = q1 := by rw [Int.tdiv_neg, hq1]
  have m4 : d.tdiv (-g) = q2 := by rw [Int.tdiv_neg, hq2]
  have hq1' := hq1.symm
  have hq2' := hq2.symm
  clear hq hq' hg hg2 hq1 hq2
  cases hv : valR (q1, q2)
  all_goals
   go_enter Tryz.func178, Tryz.ntmps178
   go_wp2_with fail
   refine (i_within _ _ _ _).mono ?_
   rw [H1.out]
   rintro e w1 ⟨rfl, rfl⟩
   go_wp2_with fail
   refine (i_within _ _ _ _).mono ?_
   rw [H2.out]
   rintro e w1 ⟨rfl, rfl⟩
   go_wp2_with fail
   refine HC.out.mono ?_
   rintro e w1 ⟨rfl, hd⟩
   have hB : w1.heap[w.heap.size]? = some (.cells #[.int .i64 0, .int .i64 0] 43 (0, 0)) := (hd.ext.block _ (by simp)).trans (heap_alloc_new _ _)
   have HB := Lib.hid hB
   have LT := Lib.hid (lt_of_block hB)
   have X1 := Lib.hid (HX.out.trans hd.ext)
   clear hd hB
   go_wp2
   go_region_law (fail)
   have X2 := Lib.hid ((X1.out.trans (Ext.alloc w1 (.cells #[.int .i64 q1, .int .i64 q2] 43))).trans (Ext.drew _))
   have HV := Lib.hid (i_IsValidRat q1 q2 ((w1.alloc (.cells #[.int .i64 q1, .int .i64 q2] 43)).drew))
   go_wp2_with fail
   refine HV.out.mono ?_
   rw [hv]
   rintro e w2 ⟨rfl, hx⟩
   have lt := LT.out
   have hB : w2.heap[w.heap.size]? = some (.cells #[.int .i64 0, .int .i64 0] 43 (0, 0)) := (hx.block _ (by simp; omega)).trans ((heapA_old w1 (.cells #[.int .i64 q1, .int .i64 q2] 43) _ lt).trans HB.out)
   have hC : w2.heap[w1.heap.size]? = some (.cells #[.int .i64 q1, .int .i64 q2] 43 (0, 0)) := (hx.block _ (by simp)).trans (heap_alloc_new w1 (.cells #[.int .i64 q1, .int .i64 q2] 43))
   have b0 : w2.cell? ⟨w.heap.size, 0, none⟩ = some (.int .i64 0) := by rw [cell_of_row _ _ _ _ _ _ hB]; rfl
   have b1 : w2.cell? ⟨w.heap.size, 1, none⟩ = some (.int .i64 0) := by rw [cell_of_row _ _ _ _ _ _ hB]; rfl
   have c0 : w2.cell? ⟨w1.heap.size, 0, none⟩ = some (.int .i64 q1) := by rw [cell_of_row _ _ _ _ _ _ hC]; rfl
   have c1 : w2.cell? ⟨w1.heap.size, 1, none⟩ = some (.int .i64 q2) := by rw [cell_of_row _ _ _ _ _ _ hC]; rfl
   have fb : ∀ o, w2.frozen? ⟨w.heap.size, o, none⟩ = false := fun o => frozen_of_row _ _ _ _ _ hB
   have X3 := Lib.hid (X2.out.trans hx)
   clear hx hB hC lt
   go_wp2
   rw [HR.out]
  ·refine bodyPost_ret (v := .tuple #[.agg #[.int .i64 0, .int .i64 0], .bool false]) (by simp [results, Tryz.results178, go_sem, b0, b1]) rfl ⟨by simp [cutR, hv], ?_⟩
   exact (X3.out.setCell (by simp) _).setCell (by simp) _
  ·refine bodyPost_ret (v := .tuple #[.agg #[.int .i64 q1, .int .i64 q2], .bool true]) (by simp [results, Tryz.results178, go_sem, b0, b1]) rfl ⟨by simp [cutR, hv], ?_⟩
   exact (X3.out.setCell (by simp) _).setCell (by simp) _
 ·have HC := Lib.hid (i_common n d (w.alloc (.cells #[.int .i64 0, .int .i64 0] 43)) hn hd)
  obtain ⟨g, hg⟩ : ∃ g, g = gI n d := ⟨_, rfl⟩
  rw [← hg] at hg1 hg2 HC hq hq'
  have HG := Lib.hid hg
  have hg3 : g ≤ 1000000000000000000 := by obtain ⟨_, _⟩ := hd; omega
  have hgz : ¬ g = 0 := by omega
  obtain ⟨hn1, hn2⟩ := hn
  obtain ⟨hd1, hd2⟩ := hd
  obtain ⟨q1, hq1⟩ : ∃ q1, q1 = n.tdiv g := ⟨_, rfl⟩
  obtain ⟨q2, hq2⟩ : ∃ q2, q2 = d.tdiv g := ⟨_, rfl⟩
  have HR := Lib.hid (show ratOf n d = cutR (q1, q2) by unfold ratOf; rw [if_neg (by simp [h0, H1.out, H2.out]), if_neg h3, ← HG.out, hq1, hq2])
  have hm : d.tdiv g = d / g := Int.tdiv_eq_ediv_of_nonneg (by omega)
  obtain ⟨e1, e2⟩ := kwrap_in hq
  obtain ⟨e3, e4⟩ := kwrap_in hq'
  rw [← hq1] at e1 e2
  rw [← hq2] at e3 e4
  have hq1' := hq1.symm
  have hq2' := hq2.symm
  have hq3' : d / g = q2 := by rw [← hm, hq2]
  clear hq hq' hg hg2 hq1 hq2 hm
  cases hv : valR (q1, q2)
  all_goals
   go_enter Tryz.func178, Tryz.ntmps178
   go_wp2_with fail
   refine (i_within _ _ _ _).mono ?_
   rw [H1.out]
   rintro e w1 ⟨rfl, rfl⟩
   go_wp2_with fail
   refine (i_within _ _ _ _).mono ?_
   rw [H2.out]
   rintro e w1 ⟨rfl, rfl⟩
   go_wp2_with fail
   refine HC.out.mono ?_
   rintro e w1 ⟨rfl, hd⟩
   have hB : w1.heap[w.heap.size]? = some (.cells #[.int .i64 0, .int .i64 0] 43 (0, 0)) := (hd.ext.block _ (by simp)).trans (heap_alloc_new _ _)
   have HB := Lib.hid hB
   have LT := Lib.hid (lt_of_block hB)
   have X1 := Lib.hid (HX.out.trans hd.ext)
   clear hd hB
   go_wp2
   go_region_law (fail)
   have X2 := Lib.hid ((X1.out.trans (Ext.alloc w1 (.cells #[.int .i64 q1, .int .i64 q2] 43))).trans (Ext.drew _))
   have HV := Lib.hid (i_IsValidRat q1 q2 ((w1.alloc (.cells #[.int .i64 q1, .int .i64 q2] 43)).drew))
   go_wp2_with fail
   refine HV.out.mono ?_
   rw [hv]
   rintro e w2 ⟨rfl, hx⟩
   have lt := LT.out
   have hB : w2.heap[w.heap.size]? = some (.cells #[.int .i64 0, .int .i64 0] 43 (0, 0)) := (hx.block _ (by simp; omega)).trans ((heapA_old w1 (.cells #[.int .i64 q1, .int .i64 q2] 43) _ lt).trans HB.out)
   have hC : w2.heap[w1.heap.size]? = some (.cells #[.int .i64 q1, .int .i64 q2] 43 (0, 0)) := (hx.block _ (by simp)).trans (heap_alloc_new w1 (.cells #[.int .i64 q1, .int .i64 q2] 43))
   have b0 : w2.cell? ⟨w.heap.size, 0, none⟩ = some (.int .i64 0) := by rw [cell_of_row _ _ _ _ _ _ hB]; rfl
   have b1 : w2.cell? ⟨w.heap.size, 1, none⟩ = some (.int .i64 0) := by rw [cell_of_row _ _ _ _ _ _ hB]; rfl
   have c0 : w2.cell? ⟨w1.heap.size, 0, none⟩ = some (.int .i64 q1) := by rw [cell_of_row _ _ _ _ _ _ hC]; rfl
   have c1 : w2.cell? ⟨w1.heap.size, 1, none⟩ = some (.int .i64 q2) := by rw [cell_of_row _ _ _ _ _ _ hC]; rfl
   have fb : ∀ o, w2.frozen? ⟨w.heap.size, o, none⟩ = false := fun o => frozen_of_row _ _ _ _ _ hB
   have X3 := Lib.hid (X2.out.trans hx)
   clear hx hB hC lt
   go_wp2
   rw [HR.out]
  ·refine bodyPost_ret (v := .tuple #[.agg #[.int .i64 0, .int .i64 0], .bool false]) (by simp [results, Tryz.results178, go_sem, b0, b1]) rfl ⟨by simp [cutR, hv], ?_⟩
   exact (X3.out.setCell (by simp) _).setCell (by simp) _
  ·refine bodyPost_ret (v := .tuple #[.agg #[.int .i64 q1, .int .i64 q2], .bool true]) (by simp [results, Tryz.results178, go_sem, b0, b1]) rfl ⟨by simp [cutR, hv], ?_⟩
   exact (X3.out.setCell (by simp) _).setCell (by simp) _
set_option maxHeartbeats 4000000 in
theorem s_RatOf (n d : Int) (w : World) :
 Calls Tryz.prog 90 #[.int .i64 n, .int .i64 d] w fun e w' => e = .returned (resR (ratOf n d)) ∧ Ext w w' := by
 have HX := Lib.hid (Ext.alloc w (.cells #[.int .i64 0, .int .i64 0] 43))
 by_cases h0 : d = 0
 ·have HR := Lib.hid (show ratOf n d = ((0, 0), false) by unfold ratOf; rw [if_pos (.inl h0)])
  subst h0
  go_enter Tryz.func90, Tryz.ntmps90
  go_wp2
  rw [HR.out]
  refine bodyPost_ret (v := .tuple #[.agg #[.int .i64 0, .int .i64 0], .bool false]) (by simp [results, Tryz.results90, go_sem]) rfl ⟨rfl, HX.out⟩
 have h0b : (d == 0) = false := by simpa using h0
 cases h1 : inB n (-1000000000000000000) 1000000000000000000
 ·have H1 := Lib.hid h1
  clear h1
  have HR := Lib.hid (show ratOf n d = ((0, 0), false) by unfold ratOf; rw [if_pos (.inr (.inl H1.out))])
  go_enter Tryz.func90, Tryz.ntmps90
  go_wp2_with fail
  refine (s_l1In _ _ _ _).mono ?_
  rw [H1.out]
  rintro e w1 ⟨rfl, rfl⟩
  go_wp2
  rw [HR.out]
  refine bodyPost_ret (v := .tuple #[.agg #[.int .i64 0, .int .i64 0], .bool false]) (by simp [results, Tryz.results90, go_sem]) rfl ⟨rfl, HX.out⟩
 have H1 := Lib.hid h1
 have hn : in18 n := by simp only [inB, Bool.and_eq_true, decide_eq_true_eq] at h1; exact ⟨by omega, by omega⟩
 clear h1
 cases h2 : inB d (-1000000000000000000) 1000000000000000000
 ·have H2 := Lib.hid h2
  clear h2
  have HR := Lib.hid (show ratOf n d = ((0, 0), false) by unfold ratOf; rw [if_pos (.inr (.inr H2.out))])
  go_enter Tryz.func90, Tryz.ntmps90
  go_wp2_with fail
  refine (s_l1In _ _ _ _).mono ?_
  rw [H1.out]
  rintro e w1 ⟨rfl, rfl⟩
  go_wp2_with fail
  refine (s_l1In _ _ _ _).mono ?_
  rw [H2.out]
  rintro e w1 ⟨rfl, rfl⟩
  go_wp2
  rw [HR.out]
  refine bodyPost_ret (v := .tuple #[.agg #[.int .i64 0, .int .i64 0], .bool false]) (by simp [results, Tryz.results90, go_sem]) rfl ⟨rfl, HX.out⟩
 have H2 := Lib.hid h2
 have hd : in18 d := by simp only [inB, Bool.and_eq_true, decide_eq_true_eq] at h2; exact ⟨by omega, by omega⟩
 clear h2
 have hg1 := gI_pos n h0
 have hg2 := gI_le n h0
 have hq := quo_in n hg1 hn
 have hq' := quo_in d hg1 hd
 by_cases h3 : d < 0
 ·have HC := Lib.hid (s_l3Gcd (-n) (-d) (w.alloc (.cells #[.int .i64 0, .int .i64 0] 43)) (in18_neg hn) (in18_neg hd))
  rw [gI_negl, gI_negr] at HC
  obtain ⟨g, hg⟩ : ∃ g, g = gI n d := ⟨_, rfl⟩
  rw [← hg] at hg1 hg2 HC hq hq'
  have HG := Lib.hid hg
  have hg3 : g ≤ 1000000000000000000 := by obtain ⟨_, _⟩ := hd; omega
  have hgz : ¬ g = 0 := by omega
  have hgn : (-g == 0) = false := by simp; omega
  obtain ⟨hn1, hn2⟩ := hn
  obtain ⟨hd1, hd2⟩ := hd
  obtain ⟨q1, hq1⟩ : ∃ q1, q1 = -(n.tdiv g) := ⟨_, rfl⟩
  obtain ⟨q2, hq2⟩ : ∃ q2, q2 = -(d.tdiv g) := ⟨_, rfl⟩
  have HR := Lib.hid (show ratOf n d = cutR (q1, q2) by unfold ratOf; rw [if_neg (by simp [h0, H1.out, H2.out]), if_pos h3, ← HG.out, Int.tdiv_neg, Int.tdiv_neg, hq1, hq2])
  obtain ⟨e1, e2⟩ := kwrap_in (in18_neg hq)
  obtain ⟨e3, e4⟩ := kwrap_in (in18_neg hq')
  rw [← hq1] at e1 e2
  rw [← hq2] at e3 e4
  have m1 : (-n).tdiv g = q1 := by rw [Int.neg_tdiv, hq1]
  have m2 : (-d).tdiv g = q2 := by rw [Int.neg_tdiv, hq2]
  have m3 : n.tdiv (-g) = q1 := by rw [Int.tdiv_neg, hq1]
  have m4 : d.tdiv (-g) = q2 := by rw [Int.tdiv_neg, hq2]
  have hq1' := hq1.symm
  have hq2' := hq2.symm
  clear hq hq' hg hg2 hq1 hq2
  cases hv : valR (q1, q2)
  all_goals
   go_enter Tryz.func90, Tryz.ntmps90
   go_wp2_with fail
   refine (s_l1In _ _ _ _).mono ?_
   rw [H1.out]
   rintro e w1 ⟨rfl, rfl⟩
   go_wp2_with fail
   refine (s_l1In _ _ _ _).mono ?_
   rw [H2.out]
   rintro e w1 ⟨rfl, rfl⟩
   go_wp2_with fail
   refine HC.out.mono ?_
   rintro e w1 ⟨rfl, hd⟩
   have hB : w1.heap[w.heap.size]? = some (.cells #[.int .i64 0, .int .i64 0] 43 (0, 0)) := (hd.ext.block _ (by simp)).trans (heap_alloc_new _ _)
   have HB := Lib.hid hB
   have LT := Lib.hid (lt_of_block hB)
   have X1 := Lib.hid (HX.out.trans hd.ext)
   clear hd hB
   go_wp2
   go_region_law (fail)
   have X2 := Lib.hid ((X1.out.trans (Ext.alloc w1 (.cells #[.int .i64 q1, .int .i64 q2] 43))).trans (Ext.drew _))
   have HV := Lib.hid (s_IsValidRat q1 q2 ((w1.alloc (.cells #[.int .i64 q1, .int .i64 q2] 43)).drew))
   go_wp2_with fail
   refine HV.out.mono ?_
   rw [hv]
   rintro e w2 ⟨rfl, hx⟩
   have lt := LT.out
   have hB : w2.heap[w.heap.size]? = some (.cells #[.int .i64 0, .int .i64 0] 43 (0, 0)) := (hx.block _ (by simp; omega)).trans ((heapA_old w1 (.cells #[.int .i64 q1, .int .i64 q2] 43) _ lt).trans HB.out)
   have hC : w2.heap[w1.heap.size]? = some (.cells #[.int .i64 q1, .int .i64 q2] 43 (0, 0)) := (hx.block _ (by simp)).trans (heap_alloc_new w1 (.cells #[.int .i64 q1, .int .i64 q2] 43))
   have b0 : w2.cell? ⟨w.heap.size, 0, none⟩ = some (.int .i64 0) := by rw [cell_of_row _ _ _ _ _ _ hB]; rfl
   have b1 : w2.cell? ⟨w.heap.size, 1, none⟩ = some (.int .i64 0) := by rw [cell_of_row _ _ _ _ _ _ hB]; rfl
   have c0 : w2.cell? ⟨w1.heap.size, 0, none⟩ = some (.int .i64 q1) := by rw [cell_of_row _ _ _ _ _ _ hC]; rfl
   have c1 : w2.cell? ⟨w1.heap.size, 1, none⟩ = some (.int .i64 q2) := by rw [cell_of_row _ _ _ _ _ _ hC]; rfl
   have fb : ∀ o, w2.frozen? ⟨w.heap.size, o, none⟩ = false := fun o => frozen_of_row _ _ _ _ _ hB
   have X3 := Lib.hid (X2.out.trans hx)
   clear hx hB hC lt
   go_wp2
   rw [HR.out]
  ·refine bodyPost_ret (v := .tuple #[.agg #[.int .i64 0, .int .i64 0], .bool false]) (by simp [results, Tryz.results90, go_sem, b0, b1]) rfl ⟨by simp [cutR, hv], ?_⟩
   exact (X3.out.setCell (by simp) _).setCell (by simp) _
  ·refine bodyPost_ret (v := .tuple #[.agg #[.int .i64 q1, .int .i64 q2], .bool true]) (by simp [results, Tryz.results90, go_sem, b0, b1]) rfl ⟨by simp [cutR, hv], ?_⟩
   exact (X3.out.setCell (by simp) _).setCell (by simp) _
 ·have HC := Lib.hid (s_l3Gcd n d (w.alloc (.cells #[.int .i64 0, .int .i64 0] 43)) hn hd)
  obtain ⟨g, hg⟩ : ∃ g, g = gI n d := ⟨_, rfl⟩
  rw [← hg] at hg1 hg2 HC hq hq'
  have HG := Lib.hid hg
  have hg3 : g ≤ 1000000000000000000 := by obtain ⟨_, _⟩ := hd; omega
  have hgz : ¬ g = 0 := by omega
  obtain ⟨hn1, hn2⟩ := hn
  obtain ⟨hd1, hd2⟩ := hd
  obtain ⟨q1, hq1⟩ : ∃ q1, q1 = n.tdiv g := ⟨_, rfl⟩
  obtain ⟨q2, hq2⟩ : ∃ q2, q2 = d.tdiv g := ⟨_, rfl⟩
  have HR := Lib.hid (show ratOf n d = cutR (q1, q2) by unfold ratOf; rw [if_neg (by simp [h0, H1.out, H2.out]), if_neg h3, ← HG.out, hq1, hq2])
  have hm : d.tdiv g = d / g := Int.tdiv_eq_ediv_of_nonneg (by omega)
  obtain ⟨e1, e2⟩ := kwrap_in hq
  obtain ⟨e3, e4⟩ := kwrap_in hq'
  rw [← hq1] at e1 e2
  rw [← hq2] at e3 e4
  have hq1' := hq1.symm
  have hq2' := hq2.symm
  have hq3' : d / g = q2 := by rw [← hm, hq2]
  clear hq hq' hg hg2 hq1 hq2 hm
  cases hv : valR (q1, q2)
  all_goals
   go_enter Tryz.func90, Tryz.ntmps90
   go_wp2_with fail
   refine (s_l1In _ _ _ _).mono ?_
   rw [H1.out]
   rintro e w1 ⟨rfl, rfl⟩
   go_wp2_with fail
   refine (s_l1In _ _ _ _).mono ?_
   rw [H2.out]
   rintro e w1 ⟨rfl, rfl⟩
   go_wp2_with fail
   refine HC.out.mono ?_
   rintro e w1 ⟨rfl, hd⟩
   have hB : w1.heap[w.heap.size]? = some (.cells #[.int .i64 0, .int .i64 0] 43 (0, 0)) := (hd.ext.block _ (by simp)).trans (heap_alloc_new _ _)
   have HB := Lib.hid hB
   have LT := Lib.hid (lt_of_block hB)
   have X1 := Lib.hid (HX.out.trans hd.ext)
   clear hd hB
   go_wp2
   go_region_law (fail)
   have X2 := Lib.hid ((X1.out.trans (Ext.alloc w1 (.cells #[.int .i64 q1, .int .i64 q2] 43))).trans (Ext.drew _))
   have HV := Lib.hid (s_IsValidRat q1 q2 ((w1.alloc (.cells #[.int .i64 q1, .int .i64 q2] 43)).drew))
   go_wp2_with fail
   refine HV.out.mono ?_
   rw [hv]
   rintro e w2 ⟨rfl, hx⟩
   have lt := LT.out
   have hB : w2.heap[w.heap.size]? = some (.cells #[.int .i64 0, .int .i64 0] 43 (0, 0)) := (hx.block _ (by simp; omega)).trans ((heapA_old w1 (.cells #[.int .i64 q1, .int .i64 q2] 43) _ lt).trans HB.out)
   have hC : w2.heap[w1.heap.size]? = some (.cells #[.int .i64 q1, .int .i64 q2] 43 (0, 0)) := (hx.block _ (by simp)).trans (heap_alloc_new w1 (.cells #[.int .i64 q1, .int .i64 q2] 43))
   have b0 : w2.cell? ⟨w.heap.size, 0, none⟩ = some (.int .i64 0) := by rw [cell_of_row _ _ _ _ _ _ hB]; rfl
   have b1 : w2.cell? ⟨w.heap.size, 1, none⟩ = some (.int .i64 0) := by rw [cell_of_row _ _ _ _ _ _ hB]; rfl
   have c0 : w2.cell? ⟨w1.heap.size, 0, none⟩ = some (.int .i64 q1) := by rw [cell_of_row _ _ _ _ _ _ hC]; rfl
   have c1 : w2.cell? ⟨w1.heap.size, 1, none⟩ = some (.int .i64 q2) := by rw [cell_of_row _ _ _ _ _ _ hC]; rfl
   have fb : ∀ o, w2.frozen? ⟨w.heap.size, o, none⟩ = false := fun o => frozen_of_row _ _ _ _ _ hB
   have X3 := Lib.hid (X2.out.trans hx)
   clear hx hB hC lt
   go_wp2
   rw [HR.out]
  ·refine bodyPost_ret (v := .tuple #[.agg #[.int .i64 0, .int .i64 0], .bool false]) (by simp [results, Tryz.results90, go_sem, b0, b1]) rfl ⟨by simp [cutR, hv], ?_⟩
   exact (X3.out.setCell (by simp) _).setCell (by simp) _
  ·refine bodyPost_ret (v := .tuple #[.agg #[.int .i64 q1, .int .i64 q2], .bool true]) (by simp [results, Tryz.results90, go_sem, b0, b1]) rfl ⟨by simp [cutR, hv], ?_⟩
   exact (X3.out.setCell (by simp) _).setCell (by simp) _
theorem getD_bd {V : List Int} (hV : ∀ x ∈ V, -500 ≤ x ∧ x ≤ 500) (k : Nat) : -500 ≤ V[k]?.getD 0 ∧ V[k]?.getD 0 ≤ 500 := by
 by_cases h : k < V.length
 ·have := hV _ (List.getElem_mem h); simpa [h] using this
 ·simp [List.getElem?_eq_none (by omega : V.length ≤ k)]
end Go.Proofs.YthjjfkeacobikaaGreat
