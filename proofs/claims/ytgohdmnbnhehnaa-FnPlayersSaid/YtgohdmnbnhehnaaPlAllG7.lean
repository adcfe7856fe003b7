import Derived.Test.YtgohdmnbnhehnaaPlAllG0
import Derived.Test.YtgohdmnbnhehnaaPlAllG5
import Derived.Deep.RegionLaw
import Derived.Test.YtgohdmnbnhehnaaPlAllG6
import Derived.Test.YtgohdmnbnhehnaaPlAllG4
import Derived.Test.YtgohdmnbnhehnaaPlAllG3
import Derived.Deep.DeepCutAuto
namespace Go.Proofs.Ytgohdmnbnhehnaa
set_option linter.unusedVariables false
set_option linter.unusedSimpArgs false
set_option maxRecDepth 100000
open Go.RowKit
def in18 (a : Int) : Prop := -1000000000000000000 ≤ a ∧ a ≤ 1000000000000000000
theorem tmod_lt (p : Int) {q : Int} (h : q ≠ 0) : (p.tmod q).natAbs < q.natAbs := by
  rw [Int.natAbs_tmod]
  exact Nat.mod_lt _ (by omega)
theorem tmod_in (p : Int) {q : Int} (h : q ≠ 0) (hq : in18 q) : in18 (p.tmod q) := by
  have := tmod_lt p h
  unfold in18 at *
  revert this
  generalize p.tmod q = r
  intro this
  omega
set_option maxHeartbeats 1000000 in
theorem i_common (a b : Int) (w : World) (ha : in18 a) (hb : in18 b) :
    Calls Try.prog 128 #[.int .i64 a, .int .i64 b] w fun e w' => e = .returned (.int .i64 (gI a b)) ∧ Drew w w' := by
  go_enter Try.func128, Try.ntmps128
  go_wp2
  go_loopw [0, 1] (fun x y wr => ∃ p q : Int, x = .int .i64 p ∧ y = .int .i64 q ∧ Hid (gI p q = gI a b) ∧ Hid (in18 p) ∧ Hid (in18 q) ∧ Drew w wr) (fun _ y _ => (intOf y).natAbs)
  case atStart => exact ⟨a, b, rfl, rfl, Lib.hid rfl, Lib.hid ha, Lib.hid hb, Drew.refl _⟩
  case round =>
    obtain ⟨p, q, rfl, rfl, HG, HP, HQ, hx⟩ := hrel
    obtain ⟨hp1, hp2⟩ := HP.out
    obtain ⟨hq1, hq2⟩ := HQ.out
    by_cases hq : q = 0
    · subst hq
      go_wp2
      all_goals
        go_ret
        refine ⟨ret_int ?_, hx⟩
        have := HG.out
        rw [gI_zero] at this
        omega
    · have hqb : (q != 0) = true := by simpa using hq
      have hqb' : (q == 0) = false := by simpa using hq
      have ht := tmod_lt p hq
      have HT := Lib.hid ht
      have HQ' := Lib.hid hq
      go_wp2
      go_quiet (fail)
      go_wp2
      go_roundw
      case rel => exact ⟨q, p.tmod q, rfl, by go_num, Lib.hid (by rw [gI_step]; exact HG.out), HQ, Lib.hid (tmod_in p HQ'.out HQ.out), hx.trans ⟨_, rfl⟩⟩
      case measure => have h := HT.out; rw [Int.natAbs_tmod] at h; simp [intOf, Int.natAbs_tmod]; omega
set_option maxHeartbeats 1000000 in
theorem s_l3Gcd (a b : Int) (w : World) (ha : in18 a) (hb : in18 b) :
    Calls Try.prog 124 #[.int .i64 a, .int .i64 b] w fun e w' => e = .returned (.int .i64 (gI a b)) ∧ Drew w w' := by
  have ha' := ha
  have hb' := hb
  obtain ⟨ha1, ha2⟩ := ha'
  obtain ⟨hb1, hb2⟩ := hb'
  by_cases h1 : a < 0
  all_goals
    by_cases h2 : b < 0
    all_goals
      go_enter Try.func124, Try.ntmps124
      go_wp2
      go_loop [0, 1, 5] (fun x y z => ∃ p q : Int, x = .int .i64 p ∧ y = .int .i64 q ∧ 0 ≤ p ∧ 0 ≤ q ∧ Hid (gI p q = gI a b) ∧ Hid (in18 p) ∧ Hid (in18 q)) (fun _ y _ => (intOf y).natAbs)
      case atStart =>
        first
          | exact ⟨_, _, rfl, rfl, by omega, by omega, Lib.hid rfl, Lib.hid ha, Lib.hid hb⟩
          | exact ⟨-a, _, by go_num, rfl, by omega, by omega, Lib.hid (gI_negl _ _), Lib.hid ⟨by omega, by omega⟩, Lib.hid hb⟩
          | exact ⟨_, -b, rfl, by go_num, by omega, by omega, Lib.hid (gI_negr _ _), Lib.hid ha, Lib.hid ⟨by omega, by omega⟩⟩
          | exact ⟨-a, -b, by go_num, by go_num, by omega, by omega, Lib.hid ((gI_negl _ _).trans (gI_negr _ _)), Lib.hid ⟨by omega, by omega⟩, Lib.hid ⟨by omega, by omega⟩⟩
      case round =>
        obtain ⟨p, q, rfl, rfl, hp0, hq0, HG, HP, HQ⟩ := hrel
        by_cases hq : q = 0
        · subst hq
          go_wp2
          go_ret
          refine ⟨ret_int ?_, Drew.refl _⟩
          have := HG.out
          rw [gI_zero] at this
          omega
        · have hqb' : (q == 0) = false := by simpa using hq
          have hgt : 0 < q := by omega
          have HT := Lib.hid (Int.emod_lt_of_pos p hgt)
          have HTN := Lib.hid (Int.emod_nonneg p hq)
          have HQ' := Lib.hid hq
          have HM := Lib.hid (Int.tmod_eq_emod_of_nonneg (b := q) hp0)
          go_wp2
          go_round
          case rel => exact ⟨q, p % q, rfl, by go_num, by omega, HTN.out, Lib.hid (by rw [← HM.out, gI_step]; exact HG.out), HQ, Lib.hid (by rw [← HM.out]; exact tmod_in p HQ'.out HQ.out)⟩
          case measure => have := HT.out; have := HTN.out; simp [intOf]; omega
abbrev ratV (x y : Int) : Value := .agg #[.int .i64 x, .int .i64 y]
abbrev resR (r : (Int × Int) × Bool) : Value := .tuple #[.agg #[.int .i64 r.1.1, .int .i64 r.1.2], .bool r.2]
theorem in18_neg {a : Int} (h : in18 a) : in18 (-a) := by unfold in18 at *; omega
theorem quo_in (n : Int) {g : Int} (hg : 1 ≤ g) (hn : in18 n) : in18 (n.tdiv g) := by
  have := tdiv_abs n g hg
  unfold in18 at *
  revert this
  generalize n.tdiv g = r
  intro this
  omega
theorem kwrap_in {a : Int} (h : in18 a) : IntKind.i64.wrap a = a ∧ wrap64 a = a := by
  unfold in18 at h
  have : wrap64 a = a := by unfold wrap64; omega
  exact ⟨by rw [IntKind.wrap_i64]; omega, this⟩
set_option maxHeartbeats 1000000 in
theorem i_IsValidRat (x y : Int) (w : World) :
    Calls Try.prog 80 #[ratV x y] w fun e w' => e = .returned (.bool (valR (x, y))) ∧ Ext w w' := by
  have HX := Lib.hid (Ext.alloc w (.cells #[.int .i64 x, .int .i64 y] 34))
  cases h1 : inB y 1 1000000000
  · have H1 := Lib.hid h1
    clear h1
    go_enter Try.func80, Try.ntmps80
    go_wp2_with fail
    refine (i_within _ _ _ _).mono ?_
    rw [H1.out]
    rintro e w1 ⟨rfl, rfl⟩
    go_wp2
    go_ret
    exact ⟨ret_bool (by simp [valR, H1.out]), HX.out⟩
  · have H1 := Lib.hid h1
    have hy : in18 y := by simp only [inB, Bool.and_eq_true, decide_eq_true_eq] at h1; exact ⟨by omega, by omega⟩
    clear h1
    cases h2 : inB x (-1000000000) 1000000000
    · have H2 := Lib.hid h2
      clear h2
      go_enter Try.func80, Try.ntmps80
      go_wp2_with fail
      refine (i_within _ _ _ _).mono ?_
      rw [H1.out]
      rintro e w1 ⟨rfl, rfl⟩
      go_wp2_with fail
      refine (i_within _ _ _ _).mono ?_
      rw [H2.out]
      rintro e w1 ⟨rfl, rfl⟩
      go_wp2
      go_ret
      exact ⟨ret_bool (by simp [valR, H2.out]), HX.out⟩
    · have H2 := Lib.hid h2
      have hx : in18 x := by simp only [inB, Bool.and_eq_true, decide_eq_true_eq] at h2; exact ⟨by omega, by omega⟩
      clear h2
      have HC := Lib.hid (i_common x y (w.alloc (.cells #[.int .i64 x, .int .i64 y] 34)) hx hy)
      go_enter Try.func80, Try.ntmps80
      go_wp2_with fail
      refine (i_within _ _ _ _).mono ?_
      rw [H1.out]
      rintro e w1 ⟨rfl, rfl⟩
      go_wp2_with fail
      refine (i_within _ _ _ _).mono ?_
      rw [H2.out]
      rintro e w1 ⟨rfl, rfl⟩
      go_wp2_with fail
      refine HC.out.mono ?_
      rintro e w1 ⟨rfl, hd⟩
      go_wp2
      go_ret
      exact ⟨ret_bool (by simp only [valR, H1.out, H2.out]; by_cases h : gI x y = 1 <;> simp [h]), HX.out.trans hd.ext⟩
set_option maxHeartbeats 1000000 in
theorem s_IsValidRat (x y : Int) (w : World) :
    Calls Try.prog 125 #[ratV x y] w fun e w' => e = .returned (.bool (valR (x, y))) ∧ Ext w w' := by
  have HX := Lib.hid (Ext.alloc w (.cells #[.int .i64 x, .int .i64 y] 34))
  cases h1 : inB y 1 1000000000
  · have H1 := Lib.hid h1
    clear h1
    go_enter Try.func125, Try.ntmps125
    go_wp2_with fail
    refine (s_l1In _ _ _ _).mono ?_
    rw [H1.out]
    rintro e w1 ⟨rfl, rfl⟩
    go_wp2
    go_ret
    exact ⟨ret_bool (by simp [valR, H1.out]), HX.out⟩
  · have H1 := Lib.hid h1
    have hy : in18 y := by simp only [inB, Bool.and_eq_true, decide_eq_true_eq] at h1; exact ⟨by omega, by omega⟩
    clear h1
    cases h2 : inB x (-1000000000) 1000000000
    · have H2 := Lib.hid h2
      clear h2
      go_enter Try.func125, Try.ntmps125
      go_wp2_with fail
      refine (s_l1In _ _ _ _).mono ?_
      rw [H1.out]
      rintro e w1 ⟨rfl, rfl⟩
      go_wp2_with fail
      refine (s_l1In _ _ _ _).mono ?_
      rw [H2.out]
      rintro e w1 ⟨rfl, rfl⟩
      go_wp2
      go_ret
      exact ⟨ret_bool (by simp [valR, H2.out]), HX.out⟩
    · have H2 := Lib.hid h2
      have hx : in18 x := by simp only [inB, Bool.and_eq_true, decide_eq_true_eq] at h2; exact ⟨by omega, by omega⟩
      clear h2
      have HC := Lib.hid (s_l3Gcd x y (w.alloc (.cells #[.int .i64 x, .int .i64 y] 34)) hx hy)
      go_enter Try.func125, Try.ntmps125
      go_wp2_with fail
      refine (s_l1In _ _ _ _).mono ?_
      rw [H1.out]
      rintro e w1 ⟨rfl, rfl⟩
      go_wp2_with fail
      refine (s_l1In _ _ _ _).mono ?_
      rw [H2.out]
      rintro e w1 ⟨rfl, rfl⟩
      go_wp2_with fail
      refine HC.out.mono ?_
      rintro e w1 ⟨rfl, hd⟩
      go_wp2
      go_ret
      exact ⟨ret_bool (by simp only [valR, H1.out, H2.out]; by_cases h : gI x y = 1 <;> simp [h]), HX.out.trans hd.ext⟩
set_option maxHeartbeats 4000000 in
theorem i_RatOf (n d : Int) (w : World) :
    Calls Try.prog 81 #[.int .i64 n, .int .i64 d] w fun e w' => e = .returned (resR (ratOf n d)) ∧ Ext w w' := by
  have HX := Lib.hid (Ext.alloc w (.cells #[.int .i64 0, .int .i64 0] 34))
  by_cases h0 : d = 0
  · have HR := Lib.hid (show ratOf n d = ((0, 0), false) by unfold ratOf; rw [if_pos (.inl h0)])
    subst h0
    go_enter Try.func81, Try.ntmps81
    go_wp2
    rw [HR.out]
    refine bodyPost_ret (v := .tuple #[.agg #[.int .i64 0, .int .i64 0], .bool false]) (by simp [results, Try.results81, go_sem]) rfl ⟨rfl, HX.out⟩
  have h0b : (d == 0) = false := by simpa using h0
  cases h1 : inB n (-1000000000000000000) 1000000000000000000
  · have H1 := Lib.hid h1
    clear h1
    have HR := Lib.hid (show ratOf n d = ((0, 0), false) by unfold ratOf; rw [if_pos (.inr (.inl H1.out))])
    go_enter Try.func81, Try.ntmps81
    go_wp2_with fail
    refine (i_within _ _ _ _).mono ?_
    rw [H1.out]
    rintro e w1 ⟨rfl, rfl⟩
    go_wp2
    rw [HR.out]
    refine bodyPost_ret (v := .tuple #[.agg #[.int .i64 0, .int .i64 0], .bool false]) (by simp [results, Try.results81, go_sem]) rfl ⟨rfl, HX.out⟩
  have H1 := Lib.hid h1
  have hn : in18 n := by simp only [inB, Bool.and_eq_true, decide_eq_true_eq] at h1; exact ⟨by omega, by omega⟩
  clear h1
  cases h2 : inB d (-1000000000000000000) 1000000000000000000
  · have H2 := Lib.hid h2
    clear h2
    have HR := Lib.hid (show ratOf n d = ((0, 0), false) by unfold ratOf; rw [if_pos (.inr (.inr H2.out))])
    go_enter Try.func81, Try.ntmps81
    go_wp2_with fail
    refine (i_within _ _ _ _).mono ?_
    rw [H1.out]
    rintro e w1 ⟨rfl, rfl⟩
    go_wp2_with fail
    refine (i_within _ _ _ _).mono ?_
    rw [H2.out]
    rintro e w1 ⟨rfl, rfl⟩
    go_wp2
    rw [HR.out]
    refine bodyPost_ret (v := .tuple #[.agg #[.int .i64 0, .int .i64 0], .bool false]) (by simp [results, Try.results81, go_sem]) rfl ⟨rfl, HX.out⟩
  have H2 := Lib.hid h2
  have hd : in18 d := by simp only [inB, Bool.and_eq_true, decide_eq_true_eq] at h2; exact ⟨by omega, by omega⟩
  clear h2
  have hg1 := gI_pos n h0
  have hg2 := gI_le n h0
  have hq := quo_in n hg1 hn
  have hq' := quo_in d hg1 hd
  by_cases h3 : d < 0
  · have HC := Lib.hid (i_common n d (w.alloc (.cells #[.int .i64 0, .int .i64 0] 34)) hn hd)
    obtain ⟨g, hg⟩ : ∃ g, g = gI n d := ⟨_, rfl⟩
    rw [← hg] at hg1 hg2 HC hq hq'
    have HG := Lib.hid hg
    have hg3 : g ≤ 1000000000000000000 := by obtain ⟨_, _⟩ := hd; omega
    have hgz : ¬ g = 0 := by omega
    have hgn : (-g == 0) = false := by simp; omega
    obtain ⟨hn1, hn2⟩ := hn
    obtain ⟨hd1, hd2⟩ := hd
    obtain ⟨q1, hq1⟩ : ∃ q1, q1 = -(n.tdiv g) := ⟨_, rfl⟩
    obtain ⟨q2, hq2⟩ : ∃ q2, q2 = -(d.tdiv g) := ⟨_, rfl⟩
    have HR := Lib.hid (show ratOf n d = cutR (q1, q2) by unfold ratOf; rw [if_neg (by simp [h0, H1.out, H2.out]), if_pos h3, ← HG.out, Int.tdiv_neg, Int.tdiv_neg, hq1, hq2])
    obtain ⟨e1, e2⟩ := kwrap_in (in18_neg hq)
    obtain ⟨e3, e4⟩ := kwrap_in (in18_neg hq')
    rw [← hq1] at e1 e2
    rw [← hq2] at e3 e4
    have m1 : (-n).tdiv g = q1 := by rw [Int.neg_tdiv, hq1]
    have m2 : (-d).tdiv g = q2 := by rw [Int.neg_tdiv, hq2]
    have m3 : n.tdiv (-g) = q1 := by rw [Int.tdiv_neg, hq1]
    have m4 : d.tdiv (-g) = q2 := by rw [Int.tdiv_neg, hq2]
    have hq1' := hq1.symm
    have hq2' := hq2.symm
    clear hq hq' hg hg2 hq1 hq2
    cases hv : valR (q1, q2)
    all_goals
      go_enter Try.func81, Try.ntmps81
      go_wp2_with fail
      refine (i_within _ _ _ _).mono ?_
      rw [H1.out]
      rintro e w1 ⟨rfl, rfl⟩
      go_wp2_with fail
      refine (i_within _ _ _ _).mono ?_
      rw [H2.out]
      rintro e w1 ⟨rfl, rfl⟩
      go_wp2_with fail
      refine HC.out.mono ?_
      rintro e w1 ⟨rfl, hd⟩
      have hB : w1.heap[w.heap.size]? = some (.cells #[.int .i64 0, .int .i64 0] 34 (0, 0)) := (hd.ext.block _ (by simp)).trans (heap_alloc_new _ _)
      have HB := Lib.hid hB
      have LT := Lib.hid (lt_of_block hB)
      have X1 := Lib.hid (HX.out.trans hd.ext)
      clear hd hB
      go_wp2
      go_region_law (fail)
      have X2 := Lib.hid ((X1.out.trans (Ext.alloc w1 (.cells #[.int .i64 q1, .int .i64 q2] 34))).trans (Ext.drew _))
      have HV := Lib.hid (i_IsValidRat q1 q2 ((w1.alloc (.cells #[.int .i64 q1, .int .i64 q2] 34)).drew))
      go_wp2_with fail
      refine HV.out.mono ?_
      rw [hv]
      rintro e w2 ⟨rfl, hx⟩
      have lt := LT.out
      have hB : w2.heap[w.heap.size]? = some (.cells #[.int .i64 0, .int .i64 0] 34 (0, 0)) := (hx.block _ (by simp; omega)).trans ((heapA_old w1 (.cells #[.int .i64 q1, .int .i64 q2] 34) _ lt).trans HB.out)
      have hC : w2.heap[w1.heap.size]? = some (.cells #[.int .i64 q1, .int .i64 q2] 34 (0, 0)) := (hx.block _ (by simp)).trans (heap_alloc_new w1 (.cells #[.int .i64 q1, .int .i64 q2] 34))
      have b0 : w2.cell? ⟨w.heap.size, 0, none⟩ = some (.int .i64 0) := by rw [cell_of_row _ _ _ _ _ _ hB]; rfl
      have b1 : w2.cell? ⟨w.heap.size, 1, none⟩ = some (.int .i64 0) := by rw [cell_of_row _ _ _ _ _ _ hB]; rfl
      have c0 : w2.cell? ⟨w1.heap.size, 0, none⟩ = some (.int .i64 q1) := by rw [cell_of_row _ _ _ _ _ _ hC]; rfl
      have c1 : w2.cell? ⟨w1.heap.size, 1, none⟩ = some (.int .i64 q2) := by rw [cell_of_row _ _ _ _ _ _ hC]; rfl
      have fb : ∀ o, w2.frozen? ⟨w.heap.size, o, none⟩ = false := fun o => frozen_of_row _ _ _ _ _ hB
      have X3 := Lib.hid (X2.out.trans hx)
      clear hx hB hC lt
      go_wp2
      rw [HR.out]
    · refine bodyPost_ret (v := .tuple #[.agg #[.int .i64 0, .int .i64 0], .bool false]) (by simp [results, Try.results81, go_sem, b0, b1]) rfl ⟨by simp [cutR, hv], ?_⟩
      exact (X3.out.setCell (by simp) _).setCell (by simp) _
    · refine bodyPost_ret (v := .tuple #[.agg #[.int .i64 q1, .int .i64 q2], .bool true]) (by simp [results, Try.results81, go_sem, b0, b1]) rfl ⟨by simp [cutR, hv], ?_⟩
      exact (X3.out.setCell (by simp) _).setCell (by simp) _
  · have HC := Lib.hid (i_common n d (w.alloc (.cells #[.int .i64 0, .int .i64 0] 34)) hn hd)
    obtain ⟨g, hg⟩ : ∃ g, g = gI n d := ⟨_, rfl⟩
    rw [← hg] at hg1 hg2 HC hq hq'
    have HG := Lib.hid hg
    have hg3 : g ≤ 1000000000000000000 := by obtain ⟨_, _⟩ := hd; omega
    have hgz : ¬ g = 0 := by omega
    obtain ⟨hn1, hn2⟩ := hn
    obtain ⟨hd1, hd2⟩ := hd
    obtain ⟨q1, hq1⟩ : ∃ q1, q1 = n.tdiv g := ⟨_, rfl⟩
    obtain ⟨q2, hq2⟩ : ∃ q2, q2 = d.tdiv g := ⟨_, rfl⟩
    have HR := Lib.hid (show ratOf n d = cutR (q1, q2) by unfold ratOf; rw [if_neg (by simp [h0, H1.out, H2.out]), if_neg h3, ← HG.out, hq1, hq2])
    have hm : d.tdiv g = d / g := Int.tdiv_eq_ediv_of_nonneg (by omega)
    obtain ⟨e1, e2⟩ := kwrap_in hq
    obtain ⟨e3, e4⟩ := kwrap_in hq'
    rw [← hq1] at e1 e2
    rw [← hq2] at e3 e4
    have hq1' := hq1.symm
    have hq2' := hq2.symm
    have hq3' : d / g = q2 := by rw [← hm, hq2]
    clear hq hq' hg hg2 hq1 hq2 hm
    cases hv : valR (q1, q2)
    all_goals
      go_enter Try.func81, Try.ntmps81
      go_wp2_with fail
      refine (i_within _ _ _ _).mono ?_
      rw [H1.out]
      rintro e w1 ⟨rfl, rfl⟩
      go_wp2_with fail
      refine (i_within _ _ _ _).mono ?_
      rw [H2.out]
      rintro e w1 ⟨rfl, rfl⟩
      go_wp2_with fail
      refine HC.out.mono ?_
      rintro e w1 ⟨rfl, hd⟩
      have hB : w1.heap[w.heap.size]? = some (.cells #[.int .i64 0, .int .i64 0] 34 (0, 0)) := (hd.ext.block _ (by simp)).trans (heap_alloc_new _ _)
      have HB := Lib.hid hB
      have LT := Lib.hid (lt_of_block hB)
      have X1 := Lib.hid (HX.out.trans hd.ext)
      clear hd hB
      go_wp2
      go_region_law (fail)
      have X2 := Lib.hid ((X1.out.trans (Ext.alloc w1 (.cells #[.int .i64 q1, .int .i64 q2] 34))).trans (Ext.drew _))
      have HV := Lib.hid (i_IsValidRat q1 q2 ((w1.alloc (.cells #[.int .i64 q1, .int .i64 q2] 34)).drew))
      go_wp2_with fail
      refine HV.out.mono ?_
      rw [hv]
      rintro e w2 ⟨rfl, hx⟩
      have lt := LT.out
      have hB : w2.heap[w.heap.size]? = some (.cells #[.int .i64 0, .int .i64 0] 34 (0, 0)) := (hx.block _ (by simp; omega)).trans ((heapA_old w1 (.cells #[.int .i64 q1, .int .i64 q2] 34) _ lt).trans HB.out)
      have hC : w2.heap[w1.heap.size]? = some (.cells #[.int .i64 q1, .int .i64 q2] 34 (0, 0)) := (hx.block _ (by simp)).trans (heap_alloc_new w1 (.cells #[.int .i64 q1, .int .i64 q2] 34))
      have b0 : w2.cell? ⟨w.heap.size, 0, none⟩ = some (.int .i64 0) := by rw [cell_of_row _ _ _ _ _ _ hB]; rfl
      have b1 : w2.cell? ⟨w.heap.size, 1, none⟩ = some (.int .i64 0) := by rw [cell_of_row _ _ _ _ _ _ hB]; rfl
      have c0 : w2.cell? ⟨w1.heap.size, 0, none⟩ = some (.int .i64 q1) := by rw [cell_of_row _ _ _ _ _ _ hC]; rfl
      have c1 : w2.cell? ⟨w1.heap.size, 1, none⟩ = some (.int .i64 q2) := by rw [cell_of_row _ _ _ _ _ _ hC]; rfl
      have fb : ∀ o, w2.frozen? ⟨w.heap.size, o, none⟩ = false := fun o => frozen_of_row _ _ _ _ _ hB
      have X3 := Lib.hid (X2.out.trans hx)
      clear hx hB hC lt
      go_wp2
      rw [HR.out]
    · refine bodyPost_ret (v := .tuple #[.agg #[.int .i64 0, .int .i64 0], .bool false]) (by simp [results, Try.results81, go_sem, b0, b1]) rfl ⟨by simp [cutR, hv], ?_⟩
      exact (X3.out.setCell (by simp) _).setCell (by simp) _
    · refine bodyPost_ret (v := .tuple #[.agg #[.int .i64 q1, .int .i64 q2], .bool true]) (by simp [results, Try.results81, go_sem, b0, b1]) rfl ⟨by simp [cutR, hv], ?_⟩
      exact (X3.out.setCell (by simp) _).setCell (by simp) _
set_option maxHeartbeats 4000000 in
theorem s_RatOf (n d : Int) (w : World) :
    Calls Try.prog 66 #[.int .i64 n, .int .i64 d] w fun e w' => e = .returned (resR (ratOf n d)) ∧ Ext w w' := by
  have HX := Lib.hid (Ext.alloc w (.cells #[.int .i64 0, .int .i64 0] 34))
  by_cases h0 : d = 0
  · have HR := Lib.hid (show ratOf n d = ((0, 0), false) by unfold ratOf; rw [if_pos (.inl h0)])
    subst h0
    go_enter Try.func66, Try.ntmps66
    go_wp2
    rw [HR.out]
    refine bodyPost_ret (v := .tuple #[.agg #[.int .i64 0, .int .i64 0], .bool false]) (by simp [results, Try.results66, go_sem]) rfl ⟨rfl, HX.out⟩
  have h0b : (d == 0) = false := by simpa using h0
  cases h1 : inB n (-1000000000000000000) 1000000000000000000
  · have H1 := Lib.hid h1
    clear h1
    have HR := Lib.hid (show ratOf n d = ((0, 0), false) by unfold ratOf; rw [if_pos (.inr (.inl H1.out))])
    go_enter Try.func66, Try.ntmps66
    go_wp2_with fail
    refine (s_l1In _ _ _ _).mono ?_
    rw [H1.out]
    rintro e w1 ⟨rfl, rfl⟩
    go_wp2
    rw [HR.out]
    refine bodyPost_ret (v := .tuple #[.agg #[.int .i64 0, .int .i64 0], .bool false]) (by simp [results, Try.results66, go_sem]) rfl ⟨rfl, HX.out⟩
  have H1 := Lib.hid h1
  have hn : in18 n := by simp only [inB, Bool.and_eq_true, decide_eq_true_eq] at h1; exact ⟨by omega, by omega⟩
  clear h1
  cases h2 : inB d (-1000000000000000000) 1000000000000000000
  · have H2 := Lib.hid h2
    clear h2
    have HR := Lib.hid (show ratOf n d = ((0, 0), false) by unfold ratOf; rw [if_pos (.inr (.inr H2.out))])
    go_enter Try.func66, Try.ntmps66
    go_wp2_with fail
    refine (s_l1In _ _ _ _).mono ?_
    rw [H1.out]
    rintro e w1 ⟨rfl, rfl⟩
    go_wp2_with fail
    refine (s_l1In _ _ _ _).mono ?_
    rw [H2.out]
    rintro e w1 ⟨rfl, rfl⟩
    go_wp2
    rw [HR.out]
    refine bodyPost_ret (v := .tuple #[.agg #[.int .i64 0, .int .i64 0], .bool false]) (by simp [results, Try.results66, go_sem]) rfl ⟨rfl, HX.out⟩
  have H2 := Lib.hid h2
  have hd : in18 d := by simp only [inB, Bool.and_eq_true, decide_eq_true_eq] at h2; exact ⟨by omega, by omega⟩
  clear h2
  have hg1 := gI_pos n h0
  have hg2 := gI_le n h0
  have hq := quo_in n hg1 hn
  have hq' := quo_in d hg1 hd
  by_cases h3 : d < 0
  · have HC := Lib.hid (s_l3Gcd (-n) (-d) (w.alloc (.cells #[.int .i64 0, .int .i64 0] 34)) (in18_neg hn) (in18_neg hd))
    rw [gI_negl, gI_negr] at HC
    obtain ⟨g, hg⟩ : ∃ g, g = gI n d := ⟨_, rfl⟩
    rw [← hg] at hg1 hg2 HC hq hq'
    have HG := Lib.hid hg
    have hg3 : g ≤ 1000000000000000000 := by obtain ⟨_, _⟩ := hd; omega
    have hgz : ¬ g = 0 := by omega
    have hgn : (-g == 0) = false := by simp; omega
    obtain ⟨hn1, hn2⟩ := hn
    obtain ⟨hd1, hd2⟩ := hd
    obtain ⟨q1, hq1⟩ : ∃ q1, q1 = -(n.tdiv g) := ⟨_, rfl⟩
    obtain ⟨q2, hq2⟩ : ∃ q2, q2 = -(d.tdiv g) := ⟨_, rfl⟩
    have HR := Lib.hid (show ratOf n d = cutR (q1, q2) by unfold ratOf; rw [if_neg (by simp [h0, H1.out, H2.out]), if_pos h3, ← HG.out, Int.tdiv_neg, Int.tdiv_neg, hq1, hq2])
    obtain ⟨e1, e2⟩ := kwrap_in (in18_neg hq)
    obtain ⟨e3, e4⟩ := kwrap_in (in18_neg hq')
    rw [← hq1] at e1 e2
    rw [← hq2] at e3 e4
    have m1 : (-n).tdiv g = q1 := by rw [Int.neg_tdiv, hq1]
    have m2 : (-d).tdiv g = q2 := by rw [Int.neg_tdiv, hq2]
    have m3 : n.tdiv (-g) = q1 := by rw [Int.tdiv_neg, hq1]
    have m4 : d.tdiv (-g) = q2 := by rw [Int.tdiv_neg, hq2]
    have hq1' := hq1.symm
    have hq2' := hq2.symm
    clear hq hq' hg hg2 hq1 hq2
    cases hv : valR (q1, q2)
    all_goals
      go_enter Try.func66, Try.ntmps66
      go_wp2_with fail
      refine (s_l1In _ _ _ _).mono ?_
      rw [H1.out]
      rintro e w1 ⟨rfl, rfl⟩
      go_wp2_with fail
      refine (s_l1In _ _ _ _).mono ?_
      rw [H2.out]
      rintro e w1 ⟨rfl, rfl⟩
      go_wp2_with fail
      refine HC.out.mono ?_
      rintro e w1 ⟨rfl, hd⟩
      have hB : w1.heap[w.heap.size]? = some (.cells #[.int .i64 0, .int .i64 0] 34 (0, 0)) := (hd.ext.block _ (by simp)).trans (heap_alloc_new _ _)
      have HB := Lib.hid hB
      have LT := Lib.hid (lt_of_block hB)
      have X1 := Lib.hid (HX.out.trans hd.ext)
      clear hd hB
      go_wp2
      go_region_law (fail)
      have X2 := Lib.hid ((X1.out.trans (Ext.alloc w1 (.cells #[.int .i64 q1, .int .i64 q2] 34))).trans (Ext.drew _))
      have HV := Lib.hid (s_IsValidRat q1 q2 ((w1.alloc (.cells #[.int .i64 q1, .int .i64 q2] 34)).drew))
      go_wp2_with fail
      refine HV.out.mono ?_
      rw [hv]
      rintro e w2 ⟨rfl, hx⟩
      have lt := LT.out
      have hB : w2.heap[w.heap.size]? = some (.cells #[.int .i64 0, .int .i64 0] 34 (0, 0)) := (hx.block _ (by simp; omega)).trans ((heapA_old w1 (.cells #[.int .i64 q1, .int .i64 q2] 34) _ lt).trans HB.out)
      have hC : w2.heap[w1.heap.size]? = some (.cells #[.int .i64 q1, .int .i64 q2] 34 (0, 0)) := (hx.block _ (by simp)).trans (heap_alloc_new w1 (.cells #[.int .i64 q1, .int .i64 q2] 34))
      have b0 : w2.cell? ⟨w.heap.size, 0, none⟩ = some (.int .i64 0) := by rw [cell_of_row _ _ _ _ _ _ hB]; rfl
      have b1 : w2.cell? ⟨w.heap.size, 1, none⟩ = some (.int .i64 0) := by rw [cell_of_row _ _ _ _ _ _ hB]; rfl
      have c0 : w2.cell? ⟨w1.heap.size, 0, none⟩ = some (.int .i64 q1) := by rw [cell_of_row _ _ _ _ _ _ hC]; rfl
      have c1 : w2.cell? ⟨w1.heap.size, 1, none⟩ = some (.int .i64 q2) := by rw [cell_of_row _ _ _ _ _ _ hC]; rfl
      have fb : ∀ o, w2.frozen? ⟨w.heap.size, o, none⟩ = false := fun o => frozen_of_row _ _ _ _ _ hB
      have X3 := Lib.hid (X2.out.trans hx)
      clear hx hB hC lt
      go_wp2
      rw [HR.out]
    · refine bodyPost_ret (v := .tuple #[.agg #[.int .i64 0, .int .i64 0], .bool false]) (by simp [results, Try.results66, go_sem, b0, b1]) rfl ⟨by simp [cutR, hv], ?_⟩
      exact (X3.out.setCell (by simp) _).setCell (by simp) _
    · refine bodyPost_ret (v := .tuple #[.agg #[.int .i64 q1, .int .i64 q2], .bool true]) (by simp [results, Try.results66, go_sem, b0, b1]) rfl ⟨by simp [cutR, hv], ?_⟩
      exact (X3.out.setCell (by simp) _).setCell (by simp) _
  · have HC := Lib.hid (s_l3Gcd n d (w.alloc (.cells #[.int .i64 0, .int .i64 0] 34)) hn hd)
    obtain ⟨g, hg⟩ : ∃ g, g = gI n d := ⟨_, rfl⟩
    rw [← hg] at hg1 hg2 HC hq hq'
    have HG := Lib.hid hg
    have hg3 : g ≤ 1000000000000000000 := by obtain ⟨_, _⟩ := hd; omega
    have hgz : ¬ g = 0 := by omega
    obtain ⟨hn1, hn2⟩ := hn
    obtain ⟨hd1, hd2⟩ := hd
    obtain ⟨q1, hq1⟩ : ∃ q1, q1 = n.tdiv g := ⟨_, rfl⟩
    obtain ⟨q2, hq2⟩ : ∃ q2, q2 = d.tdiv g := ⟨_, rfl⟩
    have HR := Lib.hid (show ratOf n d = cutR (q1, q2) by unfold ratOf; rw [if_neg (by simp [h0, H1.out, H2.out]), if_neg h3, ← HG.out, hq1, hq2])
    have hm : d.tdiv g = d / g := Int.tdiv_eq_ediv_of_nonneg (by omega)
    obtain ⟨e1, e2⟩ := kwrap_in hq
    obtain ⟨e3, e4⟩ := kwrap_in hq'
    rw [← hq1] at e1 e2
    rw [← hq2] at e3 e4
    have hq1' := hq1.symm
    have hq2' := hq2.symm
    have hq3' : d / g = q2 := by rw [← hm, hq2]
    clear hq hq' hg hg2 hq1 hq2 hm
    cases hv : valR (q1, q2)
    all_goals
      go_enter Try.func66, Try.ntmps66
      go_wp2_with fail
      refine (s_l1In _ _ _ _).mono ?_
      rw [H1.out]
      rintro e w1 ⟨rfl, rfl⟩
      go_wp2_with fail
      refine (s_l1In _ _ _ _).mono ?_
      rw [H2.out]
      rintro e w1 ⟨rfl, rfl⟩
      go_wp2_with fail
      refine HC.out.mono ?_
      rintro e w1 ⟨rfl, hd⟩
      have hB : w1.heap[w.heap.size]? = some (.cells #[.int .i64 0, .int .i64 0] 34 (0, 0)) := (hd.ext.block _ (by simp)).trans (heap_alloc_new _ _)
      have HB := Lib.hid hB
      have LT := Lib.hid (lt_of_block hB)
      have X1 := Lib.hid (HX.out.trans hd.ext)
      clear hd hB
      go_wp2
      go_region_law (fail)
      have X2 := Lib.hid ((X1.out.trans (Ext.alloc w1 (.cells #[.int .i64 q1, .int .i64 q2] 34))).trans (Ext.drew _))
      have HV := Lib.hid (s_IsValidRat q1 q2 ((w1.alloc (.cells #[.int .i64 q1, .int .i64 q2] 34)).drew))
      go_wp2_with fail
      refine HV.out.mono ?_
      rw [hv]
      rintro e w2 ⟨rfl, hx⟩
      have lt := LT.out
      have hB : w2.heap[w.heap.size]? = some (.cells #[.int .i64 0, .int .i64 0] 34 (0, 0)) := (hx.block _ (by simp; omega)).trans ((heapA_old w1 (.cells #[.int .i64 q1, .int .i64 q2] 34) _ lt).trans HB.out)
      have hC : w2.heap[w1.heap.size]? = some (.cells #[.int .i64 q1, .int .i64 q2] 34 (0, 0)) := (hx.block _ (by simp)).trans (heap_alloc_new w1 (.cells #[.int .i64 q1, .int .i64 q2] 34))
      have b0 : w2.cell? ⟨w.heap.size, 0, none⟩ = some (.int .i64 0) := by rw [cell_of_row _ _ _ _ _ _ hB]; rfl
      have b1 : w2.cell? ⟨w.heap.size, 1, none⟩ = some (.int .i64 0) := by rw [cell_of_row _ _ _ _ _ _ hB]; rfl
      have c0 : w2.cell? ⟨w1.heap.size, 0, none⟩ = some (.int .i64 q1) := by rw [cell_of_row _ _ _ _ _ _ hC]; rfl
      have c1 : w2.cell? ⟨w1.heap.size, 1, none⟩ = some (.int .i64 q2) := by rw [cell_of_row _ _ _ _ _ _ hC]; rfl
      have fb : ∀ o, w2.frozen? ⟨w.heap.size, o, none⟩ = false := fun o => frozen_of_row _ _ _ _ _ hB
      have X3 := Lib.hid (X2.out.trans hx)
      clear hx hB hC lt
      go_wp2
      rw [HR.out]
    · refine bodyPost_ret (v := .tuple #[.agg #[.int .i64 0, .int .i64 0], .bool false]) (by simp [results, Try.results66, go_sem, b0, b1]) rfl ⟨by simp [cutR, hv], ?_⟩
      exact (X3.out.setCell (by simp) _).setCell (by simp) _
    · refine bodyPost_ret (v := .tuple #[.agg #[.int .i64 q1, .int .i64 q2], .bool true]) (by simp [results, Try.results66, go_sem, b0, b1]) rfl ⟨by simp [cutR, hv], ?_⟩
      exact (X3.out.setCell (by simp) _).setCell (by simp) _
end Go.Proofs.Ytgohdmnbnhehnaa
namespace Go.Proofs.Ytgohdmnbnhehnaa
set_option linter.unusedVariables false
set_option linter.unusedSimpArgs false
set_option maxRecDepth 100000
open Go.RowKit
def popN (s : Nat) : Nat := (List.range 5).countP fun k => bit (s : Int) k
theorem popN_le (s : Nat) : popN s ≤ 5 := by unfold popN; exact Nat.le_trans List.countP_le_length (by simp)
theorem i_OnesCount64 (s : Nat) (hs : s < 32) (w : World) : Calls Try.prog 144 #[.int .u64 (s : Int)] w fun e w' => e = .returned (.int .i64 (popN s)) ∧ w = w' := by
  go_enter Try.func144, Try.ntmps144
  go_wp2
  go_ret
  refine ⟨ret_int ?_, rfl⟩
  clear w
  revert s
  decide +kernel
theorem i_OnesCount (s : Nat) (hs : s < 32) (w : World) : Calls Try.prog 123 #[.int .u64 (s : Int)] w fun e w' => e = .returned (.int .i64 (popN s)) ∧ w = w' := by
  go_enter Try.func123, Try.ntmps123
  go_wp2_with (first | (go_at_call 144; refine (i_OnesCount64 s hs _).mono ?_; rintro e w' ⟨rfl, rfl⟩))
  go_ret
  exact ⟨rfl, rfl⟩
theorem or_bit_nat : ∀ s : Fin 32, ∀ k : Fin 5, bit ((s.val : Nat) : Int) k.val = false → bits .or .i64 ((s.val : Nat) : Int) (2 ^ k.val) = ((s.val : Nat) : Int) + 2 ^ k.val := by decide +kernel
theorem or_bit {s k : Nat} (hs : s < 32) (hk : k < 5) (h : bit (s : Int) k = false) : bits .or .i64 (s : Int) (2 ^ k) = (s : Int) + 2 ^ k := or_bit_nat ⟨s, hs⟩ ⟨k, hk⟩ h
theorem up_lt_nat : ∀ n : Fin 6, ∀ s : Fin 32, ∀ k : Fin 5, s.val < cN n.val → k.val < n.val → bit ((s.val : Nat) : Int) k.val = false → s.val + 2 ^ k.val < cN n.val := by decide +kernel
theorem up_lt {n s k : Nat} (hn : n ≤ 5) (hs : s < cN n) (hk : k < n) (h : bit (s : Int) k = false) : s + 2 ^ k < cN n :=
  up_lt_nat ⟨n, by omega⟩ ⟨s, by have := cN_le n hn; omega⟩ ⟨k, by omega⟩ hs hk h
theorem bit_test0 (s : Int) (k : Nat) (h : 0 ≤ s) (h' : s ≤ 9223372036854775807) : (bits BinOp.and IntKind.i64 (s / 2 ^ k) 1 == 0) = !bit s k := by
  have h1 := div_pow s k h
  rw [and_one _ h1.1 (by omega)]
  unfold bit
  have : s / 2 ^ k % 2 = 0 ∨ s / 2 ^ k % 2 = 1 := by omega
  rcases this with h | h <;> simp [h]
theorem kwrap_pow' (k : Nat) (h : k ≤ 5) : IntKind.i64.wrap ((2 : Int) ^ k) = 2 ^ k := by
  have := pow_pos k
  have := pow_le5 k h
  rw [IntKind.wrap_i64]; omega
def avgS (wt : Nat → Int) (V : List Int) (k : Nat) : Nat → Int
  | 0 => 0
  | m + 1 => avgS wt V k m + (if bit (m : Int) k = true then 0 else wt (popN m) * (V[m + 2 ^ k]?.getD 0 - V[m]?.getD 0))
def avgR (wt : Nat → Int) (V : List Int) (d : Int) (k : Nat) : Int × Int := (ratOf (avgS wt V k V.length) d).1
def avgT (wt : Nat → Int) (V : List Int) (d : Int) (m : Nat) : List (Int × Int) := (List.range m).map (avgR wt V d)
theorem avgT_zero (wt : Nat → Int) (V : List Int) (d : Int) : avgT wt V d 0 = [] := rfl
theorem avgT_succ (wt : Nat → Int) (V : List Int) (d : Int) (m : Nat) : avgT wt V d (m + 1) = avgT wt V d m ++ [avgR wt V d m] := by simp [avgT, List.range_succ]
theorem avgT_len (wt : Nat → Int) (V : List Int) (d : Int) (m : Nat) : (avgT wt V d m).length = m := by simp [avgT]
theorem getD_bd {V : List Int} (hV : ∀ x ∈ V, -500 ≤ x ∧ x ≤ 500) (k : Nat) : -500 ≤ V[k]?.getD 0 ∧ V[k]?.getD 0 ≤ 500 := by
  by_cases h : k < V.length
  · have := hV _ (List.getElem_mem h); simpa [h] using this
  · simp [List.getElem?_eq_none (by omega : V.length ≤ k)]
theorem wt_bd {x y : Int} (h1 : -1000 ≤ x) (h2 : x ≤ 1000) (h3 : -1000 ≤ y) (h4 : y ≤ 1000) : -1000000 ≤ x * y ∧ x * y ≤ 1000000 := by
  have h : (x * y).natAbs ≤ 1000 * 1000 := by rw [Int.natAbs_mul]; exact Nat.mul_le_mul (by omega) (by omega)
  omega
theorem avgS_bd {wt : Nat → Int} {V : List Int} (hV : ∀ x ∈ V, -500 ≤ x ∧ x ≤ 500) (hw : ∀ i, -1000 ≤ wt i ∧ wt i ≤ 1000) (k : Nat) : ∀ m : Nat, -(1000000 * m : Int) ≤ avgS wt V k m ∧ avgS wt V k m ≤ 1000000 * m
  | 0 => by simp [avgS]
  | m + 1 => by
    have ih := avgS_bd hV hw k m
    unfold avgS
    have h1 := getD_bd hV (m + 2 ^ k)
    have h2 := getD_bd hV m
    have h3 := hw (popN m)
    have h4 := wt_bd h3.1 h3.2 (y := V[m + 2 ^ k]?.getD 0 - V[m]?.getD 0) (by omega) (by omega)
    split <;> omega
set_option maxHeartbeats 4000000 in
theorem i_averages {w : World} {n : Nat} {a : Option Addr} {m cap : Nat} {V : List Int} {fid : FuncId} {ca : Array Value} {wt : Nat → Int} {d : Int} (h : Ints w a m cap V) (h1 : 1 ≤ n) (h5 : n ≤ 5) (hm : m = cN n) (hV : ∀ x ∈ V, -500 ≤ x ∧ x ≤ 500) (hw : ∀ i, -1000 ≤ wt i ∧ wt i ≤ 1000)
    (hg : IsGo Try.prog fid) (hf : Tells Try.prog w fid ca 6 wt) :
    Calls Try.prog 60 #[pair n a m cap, .func (.func fid) #[] ca, .int .i64 d] w fun e w' => (∃ v, e = .returned v ∧ OwnR w' w.heap.size v (avgT wt V d n)) ∧ Ext w w' := by
  have hN := cN_le n h5
  have hcf : ∀ (args : Array Value) (w : World), (callFunc fid args).run Try.prog w = .ok (.enter fid args) w := hg
  have hi := h.alloc (.cells #[.int .i64 (n : Int), .slice a m cap] 26)
  have HX := Lib.hid (Ext.alloc w (.cells #[.int .i64 (n : Int), .slice a m cap] 26))
  have HL := Lib.hid h.hlen
  have HI := Lib.hid hi
  have HF := Lib.hid (hf.ext HX.out)
  have HO := Lib.hid (OwnR.made (w.alloc (.cells #[.int .i64 (n : Int), .slice a m cap] 26)) (w.heap.size + 1) (by simp))
  have hmax := h.hmax
  have hcap := h.hcap
  have HV := Lib.hid hV
  have HW := Lib.hid hw
  have HMM := Lib.hid hm
  have hm32 : m ≤ 32 := by omega
  clear h hi hf hg hV hw hm hN
  go_enter Try.func60, Try.ntmps60
  go_wp2
  go_loopw [7, 17] (fun o i wr => ∃ (k : Nat) (a1 : Option Addr) (n1 p1 : Nat), k ≤ n ∧ i = .int .i64 (k : Int) ∧ o = .slice a1 n1 p1 ∧ Hid (OwnR wr (w.heap.size + 1) (.slice a1 n1 p1) (avgT wt V d k)) ∧ Hid (Ext (w.alloc (.cells #[.int .i64 (n : Int), .slice a m cap] 26)) wr)) (fun _ i _ => n - (intOf i).toNat)
  case atStart => exact ⟨0, _, _, _, Nat.zero_le _, rfl, rfl, Lib.hid (by rw [avgT_zero]; simpa using HO.out), Lib.hid (Ext.alloc _ _)⟩
  case round =>
    obtain ⟨k, a1, n1, p1, hk, rfl, rfl, HO1, HX1⟩ := hrel
    have c0 : wr.cell? ⟨w.heap.size, 0, none⟩ = some (.int .i64 (n : Int)) := HX1.out.cellSome (by simp)
    have c1 : wr.cell? ⟨w.heap.size, 1, none⟩ = some (.slice a m cap) := HX1.out.cellSome (by simp)
    by_cases hlt : k < n
    · have HI1 := Lib.hid (HI.out.ext HX1.out)
      have HF1 := Lib.hid (HF.out.ext HX1.out)
      have hp := pow_pos k
      have hp5 := pow_le5 k (by omega)
      go_wp2
      go_loopw [9, 23] (fun t i wr2 => ∃ (j : Nat), j ≤ m ∧ i = .int .i64 (j : Int) ∧ t = .int .i64 (avgS wt V k j) ∧ Hid (Ext wr wr2)) (fun _ i _ => m - (intOf i).toNat)
      case atStart => exact ⟨0, Nat.zero_le _, rfl, rfl, Lib.hid (Ext.refl _)⟩
      case round =>
        obtain ⟨j, hj, rfl, ht, HX2⟩ := hrel
        obtain ⟨T, hT⟩ : ∃ T, T = avgS wt V k j := ⟨_, rfl⟩
        have hTb := avgS_bd HV.out HW.out k j
        rw [← hT] at ht hTb
        subst ht
        have HT := Lib.hid hT
        clear hT
        have c1' := HX2.out.cellSome c1
        by_cases hlt2 : j < m
        · have HI2 := Lib.hid (HI1.out.ext HX2.out)
          obtain ⟨b, off, he, hc⟩ := HI2.out.at hlt2
          have hv1 := getD_bd HV.out j
          obtain ⟨v1, hy1⟩ : ∃ y, y = V[j]?.getD 0 := ⟨_, rfl⟩
          rw [← hy1] at hc hv1
          have HY1 := Lib.hid hy1
          clear hy1
          subst he
          have hb := bit_test0 (j : Int) k (by omega) (by omega)
          cases hbit : bit (j : Int) k
          · rw [hbit] at hb
            have HB := Lib.hid hbit
            have hu := up_lt h5 (by rw [← HMM.out]; exact hlt2) hlt hbit
            have hor := or_bit (s := j) (k := k) (by omega) (by omega) hbit
            obtain ⟨u, hu'⟩ : ∃ u : Nat, u = j + 2 ^ k := ⟨_, rfl⟩
            have hui : (j : Int) + 2 ^ k = (u : Int) := by rw [hu']; simp
            have hum : u < m := by rw [HMM.out, hu']; exact hu
            rw [hui] at hor
            obtain ⟨b2, off2, he2, hc2⟩ := HI2.out.at hum
            simp only [Option.some.injEq, Addr.mk.injEq, and_true] at he2
            obtain ⟨rfl, rfl⟩ := he2
            have hv2 := getD_bd HV.out u
            obtain ⟨v2, hy2⟩ : ∃ y, y = V[u]?.getD 0 := ⟨_, rfl⟩
            rw [← hy2] at hc2 hv2
            have HY2 := Lib.hid hy2
            have HU := Lib.hid hu'
            clear hy2 hbit hu hui hu'
            have hwb := HW.out (popN j)
            obtain ⟨W, hWt⟩ : ∃ W, W = wt (popN j) := ⟨_, rfl⟩
            rw [← hWt] at hwb
            have HWt := Lib.hid hWt
            clear hWt
            have hmul := wt_bd hwb.1 hwb.2 (y := v2 - v1) (by omega) (by omega)
            obtain ⟨X, hX⟩ : ∃ X, X = W * (v2 - v1) := ⟨_, rfl⟩
            rw [← hX] at hmul
            have HXX := Lib.hid hX
            have e1 : IntKind.i64.wrap (v2 - v1) = v2 - v1 := by rw [IntKind.wrap_i64]; omega
            have e2 : IntKind.i64.wrap (W * (v2 - v1)) = X := by rw [← hX, IntKind.wrap_i64]; omega
            have e3 : IntKind.i64.wrap (T + X) = T + X := by rw [IntKind.wrap_i64]; omega
            have e4 := kwrap_pow' k (by omega)
            have HU64 := Lib.hid (show IntKind.u64.wrap (j : Int) = (j : Int) by simp only [IntKind.wrap, IntKind.bits, IntKind.signed]; simp; omega)
            have hk2 : Ext wr wr.drew := Ext.drew wr
            have hum32 : u ≤ 32 := by omega
            clear hX hmul hwb hv1 hv2 hTb hp hp5
            go_wp2
            go_region_held3 (fun w' => w'.cell? ⟨w.heap.size, 1, none⟩ = some (.slice (some ⟨b, off, none⟩) m cap) ∧ w'.cell? ⟨b, off + u, none⟩ = some (.int .i64 v2) ∧ Ext wr w')
              (exact ⟨hk2.cellSome c1', hk2.cellSome hc2, hk2⟩)
              (first
                | (go_at_call 123; rw [HU64.out]; refine (i_OnesCount j (by omega) _).mono ?_; rintro e w' ⟨rfl, rfl⟩)
                | (refine (HF1.out (popN j) _ (by have := popN_le j; omega) (HX2.out.trans hk2)).mono ?_; rw [← HWt.out]; rintro e w5 ⟨rfl, hx5⟩; have hk2 := hk2.trans hx5))
            go_wp2
            go_roundw
            case rel => exact ⟨j + 1, by omega, by go_num, by unfold avgS; rw [HB.out, ← HT.out, ← HWt.out, ← HU.out, ← HY2.out, ← HY1.out, ← HXX.out]; simp [go_sem, e3], Lib.hid (HX2.out.trans hk2)⟩
            case measure => simp [intOf]; omega
          · rw [hbit] at hb
            have HB := Lib.hid hbit
            clear hbit
            go_wp2
            go_roundw
            case rel => exact ⟨j + 1, by omega, by go_num, by unfold avgS; rw [HB.out, ← HT.out]; simp, HX2⟩
            case measure => simp [intOf]; omega
        · have hjm : j = m := by omega
          subst hjm
          obtain ⟨p, q, ok, hpq⟩ : ∃ p q ok, ratOf T d = ((p, q), ok) := ⟨_, _, _, rfl⟩
          have HPQ := Lib.hid hpq
          have X12 := Lib.hid (HX1.out.trans HX2.out)
          have HO2 := Lib.hid (HO1.out.ext HX2.out)
          have hsz2 : w.heap.size + 1 ≤ wr.heap.size := by have := X12.out.size; simpa using this
          clear hpq
          go_wp2_with fail
          refine (i_RatOf _ _ _).mono ?_
          rw [HPQ.out]
          rintro e w3 ⟨rfl, hx3⟩
          have X3 := Lib.hid (X12.out.trans hx3)
          have HO3 := Lib.hid (HO2.out.ext hx3)
          have hsz3 := hx3.size
          clear hx3
          go_wp2_with (first
            | (at_builtin; refine append_rats rfl _ _ rfl (w.heap.size + 1) (.slice a1 n1 p1) _ rfl ((HO3.out.ext (Ext.alloc _ _)).ext (Ext.alloc _ _)) _ 1 _ [(p, q)] rfl (Rats.one' _ _ _ _ _ (by simp)) (by rw [avgT_len]; omega) (by simp; omega) ?_; intro v2 w4 ho hg hnear; obtain ⟨a2, n2, c2, rfl, HN2⟩ := ho.var; have HO4 := Lib.hid ho; have HG4 := Lib.hid hg; clear ho hg hnear))
          go_roundw
          case rel =>
            refine ⟨k + 1, a2, n2, c2, by omega, by go_num, rfl, Lib.hid ?_, Lib.hid ?_⟩
            · rw [avgT_succ, avgR, HL.out, ← HT.out, HPQ.out]; exact HO4.out
            · exact ext_grown (X3.out.trans ((Ext.alloc _ _).trans (Ext.alloc _ _))) HG4.out (fun j hj => by have := (HO3.out.lt j hj).1; simpa using this)
          case measure => simp [intOf]; omega
    · go_wp2
      go_ret
      have hkn : k = n := by omega
      subst hkn
      exact ⟨⟨_, rfl, HO1.out.mono (by omega)⟩, HX.out.trans HX1.out⟩
end Go.Proofs.Ytgohdmnbnhehnaa
namespace Go.Proofs.Ytgohdmnbnhehnaa
set_option linter.unusedVariables false
set_option linter.unusedSimpArgs false
set_option maxRecDepth 100000
open Go.RowKit
set_option maxHeartbeats 1000000 in
theorem s_l1Once {w : World} {cb : Nat} (h : Cur w cb) (n : Int) (hn : 1 ≤ n) :
    Calls Try.prog 58 #[.pointer (some ⟨cb, 0, none⟩), .int .i64 n] w fun e w' => (∃ b, e = .returned (.bool b)) ∧ Cur w' cb ∧ w.grownBy w' (some cb) := by
  have H := Lib.hid (s_l1Below h n hn)
  clear h
  go_enter Try.func58, Try.ntmps58
  go_wp2_with fail
  refine H.out.mono ?_
  rintro e w1 ⟨⟨x, rfl, hx0, hx1⟩, hc, hg⟩
  have HC := Lib.hid hc
  have HG := Lib.hid hg
  clear hc hg
  by_cases hx : x = 0
  · subst hx
    go_wp2_with fail
    go_ret
    exact ⟨⟨_, rfl⟩, HC.out, HG.out⟩
  · have hx' : (x == 0) = false := by simp [hx]
    go_wp2_with fail
    go_ret
    exact ⟨⟨_, rfl⟩, HC.out, HG.out⟩
def mateBx (r4 b5 : Nat) (x : Int) (a : Option Addr) (n c : Nat) : Bx := (Bx.nil.upd r4 (#[.int .i64 0, .slice none 0 0], 26)).upd b5 (#[.int .i64 x, .slice a n c], 26)
theorem mateBx5 (r4 b5 : Nat) (x : Int) (a : Option Addr) (n c : Nat) : mateBx r4 b5 x a n c b5 = some (#[.int .i64 x, .slice a n c], 26) := Bx.same _ _ _
theorem mateBx4 {r4 b5 : Nat} (h : r4 ≠ b5) (x : Int) (a : Option Addr) (n c : Nat) : mateBx r4 b5 x a n c r4 = some (#[.int .i64 0, .slice none 0 0], 26) := (Bx.other _ _ h).trans (Bx.same _ _ _)
end Go.Proofs.Ytgohdmnbnhehnaa
