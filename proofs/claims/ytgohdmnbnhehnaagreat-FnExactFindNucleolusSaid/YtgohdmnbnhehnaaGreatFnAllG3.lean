import Derived.Test.YtgohdmnbnhehnaaGreatFnAllG0
import Derived.Deep.RegionLaw
import Derived.Test.YtgohdmnbnhehnaaGreatFnAllG2
namespace Go.Proofs.YtgohdmnbnhehnaaGreat
set_option linter.unusedVariables false
def gI (a b : Int) : Int := (Int.gcd a b : Int)
theorem gI_step (a b : Int) : gI b (a.tmod b) = gI a b := by
 unfold gI Int.gcd
 rw [Int.natAbs_tmod, Nat.gcd_comm b.natAbs, ← Nat.gcd_rec, Nat.gcd_comm]
theorem gI_zero (a : Int) : gI a 0 = (a.natAbs : Int) := by simp [gI]
theorem gI_negl (a b : Int) : gI (-a) b = gI a b := by simp [gI, Int.gcd]
theorem gI_negr (a b : Int) : gI a (-b) = gI a b := by simp [gI, Int.gcd]
theorem gI_pos (a : Int) {b : Int} (h : b ≠ 0) : 1 ≤ gI a b := by
 unfold gI
 have : 0 < Int.gcd a b := Int.gcd_pos_of_ne_zero_right a h
 omega
theorem gI_nonneg (a b : Int) : 0 ≤ gI a b := by unfold gI; omega
theorem gI_le (a : Int) {b : Int} (h : b ≠ 0) : gI a b ≤ b.natAbs := by
 unfold gI Int.gcd
 exact_mod_cast Nat.gcd_le_right _ (by omega)
theorem gI_dvdl (a b : Int) : gI a b ∣ a := Int.gcd_dvd_left ..
theorem gI_dvdr (a b : Int) : gI a b ∣ b := Int.gcd_dvd_right ..
def valR (p : Int × Int) : Bool := inB p.2 1 1000000000 && (inB p.1 (-1000000000) 1000000000 && decide (gI p.1 p.2 = 1))
theorem valR_bd {p : Int × Int} (h : valR p = true) : 1 ≤ p.2 ∧ p.2 ≤ 1000000000 ∧ -1000000000 ≤ p.1 ∧ p.1 ≤ 1000000000 := by
 simp only [valR, inB, Bool.and_eq_true, decide_eq_true_eq] at h
 omega
theorem valR_neg (x y : Int) : valR (-x, y) = valR (x, y) := by
 have h1 : inB (-x) (-1000000000) 1000000000 = inB x (-1000000000) 1000000000 := by
  unfold inB
  have e1 : decide (-1000000000 ≤ -x) = decide (x ≤ 1000000000) := by by_cases h : x ≤ 1000000000 <;> simp [h] <;> omega
  have e2 : decide (-x ≤ 1000000000) = decide (-1000000000 ≤ x) := by by_cases h : -1000000000 ≤ x <;> simp [h] <;> omega
  rw [e1, e2, Bool.and_comm]
 simp only [valR, gI_negl, h1]
def cutR (p : Int × Int) : (Int × Int) × Bool := if valR p = true then (p, true) else ((0, 0), false)
def ratOf (n d : Int) : (Int × Int) × Bool :=
 if d = 0 ∨ inB n (-1000000000000000000) 1000000000000000000 = false ∨ inB d (-1000000000000000000) 1000000000000000000 = false then ((0, 0), false)
 else if d < 0 then cutR (n.tdiv (-gI n d), d.tdiv (-gI n d)) else cutR (n.tdiv (gI n d), d.tdiv (gI n d))
theorem cutR_val {p : Int × Int} (h : (cutR p).2 = true) : valR (cutR p).1 = true := by
 unfold cutR at h ⊢
 split at h
 ·next h1 => rw [if_pos h1]; exact h1
 ·simp at h
theorem ratOf_val {n d : Int} (h : (ratOf n d).2 = true) : valR (ratOf n d).1 = true := by
 unfold ratOf at h ⊢
 split at h
 ·simp at h
 ·next h1 =>
  rw [if_neg h1]
  split at h
  ·next h2 => rw [if_pos h2]; exact cutR_val h
  ·next h2 => rw [if_neg h2]; exact cutR_val h
theorem ratOf_no {n d : Int} (h : (ratOf n d).2 = false) : (ratOf n d).1 = (0, 0) := by
 unfold ratOf cutR at h ⊢
 split at h
 ·next h1 => rw [if_pos h1]
 ·next h1 =>
  rw [if_neg h1]
  split at h
  ·next h2 =>
   rw [if_pos h2]
   split at h
   ·simp at h
   ·next h3 => rw [if_neg h3]
  ·next h2 =>
   rw [if_neg h2]
   split at h
   ·simp at h
   ·next h3 => rw [if_neg h3]
theorem gI_cancel (n d : Int) (hd : 0 < d) : gI (n.tdiv (gI n d)) (d.tdiv (gI n d)) = 1 := by
 have hg := gI_pos n (show d ≠ 0 by omega)
 obtain ⟨k, hk⟩ := gI_dvdl n d
 obtain ⟨m, hm⟩ := gI_dvdr n d
 have h1 : n.tdiv (gI n d) = k := by conv => lhs; arg 1; rw [hk]
                                     exact Int.mul_tdiv_cancel_left _ (by omega)
 have h2 : d.tdiv (gI n d) = m := by conv => lhs; arg 1; rw [hm]
                                     exact Int.mul_tdiv_cancel_left _ (by omega)
 rw [h1, h2]
 have h3 : gI (gI n d * k) (gI n d * m) = gI n d := by rw [← hk, ← hm]
 have h4 : gI (gI n d * k) (gI n d * m) = gI n d * gI k m := by
  show ((Int.gcd _ _ : Nat) : Int) = _
  rw [Int.gcd_mul_left]
  have : ((gI n d).natAbs : Int) = gI n d := by omega
  rw [Int.natCast_mul, this]
  rfl
 rw [h3] at h4
 have h5 : gI n d * 1 = gI n d * gI k m := by omega
 have := Int.eq_of_mul_eq_mul_left (by omega) h5
 omega
theorem tdiv_abs (n g : Int) (hg : 1 ≤ g) : (n.tdiv g).natAbs ≤ n.natAbs := by
 rw [Int.natAbs_tdiv]
 exact Nat.div_le_self _ _
theorem ratOf_ok {n d : Int} (hd : 1 ≤ d) (hd' : d ≤ 1000000000) (h : -1000000000 ≤ n) (h' : n ≤ 1000000000) : (ratOf n d).2 = true := by
 have hg := gI_pos n (show d ≠ 0 by omega)
 have hgl := gI_le n (show d ≠ 0 by omega)
 unfold ratOf
 rw [if_neg (by simp [inB]; omega), if_neg (by omega)]
 unfold cutR
 have h1 := tdiv_abs n (gI n d) hg
 have h2 := tdiv_abs d (gI n d) hg
 have h3 : 1 ≤ d.tdiv (gI n d) := by
  obtain ⟨m, hm⟩ := gI_dvdr n d
  have h2 : d.tdiv (gI n d) = m := by conv => lhs; arg 1; rw [hm]
                                      exact Int.mul_tdiv_cancel_left _ (by omega)
  rw [h2]
  rcases Int.lt_or_le 0 m with h | h
  ·omega
  ·have : gI n d * m ≤ 0 := Int.mul_nonpos_of_nonneg_of_nonpos (by omega) h
   omega
 rw [if_pos]
 simp only [valR, inB, gI_cancel n d (by omega), Bool.and_eq_true, decide_eq_true_eq, and_true]
 omega
def addR (a b : Int × Int) : (Int × Int) × Bool := if (valR a && valR b) = true then ratOf (a.1 * b.2 + b.1 * a.2) (a.2 * b.2) else ((0, 0), false)
def subR (a b : Int × Int) : (Int × Int) × Bool := if (valR a && valR b) = true then ratOf (a.1 * b.2 - b.1 * a.2) (a.2 * b.2) else ((0, 0), false)
def mulR (a b : Int × Int) : (Int × Int) × Bool := if (valR a && valR b) = true then ratOf (a.1 * b.1) (a.2 * b.2) else ((0, 0), false)
def divR (a b : Int × Int) : (Int × Int) × Bool := if (valR a && valR b) = true then ratOf (a.1 * b.2) (a.2 * b.1) else ((0, 0), false)
def cmpR (a b : Int × Int) : Int := if (valR a && valR b) = true then (if a.1 * b.2 < b.1 * a.2 then -1 else if b.1 * a.2 < a.1 * b.2 then 1 else 0) else 0
theorem subR_add (a b : Int × Int) : addR a (-b.1, b.2) = subR a b := by
 unfold addR subR
 rw [valR_neg, Int.neg_mul, ← Int.sub_eq_add_neg]
theorem mul_bd {x y : Int} (h1 : -1000000000 ≤ x) (h2 : x ≤ 1000000000) (h3 : -1000000000 ≤ y) (h4 : y ≤ 1000000000) : -1000000000000000000 ≤ x * y ∧ x * y ≤ 1000000000000000000 := by
 have hx : x.natAbs ≤ 1000000000 := by omega
 have hy : y.natAbs ≤ 1000000000 := by omega
 have h : (x * y).natAbs ≤ 1000000000 * 1000000000 := by
  rw [Int.natAbs_mul]
  exact Nat.mul_le_mul hx hy
 omega
set_option linter.unusedSimpArgs false
set_option maxRecDepth 100000
open Go.RowKit
def in18 (a : Int) : Prop := -1000000000000000000 ≤ a ∧ a ≤ 1000000000000000000
theorem tmod_lt (p : Int) {q : Int} (h : q ≠ 0) : (p.tmod q).natAbs < q.natAbs := by
 rw [Int.natAbs_tmod]
 exact Nat.mod_lt _ (by omega)
theorem tmod_in (p : Int) {q : Int} (h : q ≠ 0) (hq : in18 q) : in18 (p.tmod q) := by
 have := tmod_lt p h
 unfold in18 at *
 revert this
 generalize p.tmod q = r
 intro this
 omega
set_option maxHeartbeats 1000000 in
theorem i_common (a b : Int) (w : World) (ha : in18 a) (hb : in18 b) :
 Calls Tryz.prog 116 #[.int .i64 a, .int .i64 b] w fun e w' => e = .returned (.int .i64 (gI a b)) ∧ Drew w w' := by
 go_enter Tryz.func116, Tryz.ntmps116
 go_wp2
 go_loopw [0, 1] (fun x y wr => ∃ p q : Int, x = .int .i64 p ∧ y = .int .i64 q ∧ Hid (gI p q = gI a b) ∧ Hid (in18 p) ∧ Hid (in18 q) ∧ Drew w wr) (fun _ y _ => (intOf y).natAbs)
 case atStart => exact ⟨a, b, rfl, rfl, Lib.hid rfl, Lib.hid ha, Lib.hid hb, Drew.refl _⟩
 case round =>
  obtain ⟨p, q, rfl, rfl, HG, HP, HQ, hx⟩ := hrel
  obtain ⟨hp1, hp2⟩ := HP.out
  obtain ⟨hq1, hq2⟩ := HQ.out
  by_cases hq : q = 0
  ·subst hq
   go_wp2
   all_goals
    go_ret
    refine ⟨ret_int ?_, hx⟩
    have := HG.out
    rw [gI_zero] at this
    omega
  ·have hqb : (q != 0) = true := by simpa using hq
   have hqb' : (q == 0) = false := by simpa using hq
   have ht := tmod_lt p hq
   have HT := Lib.hid ht
   have HQ' := Lib.hid hq
   go_wp2
   go_quiet (fail)
   go_wp2
   go_roundw
   case rel => exact ⟨q, p.tmod q, rfl, by go_num, Lib.hid (by rw [gI_step]; exact HG.out), HQ, Lib.hid (tmod_in p HQ'.out HQ.out), hx.trans ⟨_, rfl⟩⟩
   case measure => have h := HT.out; rw [Int.natAbs_tmod] at h; simp [intOf, Int.natAbs_tmod]; omega
set_option maxHeartbeats 1000000 in
theorem s_l3Gcd (a b : Int) (w : World) (ha : in18 a) (hb : in18 b) :
 Calls Tryz.prog 210 #[.int .i64 a, .int .i64 b] w fun e w' => e = .returned (.int .i64 (gI a b)) ∧ Drew w w' := by
 have ha' := ha
 have hb' := hb
 obtain ⟨ha1, ha2⟩ := ha'
 obtain ⟨hb1, hb2⟩ := hb'
 by_cases h1 : a < 0
 all_goals
  by_cases h2 : b < 0
  all_goals
   go_enter Tryz.func210, Tryz.ntmps210
   go_wp2
   go_loop [0, 1, 5] (fun x y z => ∃ p q : Int, x = .int .i64 p ∧ y = .int .i64 q ∧ 0 ≤ p ∧ 0 ≤ q ∧ Hid (gI p q = gI a b) ∧ Hid (in18 p) ∧ Hid (in18 q)) (fun _ y _ => (intOf y).natAbs)
   case atStart =>
    first
     | exact ⟨_, _, rfl, rfl, by omega, by omega, Lib.hid rfl, Lib.hid ha, Lib.hid hb⟩
     | exact ⟨-a, _, by go_num, rfl, by omega, by omega, Lib.hid (gI_negl _ _), Lib.hid ⟨by omega, by omega⟩, Lib.hid hb⟩
     | exact ⟨_, -b, rfl, by go_num, by omega, by omega, Lib.hid (gI_negr _ _), Lib.hid ha, Lib.hid ⟨by omega, by omega⟩⟩
     | exact ⟨-a, -b, by go_num, by go_num, by omega, by omega, Lib.hid ((gI_negl _ _).trans (gI_negr _ _)), Lib.hid ⟨by omega, by omega⟩, Lib.hid ⟨by omega, by omega⟩⟩
   case round =>
    obtain ⟨p, q, rfl, rfl, hp0, hq0, HG, HP, HQ⟩ := hrel
    by_cases hq : q = 0
    ·subst hq
     go_wp2
     go_ret
     refine ⟨ret_int ?_, Drew.refl _⟩
     have := HG.out
     rw [gI_zero] at this
     omega
    ·have hqb' : (q == 0) = false := by simpa using hq
     have hgt : 0 < q := by omega
     have HT := Lib.hid (Int.emod_lt_of_pos p hgt)
     have HTN := Lib.hid (Int.emod_nonneg p hq)
     have HQ' := Lib.hid hq
     have HM := Lib.hid (Int.tmod_eq_emod_of_nonneg (b := q) hp0)
     go_wp2
     go_round
     case rel => exact ⟨q, p % q, rfl, by go_num, by omega, HTN.out, Lib.hid (by rw [← HM.out, gI_step]; exact HG.out), HQ, Lib.hid (by rw [← HM.out]; exact tmod_in p HQ'.out HQ.out)⟩
     case measure => have := HT.out; have := HTN.out; simp [intOf]; omega
abbrev ratV (x y : Int) : Value := .agg #[.int .i64 x, .int .i64 y]
abbrev resR (r : (Int × Int) × Bool) : Value := .tuple #[.agg #[.int .i64 r.1.1, .int .i64 r.1.2], .bool r.2]
theorem in18_neg {a : Int} (h : in18 a) : in18 (-a) := by unfold in18 at *; omega
theorem quo_in (n : Int) {g : Int} (hg : 1 ≤ g) (hn : in18 n) : in18 (n.tdiv g) := by
 have := tdiv_abs n g hg
 unfold in18 at *
 revert this
 generalize n.tdiv g = r
 intro this
 omega
theorem kwrap_in {a : Int} (h : in18 a) : IntKind.i64.wrap a = a ∧ wrap64 a = a := by
 unfold in18 at h
 have : wrap64 a = a := by unfold wrap64; omega
 exact ⟨by rw [IntKind.wrap_i64]; omega, this⟩
set_option maxHeartbeats 1000000 in
theorem i_IsValidRat (x y : Int) (w : World) :
 Calls Tryz.prog 163 #[ratV x y] w fun e w' => e = .returned (.bool (valR (x, y))) ∧ Ext w w' := by
 have HX := Lib.hid (Ext.alloc w (.cells #[.int .i64 x, .int .i64 y] 85))
 cases h1 : inB y 1 1000000000
 ·have H1 := Lib.hid h1
  clear h1
  go_enter Tryz.func163, Tryz.ntmps163
  go_wp2_with fail
  refine (i_within _ _ _ _).mono ?_
  rw [H1.out]
  rintro e w1 ⟨rfl, rfl⟩
  go_wp2
  go_ret
  exact ⟨ret_bool (by simp [valR, H1.out]), HX.out⟩
 ·have H1 := Lib.hid h1
  have hy : in18 y := by simp only [inB, Bool.and_eq_true, decide_eq_true_eq] at h1; exact ⟨by omega, by omega⟩
  clear h1
  cases h2 : inB x (-1000000000) 1000000000
  ·have H2 := Lib.hid h2
   clear h2
   go_enter Tryz.func163, Tryz.ntmps163
   go_wp2_with fail
   refine (i_within _ _ _ _).mono ?_
   rw [H1.out]
   rintro e w1 ⟨rfl, rfl⟩
   go_wp2_with fail
   refine (i_within _ _ _ _).mono ?_
   rw [H2.out]
   rintro e w1 ⟨rfl, rfl⟩
   go_wp2
   go_ret
   exact ⟨ret_bool (by simp [valR, H2.out]), HX.out⟩
  ·have H2 := Lib.hid h2
   have hx : in18 x := by simp only [inB, Bool.and_eq_true, decide_eq_true_eq] at h2; exact ⟨by omega, by omega⟩
   clear h2
   have HC := Lib.hid (i_common x y (w.alloc (.cells #[.int .i64 x, .int .i64 y] 85)) hx hy)
   go_enter Tryz.func163, Tryz.ntmps163
   go_wp2_with fail
   refine (i_within _ _ _ _).mono ?_
   rw [H1.out]
   rintro e w1 ⟨rfl, rfl⟩
   go_wp2_with fail
   refine (i_within _ _ _ _).mono ?_
   rw [H2.out]
   rintro e w1 ⟨rfl, rfl⟩
   go_wp2_with fail
   refine HC.out.mono ?_
   rintro e w1 ⟨rfl, hd⟩
   go_wp2
   go_ret
   exact ⟨ret_bool (by simp only [valR, H1.out, H2.out]; by_cases h : gI x y = 1 <;> simp [h]), HX.out.trans hd.ext⟩
set_option maxHeartbeats 1000000 in
theorem s_IsValidRat (x y : Int) (w : World) :
 Calls Tryz.prog 166 #[ratV x y] w fun e w' => e = .returned (.bool (valR (x, y))) ∧ Ext w w' := by
 have HX := Lib.hid (Ext.alloc w (.cells #[.int .i64 x, .int .i64 y] 85))
 cases h1 : inB y 1 1000000000
 ·have H1 := Lib.hid h1
  clear h1
  go_enter Tryz.func166, Tryz.ntmps166
  go_wp2_with fail
  refine (s_l1In _ _ _ _).mono ?_
  rw [H1.out]
  rintro e w1 ⟨rfl, rfl⟩
  go_wp2
  go_ret
  exact ⟨ret_bool (by simp [valR, H1.out]), HX.out⟩
 ·have H1 := Lib.hid h1
  have hy : in18 y := by simp only [inB, Bool.and_eq_true, decide_eq_true_eq] at h1; exact ⟨by omega, by omega⟩
  clear h1
  cases h2 : inB x (-1000000000) 1000000000
  ·have H2 := Lib.hid h2
   clear h2
   go_enter Tryz.func166, Tryz.ntmps166
   go_wp2_with fail
   refine (s_l1In _ _ _ _).mono ?_
   rw [H1.out]
   rintro e w1 ⟨rfl, rfl⟩
   go_wp2_with fail
   refine (s_l1In _ _ _ _).mono ?_
   rw [H2.out]
   rintro e w1 ⟨rfl, rfl⟩
   go_wp2
   go_ret
   exact ⟨ret_bool (by simp [valR, H2.out]), HX.out⟩
  ·have H2 := Lib.hid h2
   have hx : in18 x := by simp only [inB, Bool.and_eq_true, decide_eq_true_eq] at h2; exact ⟨by omega, by omega⟩
   clear h2
   have HC := Lib.hid (s_l3Gcd x y (w.alloc (.cells #[.int .i64 x, .int .i64 y] 85)) hx hy)
   go_enter Tryz.func166, Tryz.ntmps166
   go_wp2_with fail
   refine (s_l1In _ _ _ _).mono ?_
   rw [H1.out]
   rintro e w1 ⟨rfl, rfl⟩
   go_wp2_with fail
   refine (s_l1In _ _ _ _).mono ?_
   rw [H2.out]
   rintro e w1 ⟨rfl, rfl⟩
   go_wp2_with fail
   refine HC.out.mono ?_
   rintro e w1 ⟨rfl, hd⟩
   go_wp2
   go_ret
   exact ⟨ret_bool (by simp only [valR, H1.out, H2.out]; by_cases h : gI x y = 1 <;> simp [h]), HX.out.trans hd.ext⟩
set_option maxHeartbeats 4000000 in
theorem i_RatOf (n d : Int) (w : World) :
 Calls Tryz.prog 164 #[.int .i64 n, .int .i64 d] w fun e w' => e = .returned (resR (ratOf n d)) ∧ Ext w w' := by
 have HX := Lib.hid (Ext.alloc w (.cells #[.int .i64 0, .int .i64 0] 85))
 by_cases h0 : d = 0
 ·have HR := Lib.hid (show ratOf n d = ((0, 0), false) by unfold ratOf; rw [if_pos (.inl h0)])
  subst h0
  go_enter Tryz.func164, Tryz.ntmps164
  go_wp2
  rw [HR.out]
  refine bodyPost_ret (v := .tuple #[.agg #[.int .i64 0, .int .i64 0], .bool false]) (by simp [results, Tryz.results164, go_sem]) rfl ⟨rfl, HX.out⟩
 have h0b : (d == 0) = false := by simpa using h0
 cases h1 : inB n (-1000000000000000000) 1000000000000000000
 ·have H1 := Lib.hid h1
  clear h1
  have HR := Lib.hid (show ratOf n d = ((0, 0), false) by unfold ratOf; rw [if_pos (.inr (.inl H1.out))])
  go_enter Tryz.func164, Tryz.ntmps164
  go_wp2_with fail
  refine (i_within _ _ _ _).mono ?_
  rw [H1.out]
  rintro e w1 ⟨rfl, rfl⟩
  go_wp2
  rw [HR.out]
  refine bodyPost_ret (v := .tuple #[.agg #[.int .i64 0, .int .i64 0], .bool false]) (by simp [results, Tryz.results164, go_sem]) rfl ⟨rfl, HX.out⟩
 have H1 := Lib.hid h1
 have hn : in18 n := by simp only [inB, Bool.and_eq_true, decide_eq_true_eq] at h1; exact ⟨by omega, by omega⟩
 clear h1
 cases h2 : inB d (-1000000000000000000) 1000000000000000000
 ·have H2 := Lib.hid h2
  clear h2
  have HR := Lib.hid (show ratOf n d = ((0, 0), false) by unfold ratOf; rw [if_pos (.inr (.inr H2.out))])
  go_enter Tryz.func164, Tryz.ntmps164
  go_wp2_with fail
  refine (i_within _ _ _ _).mono ?_
  rw [H1.out]
  rintro e w1 ⟨rfl, rfl⟩
  go_wp2_with fail
  refine (i_within _ _ _ _).mono ?_
  rw [H2.out]
  rintro e w1 ⟨rfl, rfl⟩
  go_wp2
  rw [HR.out]
  refine bodyPost_ret (v := .tuple #[.agg #[.int .i64 0, .int .i64 0], .bool false]) (by simp [results, Tryz.results164, go_sem]) rfl ⟨rfl, HX.out⟩
 have H2 := Lib.hid h2
 have hd : in18 d := by simp only [inB, Bool.and_eq_true, decide_eq_true_eq] at h2; exact ⟨by omega, by omega⟩
 clear h2
 have hg1 := gI_pos n h0
 have hg2 := gI_le n h0
 have hq := quo_in n hg1 hn
 have hq' := quo_in d hg1 hd
 by_cases h3 : d < 0
 ·have HC := Lib.hid (i_common n d (w.alloc (.cells #[.int .i64 0, .int .i64 0] 85)) hn hd)
  obtain ⟨g, hg⟩ : ∃ g, g = gI n d := ⟨_, rfl⟩
  rw [← hg] at hg1 hg2 HC hq hq'
  have HG := Lib.hid hg
  have hg3 : g ≤ 1000000000000000000 := by obtain ⟨_, _⟩ := hd; omega
  have hgz : ¬ g = 0 := by omega
  have hgn : (-g == 0) = false := by simp; omega
  obtain ⟨hn1, hn2⟩ := hn
  obtain ⟨hd1, hd2⟩ := hd
  obtain ⟨q1, hq1⟩ : ∃ q1, q1 = -(n.tdiv g) := ⟨_, rfl⟩
  obtain ⟨q2, hq2⟩ : ∃ q2, q2 = -(d.tdiv g) := ⟨_, rfl⟩
  have HR := Lib.hid (show ratOf n d = cutR (q1, q2) by unfold ratOf; rw [if_neg (by simp [h0, H1.out, H2.out]), if_pos h3, ← HG.out, Int.tdiv_neg, Int.tdiv_neg, hq1, hq2])
  obtain ⟨e1, e2⟩ := kwrap_in (in18_neg hq)
  obtain ⟨e3, e4⟩ := kwrap_in (in18_neg hq')
  rw [← hq1] at e1 e2
  rw [← hq2] at e3 e4
  have m1 : (-n).tdiv g = q1 := by rw [Int.neg_tdiv, hq1]
  have m2 : (-d).tdiv g = q2 := by rw [Int.neg_tdiv, hq2]
  have m3 : n.tdiv (-g) = q1 := by rw [Int.tdiv_neg, hq1]
  have m4 : d.tdiv (-g) = q2 := by rw [Int.tdiv_neg, hq2]
  have hq1' := hq1.symm
  have hq2' := hq2.symm
  clear hq hq' hg hg2 hq1 hq2
  cases hv : valR (q1, q2)
  all_goals
   go_enter Tryz.func164, Tryz.ntmps164
   go_wp2_with fail
   refine (i_within _ _ _ _).mono ?_
   rw [H1.out]
   rintro e w1 ⟨rfl, rfl⟩
   go_wp2_with fail
   refine (i_within _ _ _ _).mono ?_
   rw [H2.out]
   rintro e w1 ⟨rfl, rfl⟩
   go_wp2_with fail
   refine HC.out.mono ?_
   rintro e w1 ⟨rfl, hd⟩
   have hB : w1.heap[w.heap.size]? = some (.cells #[.int .i64 0, .int .i64 0] 85 (0, 0)) := (hd.ext.block _ (by simp)).trans (heap_alloc_new _ _)
   have HB := Lib.hid hB
   have LT := Lib.hid (lt_of_block hB)
   have X1 := Lib.hid (HX.out.trans hd.ext)
   clear hd hB
   go_wp2
   go_region_law (fail)
   have X2 := Lib.hid ((X1.out.trans (Ext.alloc w1 (.cells #[.int .i64 q1, .int .i64 q2] 85))).trans (Ext.drew _))
   have HV := Lib.hid (i_IsValidRat q1 q2 ((w1.alloc (.cells #[.int .i64 q1, .int .i64 q2] 85)).drew))
   go_wp2_with fail
   refine HV.out.mono ?_
   rw [hv]
   rintro e w2 ⟨rfl, hx⟩
   have lt := LT.out
   have hB : w2.heap[w.heap.size]? = some (.cells #[.int .i64 0, .int .i64 0] 85 (0, 0)) := (hx.block _ (by simp; omega)).trans ((heapA_old w1 (.cells #[.int .i64 q1, .int .i64 q2] 85) _ lt).trans HB.out)
   have hC : w2.heap[w1.heap.size]? = some (.cells #[.int .i64 q1, .int .i64 q2] 85 (0, 0)) := (hx.block _ (by simp)).trans (heap_alloc_new w1 (.cells #[.int .i64 q1, .int .i64 q2] 85))
   have b0 : w2.cell? ⟨w.heap.size, 0, none⟩ = some (.int .i64 0) := by rw [cell_of_row _ _ _ _ _ _ hB]; rfl
   have b1 : w2.cell? ⟨w.heap.size, 1, none⟩ = some (.int .i64 0) := by rw [cell_of_row _ _ _ _ _ _ hB]; rfl
   have c0 : w2.cell? ⟨w1.heap.size, 0, none⟩ = some (.int .i64 q1) := by rw [cell_of_row _ _ _ _ _ _ hC]; rfl
   have c1 : w2.cell? ⟨w1.heap.size, 1, none⟩ = some (.int .i64 q2) := by rw [cell_of_row _ _ _ _ _ _ hC]; rfl
   have fb : ∀ o, w2.frozen? ⟨w.heap.size, o, none⟩ = false := fun o => frozen_of_row _ _ _ _ _ hB
   have X3 := Lib.hid (X2.out.trans hx)
   clear hx hB hC lt
   go_wp2
   rw [HR.out]
  ·refine bodyPost_ret (v := .tuple #[.agg #[.int .i64 0, .int .i64 0], .bool false]) (by simp [results, Tryz.results164, go_sem, b0, b1]) rfl ⟨by simp [cutR, hv], ?_⟩
   exact (X3.out.setCell (by simp) _).setCell (by simp) _
  ·refine bodyPost_ret (v := .tuple #[.agg #[.int .i64 q1, .int .i64 q2], .bool true]) (by simp [results, Tryz.results164, go_sem, b0, b1]) rfl ⟨by simp [cutR, hv], ?_⟩
   exact (X3.out.setCell (by simp) _).setCell (by simp) _
 ·have HC := Lib.hid (i_common n d (w.alloc (.cells #[.int .i64 0, .int .i64 0] 85)) hn hd)
  obtain ⟨g, hg⟩ : ∃ g, g = gI n d := ⟨_, rfl⟩
  rw [← hg] at hg1 hg2 HC hq hq'
  have HG := Lib.hid hg
  have hg3 : g ≤ 1000000000000000000 := by obtain ⟨_, _⟩ := hd; omega
  have hgz : ¬ g = 0 := by omega
  obtain ⟨hn1, hn2⟩ := hn
  obtain ⟨hd1, hd2⟩ := hd
  obtain ⟨q1, hq1⟩ : ∃ q1, q1 = n.tdiv g := ⟨_, rfl⟩
  obtain ⟨q2, hq2⟩ : ∃ q2, q2 = d.tdiv g := ⟨_, rfl⟩
  have HR := Lib.hid (show ratOf n d = cutR (q1, q2) by unfold ratOf; rw [if_neg (by simp [h0, H1.out, H2.out]), if_neg h3, ← HG.out, hq1, hq2])
  have hm : d.tdiv g = d / g := Int.tdiv_eq_ediv_of_nonneg (by omega)
  obtain ⟨e1, e2⟩ := kwrap_in hq
  obtain ⟨e3, e4⟩ := kwrap_in hq'
  rw [← hq1] at e1 e2
  rw [← hq2] at e3 e4
  have hq1' := hq1.symm
  have hq2' := hq2.symm
  have hq3' : d / g = q2 := by rw [← hm, hq2]
  clear hq hq' hg hg2 hq1 hq2 hm
  cases hv : valR (q1, q2)
  all_goals
   go_enter Tryz.func164, Tryz.ntmps164
   go_wp2_with fail
   refine (i_within _ _ _ _).mono ?_
   rw [H1.out]
   rintro e w1 ⟨rfl, rfl⟩
   go_wp2_with fail
   refine (i_within _ _ _ _).mono ?_
   rw [H2.out]
   rintro e w1 ⟨rfl, rfl⟩
   go_wp2_with fail
   refine HC.out.mono ?_
   rintro e w1 ⟨rfl, hd⟩
   have hB : w1.heap[w.heap.size]? = some (.cells #[.int .i64 0, .int .i64 0] 85 (0, 0)) := (hd.ext.block _ (by simp)).trans (heap_alloc_new _ _)
   have HB := Lib.hid hB
   have LT := Lib.hid (lt_of_block hB)
   have X1 := Lib.hid (HX.out.trans hd.ext)
   clear hd hB
   go_wp2
   go_region_law (fail)
   have X2 := Lib.hid ((X1.out.trans (Ext.alloc w1 (.cells #[.int .i64 q1, .int .i64 q2] 85))).trans (Ext.drew _))
   have HV := Lib.hid (i_IsValidRat q1 q2 ((w1.alloc (.cells #[.int .i64 q1, .int .i64 q2] 85)).drew))
   go_wp2_with fail
   refine HV.out.mono ?_
   rw [hv]
   rintro e w2 ⟨rfl, hx⟩
   have lt := LT.out
   have hB : w2.heap[w.heap.size]? = some (.cells #[.int .i64 0, .int .i64 0] 85 (0, 0)) := (hx.block _ (by simp; omega)).trans ((heapA_old w1 (.cells #[.int .i64 q1, .int .i64 q2] 85) _ lt).trans HB.out)
   have hC : w2.heap[w1.heap.size]? = some (.cells #[.int .i64 q1, .int .i64 q2] 85 (0, 0)) := (hx.block _ (by simp)).trans (heap_alloc_new w1 (.cells #[.int .i64 q1, .int .i64 q2] 85))
   have b0 : w2.cell? ⟨w.heap.size, 0, none⟩ = some (.int .i64 0) := by rw [cell_of_row _ _ _ _ _ _ hB]; rfl
   have b1 : w2.cell? ⟨w.heap.size, 1, none⟩ = some (.int .i64 0) := by rw [cell_of_row _ _ _ _ _ _ hB]; rfl
   have c0 : w2.cell? ⟨w1.heap.size, 0, none⟩ = some (.int .i64 q1) := by rw [cell_of_row _ _ _ _ _ _ hC]; rfl
   have c1 : w2.cell? ⟨w1.heap.size, 1, none⟩ = some (.int .i64 q2) := by rw [cell_of_row _ _ _ _ _ _ hC]; rfl
   have fb : ∀ o, w2.frozen? ⟨w.heap.size, o, none⟩ = false := fun o => frozen_of_row _ _ _ _ _ hB
   have X3 := Lib.hid (X2.out.trans hx)
   clear hx hB hC lt
   go_wp2
   rw [HR.out]
  ·refine bodyPost_ret (v := .tuple #[.agg #[.int .i64 0, .int .i64 0], .bool false]) (by simp [results, Tryz.results164, go_sem, b0, b1]) rfl ⟨by simp [cutR, hv], ?_⟩
   exact (X3.out.setCell (by simp) _).setCell (by simp) _
  ·refine bodyPost_ret (v := .tuple #[.agg #[.int .i64 q1, .int .i64 q2], .bool true]) (by simp [results, Tryz.results164, go_sem, b0, b1]) rfl ⟨by simp [cutR, hv], ?_⟩
   exact (X3.out.setCell (by simp) _).setCell (by simp) _
set_option maxHeartbeats 4000000 in
theorem s_RatOf (n d : Int) (w : World) :
 Calls Tryz.prog 162 #[.int .i64 n, .int .i64 d] w fun e w' => e = .returned (resR (ratOf n d)) ∧ Ext w w' := by
 have HX := Lib.hid (Ext.alloc w (.cells #[.int .i64 0, .int .i64 0] 85))
 by_cases h0 : d = 0
 ·have HR := Lib.hid (show ratOf n d = ((0, 0), false) by unfold ratOf; rw [if_pos (.inl h0)])
  subst h0
  go_enter Tryz.func162, Tryz.ntmps162
  go_wp2
  rw [HR.out]
  refine bodyPost_ret (v := .tuple #[.agg #[.int .i64 0, .int .i64 0], .bool false]) (by simp [results, Tryz.results162, go_sem]) rfl ⟨rfl, HX.out⟩
 have h0b : (d == 0) = false := by simpa using h0
 cases h1 : inB n (-1000000000000000000) 1000000000000000000
 ·have H1 := Lib.hid h1
  clear h1
  have HR := Lib.hid (show ratOf n d = ((0, 0), false) by unfold ratOf; rw [if_pos (.inr (.inl H1.out))])
  go_enter Tryz.func162, Tryz.ntmps162
  go_wp2_with fail
  refine (s_l1In _ _ _ _).mono ?_
  rw [H1.out]
  rintro e w1 ⟨rfl, rfl⟩
  go_wp2
  rw [HR.out]
  refine bodyPost_ret (v := .tuple #[.agg #[.int .i64 0, .int .i64 0], .bool false]) (by simp [results, Tryz.results162, go_sem]) rfl ⟨rfl, HX.out⟩
 have H1 := Lib.hid h1
 have hn : in18 n := by simp only [inB, Bool.and_eq_true, decide_eq_true_eq] at h1; exact ⟨by omega, by omega⟩
 clear h1
 cases h2 : inB d (-1000000000000000000) 1000000000000000000
 ·have H2 := Lib.hid h2
  clear h2
  have HR := Lib.hid (show ratOf n d = ((0, 0), false) by unfold ratOf; rw [if_pos (.inr (.inr H2.out))])
  go_enter Tryz.func162, Tryz.ntmps162
  go_wp2_with fail
  refine (s_l1In _ _ _ _).mono ?_
  rw [H1.out]
  rintro e w1 ⟨rfl, rfl⟩
  go_wp2_with fail
  refine (s_l1In _ _ _ _).mono ?_
  rw [H2.out]
  rintro e w1 ⟨rfl, rfl⟩
  go_wp2
  rw [HR.out]
  refine bodyPost_ret (v := .tuple #[.agg #[.int .i64 0, .int .i64 0], .bool false]) (by simp [results, Tryz.results162, go_sem]) rfl ⟨rfl, HX.out⟩
 have H2 := Lib.hid h2
 have hd : in18 d := by simp only [inB, Bool.and_eq_true, decide_eq_true_eq] at h2; exact ⟨by omega, by omega⟩
 clear h2
 have hg1 := gI_pos n h0
 have hg2 := gI_le n h0
 have hq := quo_in n hg1 hn
 have hq' := quo_in d hg1 hd
 by_cases h3 : d < 0
 ·have HC := Lib.hid (s_l3Gcd (-n) (-d) (w.alloc (.cells #[.int .i64 0, .int .i64 0] 85)) (in18_neg hn) (in18_neg hd))
  rw [gI_negl, gI_negr] at HC
  obtain ⟨g, hg⟩ : ∃ g, g = gI n d := ⟨_, rfl⟩
  rw [← hg] at hg1 hg2 HC hq hq'
  have HG := Lib.hid hg
  have hg3 : g ≤ 1000000000000000000 := by obtain ⟨_, _⟩ := hd; omega
  have hgz : ¬ g = 0 := by omega
  have hgn : (-g == 0) = false := by simp; omega
  obtain ⟨hn1, hn2⟩ := hn
  obtain ⟨hd1, hd2⟩ := hd
  obtain ⟨q1, hq1⟩ : ∃ q1, q1 = -(n.tdiv g) := ⟨_, rfl⟩
  obtain ⟨q2, hq2⟩ : ∃ q2, q2 = -(d.tdiv g) := ⟨_, rfl⟩
  have HR := Lib.hid (show ratOf n d = cutR (q1, q2) by unfold ratOf; rw [if_neg (by simp [h0, H1.out, H2.out]), if_pos h3, ← HG.out, Int.tdiv_neg, Int.tdiv_neg, hq1, hq2])
  obtain ⟨e1, e2⟩ := kwrap_in (in18_neg hq)
  obtain ⟨e3, e4⟩ := kwrap_in (in18_neg hq')
  rw [← hq1] at e1 e2
  rw [← hq2] at e3 e4
  have m1 : (-n).tdiv g = q1 := by rw [Int.neg_tdiv, hq1]
  have m2 : (-d).tdiv g = q2 := by rw [Int.neg_tdiv, hq2]
  have m3 : n.tdiv (-g) = q1 := by rw [Int.tdiv_neg, hq1]
  have m4 : d.tdiv (-g) = q2 := by rw [Int.tdiv_neg, hq2]
  have hq1' := hq1.symm
  have hq2' := hq2.symm
  clear hq hq' hg hg2 hq1 hq2
  cases hv : valR (q1, q2)
  all_goals
   go_enter Tryz.func162, Tryz.ntmps162
   go_wp2_with fail
   refine (s_l1In _ _ _ _).mono ?_
   rw [H1.out]
   rintro e w1 ⟨rfl, rfl⟩
   go_wp2_with fail
   refine (s_l1In _ _ _ _).mono ?_
   rw [H2.out]
   rintro e w1 ⟨rfl, rfl⟩
   go_wp2_with fail
   refine HC.out.mono ?_
   rintro e w1 ⟨rfl, hd⟩
   have hB : w1.heap[w.heap.size]? = some (.cells #[.int .i64 0, .int .i64 0] 85 (0, 0)) := (hd.ext.block _ (by simp)).trans (heap_alloc_new _ _)
   have HB := Lib.hid hB
   have LT := Lib.hid (lt_of_block hB)
   have X1 := Lib.hid (HX.out.trans hd.ext)
   clear hd hB
   go_wp2
   go_region_law (fail)
   have X2 := Lib.hid ((X1.out.trans (Ext.alloc w1 (.cells #[.int .i64 q1, .int .i64 q2] 85))).trans (Ext.drew _))
   have HV := Lib.hid (s_IsValidRat q1 q2 ((w1.alloc (.cells #[.int .i64 q1, .int .i64 q2] 85)).drew))
   go_wp2_with fail
   refine HV.out.mono ?_
   rw [hv]
   rintro e w2 ⟨rfl, hx⟩
   have lt := LT.out
   have hB : w2.heap[w.heap.size]? = some (.cells #[.int .i64 0, .int .i64 0] 85 (0, 0)) := (hx.block _ (by simp; omega)).trans ((heapA_old w1 (.cells #[.int .i64 q1, .int .i64 q2] 85) _ lt).trans HB.out)
   have hC : w2.heap[w1.heap.size]? = some (.cells #[.int .i64 q1, .int .i64 q2] 85 (0, 0)) := (hx.block _ (by simp)).trans (heap_alloc_new w1 (.cells #[.int .i64 q1, .int .i64 q2] 85))
   have b0 : w2.cell? ⟨w.heap.size, 0, none⟩ = some (.int .i64 0) := by rw [cell_of_row _ _ _ _ _ _ hB]; rfl
   have b1 : w2.cell? ⟨w.heap.size, 1, none⟩ = some (.int .i64 0) := by rw [cell_of_row _ _ _ _ _ _ hB]; rfl
   have c0 : w2.cell? ⟨w1.heap.size, 0, none⟩ = some (.int .i64 q1) := by rw [cell_of_row _ _ _ _ _ _ hC]; rfl
   have c1 : w2.cell? ⟨w1.heap.size, 1, none⟩ = some (.int .i64 q2) := by rw [cell_of_row _ _ _ _ _ _ hC]; rfl
   have fb : ∀ o, w2.frozen? ⟨w.heap.size, o, none⟩ = false := fun o => frozen_of_row _ _ _ _ _ hB
   have X3 := Lib.hid (X2.out.trans hx)
   clear hx hB hC lt
   go_wp2
   rw [HR.out]
  ·refine bodyPost_ret (v := .tuple #[.agg #[.int .i64 0, .int .i64 0], .bool false]) (by simp [results, Tryz.results162, go_sem, b0, b1]) rfl ⟨by simp [cutR, hv], ?_⟩
   exact (X3.out.setCell (by simp) _).setCell (by simp) _
  ·refine bodyPost_ret (v := .tuple #[.agg #[.int .i64 q1, .int .i64 q2], .bool true]) (by simp [results, Tryz.results162, go_sem, b0, b1]) rfl ⟨by simp [cutR, hv], ?_⟩
   exact (X3.out.setCell (by simp) _).setCell (by simp) _
 ·have HC := Lib.hid (s_l3Gcd n d (w.alloc (.cells #[.int .i64 0, .int .i64 0] 85)) hn hd)
  obtain ⟨g, hg⟩ : ∃ g, g = gI n d := ⟨_, rfl⟩
  rw [← hg] at hg1 hg2 HC hq hq'
  have HG := Lib.hid hg
  have hg3 : g ≤ 1000000000000000000 := by obtain ⟨_, _⟩ := hd; omega
  have hgz : ¬ g = 0 := by omega
  obtain ⟨hn1, hn2⟩ := hn
  obtain ⟨hd1, hd2⟩ := hd
  obtain ⟨q1, hq1⟩ : ∃ q1, q1 = n.tdiv g := ⟨_, rfl⟩
  obtain ⟨q2, hq2⟩ : ∃ q2, q2 = d.tdiv g := ⟨_, rfl⟩
  have HR := Lib.hid (show ratOf n d = cutR (q1, q2) by unfold ratOf; rw [if_neg (by simp [h0, H1.out, H2.out]), if_neg h3, ← HG.out, hq1, hq2])
  have hm : d.tdiv g = d / g := Int.tdiv_eq_ediv_of_nonneg (by omega)
  obtain ⟨e1, e2⟩ := kwrap_in hq
  obtain ⟨e3, e4⟩ := kwrap_in hq'
  rw [← hq1] at e1 e2
  rw [← hq2] at e3 e4
  have hq1' := hq1.symm
  have hq2' := hq2.symm
  have hq3' : d / g = q2 := by rw [← hm, hq2]
  clear hq hq' hg hg2 hq1 hq2 hm
  cases hv : valR (q1, q2)
  all_goals
   go_enter Tryz.func162, Tryz.ntmps162
   go_wp2_with fail
   refine (s_l1In _ _ _ _).mono ?_
   rw [H1.out]
   rintro e w1 ⟨rfl, rfl⟩
   go_wp2_with fail
   refine (s_l1In _ _ _ _).mono ?_
   rw [H2.out]
   rintro e w1 ⟨rfl, rfl⟩
   go_wp2_with fail
   refine HC.out.mono ?_
   rintro e w1 ⟨rfl, hd⟩
   have hB : w1.heap[w.heap.size]? = some (.cells #[.int .i64 0, .int .i64 0] 85 (0, 0)) := (hd.ext.block _ (by simp)).trans (heap_alloc_new _ _)
   have HB := Lib.hid hB
   have LT := Lib.hid (lt_of_block hB)
   have X1 := Lib.hid (HX.out.trans hd.ext)
   clear hd hB
   go_wp2
   go_region_law (fail)
   have X2 := Lib.hid ((X1.out.trans (Ext.alloc w1 (.cells #[.int .i64 q1, .int .i64 q2] 85))).trans (Ext.drew _))
   have HV := Lib.hid (s_IsValidRat q1 q2 ((w1.alloc (.cells #[.int .i64 q1, .int .i64 q2] 85)).drew))
   go_wp2_with fail
   refine HV.out.mono ?_
   rw [hv]
   rintro e w2 ⟨rfl, hx⟩
   have lt := LT.out
   have hB : w2.heap[w.heap.size]? = some (.cells #[.int .i64 0, .int .i64 0] 85 (0, 0)) := (hx.block _ (by simp; omega)).trans ((heapA_old w1 (.cells #[.int .i64 q1, .int .i64 q2] 85) _ lt).trans HB.out)
   have hC : w2.heap[w1.heap.size]? = some (.cells #[.int .i64 q1, .int .i64 q2] 85 (0, 0)) := (hx.block _ (by simp)).trans (heap_alloc_new w1 (.cells #[.int .i64 q1, .int .i64 q2] 85))
   have b0 : w2.cell? ⟨w.heap.size, 0, none⟩ = some (.int .i64 0) := by rw [cell_of_row _ _ _ _ _ _ hB]; rfl
   have b1 : w2.cell? ⟨w.heap.size, 1, none⟩ = some (.int .i64 0) := by rw [cell_of_row _ _ _ _ _ _ hB]; rfl
   have c0 : w2.cell? ⟨w1.heap.size, 0, none⟩ = some (.int .i64 q1) := by rw [cell_of_row _ _ _ _ _ _ hC]; rfl
   have c1 : w2.cell? ⟨w1.heap.size, 1, none⟩ = some (.int .i64 q2) := by rw [cell_of_row _ _ _ _ _ _ hC]; rfl
   have fb : ∀ o, w2.frozen? ⟨w.heap.size, o, none⟩ = false := fun o => frozen_of_row _ _ _ _ _ hB
   have X3 := Lib.hid (X2.out.trans hx)
   clear hx hB hC lt
   go_wp2
   rw [HR.out]
  ·refine bodyPost_ret (v := .tuple #[.agg #[.int .i64 0, .int .i64 0], .bool false]) (by simp [results, Tryz.results162, go_sem, b0, b1]) rfl ⟨by simp [cutR, hv], ?_⟩
   exact (X3.out.setCell (by simp) _).setCell (by simp) _
  ·refine bodyPost_ret (v := .tuple #[.agg #[.int .i64 q1, .int .i64 q2], .bool true]) (by simp [results, Tryz.results162, go_sem, b0, b1]) rfl ⟨by simp [cutR, hv], ?_⟩
   exact (X3.out.setCell (by simp) _).setCell (by simp) _
theorem box3 {w W : World} {a b c : Obj} (hx : Ext (((w.alloc a).alloc b).alloc c) W) : W.heap[w.heap.size]? = some a ∧ W.heap[w.heap.size + 1]? = some b ∧ W.heap[w.heap.size + 1 + 1]? = some c :=
 ⟨(hx.block _ (by simp; omega)).trans (by rw [heapA_old _ _ _ (by simp; omega), heapA_old _ _ _ (by simp)]; exact heapA_new _ _ _ rfl),
  (hx.block _ (by simp)).trans (by rw [heapA_old _ _ _ (by simp)]; exact heapA_new _ _ _ (by simp)), (hx.block _ (by simp)).trans (heapA_new _ _ _ (by simp))⟩
theorem box2 {w W : World} {a b : Obj} (hx : Ext ((w.alloc a).alloc b) W) : W.heap[w.heap.size]? = some a ∧ W.heap[w.heap.size + 1]? = some b :=
 ⟨(hx.block _ (by simp; omega)).trans (by rw [heapA_old _ _ _ (by simp)]; exact heapA_new _ _ _ rfl), (hx.block _ (by simp)).trans (heapA_new _ _ _ (by simp))⟩
theorem rcell {w : World} {b : Nat} {x y : Int} {t : TypeId} (h : w.heap[b]? = some (.cells #[.int .i64 x, .int .i64 y] t (0, 0))) : w.cell? ⟨b, 0, none⟩ = some (.int .i64 x) ∧ w.cell? ⟨b, 1, none⟩ = some (.int .i64 y) ∧ ∀ o, w.frozen? ⟨b, o, none⟩ = false :=
 ⟨by rw [cell_of_row _ _ _ _ _ _ h]; rfl, by rw [cell_of_row _ _ _ _ _ _ h]; rfl, fun o => frozen_of_row _ _ _ _ _ h⟩
theorem val_in {x y : Int} (h : valR (x, y) = true) : -1000000000 ≤ x ∧ x ≤ 1000000000 ∧ -1000000000 ≤ y ∧ y ≤ 1000000000 := by have := valR_bd h; simp only at this; omega
theorem mul_w {x y : Int} (h : -1000000000 ≤ x ∧ x ≤ 1000000000) (h' : -1000000000 ≤ y ∧ y ≤ 1000000000) : in18 (x * y) := mul_bd h.1 h.2 h'.1 h'.2
set_option maxHeartbeats 1000000 in
theorem i_AddRat (x y u v : Int) (w : World) :
 Calls Tryz.prog 147 #[ratV x y, ratV u v] w fun e w' => e = .returned (resR (addR (x, y) (u, v))) ∧ Ext w w' := by
 have HX := Lib.hid (show Ext w (((w.alloc (.cells #[.int .i64 x, .int .i64 y] 85)).alloc (.cells #[.int .i64 u, .int .i64 v] 85)).alloc (.cells #[.int .i64 0, .int .i64 0] 85)) from ((Ext.alloc _ _).trans (Ext.alloc _ _)).trans (Ext.alloc _ _))
 cases ha : valR (x, y)
 ·have HA := Lib.hid ha
  have HR := Lib.hid (show addR (x, y) (u, v) = ((0, 0), false) by simp [addR, ha])
  clear ha
  go_enter Tryz.func147, Tryz.ntmps147
  go_wp2_with fail
  refine (i_IsValidRat x y _).mono ?_
  rw [HA.out]
  rintro e w1 ⟨rfl, hx⟩
  obtain ⟨bA, bB, bR⟩ := box3 hx
  obtain ⟨a0, a1, fa⟩ := rcell bA
  obtain ⟨b0, b1, fb⟩ := rcell bB
  obtain ⟨r0, r1, fr⟩ := rcell bR
  have X1 := Lib.hid hx
  clear hx bA bB bR
  go_wp2
  rw [HR.out]
  refine bodyPost_ret (v := .tuple #[.agg #[.int .i64 0, .int .i64 0], .bool false]) (by simp [results, Tryz.results147, go_sem, r0, r1]) rfl ⟨rfl, ?_⟩
  exact ((HX.out.trans X1.out).setCell (by simp; omega) _).setCell (by simp; omega) _
 cases hb : valR (u, v)
 ·have HA := Lib.hid ha
  have HB := Lib.hid hb
  have HR := Lib.hid (show addR (x, y) (u, v) = ((0, 0), false) by simp [addR, hb])
  clear ha hb
  go_enter Tryz.func147, Tryz.ntmps147
  go_wp2_with fail
  refine (i_IsValidRat x y _).mono ?_
  rw [HA.out]
  rintro e w1 ⟨rfl, hx⟩
  obtain ⟨bA, bB, bR⟩ := box3 hx
  obtain ⟨a0, a1, fa⟩ := rcell bA
  obtain ⟨b0, b1, fb⟩ := rcell bB
  obtain ⟨r0, r1, fr⟩ := rcell bR
  have X1 := Lib.hid hx
  clear hx bA bB bR
  go_wp2_with fail
  refine (i_IsValidRat u v _).mono ?_
  rw [HB.out]
  rintro e w2 ⟨rfl, hx⟩
  clear a0 a1 fa b0 b1 fb r0 r1 fr
  have X2 := Lib.hid (X1.out.trans hx)
  obtain ⟨bA, bB, bR⟩ := box3 X2.out
  obtain ⟨a0, a1, fa⟩ := rcell bA
  obtain ⟨b0, b1, fb⟩ := rcell bB
  obtain ⟨r0, r1, fr⟩ := rcell bR
  clear hx bA bB bR
  go_wp2
  rw [HR.out]
  refine bodyPost_ret (v := .tuple #[.agg #[.int .i64 0, .int .i64 0], .bool false]) (by simp [results, Tryz.results147, go_sem, r0, r1]) rfl ⟨rfl, ?_⟩
  exact ((HX.out.trans X2.out).setCell (by simp; omega) _).setCell (by simp; omega) _
 have HA := Lib.hid ha
 have HB := Lib.hid hb
 obtain ⟨x1, x2, y1, y2⟩ := val_in ha
 obtain ⟨u1, u2, v1, v2⟩ := val_in hb
 have q1 : in18 (x * v) := mul_w (by omega) (by omega)
 obtain ⟨e1, g1⟩ := kwrap_in q1
 have q2 : in18 (u * y) := mul_w (by omega) (by omega)
 obtain ⟨e2, g2⟩ := kwrap_in q2
 have q3 : in18 (y * v) := mul_w (by omega) (by omega)
 obtain ⟨e3, g3⟩ := kwrap_in q3
 have e4 : IntKind.i64.wrap (x * v + u * y) = x * v + u * y := by rw [IntKind.wrap_i64]; unfold in18 at *; omega
 have g4 : wrap64 (x * v + u * y) = x * v + u * y := by unfold wrap64; unfold in18 at *; omega
 obtain ⟨p, q, ok, hpq⟩ : ∃ p q ok, ratOf (x * v + u * y) (y * v) = ((p, q), ok) := ⟨_, _, _, rfl⟩
 have HPQ := Lib.hid hpq
 have HR := Lib.hid (show addR (x, y) (u, v) = ((p, q), ok) by simp [addR, ha, hb, hpq])
 clear ha hb hpq
 ·go_enter Tryz.func147, Tryz.ntmps147
  go_wp2_with fail
  refine (i_IsValidRat x y _).mono ?_
  rw [HA.out]
  rintro e w1 ⟨rfl, hx⟩
  obtain ⟨bA, bB, bR⟩ := box3 hx
  obtain ⟨a0, a1, fa⟩ := rcell bA
  obtain ⟨b0, b1, fb⟩ := rcell bB
  obtain ⟨r0, r1, fr⟩ := rcell bR
  have X1 := Lib.hid hx
  clear hx bA bB bR
  go_wp2_with fail
  refine (i_IsValidRat u v _).mono ?_
  rw [HB.out]
  rintro e w2 ⟨rfl, hx⟩
  clear a0 a1 fa b0 b1 fb r0 r1 fr
  have X2 := Lib.hid (X1.out.trans hx)
  obtain ⟨bA, bB, bR⟩ := box3 X2.out
  obtain ⟨a0, a1, fa⟩ := rcell bA
  obtain ⟨b0, b1, fb⟩ := rcell bB
  obtain ⟨r0, r1, fr⟩ := rcell bR
  clear hx bA bB bR
  go_wp2_with fail
  refine (i_RatOf _ _ _).mono ?_
  rw [HPQ.out]
  rintro e w3 ⟨rfl, hx⟩
  clear a0 a1 fa b0 b1 fb r0 r1 fr
  have X3 := Lib.hid (X2.out.trans hx)
  obtain ⟨bA, bB, bR⟩ := box3 X3.out
  obtain ⟨a0, a1, fa⟩ := rcell bA
  obtain ⟨b0, b1, fb⟩ := rcell bB
  obtain ⟨r0, r1, fr⟩ := rcell bR
  clear hx bA bB bR
  go_wp2
  rw [HR.out]
  refine bodyPost_ret (v := .tuple #[.agg #[.int .i64 p, .int .i64 q], .bool ok]) (by simp [results, Tryz.results147, go_sem, r0, r1]) rfl ⟨rfl, ?_⟩
  exact ((HX.out.trans X3.out).setCell (by simp; omega) _).setCell (by simp; omega) _
set_option maxHeartbeats 1000000 in
theorem s_AddRat (x y u v : Int) (w : World) :
 Calls Tryz.prog 141 #[ratV x y, ratV u v] w fun e w' => e = .returned (resR (addR (x, y) (u, v))) ∧ Ext w w' := by
 have HX := Lib.hid (show Ext w (((w.alloc (.cells #[.int .i64 x, .int .i64 y] 85)).alloc (.cells #[.int .i64 u, .int .i64 v] 85)).alloc (.cells #[.int .i64 0, .int .i64 0] 85)) from ((Ext.alloc _ _).trans (Ext.alloc _ _)).trans (Ext.alloc _ _))
 cases ha : valR (x, y)
 ·have HA := Lib.hid ha
  have HR := Lib.hid (show addR (x, y) (u, v) = ((0, 0), false) by simp [addR, ha])
  clear ha
  go_enter Tryz.func141, Tryz.ntmps141
  go_wp2_with fail
  refine (s_IsValidRat x y _).mono ?_
  rw [HA.out]
  rintro e w1 ⟨rfl, hx⟩
  obtain ⟨bA, bB, bR⟩ := box3 hx
  obtain ⟨a0, a1, fa⟩ := rcell bA
  obtain ⟨b0, b1, fb⟩ := rcell bB
  obtain ⟨r0, r1, fr⟩ := rcell bR
  have X1 := Lib.hid hx
  clear hx bA bB bR
  go_wp2
  rw [HR.out]
  refine bodyPost_ret (v := .tuple #[.agg #[.int .i64 0, .int .i64 0], .bool false]) (by simp [results, Tryz.results141, go_sem, r0, r1]) rfl ⟨rfl, ?_⟩
  exact ((HX.out.trans X1.out).setCell (by simp; omega) _).setCell (by simp; omega) _
 cases hb : valR (u, v)
 ·have HA := Lib.hid ha
  have HB := Lib.hid hb
  have HR := Lib.hid (show addR (x, y) (u, v) = ((0, 0), false) by simp [addR, hb])
  clear ha hb
  go_enter Tryz.func141, Tryz.ntmps141
  go_wp2_with fail
  refine (s_IsValidRat x y _).mono ?_
  rw [HA.out]
  rintro e w1 ⟨rfl, hx⟩
  obtain ⟨bA, bB, bR⟩ := box3 hx
  obtain ⟨a0, a1, fa⟩ := rcell bA
  obtain ⟨b0, b1, fb⟩ := rcell bB
  obtain ⟨r0, r1, fr⟩ := rcell bR
  have X1 := Lib.hid hx
  clear hx bA bB bR
  go_wp2_with fail
  refine (s_IsValidRat u v _).mono ?_
  rw [HB.out]
  rintro e w2 ⟨rfl, hx⟩
  clear a0 a1 fa b0 b1 fb r0 r1 fr
  have X2 := Lib.hid (X1.out.trans hx)
  obtain ⟨bA, bB, bR⟩ := box3 X2.out
  obtain ⟨a0, a1, fa⟩ := rcell bA
  obtain ⟨b0, b1, fb⟩ := rcell bB
  obtain ⟨r0, r1, fr⟩ := rcell bR
  clear hx bA bB bR
  go_wp2
  rw [HR.out]
  refine bodyPost_ret (v := .tuple #[.agg #[.int .i64 0, .int .i64 0], .bool false]) (by simp [results, Tryz.results141, go_sem, r0, r1]) rfl ⟨rfl, ?_⟩
  exact ((HX.out.trans X2.out).setCell (by simp; omega) _).setCell (by simp; omega) _
 have HA := Lib.hid ha
 have HB := Lib.hid hb
 obtain ⟨x1, x2, y1, y2⟩ := val_in ha
 obtain ⟨u1, u2, v1, v2⟩ := val_in hb
 have q1 : in18 (x * v) := mul_w (by omega) (by omega)
 obtain ⟨e1, g1⟩ := kwrap_in q1
 have q2 : in18 (u * y) := mul_w (by omega) (by omega)
 obtain ⟨e2, g2⟩ := kwrap_in q2
 have q3 : in18 (y * v) := mul_w (by omega) (by omega)
 obtain ⟨e3, g3⟩ := kwrap_in q3
 have e4 : IntKind.i64.wrap (x * v + u * y) = x * v + u * y := by rw [IntKind.wrap_i64]; unfold in18 at *; omega
 have g4 : wrap64 (x * v + u * y) = x * v + u * y := by unfold wrap64; unfold in18 at *; omega
 obtain ⟨p, q, ok, hpq⟩ : ∃ p q ok, ratOf (x * v + u * y) (y * v) = ((p, q), ok) := ⟨_, _, _, rfl⟩
 have HPQ := Lib.hid hpq
 have HR := Lib.hid (show addR (x, y) (u, v) = ((p, q), ok) by simp [addR, ha, hb, hpq])
 clear ha hb hpq
 ·go_enter Tryz.func141, Tryz.ntmps141
  go_wp2_with fail
  refine (s_IsValidRat x y _).mono ?_
  rw [HA.out]
  rintro e w1 ⟨rfl, hx⟩
  obtain ⟨bA, bB, bR⟩ := box3 hx
  obtain ⟨a0, a1, fa⟩ := rcell bA
  obtain ⟨b0, b1, fb⟩ := rcell bB
  obtain ⟨r0, r1, fr⟩ := rcell bR
  have X1 := Lib.hid hx
  clear hx bA bB bR
  go_wp2_with fail
  refine (s_IsValidRat u v _).mono ?_
  rw [HB.out]
  rintro e w2 ⟨rfl, hx⟩
  clear a0 a1 fa b0 b1 fb r0 r1 fr
  have X2 := Lib.hid (X1.out.trans hx)
  obtain ⟨bA, bB, bR⟩ := box3 X2.out
  obtain ⟨a0, a1, fa⟩ := rcell bA
  obtain ⟨b0, b1, fb⟩ := rcell bB
  obtain ⟨r0, r1, fr⟩ := rcell bR
  clear hx bA bB bR
  go_wp2_with fail
  refine (s_RatOf _ _ _).mono ?_
  rw [HPQ.out]
  rintro e w3 ⟨rfl, hx⟩
  clear a0 a1 fa b0 b1 fb r0 r1 fr
  have X3 := Lib.hid (X2.out.trans hx)
  obtain ⟨bA, bB, bR⟩ := box3 X3.out
  obtain ⟨a0, a1, fa⟩ := rcell bA
  obtain ⟨b0, b1, fb⟩ := rcell bB
  obtain ⟨r0, r1, fr⟩ := rcell bR
  clear hx bA bB bR
  go_wp2
  rw [HR.out]
  refine bodyPost_ret (v := .tuple #[.agg #[.int .i64 p, .int .i64 q], .bool ok]) (by simp [results, Tryz.results141, go_sem, r0, r1]) rfl ⟨rfl, ?_⟩
  exact ((HX.out.trans X3.out).setCell (by simp; omega) _).setCell (by simp; omega) _
set_option maxHeartbeats 1000000 in
theorem i_SubRat (x y u v : Int) (w : World) :
 Calls Tryz.prog 107 #[ratV x y, ratV u v] w fun e w' => e = .returned (resR (subR (x, y) (u, v))) ∧ Ext w w' := by
 have HX := Lib.hid (show Ext w (((w.alloc (.cells #[.int .i64 x, .int .i64 y] 85)).alloc (.cells #[.int .i64 u, .int .i64 v] 85)).alloc (.cells #[.int .i64 0, .int .i64 0] 85)) from ((Ext.alloc _ _).trans (Ext.alloc _ _)).trans (Ext.alloc _ _))
 cases ha : valR (x, y)
 ·have HA := Lib.hid ha
  have HR := Lib.hid (show subR (x, y) (u, v) = ((0, 0), false) by simp [subR, ha])
  clear ha
  go_enter Tryz.func107, Tryz.ntmps107
  go_wp2_with fail
  refine (i_IsValidRat x y _).mono ?_
  rw [HA.out]
  rintro e w1 ⟨rfl, hx⟩
  obtain ⟨bA, bB, bR⟩ := box3 hx
  obtain ⟨a0, a1, fa⟩ := rcell bA
  obtain ⟨b0, b1, fb⟩ := rcell bB
  obtain ⟨r0, r1, fr⟩ := rcell bR
  have X1 := Lib.hid hx
  clear hx bA bB bR
  go_wp2
  rw [HR.out]
  refine bodyPost_ret (v := .tuple #[.agg #[.int .i64 0, .int .i64 0], .bool false]) (by simp [results, Tryz.results107, go_sem, r0, r1]) rfl ⟨rfl, ?_⟩
  exact ((HX.out.trans X1.out).setCell (by simp; omega) _).setCell (by simp; omega) _
 cases hb : valR (u, v)
 ·have HA := Lib.hid ha
  have HB := Lib.hid hb
  have HR := Lib.hid (show subR (x, y) (u, v) = ((0, 0), false) by simp [subR, hb])
  clear ha hb
  go_enter Tryz.func107, Tryz.ntmps107
  go_wp2_with fail
  refine (i_IsValidRat x y _).mono ?_
  rw [HA.out]
  rintro e w1 ⟨rfl, hx⟩
  obtain ⟨bA, bB, bR⟩ := box3 hx
  obtain ⟨a0, a1, fa⟩ := rcell bA
  obtain ⟨b0, b1, fb⟩ := rcell bB
  obtain ⟨r0, r1, fr⟩ := rcell bR
  have X1 := Lib.hid hx
  clear hx bA bB bR
  go_wp2_with fail
  refine (i_IsValidRat u v _).mono ?_
  rw [HB.out]
  rintro e w2 ⟨rfl, hx⟩
  clear a0 a1 fa b0 b1 fb r0 r1 fr
  have X2 := Lib.hid (X1.out.trans hx)
  obtain ⟨bA, bB, bR⟩ := box3 X2.out
  obtain ⟨a0, a1, fa⟩ := rcell bA
  obtain ⟨b0, b1, fb⟩ := rcell bB
  obtain ⟨r0, r1, fr⟩ := rcell bR
  clear hx bA bB bR
  go_wp2
  rw [HR.out]
  refine bodyPost_ret (v := .tuple #[.agg #[.int .i64 0, .int .i64 0], .bool false]) (by simp [results, Tryz.results107, go_sem, r0, r1]) rfl ⟨rfl, ?_⟩
  exact ((HX.out.trans X2.out).setCell (by simp; omega) _).setCell (by simp; omega) _
 have HA := Lib.hid ha
 have HB := Lib.hid hb
 obtain ⟨x1, x2, y1, y2⟩ := val_in ha
 obtain ⟨u1, u2, v1, v2⟩ := val_in hb
 have q1 : in18 (x * v) := mul_w (by omega) (by omega)
 obtain ⟨e1, g1⟩ := kwrap_in q1
 have q2 : in18 (u * y) := mul_w (by omega) (by omega)
 obtain ⟨e2, g2⟩ := kwrap_in q2
 have q3 : in18 (y * v) := mul_w (by omega) (by omega)
 obtain ⟨e3, g3⟩ := kwrap_in q3
 have e4 : IntKind.i64.wrap (x * v - u * y) = x * v - u * y := by rw [IntKind.wrap_i64]; unfold in18 at *; omega
 have g4 : wrap64 (x * v - u * y) = x * v - u * y := by unfold wrap64; unfold in18 at *; omega
 obtain ⟨p, q, ok, hpq⟩ : ∃ p q ok, ratOf (x * v - u * y) (y * v) = ((p, q), ok) := ⟨_, _, _, rfl⟩
 have HPQ := Lib.hid hpq
 have HR := Lib.hid (show subR (x, y) (u, v) = ((p, q), ok) by simp [subR, ha, hb, hpq])
 clear ha hb hpq
 ·go_enter Tryz.func107, Tryz.ntmps107
  go_wp2_with fail
  refine (i_IsValidRat x y _).mono ?_
  rw [HA.out]
  rintro e w1 ⟨rfl, hx⟩
  obtain ⟨bA, bB, bR⟩ := box3 hx
  obtain ⟨a0, a1, fa⟩ := rcell bA
  obtain ⟨b0, b1, fb⟩ := rcell bB
  obtain ⟨r0, r1, fr⟩ := rcell bR
  have X1 := Lib.hid hx
  clear hx bA bB bR
  go_wp2_with fail
  refine (i_IsValidRat u v _).mono ?_
  rw [HB.out]
  rintro e w2 ⟨rfl, hx⟩
  clear a0 a1 fa b0 b1 fb r0 r1 fr
  have X2 := Lib.hid (X1.out.trans hx)
  obtain ⟨bA, bB, bR⟩ := box3 X2.out
  obtain ⟨a0, a1, fa⟩ := rcell bA
  obtain ⟨b0, b1, fb⟩ := rcell bB
  obtain ⟨r0, r1, fr⟩ := rcell bR
  clear hx bA bB bR
  go_wp2_with fail
  refine (i_RatOf _ _ _).mono ?_
  rw [HPQ.out]
  rintro e w3 ⟨rfl, hx⟩
  clear a0 a1 fa b0 b1 fb r0 r1 fr
  have X3 := Lib.hid (X2.out.trans hx)
  obtain ⟨bA, bB, bR⟩ := box3 X3.out
  obtain ⟨a0, a1, fa⟩ := rcell bA
  obtain ⟨b0, b1, fb⟩ := rcell bB
  obtain ⟨r0, r1, fr⟩ := rcell bR
  clear hx bA bB bR
  go_wp2
  rw [HR.out]
  refine bodyPost_ret (v := .tuple #[.agg #[.int .i64 p, .int .i64 q], .bool ok]) (by simp [results, Tryz.results107, go_sem, r0, r1]) rfl ⟨rfl, ?_⟩
  exact ((HX.out.trans X3.out).setCell (by simp; omega) _).setCell (by simp; omega) _
set_option maxHeartbeats 1000000 in
theorem i_MulRat (x y u v : Int) (w : World) :
 Calls Tryz.prog 229 #[ratV x y, ratV u v] w fun e w' => e = .returned (resR (mulR (x, y) (u, v))) ∧ Ext w w' := by
 have HX := Lib.hid (show Ext w (((w.alloc (.cells #[.int .i64 x, .int .i64 y] 85)).alloc (.cells #[.int .i64 u, .int .i64 v] 85)).alloc (.cells #[.int .i64 0, .int .i64 0] 85)) from ((Ext.alloc _ _).trans (Ext.alloc _ _)).trans (Ext.alloc _ _))
 cases ha : valR (x, y)
 ·have HA := Lib.hid ha
  have HR := Lib.hid (show mulR (x, y) (u, v) = ((0, 0), false) by simp [mulR, ha])
  clear ha
  go_enter Tryz.func229, Tryz.ntmps229
  go_wp2_with fail
  refine (i_IsValidRat x y _).mono ?_
  rw [HA.out]
  rintro e w1 ⟨rfl, hx⟩
  obtain ⟨bA, bB, bR⟩ := box3 hx
  obtain ⟨a0, a1, fa⟩ := rcell bA
  obtain ⟨b0, b1, fb⟩ := rcell bB
  obtain ⟨r0, r1, fr⟩ := rcell bR
  have X1 := Lib.hid hx
  clear hx bA bB bR
  go_wp2
  rw [HR.out]
  refine bodyPost_ret (v := .tuple #[.agg #[.int .i64 0, .int .i64 0], .bool false]) (by simp [results, Tryz.results229, go_sem, r0, r1]) rfl ⟨rfl, ?_⟩
  exact ((HX.out.trans X1.out).setCell (by simp; omega) _).setCell (by simp; omega) _
 cases hb : valR (u, v)
 ·have HA := Lib.hid ha
  have HB := Lib.hid hb
  have HR := Lib.hid (show mulR (x, y) (u, v) = ((0, 0), false) by simp [mulR, hb])
  clear ha hb
  go_enter Tryz.func229, Tryz.ntmps229
  go_wp2_with fail
  refine (i_IsValidRat x y _).mono ?_
  rw [HA.out]
  rintro e w1 ⟨rfl, hx⟩
  obtain ⟨bA, bB, bR⟩ := box3 hx
  obtain ⟨a0, a1, fa⟩ := rcell bA
  obtain ⟨b0, b1, fb⟩ := rcell bB
  obtain ⟨r0, r1, fr⟩ := rcell bR
  have X1 := Lib.hid hx
  clear hx bA bB bR
  go_wp2_with fail
  refine (i_IsValidRat u v _).mono ?_
  rw [HB.out]
  rintro e w2 ⟨rfl, hx⟩
  clear a0 a1 fa b0 b1 fb r0 r1 fr
  have X2 := Lib.hid (X1.out.trans hx)
  obtain ⟨bA, bB, bR⟩ := box3 X2.out
  obtain ⟨a0, a1, fa⟩ := rcell bA
  obtain ⟨b0, b1, fb⟩ := rcell bB
  obtain ⟨r0, r1, fr⟩ := rcell bR
  clear hx bA bB bR
  go_wp2
  rw [HR.out]
  refine bodyPost_ret (v := .tuple #[.agg #[.int .i64 0, .int .i64 0], .bool false]) (by simp [results, Tryz.results229, go_sem, r0, r1]) rfl ⟨rfl, ?_⟩
  exact ((HX.out.trans X2.out).setCell (by simp; omega) _).setCell (by simp; omega) _
 have HA := Lib.hid ha
 have HB := Lib.hid hb
 obtain ⟨x1, x2, y1, y2⟩ := val_in ha
 obtain ⟨u1, u2, v1, v2⟩ := val_in hb
 have q1 : in18 (x * u) := mul_w (by omega) (by omega)
 obtain ⟨e1, g1⟩ := kwrap_in q1
 have q2 : in18 (y * v) := mul_w (by omega) (by omega)
 obtain ⟨e2, g2⟩ := kwrap_in q2
 obtain ⟨p, q, ok, hpq⟩ : ∃ p q ok, ratOf (x * u) (y * v) = ((p, q), ok) := ⟨_, _, _, rfl⟩
 have HPQ := Lib.hid hpq
 have HR := Lib.hid (show mulR (x, y) (u, v) = ((p, q), ok) by simp [mulR, ha, hb, hpq])
 clear ha hb hpq
 ·go_enter Tryz.func229, Tryz.ntmps229
  go_wp2_with fail
  refine (i_IsValidRat x y _).mono ?_
  rw [HA.out]
  rintro e w1 ⟨rfl, hx⟩
  obtain ⟨bA, bB, bR⟩ := box3 hx
  obtain ⟨a0, a1, fa⟩ := rcell bA
  obtain ⟨b0, b1, fb⟩ := rcell bB
  obtain ⟨r0, r1, fr⟩ := rcell bR
  have X1 := Lib.hid hx
  clear hx bA bB bR
  go_wp2_with fail
  refine (i_IsValidRat u v _).mono ?_
  rw [HB.out]
  rintro e w2 ⟨rfl, hx⟩
  clear a0 a1 fa b0 b1 fb r0 r1 fr
  have X2 := Lib.hid (X1.out.trans hx)
  obtain ⟨bA, bB, bR⟩ := box3 X2.out
  obtain ⟨a0, a1, fa⟩ := rcell bA
  obtain ⟨b0, b1, fb⟩ := rcell bB
  obtain ⟨r0, r1, fr⟩ := rcell bR
  clear hx bA bB bR
  go_wp2_with fail
  refine (i_RatOf _ _ _).mono ?_
  rw [HPQ.out]
  rintro e w3 ⟨rfl, hx⟩
  clear a0 a1 fa b0 b1 fb r0 r1 fr
  have X3 := Lib.hid (X2.out.trans hx)
  obtain ⟨bA, bB, bR⟩ := box3 X3.out
  obtain ⟨a0, a1, fa⟩ := rcell bA
  obtain ⟨b0, b1, fb⟩ := rcell bB
  obtain ⟨r0, r1, fr⟩ := rcell bR
  clear hx bA bB bR
  go_wp2
  rw [HR.out]
  refine bodyPost_ret (v := .tuple #[.agg #[.int .i64 p, .int .i64 q], .bool ok]) (by simp [results, Tryz.results229, go_sem, r0, r1]) rfl ⟨rfl, ?_⟩
  exact ((HX.out.trans X3.out).setCell (by simp; omega) _).setCell (by simp; omega) _
set_option maxHeartbeats 1000000 in
theorem s_MulRat (x y u v : Int) (w : World) :
 Calls Tryz.prog 221 #[ratV x y, ratV u v] w fun e w' => e = .returned (resR (mulR (x, y) (u, v))) ∧ Ext w w' := by
 have HX := Lib.hid (show Ext w (((w.alloc (.cells #[.int .i64 x, .int .i64 y] 85)).alloc (.cells #[.int .i64 u, .int .i64 v] 85)).alloc (.cells #[.int .i64 0, .int .i64 0] 85)) from ((Ext.alloc _ _).trans (Ext.alloc _ _)).trans (Ext.alloc _ _))
 cases ha : valR (x, y)
 ·have HA := Lib.hid ha
  have HR := Lib.hid (show mulR (x, y) (u, v) = ((0, 0), false) by simp [mulR, ha])
  clear ha
  go_enter Tryz.func221, Tryz.ntmps221
  go_wp2_with fail
  refine (s_IsValidRat x y _).mono ?_
  rw [HA.out]
  rintro e w1 ⟨rfl, hx⟩
  obtain ⟨bA, bB, bR⟩ := box3 hx
  obtain ⟨a0, a1, fa⟩ := rcell bA
  obtain ⟨b0, b1, fb⟩ := rcell bB
  obtain ⟨r0, r1, fr⟩ := rcell bR
  have X1 := Lib.hid hx
  clear hx bA bB bR
  go_wp2
  rw [HR.out]
  refine bodyPost_ret (v := .tuple #[.agg #[.int .i64 0, .int .i64 0], .bool false]) (by simp [results, Tryz.results221, go_sem, r0, r1]) rfl ⟨rfl, ?_⟩
  exact ((HX.out.trans X1.out).setCell (by simp; omega) _).setCell (by simp; omega) _
 cases hb : valR (u, v)
 ·have HA := Lib.hid ha
  have HB := Lib.hid hb
  have HR := Lib.hid (show mulR (x, y) (u, v) = ((0, 0), false) by simp [mulR, hb])
  clear ha hb
  go_enter Tryz.func221, Tryz.ntmps221
  go_wp2_with fail
  refine (s_IsValidRat x y _).mono ?_
  rw [HA.out]
  rintro e w1 ⟨rfl, hx⟩
  obtain ⟨bA, bB, bR⟩ := box3 hx
  obtain ⟨a0, a1, fa⟩ := rcell bA
  obtain ⟨b0, b1, fb⟩ := rcell bB
  obtain ⟨r0, r1, fr⟩ := rcell bR
  have X1 := Lib.hid hx
  clear hx bA bB bR
  go_wp2_with fail
  refine (s_IsValidRat u v _).mono ?_
  rw [HB.out]
  rintro e w2 ⟨rfl, hx⟩
  clear a0 a1 fa b0 b1 fb r0 r1 fr
  have X2 := Lib.hid (X1.out.trans hx)
  obtain ⟨bA, bB, bR⟩ := box3 X2.out
  obtain ⟨a0, a1, fa⟩ := rcell bA
  obtain ⟨b0, b1, fb⟩ := rcell bB
  obtain ⟨r0, r1, fr⟩ := rcell bR
  clear hx bA bB bR
  go_wp2
  rw [HR.out]
  refine bodyPost_ret (v := .tuple #[.agg #[.int .i64 0, .int .i64 0], .bool false]) (by simp [results, Tryz.results221, go_sem, r0, r1]) rfl ⟨rfl, ?_⟩
  exact ((HX.out.trans X2.out).setCell (by simp; omega) _).setCell (by simp; omega) _
 have HA := Lib.hid ha
 have HB := Lib.hid hb
 obtain ⟨x1, x2, y1, y2⟩ := val_in ha
 obtain ⟨u1, u2, v1, v2⟩ := val_in hb
 have q1 : in18 (x * u) := mul_w (by omega) (by omega)
 obtain ⟨e1, g1⟩ := kwrap_in q1
 have q2 : in18 (y * v) := mul_w (by omega) (by omega)
 obtain ⟨e2, g2⟩ := kwrap_in q2
 obtain ⟨p, q, ok, hpq⟩ : ∃ p q ok, ratOf (x * u) (y * v) = ((p, q), ok) := ⟨_, _, _, rfl⟩
 have HPQ := Lib.hid hpq
 have HR := Lib.hid (show mulR (x, y) (u, v) = ((p, q), ok) by simp [mulR, ha, hb, hpq])
 clear ha hb hpq
 ·go_enter Tryz.func221, Tryz.ntmps221
  go_wp2_with fail
  refine (s_IsValidRat x y _).mono ?_
  rw [HA.out]
  rintro e w1 ⟨rfl, hx⟩
  obtain ⟨bA, bB, bR⟩ := box3 hx
  obtain ⟨a0, a1, fa⟩ := rcell bA
  obtain ⟨b0, b1, fb⟩ := rcell bB
  obtain ⟨r0, r1, fr⟩ := rcell bR
  have X1 := Lib.hid hx
  clear hx bA bB bR
  go_wp2_with fail
  refine (s_IsValidRat u v _).mono ?_
  rw [HB.out]
  rintro e w2 ⟨rfl, hx⟩
  clear a0 a1 fa b0 b1 fb r0 r1 fr
  have X2 := Lib.hid (X1.out.trans hx)
  obtain ⟨bA, bB, bR⟩ := box3 X2.out
  obtain ⟨a0, a1, fa⟩ := rcell bA
  obtain ⟨b0, b1, fb⟩ := rcell bB
  obtain ⟨r0, r1, fr⟩ := rcell bR
  clear hx bA bB bR
  go_wp2_with fail
  refine (s_RatOf _ _ _).mono ?_
  rw [HPQ.out]
  rintro e w3 ⟨rfl, hx⟩
  clear a0 a1 fa b0 b1 fb r0 r1 fr
  have X3 := Lib.hid (X2.out.trans hx)
  obtain ⟨bA, bB, bR⟩ := box3 X3.out
  obtain ⟨a0, a1, fa⟩ := rcell bA
  obtain ⟨b0, b1, fb⟩ := rcell bB
  obtain ⟨r0, r1, fr⟩ := rcell bR
  clear hx bA bB bR
  go_wp2
  rw [HR.out]
  refine bodyPost_ret (v := .tuple #[.agg #[.int .i64 p, .int .i64 q], .bool ok]) (by simp [results, Tryz.results221, go_sem, r0, r1]) rfl ⟨rfl, ?_⟩
  exact ((HX.out.trans X3.out).setCell (by simp; omega) _).setCell (by simp; omega) _
set_option maxHeartbeats 1000000 in
theorem i_DivRat (x y u v : Int) (w : World) :
 Calls Tryz.prog 250 #[ratV x y, ratV u v] w fun e w' => e = .returned (resR (divR (x, y) (u, v))) ∧ Ext w w' := by
 have HX := Lib.hid (show Ext w (((w.alloc (.cells #[.int .i64 x, .int .i64 y] 85)).alloc (.cells #[.int .i64 u, .int .i64 v] 85)).alloc (.cells #[.int .i64 0, .int .i64 0] 85)) from ((Ext.alloc _ _).trans (Ext.alloc _ _)).trans (Ext.alloc _ _))
 cases ha : valR (x, y)
 ·have HA := Lib.hid ha
  have HR := Lib.hid (show divR (x, y) (u, v) = ((0, 0), false) by simp [divR, ha])
  clear ha
  go_enter Tryz.func250, Tryz.ntmps250
  go_wp2_with fail
  refine (i_IsValidRat x y _).mono ?_
  rw [HA.out]
  rintro e w1 ⟨rfl, hx⟩
  obtain ⟨bA, bB, bR⟩ := box3 hx
  obtain ⟨a0, a1, fa⟩ := rcell bA
  obtain ⟨b0, b1, fb⟩ := rcell bB
  obtain ⟨r0, r1, fr⟩ := rcell bR
  have X1 := Lib.hid hx
  clear hx bA bB bR
  go_wp2
  rw [HR.out]
  refine bodyPost_ret (v := .tuple #[.agg #[.int .i64 0, .int .i64 0], .bool false]) (by simp [results, Tryz.results250, go_sem, r0, r1]) rfl ⟨rfl, ?_⟩
  exact ((HX.out.trans X1.out).setCell (by simp; omega) _).setCell (by simp; omega) _
 cases hb : valR (u, v)
 ·have HA := Lib.hid ha
  have HB := Lib.hid hb
  have HR := Lib.hid (show divR (x, y) (u, v) = ((0, 0), false) by simp [divR, hb])
  clear ha hb
  go_enter Tryz.func250, Tryz.ntmps250
  go_wp2_with fail
  refine (i_IsValidRat x y _).mono ?_
  rw [HA.out]
  rintro e w1 ⟨rfl, hx⟩
  obtain ⟨bA, bB, bR⟩ := box3 hx
  obtain ⟨a0, a1, fa⟩ := rcell bA
  obtain ⟨b0, b1, fb⟩ := rcell bB
  obtain ⟨r0, r1, fr⟩ := rcell bR
  have X1 := Lib.hid hx
  clear hx bA bB bR
  go_wp2_with fail
  refine (i_IsValidRat u v _).mono ?_
  rw [HB.out]
  rintro e w2 ⟨rfl, hx⟩
  clear a0 a1 fa b0 b1 fb r0 r1 fr
  have X2 := Lib.hid (X1.out.trans hx)
  obtain ⟨bA, bB, bR⟩ := box3 X2.out
  obtain ⟨a0, a1, fa⟩ := rcell bA
  obtain ⟨b0, b1, fb⟩ := rcell bB
  obtain ⟨r0, r1, fr⟩ := rcell bR
  clear hx bA bB bR
  go_wp2
  rw [HR.out]
  refine bodyPost_ret (v := .tuple #[.agg #[.int .i64 0, .int .i64 0], .bool false]) (by simp [results, Tryz.results250, go_sem, r0, r1]) rfl ⟨rfl, ?_⟩
  exact ((HX.out.trans X2.out).setCell (by simp; omega) _).setCell (by simp; omega) _
 have HA := Lib.hid ha
 have HB := Lib.hid hb
 obtain ⟨x1, x2, y1, y2⟩ := val_in ha
 obtain ⟨u1, u2, v1, v2⟩ := val_in hb
 have q1 : in18 (x * v) := mul_w (by omega) (by omega)
 obtain ⟨e1, g1⟩ := kwrap_in q1
 have q2 : in18 (y * u) := mul_w (by omega) (by omega)
 obtain ⟨e2, g2⟩ := kwrap_in q2
 obtain ⟨p, q, ok, hpq⟩ : ∃ p q ok, ratOf (x * v) (y * u) = ((p, q), ok) := ⟨_, _, _, rfl⟩
 have HPQ := Lib.hid hpq
 have HR := Lib.hid (show divR (x, y) (u, v) = ((p, q), ok) by simp [divR, ha, hb, hpq])
 clear ha hb hpq
 ·go_enter Tryz.func250, Tryz.ntmps250
  go_wp2_with fail
  refine (i_IsValidRat x y _).mono ?_
  rw [HA.out]
  rintro e w1 ⟨rfl, hx⟩
  obtain ⟨bA, bB, bR⟩ := box3 hx
  obtain ⟨a0, a1, fa⟩ := rcell bA
  obtain ⟨b0, b1, fb⟩ := rcell bB
  obtain ⟨r0, r1, fr⟩ := rcell bR
  have X1 := Lib.hid hx
  clear hx bA bB bR
  go_wp2_with fail
  refine (i_IsValidRat u v _).mono ?_
  rw [HB.out]
  rintro e w2 ⟨rfl, hx⟩
  clear a0 a1 fa b0 b1 fb r0 r1 fr
  have X2 := Lib.hid (X1.out.trans hx)
  obtain ⟨bA, bB, bR⟩ := box3 X2.out
  obtain ⟨a0, a1, fa⟩ := rcell bA
  obtain ⟨b0, b1, fb⟩ := rcell bB
  obtain ⟨r0, r1, fr⟩ := rcell bR
  clear hx bA bB bR
  go_wp2_with fail
  refine (i_RatOf _ _ _).mono ?_
  rw [HPQ.out]
  rintro e w3 ⟨rfl, hx⟩
  clear a0 a1 fa b0 b1 fb r0 r1 fr
  have X3 := Lib.hid (X2.out.trans hx)
  obtain ⟨bA, bB, bR⟩ := box3 X3.out
  obtain ⟨a0, a1, fa⟩ := rcell bA
  obtain ⟨b0, b1, fb⟩ := rcell bB
  obtain ⟨r0, r1, fr⟩ := rcell bR
  clear hx bA bB bR
  go_wp2
  rw [HR.out]
  refine bodyPost_ret (v := .tuple #[.agg #[.int .i64 p, .int .i64 q], .bool ok]) (by simp [results, Tryz.results250, go_sem, r0, r1]) rfl ⟨rfl, ?_⟩
  exact ((HX.out.trans X3.out).setCell (by simp; omega) _).setCell (by simp; omega) _
set_option maxHeartbeats 1000000 in
theorem s_DivRat (x y u v : Int) (w : World) :
 Calls Tryz.prog 244 #[ratV x y, ratV u v] w fun e w' => e = .returned (resR (divR (x, y) (u, v))) ∧ Ext w w' := by
 have HX := Lib.hid (show Ext w (((w.alloc (.cells #[.int .i64 x, .int .i64 y] 85)).alloc (.cells #[.int .i64 u, .int .i64 v] 85)).alloc (.cells #[.int .i64 0, .int .i64 0] 85)) from ((Ext.alloc _ _).trans (Ext.alloc _ _)).trans (Ext.alloc _ _))
 cases ha : valR (x, y)
 ·have HA := Lib.hid ha
  have HR := Lib.hid (show divR (x, y) (u, v) = ((0, 0), false) by simp [divR, ha])
  clear ha
  go_enter Tryz.func244, Tryz.ntmps244
  go_wp2_with fail
  refine (s_IsValidRat x y _).mono ?_
  rw [HA.out]
  rintro e w1 ⟨rfl, hx⟩
  obtain ⟨bA, bB, bR⟩ := box3 hx
  obtain ⟨a0, a1, fa⟩ := rcell bA
  obtain ⟨b0, b1, fb⟩ := rcell bB
  obtain ⟨r0, r1, fr⟩ := rcell bR
  have X1 := Lib.hid hx
  clear hx bA bB bR
  go_wp2
  rw [HR.out]
  refine bodyPost_ret (v := .tuple #[.agg #[.int .i64 0, .int .i64 0], .bool false]) (by simp [results, Tryz.results244, go_sem, r0, r1]) rfl ⟨rfl, ?_⟩
  exact ((HX.out.trans X1.out).setCell (by simp; omega) _).setCell (by simp; omega) _
 cases hb : valR (u, v)
 ·have HA := Lib.hid ha
  have HB := Lib.hid hb
  have HR := Lib.hid (show divR (x, y) (u, v) = ((0, 0), false) by simp [divR, hb])
  clear ha hb
  go_enter Tryz.func244, Tryz.ntmps244
  go_wp2_with fail
  refine (s_IsValidRat x y _).mono ?_
  rw [HA.out]
  rintro e w1 ⟨rfl, hx⟩
  obtain ⟨bA, bB, bR⟩ := box3 hx
  obtain ⟨a0, a1, fa⟩ := rcell bA
  obtain ⟨b0, b1, fb⟩ := rcell bB
  obtain ⟨r0, r1, fr⟩ := rcell bR
  have X1 := Lib.hid hx
  clear hx bA bB bR
  go_wp2_with fail
  refine (s_IsValidRat u v _).mono ?_
  rw [HB.out]
  rintro e w2 ⟨rfl, hx⟩
  clear a0 a1 fa b0 b1 fb r0 r1 fr
  have X2 := Lib.hid (X1.out.trans hx)
  obtain ⟨bA, bB, bR⟩ := box3 X2.out
  obtain ⟨a0, a1, fa⟩ := rcell bA
  obtain ⟨b0, b1, fb⟩ := rcell bB
  obtain ⟨r0, r1, fr⟩ := rcell bR
  clear hx bA bB bR
  go_wp2
  rw [HR.out]
  refine bodyPost_ret (v := .tuple #[.agg #[.int .i64 0, .int .i64 0], .bool false]) (by simp [results, Tryz.results244, go_sem, r0, r1]) rfl ⟨rfl, ?_⟩
  exact ((HX.out.trans X2.out).setCell (by simp; omega) _).setCell (by simp; omega) _
 have HA := Lib.hid ha
 have HB := Lib.hid hb
 obtain ⟨x1, x2, y1, y2⟩ := val_in ha
 obtain ⟨u1, u2, v1, v2⟩ := val_in hb
 have q1 : in18 (x * v) := mul_w (by omega) (by omega)
 obtain ⟨e1, g1⟩ := kwrap_in q1
 have q2 : in18 (y * u) := mul_w (by omega) (by omega)
 obtain ⟨e2, g2⟩ := kwrap_in q2
 obtain ⟨p, q, ok, hpq⟩ : ∃ p q ok, ratOf (x * v) (y * u) = ((p, q), ok) := ⟨_, _, _, rfl⟩
 have HPQ := Lib.hid hpq
 have HR := Lib.hid (show divR (x, y) (u, v) = ((p, q), ok) by simp [divR, ha, hb, hpq])
 clear ha hb hpq
 ·go_enter Tryz.func244, Tryz.ntmps244
  go_wp2_with fail
  refine (s_IsValidRat x y _).mono ?_
  rw [HA.out]
  rintro e w1 ⟨rfl, hx⟩
  obtain ⟨bA, bB, bR⟩ := box3 hx
  obtain ⟨a0, a1, fa⟩ := rcell bA
  obtain ⟨b0, b1, fb⟩ := rcell bB
  obtain ⟨r0, r1, fr⟩ := rcell bR
  have X1 := Lib.hid hx
  clear hx bA bB bR
  go_wp2_with fail
  refine (s_IsValidRat u v _).mono ?_
  rw [HB.out]
  rintro e w2 ⟨rfl, hx⟩
  clear a0 a1 fa b0 b1 fb r0 r1 fr
  have X2 := Lib.hid (X1.out.trans hx)
  obtain ⟨bA, bB, bR⟩ := box3 X2.out
  obtain ⟨a0, a1, fa⟩ := rcell bA
  obtain ⟨b0, b1, fb⟩ := rcell bB
  obtain ⟨r0, r1, fr⟩ := rcell bR
  clear hx bA bB bR
  go_wp2_with fail
  refine (s_RatOf _ _ _).mono ?_
  rw [HPQ.out]
  rintro e w3 ⟨rfl, hx⟩
  clear a0 a1 fa b0 b1 fb r0 r1 fr
  have X3 := Lib.hid (X2.out.trans hx)
  obtain ⟨bA, bB, bR⟩ := box3 X3.out
  obtain ⟨a0, a1, fa⟩ := rcell bA
  obtain ⟨b0, b1, fb⟩ := rcell bB
  obtain ⟨r0, r1, fr⟩ := rcell bR
  clear hx bA bB bR
  go_wp2
  rw [HR.out]
  refine bodyPost_ret (v := .tuple #[.agg #[.int .i64 p, .int .i64 q], .bool ok]) (by simp [results, Tryz.results244, go_sem, r0, r1]) rfl ⟨rfl, ?_⟩
  exact ((HX.out.trans X3.out).setCell (by simp; omega) _).setCell (by simp; omega) _
set_option maxHeartbeats 1000000 in
theorem i_CompareRat (x y u v : Int) (w : World) :
 Calls Tryz.prog 123 #[ratV x y, ratV u v] w fun e w' => e = .returned (.int .i64 (cmpR (x, y) (u, v))) ∧ Ext w w' := by
 have HX := Lib.hid (show Ext w ((w.alloc (.cells #[.int .i64 x, .int .i64 y] 85)).alloc (.cells #[.int .i64 u, .int .i64 v] 85)) from (Ext.alloc _ _).trans (Ext.alloc _ _))
 cases ha : valR (x, y)
 ·have HA := Lib.hid ha
  have HR := Lib.hid (show cmpR (x, y) (u, v) = 0 by simp [cmpR, ha])
  clear ha
  go_enter Tryz.func123, Tryz.ntmps123
  go_wp2_with fail
  refine (i_IsValidRat x y _).mono ?_
  rw [HA.out]
  rintro e w1 ⟨rfl, hx⟩
  obtain ⟨bA, bB⟩ := box2 hx
  obtain ⟨a0, a1, fa⟩ := rcell bA
  obtain ⟨b0, b1, fb⟩ := rcell bB
  have X1 := Lib.hid hx
  clear hx bA bB
  go_wp2
  go_ret
  exact ⟨ret_int HR.out.symm, HX.out.trans X1.out⟩
 cases hb : valR (u, v)
 ·have HA := Lib.hid ha
  have HB := Lib.hid hb
  have HR := Lib.hid (show cmpR (x, y) (u, v) = 0 by simp [cmpR, hb])
  clear ha hb
  go_enter Tryz.func123, Tryz.ntmps123
  go_wp2_with fail
  refine (i_IsValidRat x y _).mono ?_
  rw [HA.out]
  rintro e w1 ⟨rfl, hx⟩
  obtain ⟨bA, bB⟩ := box2 hx
  obtain ⟨a0, a1, fa⟩ := rcell bA
  obtain ⟨b0, b1, fb⟩ := rcell bB
  have X1 := Lib.hid hx
  clear hx bA bB
  go_wp2_with fail
  refine (i_IsValidRat u v _).mono ?_
  rw [HB.out]
  rintro e w2 ⟨rfl, hx⟩
  clear a0 a1 fa b0 b1 fb
  have X2 := Lib.hid (X1.out.trans hx)
  obtain ⟨bA, bB⟩ := box2 X2.out
  obtain ⟨a0, a1, fa⟩ := rcell bA
  obtain ⟨b0, b1, fb⟩ := rcell bB
  clear hx bA bB
  go_wp2
  go_ret
  exact ⟨ret_int HR.out.symm, HX.out.trans X2.out⟩
 have HA := Lib.hid ha
 have HB := Lib.hid hb
 obtain ⟨x1, x2, y1, y2⟩ := val_in ha
 obtain ⟨u1, u2, v1, v2⟩ := val_in hb
 have q1 : in18 (x * v) := mul_w (by omega) (by omega)
 have q2 : in18 (u * y) := mul_w (by omega) (by omega)
 obtain ⟨e1, g1⟩ := kwrap_in q1
 obtain ⟨e2, g2⟩ := kwrap_in q2
 have hR : cmpR (x, y) (u, v) = (if x * v < u * y then -1 else if u * y < x * v then 1 else 0) := by simp [cmpR, ha, hb]
 obtain ⟨P, hP⟩ : ∃ P, P = x * v := ⟨_, rfl⟩
 obtain ⟨Q, hQ⟩ : ∃ Q, Q = u * y := ⟨_, rfl⟩
 rw [← hP, ← hQ] at hR
 rw [← hP] at e1 g1
 rw [← hQ] at e2 g2
 have HR := Lib.hid hR
 have hP' := hP.symm
 have hQ' := hQ.symm
 clear ha hb hR q1 q2 hP hQ
 by_cases h1 : P < Q
 ·go_enter Tryz.func123, Tryz.ntmps123
  go_wp2_with fail
  refine (i_IsValidRat x y _).mono ?_
  rw [HA.out]
  rintro e w1 ⟨rfl, hx⟩
  obtain ⟨bA, bB⟩ := box2 hx
  obtain ⟨a0, a1, fa⟩ := rcell bA
  obtain ⟨b0, b1, fb⟩ := rcell bB
  have X1 := Lib.hid hx
  clear hx bA bB
  go_wp2_with fail
  refine (i_IsValidRat u v _).mono ?_
  rw [HB.out]
  rintro e w2 ⟨rfl, hx⟩
  clear a0 a1 fa b0 b1 fb
  have X2 := Lib.hid (X1.out.trans hx)
  obtain ⟨bA, bB⟩ := box2 X2.out
  obtain ⟨a0, a1, fa⟩ := rcell bA
  obtain ⟨b0, b1, fb⟩ := rcell bB
  clear hx bA bB
  go_wp2
  go_quiet (fail)
  go_wp2
  go_ret
  exact ⟨ret_int (by rw [HR.out, if_pos (by omega)]), HX.out.trans (X2.out.trans (Drew.ext ⟨_, rfl⟩))⟩
 by_cases h2 : Q < P
 ·go_enter Tryz.func123, Tryz.ntmps123
  go_wp2_with fail
  refine (i_IsValidRat x y _).mono ?_
  rw [HA.out]
  rintro e w1 ⟨rfl, hx⟩
  obtain ⟨bA, bB⟩ := box2 hx
  obtain ⟨a0, a1, fa⟩ := rcell bA
  obtain ⟨b0, b1, fb⟩ := rcell bB
  have X1 := Lib.hid hx
  clear hx bA bB
  go_wp2_with fail
  refine (i_IsValidRat u v _).mono ?_
  rw [HB.out]
  rintro e w2 ⟨rfl, hx⟩
  clear a0 a1 fa b0 b1 fb
  have X2 := Lib.hid (X1.out.trans hx)
  obtain ⟨bA, bB⟩ := box2 X2.out
  obtain ⟨a0, a1, fa⟩ := rcell bA
  obtain ⟨b0, b1, fb⟩ := rcell bB
  clear hx bA bB
  go_wp2
  go_quiet (fail)
  go_wp2
  go_ret
  exact ⟨ret_int (by rw [HR.out, if_neg (by omega), if_pos (by omega)]), HX.out.trans (X2.out.trans (Drew.ext ⟨_, rfl⟩))⟩
 ·go_enter Tryz.func123, Tryz.ntmps123
  go_wp2_with fail
  refine (i_IsValidRat x y _).mono ?_
  rw [HA.out]
  rintro e w1 ⟨rfl, hx⟩
  obtain ⟨bA, bB⟩ := box2 hx
  obtain ⟨a0, a1, fa⟩ := rcell bA
  obtain ⟨b0, b1, fb⟩ := rcell bB
  have X1 := Lib.hid hx
  clear hx bA bB
  go_wp2_with fail
  refine (i_IsValidRat u v _).mono ?_
  rw [HB.out]
  rintro e w2 ⟨rfl, hx⟩
  clear a0 a1 fa b0 b1 fb
  have X2 := Lib.hid (X1.out.trans hx)
  obtain ⟨bA, bB⟩ := box2 X2.out
  obtain ⟨a0, a1, fa⟩ := rcell bA
  obtain ⟨b0, b1, fb⟩ := rcell bB
  clear hx bA bB
  go_wp2
  go_quiet (fail)
  go_wp2
  go_ret
  exact ⟨ret_int (by rw [HR.out, if_neg (by omega), if_neg (by omega)]), HX.out.trans (X2.out.trans (Drew.ext ⟨_, rfl⟩))⟩
set_option maxHeartbeats 1000000 in
theorem s_CompareRat (x y u v : Int) (w : World) :
 Calls Tryz.prog 126 #[ratV x y, ratV u v] w fun e w' => e = .returned (.int .i64 (cmpR (x, y) (u, v))) ∧ Ext w w' := by
 have HX := Lib.hid (show Ext w ((w.alloc (.cells #[.int .i64 x, .int .i64 y] 85)).alloc (.cells #[.int .i64 u, .int .i64 v] 85)) from (Ext.alloc _ _).trans (Ext.alloc _ _))
 cases ha : valR (x, y)
 ·have HA := Lib.hid ha
  have HR := Lib.hid (show cmpR (x, y) (u, v) = 0 by simp [cmpR, ha])
  clear ha
  go_enter Tryz.func126, Tryz.ntmps126
  go_wp2_with fail
  refine (s_IsValidRat x y _).mono ?_
  rw [HA.out]
  rintro e w1 ⟨rfl, hx⟩
  obtain ⟨bA, bB⟩ := box2 hx
  obtain ⟨a0, a1, fa⟩ := rcell bA
  obtain ⟨b0, b1, fb⟩ := rcell bB
  have X1 := Lib.hid hx
  clear hx bA bB
  go_wp2
  go_ret
  exact ⟨ret_int HR.out.symm, HX.out.trans X1.out⟩
 cases hb : valR (u, v)
 ·have HA := Lib.hid ha
  have HB := Lib.hid hb
  have HR := Lib.hid (show cmpR (x, y) (u, v) = 0 by simp [cmpR, hb])
  clear ha hb
  go_enter Tryz.func126, Tryz.ntmps126
  go_wp2_with fail
  refine (s_IsValidRat x y _).mono ?_
  rw [HA.out]
  rintro e w1 ⟨rfl, hx⟩
  obtain ⟨bA, bB⟩ := box2 hx
  obtain ⟨a0, a1, fa⟩ := rcell bA
  obtain ⟨b0, b1, fb⟩ := rcell bB
  have X1 := Lib.hid hx
  clear hx bA bB
  go_wp2_with fail
  refine (s_IsValidRat u v _).mono ?_
  rw [HB.out]
  rintro e w2 ⟨rfl, hx⟩
  clear a0 a1 fa b0 b1 fb
  have X2 := Lib.hid (X1.out.trans hx)
  obtain ⟨bA, bB⟩ := box2 X2.out
  obtain ⟨a0, a1, fa⟩ := rcell bA
  obtain ⟨b0, b1, fb⟩ := rcell bB
  clear hx bA bB
  go_wp2
  go_ret
  exact ⟨ret_int HR.out.symm, HX.out.trans X2.out⟩
 have HA := Lib.hid ha
 have HB := Lib.hid hb
 obtain ⟨x1, x2, y1, y2⟩ := val_in ha
 obtain ⟨u1, u2, v1, v2⟩ := val_in hb
 have q1 : in18 (x * v) := mul_w (by omega) (by omega)
 have q2 : in18 (u * y) := mul_w (by omega) (by omega)
 obtain ⟨e1, g1⟩ := kwrap_in q1
 obtain ⟨e2, g2⟩ := kwrap_in q2
 have hR : cmpR (x, y) (u, v) = (if x * v < u * y then -1 else if u * y < x * v then 1 else 0) := by simp [cmpR, ha, hb]
 obtain ⟨P, hP⟩ : ∃ P, P = x * v := ⟨_, rfl⟩
 obtain ⟨Q, hQ⟩ : ∃ Q, Q = u * y := ⟨_, rfl⟩
 rw [← hP, ← hQ] at hR
 rw [← hP] at e1 g1
 rw [← hQ] at e2 g2
 have HR := Lib.hid hR
 have hP' := hP.symm
 have hQ' := hQ.symm
 clear ha hb hR q1 q2 hP hQ
 by_cases h1 : P < Q
 ·go_enter Tryz.func126, Tryz.ntmps126
  go_wp2_with fail
  refine (s_IsValidRat x y _).mono ?_
  rw [HA.out]
  rintro e w1 ⟨rfl, hx⟩
  obtain ⟨bA, bB⟩ := box2 hx
  obtain ⟨a0, a1, fa⟩ := rcell bA
  obtain ⟨b0, b1, fb⟩ := rcell bB
  have X1 := Lib.hid hx
  clear hx bA bB
  go_wp2_with fail
  refine (s_IsValidRat u v _).mono ?_
  rw [HB.out]
  rintro e w2 ⟨rfl, hx⟩
  clear a0 a1 fa b0 b1 fb
  have X2 := Lib.hid (X1.out.trans hx)
  obtain ⟨bA, bB⟩ := box2 X2.out
  obtain ⟨a0, a1, fa⟩ := rcell bA
  obtain ⟨b0, b1, fb⟩ := rcell bB
  clear hx bA bB
  go_wp2
  go_ret
  exact ⟨ret_int (by rw [HR.out, if_pos (by omega)]), HX.out.trans X2.out⟩
 by_cases h2 : Q < P
 ·go_enter Tryz.func126, Tryz.ntmps126
  go_wp2_with fail
  refine (s_IsValidRat x y _).mono ?_
  rw [HA.out]
  rintro e w1 ⟨rfl, hx⟩
  obtain ⟨bA, bB⟩ := box2 hx
  obtain ⟨a0, a1, fa⟩ := rcell bA
  obtain ⟨b0, b1, fb⟩ := rcell bB
  have X1 := Lib.hid hx
  clear hx bA bB
  go_wp2_with fail
  refine (s_IsValidRat u v _).mono ?_
  rw [HB.out]
  rintro e w2 ⟨rfl, hx⟩
  clear a0 a1 fa b0 b1 fb
  have X2 := Lib.hid (X1.out.trans hx)
  obtain ⟨bA, bB⟩ := box2 X2.out
  obtain ⟨a0, a1, fa⟩ := rcell bA
  obtain ⟨b0, b1, fb⟩ := rcell bB
  clear hx bA bB
  go_wp2
  go_ret
  exact ⟨ret_int (by rw [HR.out, if_neg (by omega), if_pos (by omega)]), HX.out.trans X2.out⟩
 ·go_enter Tryz.func126, Tryz.ntmps126
  go_wp2_with fail
  refine (s_IsValidRat x y _).mono ?_
  rw [HA.out]
  rintro e w1 ⟨rfl, hx⟩
  obtain ⟨bA, bB⟩ := box2 hx
  obtain ⟨a0, a1, fa⟩ := rcell bA
  obtain ⟨b0, b1, fb⟩ := rcell bB
  have X1 := Lib.hid hx
  clear hx bA bB
  go_wp2_with fail
  refine (s_IsValidRat u v _).mono ?_
  rw [HB.out]
  rintro e w2 ⟨rfl, hx⟩
  clear a0 a1 fa b0 b1 fb
  have X2 := Lib.hid (X1.out.trans hx)
  obtain ⟨bA, bB⟩ := box2 X2.out
  obtain ⟨a0, a1, fa⟩ := rcell bA
  obtain ⟨b0, b1, fb⟩ := rcell bB
  clear hx bA bB
  go_wp2
  go_ret
  exact ⟨ret_int (by rw [HR.out, if_neg (by omega), if_neg (by omega)]), HX.out.trans X2.out⟩
set_option maxHeartbeats 1000000 in
theorem s_SubRat (x y u v : Int) (w : World) :
 Calls Tryz.prog 165 #[ratV x y, ratV u v] w fun e w' => e = .returned (resR (subR (x, y) (u, v))) ∧ Ext w w' := by
 have HX := Lib.hid (show Ext w (((w.alloc (.cells #[.int .i64 x, .int .i64 y] 85)).alloc (.cells #[.int .i64 u, .int .i64 v] 85)).alloc (.cells #[.int .i64 0, .int .i64 0] 85)) from ((Ext.alloc _ _).trans (Ext.alloc _ _)).trans (Ext.alloc _ _))
 cases hb : valR (u, v)
 ·have HB := Lib.hid hb
  have HR := Lib.hid (show subR (x, y) (u, v) = ((0, 0), false) by simp [subR, hb])
  clear hb
  go_enter Tryz.func165, Tryz.ntmps165
  go_wp2_with fail
  refine (s_IsValidRat u v _).mono ?_
  rw [HB.out]
  rintro e w1 ⟨rfl, hx⟩
  obtain ⟨bA, bB, bR⟩ := box3 hx
  obtain ⟨a0, a1, fa⟩ := rcell bA
  obtain ⟨b0, b1, fb⟩ := rcell bB
  obtain ⟨r0, r1, fr⟩ := rcell bR
  have X1 := Lib.hid hx
  clear hx bA bB bR
  go_wp2
  rw [HR.out]
  refine bodyPost_ret (v := .tuple #[.agg #[.int .i64 0, .int .i64 0], .bool false]) (by simp [results, Tryz.results165, go_sem, r0, r1]) rfl ⟨rfl, ?_⟩
  exact ((HX.out.trans X1.out).setCell (by simp; omega) _).setCell (by simp; omega) _
 ·have HB := Lib.hid hb
  obtain ⟨u1, u2, v1, v2⟩ := val_in hb
  obtain ⟨p, q, ok, hpq⟩ : ∃ p q ok, addR (x, y) (-u, v) = ((p, q), ok) := ⟨_, _, _, rfl⟩
  have HPQ := Lib.hid hpq
  have HR := Lib.hid (show subR (x, y) (u, v) = ((p, q), ok) by rw [← subR_add]; exact hpq)
  clear hb hpq
  go_enter Tryz.func165, Tryz.ntmps165
  go_wp2_with fail
  refine (s_IsValidRat u v _).mono ?_
  rw [HB.out]
  rintro e w1 ⟨rfl, hx⟩
  obtain ⟨bA, bB, bR⟩ := box3 hx
  obtain ⟨a0, a1, fa⟩ := rcell bA
  obtain ⟨b0, b1, fb⟩ := rcell bB
  obtain ⟨r0, r1, fr⟩ := rcell bR
  have X1 := Lib.hid hx
  have HBA := Lib.hid bA
  have HBR := Lib.hid bR
  have hl := lt_of_block bR
  clear hx bA bB bR
  go_wp2_with fail
  refine (s_AddRat _ _ _ _ _).mono ?_
  rw [HPQ.out]
  rintro e w3 ⟨rfl, hx⟩
  have hz : Ext w (w1.setCell ⟨w.heap.size + 1, 0, none⟩ (.int .i64 (-u))) := (HX.out.trans X1.out).setCell (by simp) _
  have X3 := Lib.hid (hz.trans hx)
  clear hz
  have bR : w3.heap[w.heap.size + 1 + 1]? = some (.cells #[.int .i64 0, .int .i64 0] 85 (0, 0)) := (hx.block _ (by simp; omega)).trans ((heap_setCell_other _ _ _ _ (by simp)).trans HBR.out)
  clear a0 a1 fa b0 b1 fb r0 r1 fr
  obtain ⟨r0, r1, fr⟩ := rcell bR
  clear hx bR
  go_wp2
  rw [HR.out]
  refine bodyPost_ret (v := .tuple #[.agg #[.int .i64 p, .int .i64 q], .bool ok]) (by simp [results, Tryz.results165, go_sem, r0, r1]) rfl ⟨rfl, ?_⟩
  exact (X3.out.setCell (by simp; omega) _).setCell (by simp; omega) _
theorem OwnI.made (w : World) (base : Nat) (hb : base ≤ w.heap.size) : OwnI (w.alloc (.cells #[] 3)) base (.slice (some ⟨w.heap.size, 0, none⟩) 0 0) [] :=
 World.ownsRow_lit w #[] 0 hb (by omega) rfl
theorem OwnV.made (w : World) (base : Nat) (hb : base ≤ w.heap.size) : OwnV (w.alloc (.cells #[] 22)) base (.slice (some ⟨w.heap.size, 0, none⟩) 0 0) [] :=
 World.ownsRow_lit w #[] 0 hb (by omega) rfl
set_option maxHeartbeats 400000 in
theorem clone_ints {w : World} {a : Option Addr} {n cap : Nat} {l : List Int} (h : Ints w a n cap l) (hb : n ≤ 1099511627776) :
 Calls Tryz.prog 105 #[.slice a n cap] w fun e w' => ∃ v, e = .returned v ∧ OwnI w' w.heap.size v l ∧ Ext w w' := by
 have heq : ∀ w' : World, (binOp .eql 22 (.slice a n cap) (.slice none 0 0)).run Tryz.prog w' = .ok (.bool a.isNone) w' := fun w' => Lib.run_eql_slice_nil w' _ _ a n cap 0 0 Tryz.underlying22
 have HL := Lib.hid h.hlen
 cases a with
 | none =>
   have hl : l = [] := by
    have : ¬ 0 < n := fun hn => by obtain ⟨b, off, e, _⟩ := h.cell 0 hn; cases e
    exact List.eq_nil_of_length_eq_zero (by have := HL.out; omega)
   simp only [Option.isNone_none] at heq
   go_enter Tryz.func105, Tryz.ntmps105
   go_wp2
   go_ret
   exact ⟨_, rfl, by rw [hl]; exact OwnI.nil w _, Ext.refl _⟩
 | some ad =>
   simp only [Option.isNone_some] at heq
   have HI := Lib.hid (h.alloc (.cells #[] 3))
   have HO := Lib.hid (OwnI.made w w.heap.size (Nat.le_refl _))
   clear h
   go_enter Tryz.func105, Tryz.ntmps105
   go_wp2_with (first | (at_builtin; refine append_ints rfl _ _ rfl w.heap.size _ _ rfl HO.out _ n _ l rfl HI.out (by simpa using hb) (by simp) ?_; intro v' w1 ho hg hnear))
   go_ret
   exact ⟨_, rfl, ho, ext_grown (Ext.alloc _ _) hg (fun k hk => Nat.le_of_eq (Option.some.inj (show some w.heap.size = some k from hk)))⟩
theorem RowsI.grown {w w' : World} {base base' : Nat} {v : Value} {vs : List Value} {L : List (List Int)} (h : RowsI w base vs L) {us : List Value} (hv : OwnV w base' v us) (hg : w.grownBy w' v.ownBlock) : RowsI w' base vs L :=
 h.keep fun i k hi hk => hg.block k ((h.row i hi).lt k hk).2 fun e => (h.row i hi).apart hv k hk e.symm
theorem OwnI.grown {w w' : World} {base base' : Nat} {v u : Value} {us : List Value} {l : List Int} (h : OwnI w base u l) (hv : OwnV w base' v us) (hg : w.grownBy w' v.ownBlock) : OwnI w' base u l :=
 h.keep fun k hk => hg.block k (h.lt k hk).2 fun e => h.apart hv k hk e.symm
theorem OwnSS.grownI {w w' : World} {base base' : Nat} {v u : Value} {l : List Int} {L : List (List Int)} (h : OwnSS w base v L) (hg : w.grownBy w' u.ownBlock) (hap : ∀ k, u.ownBlock = some k → w.heap.size ≤ k) : OwnSS w' base v L := by
 obtain ⟨vs, h1, h2⟩ := h
 have hx : Ext w w' := ⟨hg.os, hg.tape, hg.output, hg.size, fun k hk => hg.block k hk fun e => by have := hap k e.symm; omega⟩
 exact ⟨vs, h1.ext hx, h2.ext hx⟩
end Go.Proofs.YtgohdmnbnhehnaaGreat
