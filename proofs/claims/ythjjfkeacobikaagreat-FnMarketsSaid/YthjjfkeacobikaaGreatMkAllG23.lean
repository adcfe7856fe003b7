import Derived.Test.YthjjfkeacobikaaGreatMkAllG20
import Derived.Test.YthjjfkeacobikaaGreatMkAllG21
import Derived.Test.YthjjfkeacobikaaGreatMkAllG22
import Derived.Test.YthjjfkeacobikaaGreatMkAllG1
import Derived.Test.YthjjfkeacobikaaGreatMkAllG0
set_option linter.unusedVariables false
set_option linter.unusedSimpArgs false
namespace Go.Proofs.YthjjfkeacobikaaGreat
open Go.RowKit
theorem sumN_int (f : Nat → Int) : ∀ m, sumN (fun k => ((f k : Int) : Rat)) m = ((sumZ f m : Int) : Rat)
 | 0 => rfl
 | m + 1 => by simp only [sumN, sumZ]; rw [sumN_int f m, Rat.intCast_add]
theorem rowF_get' (f : Nat → Int) (n k : Nat) (h : k < n) : (rowF f n)[k]?.getD 0 = f k := by
 unfold rowF; simp [h]
theorem asg_game {S B : Nat} {G : List (List Int)} (hv : validM (S : Int) (B : Int) G = true) (hM : GoodM S B G) : gameOk (asgP (S : Int) (B : Int) G : Int) (asgL (S : Int) (B : Int) G) = true ∧ asgP (S : Int) (B : Int) G = S + B ∧ asgL (S : Int) (B : Int) G = rowF (asgF S B G) (cN (S + B)) := by
 have hsb := hM.sb
 have h1 := hM.s1
 have e : ((S : Int) + (B : Int)).toNat = S + B := by omega
 have e1 : asgP (S : Int) (B : Int) G = S + B := by unfold asgP; rw [if_pos hv, e]
 have e2 : asgL (S : Int) (B : Int) G = rowF (asgF S B G) (cN (S + B)) := by unfold asgL; rw [if_pos hv, e, Int.toNat_natCast, Int.toNat_natCast]
 refine ⟨?_, e1, e2⟩
 rw [e1, e2]
 exact rowF_ok (by omega) hsb (by unfold asgF; exact bestF_zero S B G S []) fun s _ => asgF_bd hM s
theorem mkt_value {S B : Nat} {G : List (List Int)} (hv : validM (S : Int) (B : Int) G = true) (hS : S ≤ 2) (hB : B ≤ 2)
 (hst : (solveG boundI (coreA (S + B) (cN (S + B))) (coreB (S + B)) (coreC (asgL (S : Int) (B : Int) G))).status = 1) :
 - ((grandV ((S + B : Nat) : Int) (asgL (S : Int) (B : Int) G) : Int) : Rat) ≤ val (solveG boundI (coreA (S + B) (cN (S + B))) (coreB (S + B)) (coreC (asgL (S : Int) (B : Int) G))).value := by
 obtain ⟨S', B', hS', hB', hM⟩ := validM_good hv
 obtain rfl : S = S' := by omega
 obtain rfl : B = B' := by omega
 obtain ⟨hg, hp, hl⟩ := asg_game hv hM
 rw [hp] at hg
 have hcn := cN_le (S + B) hM.sb
 obtain ⟨u, v, hu, hvv, hc, hsum⟩ := asg_prices (G := G) hM.s1 hS hM.b1 hB hM.bd
 have hgr : grandV ((S + B : Nat) : Int) (asgL (S : Int) (B : Int) G) = asgF S B G (cN (S + B) - 1) := by
  rw [grandV_ok hg, hl, rowF_len, rowF_get' _ _ _ (by omega)]
 obtain ⟨s1, _, s3, _⟩ := solveG_val hst
 have hce := cert_of s1 s3 hst
 have hb := core_bound (Y := fun i => ((shareZ S u v i : Int) : Rat)) hM.sb hcn.2 (by rw [hl, rowF_len]) hce fun j hj => by
  rw [hl, rowF_get' _ _ _ (by omega)]
  have h := asg_core hu hvv hc (1 + j)
  have e : sumN (fun i => ((shareZ S u v i : Int) : Rat) * ((bitI (bit ((1 + j : Nat) : Int) i) : Int) : Rat)) (S + B) = ((sumZ (fun i => if bit ((1 + j : Nat) : Int) i = true then shareZ S u v i else 0) (S + B) : Int) : Rat) := by
   rw [← sumN_int]
   refine sumN_congr fun i hi => ?_
   rw [bitI_rat]
   cases bit ((1 + j : Nat) : Int) i <;> simp <;> grind
  rw [e]
  exact Rat.intCast_le_intCast.2 h
 rw [sumN_int] at hb
 rw [hgr]
 have h2 : ((sumZ (shareZ S u v) (S + B) : Int) : Rat) ≤ ((asgF S B G (cN (S + B) - 1) : Int) : Rat) := Rat.intCast_le_intCast.2 hsum
 grind
theorem mkt_core {S B : Nat} {G : List (List Int)} (hv : validM (S : Int) (B : Int) G = true) (hS : S ≤ 2) (hB : B ≤ 2) :
 codeS true (grandV ((S + B : Nat) : Int) (asgL (S : Int) (B : Int) G)) (solveG boundI (coreA (S + B) (cN (S + B))) (coreB (S + B)) (coreC (asgL (S : Int) (B : Int) G))) ≠ 2 := by
 intro hc
 obtain ⟨c1, c2, c3⟩ := vote_code hc (.inr rfl)
 have hm := mkt_value hv hS hB c1
 have hneg := c3.1 rfl
 unfold slackR at c2 hneg
 obtain ⟨a1, a2, a3, a4⟩ := val_add c2
 rw [val_whole] at a4
 have : ¬ 0 ≤ val (slackR (grandV ((S + B : Nat) : Int) (asgL (S : Int) (B : Int) G)) (solveG boundI (coreA (S + B) (cN (S + B))) (coreB (S + B)) (coreC (asgL (S : Int) (B : Int) G)))).1 := fun h => by
  have := (val_nonneg a3).2 h
  omega
 apply this
 unfold slackR
 rw [a4]
 grind
set_option maxHeartbeats 400000 in
theorem l_sameInts {w : World} {a a' : Option Addr} {n n' cap cap' : Nat} {l l' : List Int} (h : Ints w a n cap l) (h' : Ints w a' n' cap' l') :
 Calls Tryz.prog 16 #[.slice a n cap, .slice a' n' cap'] w fun e w' => e = .returned (.bool (decide (l = l'))) ∧ Drew w w' := by
 have hn := h.hcap
 have hm := h.hmax
 have hn' := h'.hcap
 have hm' := h'.hmax
 have HL := Lib.hid h.hlen
 have HL' := Lib.hid h'.hlen
 by_cases hne : n = n'
 ·subst hne
  go_enter Tryz.func16, Tryz.ntmps16
  go_wp2
  go_loopw [5] (fun i wr => ∃ k : Nat, k ≤ n ∧ i = .int .i64 k ∧ l.take k = l'.take k ∧ Drew w wr) (fun i _ => n - (intOf i).toNat)
  case atStart => exact ⟨0, Nat.zero_le _, rfl, rfl, Drew.refl _⟩
  case round =>
   obtain ⟨k, hk, rfl, htk, hx⟩ := hrel
   have HT := Lib.hid htk
   clear htk
   by_cases hlt : k < n
   ·have h1 := h.ext hx.ext
    have h1' := h'.ext hx.ext
    obtain ⟨b, off, rfl, hc⟩ := h1.at hlt
    obtain ⟨b', off', rfl, hc'⟩ := h1'.at hlt
    by_cases hq : l[k]?.getD 0 = l'[k]?.getD 0
    ·have HQ := Lib.hid hq
     have hq1 : (l[k]?.getD 0 != l'[k]?.getD 0) = false := by simp [hq]
     clear hq
     go_wp2
     go_quiet (fail)
     go_wp2
     go_roundw
     case rel => exact ⟨k + 1, by omega, by go_num, by rw [take_snoc (by have := HL.out; omega), take_snoc (by have := HL'.out; omega), HT.out, HQ.out], hx.trans ⟨_, rfl⟩⟩
     case measure => simp [intOf]; omega
    ·have HQ := Lib.hid hq
     have hq1 : (l[k]?.getD 0 != l'[k]?.getD 0) = true := by simp [hq]
     clear hq
     go_wp2
     go_quiet (fail)
     go_wp2
     go_ret
     refine ⟨ret_bool ?_, hx.trans ⟨_, rfl⟩⟩
     symm
     rw [decide_eq_false_iff_not]
     intro e
     exact HQ.out (by rw [e])
   ·go_wp2
    go_ret
    refine ⟨ret_bool ?_, hx⟩
    symm
    rw [decide_eq_true_eq]
    have := HT.out
    rwa [List.take_of_length_le (by have := HL.out; omega), List.take_of_length_le (by have := HL'.out; omega)] at this
 ·have hne' : ((n : Int) != (n' : Int)) = true := by simp; omega
  have HN := Lib.hid hne
  clear hne
  go_enter Tryz.func16, Tryz.ntmps16
  go_wp2
  go_ret
  refine ⟨ret_bool ?_, Drew.refl _⟩
  symm
  rw [decide_eq_false_iff_not]
  intro e
  exact HN.out (by rw [← HL.out, ← HL'.out, e])
end Go.Proofs.YthjjfkeacobikaaGreat
