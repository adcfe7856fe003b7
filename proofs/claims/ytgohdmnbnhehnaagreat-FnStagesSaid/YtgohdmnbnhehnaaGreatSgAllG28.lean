import Derived.Test.YtgohdmnbnhehnaaGreatSgAllG15
import Derived.Test.YtgohdmnbnhehnaaGreatSgAllG1
namespace Go.Proofs.YtgohdmnbnhehnaaGreat
set_option linter.unusedVariables false
theorem nucF_bd (p : Int) (V : List Int) : ∀ (f : Nat) (L : List (Int × Int × Int)) (k : Nat), (nucF p V f L k).pt.length ≤ p.toNat ∧ (nucF p V f L k).st.length ≤ L.length + f * V.length
 | 0, L, k => ⟨Nat.zero_le _, Nat.zero_le _⟩
 | f + 1, L, k => by
   have ih := nucF_bd p V f (nextN V L (nucLp p.toNat V L)) (k + 1)
   have hl : (nextN V L (nucLp p.toNat V L)).length ≤ L.length + V.length := by
    unfold nextN
    rw [List.length_append]
    have h1 := newF_len (frN V L) (nucLp p.toNat V L) (frN V L).length
    have h2 : (frN V L).length ≤ V.length - 2 := freeL_len L (V.length - 2)
    omega
   have hm : (f + 1) * V.length = f * V.length + V.length := Nat.succ_mul _ _
   unfold nucF
   split
   ·split
    ·refine ⟨?_, ?_⟩
     ·show ((_ : List (Int × Int)).map negR).length ≤ _
      rw [List.length_map, List.length_take]; omega
     ·show (nextN V L (nucLp p.toNat V L)).length ≤ _
      omega
    ·exact ⟨ih.1, by omega⟩
   ·exact ⟨Nat.zero_le _, Nat.zero_le _⟩
theorem nucR_bd (p : Int) (V : List Int) : (nucR p V).pt.length ≤ 5 ∧ (nucR p V).st.length ≤ 2000 := by
 unfold nucR
 split
 ·next h =>
  split
  ·exact ⟨by show 1 ≤ 5; omega, Nat.zero_le _⟩
  ·obtain ⟨_, h32, _, _, h5, _⟩ := game_cN h
   have hb := nucF_bd p V ((frN V []).length + 1) [] 0
   have h2 : (frN V []).length ≤ V.length - 2 := freeL_len [] (V.length - 2)
   have h3 : ((frN V []).length + 1) * V.length ≤ 32 * 32 := Nat.mul_le_mul (by omega) h32
   simp only [List.length_nil] at hb
   exact ⟨by omega, by omega⟩
 ·exact ⟨Nat.zero_le _, Nat.zero_le _⟩
open Go.RowKit
set_option maxHeartbeats 400000 in
theorem l_sameInts {w : World} {a a' : Option Addr} {n n' cap cap' : Nat} {l l' : List Int} (h : Ints w a n cap l) (h' : Ints w a' n' cap' l') :
 Calls Tryz.prog 55 #[.slice a n cap, .slice a' n' cap'] w fun e w' => e = .returned (.bool (decide (l = l'))) ∧ Drew w w' := by
 have hn := h.hcap
 have hm := h.hmax
 have hn' := h'.hcap
 have hm' := h'.hmax
 have HL := Lib.hid h.hlen
 have HL' := Lib.hid h'.hlen
 by_cases hne : n = n'
 ·subst hne
  go_enter Tryz.func55, Tryz.ntmps55
  go_wp2
  go_loopw [5] (fun i wr => ∃ k : Nat, k ≤ n ∧ i = .int .i64 k ∧ l.take k = l'.take k ∧ Drew w wr) (fun i _ => n - (intOf i).toNat)
  case atStart => exact ⟨0, Nat.zero_le _, rfl, rfl, Drew.refl _⟩
  case round =>
   obtain ⟨k, hk, rfl, htk, hx⟩ := hrel
   have HT := Lib.hid htk
   clear htk
   by_cases hlt : k < n
   ·have h1 := h.ext hx.ext
    have h1' := h'.ext hx.ext
    obtain ⟨b, off, rfl, hc⟩ := h1.at hlt
    obtain ⟨b', off', rfl, hc'⟩ := h1'.at hlt
    by_cases hq : l[k]?.getD 0 = l'[k]?.getD 0
    ·have HQ := Lib.hid hq
     have hq1 : (l[k]?.getD 0 != l'[k]?.getD 0) = false := by simp [hq]
     clear hq
     go_wp2
     go_quiet (fail)
     go_wp2
     go_roundw
     case rel => exact ⟨k + 1, by omega, by go_num, by rw [take_snoc (by have := HL.out; omega), take_snoc (by have := HL'.out; omega), HT.out, HQ.out], hx.trans ⟨_, rfl⟩⟩
     case measure => simp [intOf]; omega
    ·have HQ := Lib.hid hq
     have hq1 : (l[k]?.getD 0 != l'[k]?.getD 0) = true := by simp [hq]
     clear hq
     go_wp2
     go_quiet (fail)
     go_wp2
     go_ret
     refine ⟨ret_bool ?_, hx.trans ⟨_, rfl⟩⟩
     symm
     rw [decide_eq_false_iff_not]
     intro e
     exact HQ.out (by rw [e])
   ·go_wp2
    go_ret
    refine ⟨ret_bool ?_, hx⟩
    symm
    rw [decide_eq_true_eq]
    have := HT.out
    rwa [List.take_of_length_le (by have := HL.out; omega), List.take_of_length_le (by have := HL'.out; omega)] at this
 ·have hne' : ((n : Int) != (n' : Int)) = true := by simp; omega
  have HN := Lib.hid hne
  clear hne
  go_enter Tryz.func55, Tryz.ntmps55
  go_wp2
  go_ret
  refine ⟨ret_bool ?_, Drew.refl _⟩
  symm
  rw [decide_eq_false_iff_not]
  intro e
  exact HN.out (by rw [← HL.out, ← HL'.out, e])
set_option maxHeartbeats 400000 in
theorem l_sameLists {w : World} {a a' : Option Addr} {n n' cap cap' : Nat} {L L' : List (List Int)} (h : IntSS w a n cap L) (h' : IntSS w a' n' cap' L') :
 Calls Tryz.prog 52 #[.slice a n cap, .slice a' n' cap'] w fun e w' => e = .returned (.bool (decide (L = L'))) ∧ Drew w w' := by
 have hn := h.hcap
 have hm := h.hmax
 have hn' := h'.hcap
 have hm' := h'.hmax
 have HL := Lib.hid h.hlen
 have HL' := Lib.hid h'.hlen
 by_cases hne : n = n'
 ·subst hne
  go_enter Tryz.func52, Tryz.ntmps52
  go_wp2
  go_loopw [5] (fun i wr => ∃ k : Nat, k ≤ n ∧ i = .int .i64 k ∧ Hid (L.take k = L'.take k) ∧ Drew w wr) (fun i _ => n - (intOf i).toNat)
  case atStart => exact ⟨0, Nat.zero_le _, rfl, Lib.hid rfl, Drew.refl _⟩
  case round =>
   obtain ⟨k, hk, rfl, HT, hx⟩ := hrel
   by_cases hlt : k < n
   ·obtain ⟨b, off, a1, n1, c1, rfl, hc, hr⟩ := (h.ext hx.ext).at hlt
    obtain ⟨b', off', a2, n2, c2, rfl, hc', hr'⟩ := (h'.ext hx.ext).at hlt
    have HE := Lib.hid fun m => quiet_drew (l_sameInts (hr.drewN m) (hr'.drewN m))
    clear hr hr'
    cases hq : decide (L[k]?.getD [] = L'[k]?.getD [])
    ·have HQ := Lib.hid hq
     rw [hq] at HE
     clear hq
     go_wp2
     go_quiet ((go_at_call 55; exact HE.out _))
     go_wp2
     go_ret
     refine ⟨ret_bool ?_, hx.trans ⟨_, rfl⟩⟩
     symm
     rw [decide_eq_false_iff_not]
     intro e
     have := HQ.out
     rw [decide_eq_false_iff_not] at this
     exact this (by rw [e])
    ·have HQ := Lib.hid hq
     rw [hq] at HE
     clear hq
     go_wp2
     go_quiet ((go_at_call 55; exact HE.out _))
     go_wp2
     go_roundw
     case rel => exact ⟨k + 1, by omega, by go_num, Lib.hid (by rw [takeL_snoc (by have := HL.out; omega), takeL_snoc (by have := HL'.out; omega), HT.out, of_decide_eq_true HQ.out]), hx.trans ⟨_, rfl⟩⟩
     case measure => simp [intOf]; omega
   ·go_wp2
    go_ret
    refine ⟨ret_bool ?_, hx⟩
    symm
    rw [decide_eq_true_eq]
    have := HT.out
    rwa [List.take_of_length_le (by have := HL.out; omega), List.take_of_length_le (by have := HL'.out; omega)] at this
 ·have hne' : ((n : Int) != (n' : Int)) = true := by simp; omega
  have HN := Lib.hid hne
  clear hne
  go_enter Tryz.func52, Tryz.ntmps52
  go_wp2
  go_ret
  refine ⟨ret_bool ?_, Drew.refl _⟩
  symm
  rw [decide_eq_false_iff_not]
  intro e
  exact HN.out (by rw [← HL.out, ← HL'.out, e])
end Go.Proofs.YtgohdmnbnhehnaaGreat
