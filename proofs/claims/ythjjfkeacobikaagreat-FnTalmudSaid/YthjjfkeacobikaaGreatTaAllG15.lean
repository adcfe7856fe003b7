import Derived.Test.YthjjfkeacobikaaGreatTaAllG14
import Derived.Test.YthjjfkeacobikaaGreatTaAllG10
import Derived.Test.YthjjfkeacobikaaGreatTaAllG6
import Derived.Test.YthjjfkeacobikaaGreatTaAllG3
import Derived.Test.YthjjfkeacobikaaGreatTaAllG4
import Derived.StillTailTactics
import Derived.Test.YthjjfkeacobikaaGreatTaAllG9
set_option linter.unusedVariables false
set_option linter.unusedSimpArgs false
namespace Go.Proofs.YthjjfkeacobikaaGreat
def Small (e : Int) (p : Int × Int) : Prop := ∃ y E : Int, Fr p y E ∧ 0 ≤ y ∧ y ≤ 500 * E ∧ E ≤ e
def fallN (n : Nat) : Nat → Int
 | 0 => 1
 | k + 1 => fallN n k * ((n - k : Nat) : Int)
theorem fallN_bd {n : Nat} (hn : n ≤ 5) {k : Nat} (hk : k ≤ n) : 1 ≤ fallN n k ∧ fallN n k ≤ 120 := by
 have : ∀ n : Fin 6, ∀ k : Fin 6, k.val ≤ n.val → 1 ≤ fallN n.val k.val ∧ fallN n.val k.val ≤ 120 := by decide +kernel
 exact this ⟨n, by omega⟩ ⟨k, by omega⟩ hk
structure Runs (C : List Int) (n k : Nat) (st : (Int × Int) × List (Int × Int)) : Prop where
 left : ∃ x, Fr st.1 x (fallN n k) ∧ 0 ≤ x ∧ x ≤ 500 * fallN n k
 row : ∀ j, j < k → Small 120 (st.2[ordA C n j]?.getD (0, 0))
 len : st.2.length = n
theorem small_parts {p : Int × Int} {x D : Int} (h : Fr p x D) (hx : 0 ≤ x) (hx' : x ≤ 500 * D) (hD : D ≤ 1000) : 1 ≤ p.2 ∧ p.2 ≤ 1000 ∧ 0 ≤ p.1 ∧ p.1 ≤ 500000 := by
 have h1 := h.size
 have h2 := valR_bd h.1
 have h3 := h.2.2
 have h4 := h.2.1
 refine ⟨h2.1, by omega, ?_, by omega⟩
 rcases Int.lt_or_le p.1 0 with h | h
 ·have : p.1 * D < 0 := Int.mul_neg_of_neg_of_pos h h4
  have : 0 ≤ x * p.2 := Int.mul_nonneg hx (by omega)
  omega
 ·exact h
theorem diff_bd {p q : Int × Int} (h : 1 ≤ p.2 ∧ p.2 ≤ 1000 ∧ 0 ≤ p.1 ∧ p.1 ≤ 500000) (k : 1 ≤ q.2 ∧ q.2 ≤ 1000 ∧ 0 ≤ q.1 ∧ q.1 ≤ 500000) : -1000000000000000000 ≤ p.1 * q.2 - q.1 * p.2 ∧ p.1 * q.2 - q.1 * p.2 ≤ 1000000000000000000 := by
 have h1 := mul_bd (x := p.1) (y := q.2) (by omega) (by omega) (by omega) (by omega)
 have a1 : p.1 * q.2 ≤ 500000 * 1000 := Int.mul_le_mul (by omega) (by omega) (by omega) (by omega)
 have a2 : q.1 * p.2 ≤ 500000 * 1000 := Int.mul_le_mul (by omega) (by omega) (by omega) (by omega)
 have a3 : 0 ≤ p.1 * q.2 := Int.mul_nonneg (by omega) (by omega)
 have a4 : 0 ≤ q.1 * p.2 := Int.mul_nonneg (by omega) (by omega)
 omega
theorem runs_step {C : List Int} {n k : Nat} (hn : n ≤ 5) (hk : k < n) (hC : ∀ j : Nat, 0 ≤ C[j]?.getD 0 ∧ C[j]?.getD 0 ≤ 100) {st : (Int × Int) × List (Int × Int)} (h : Runs C n k st) :
 ∃ st', stepA C n st k = some st' ∧ Runs C n (k + 1) st' := by
 obtain ⟨x, hf, hx0, hx1⟩ := h.left
 obtain ⟨d1, d2⟩ := fallN_bd hn (Nat.le_of_lt hk)
 obtain ⟨e1, e2⟩ := fallN_bd hn (show k + 1 ≤ n from hk)
 have hm1 : 1 ≤ ((n - k : Nat) : Int) := by omega
 have hE : fallN n (k + 1) = fallN n k * ((n - k : Nat) : Int) := rfl
 generalize hm : ((n - k : Nat) : Int) = m at *
 generalize hD : fallN n k = D at *
 generalize hEE : fallN n (k + 1) = E at *
 have hmE : x ≤ x * m := by have := Int.mul_le_mul_of_nonneg_left hm1 hx0; omega
 have hxE : x * m ≤ 500 * E := by rw [hE, ← Int.mul_assoc]; exact Int.mul_le_mul_of_nonneg_right hx1 (by omega)
 obtain ⟨r, hdiv, hr⟩ := hf.div (Fr.int m (by omega) (by omega)) (by omega) (z := x) (F := E) (by omega) (by omega) (by omega) (by rw [hE]; grind)
 have hc := hC (ordA C n k)
 generalize hcv : C[ordA C n k]?.getD 0 = c at *
 have hcf := Fr.int c (by omega) (by omega)
 obtain ⟨s, y, hs, hsf, hy0, hy1⟩ : ∃ s y, shareA C st.1 (n - k) (ordA C n k) = s ∧ Fr s y E ∧ 0 ≤ y ∧ y ≤ x := by
  unfold shareA
  rw [hm, hdiv, hcv]
  by_cases hlt : cmpR (c, 1) r < 0
  ·rw [if_pos hlt]
   rw [hcf.cmp hr] at hlt
   have hcx : c * E < x * 1 := by
    split at hlt
    ·assumption
    ·split at hlt <;> omega
   have := hcf.scale (k := E) (by omega)
   rw [Int.one_mul] at this
   exact ⟨_, _, rfl, this, Int.mul_nonneg hc.1 (by omega), by omega⟩
  ·rw [if_neg hlt]
   exact ⟨_, _, rfl, hr, hx0, Int.le_refl _⟩
 have hfm : Fr st.1 (x * m) E := by rw [hE]; exact hf.scale (by omega)
 obtain ⟨l, hsub, hl⟩ := hfm.sub hsf (z := x * m - y) (F := E) (by omega) (by omega) (by omega)
  (diff_bd (small_parts hf hx0 hx1 (by omega)) (small_parts hsf hy0 (by omega) (by omega))) (by grind)
 refine ⟨(l, st.2.set (ordA C n k) s), ?_, ⟨_, by rw [hEE]; exact hl, by omega, by omega⟩, fun j hj => ?_, by simp [h.len]⟩
 ·unfold stepA
  rw [hm, hdiv, hs, hsub, if_pos ⟨rfl, rfl⟩]
 ·have hsm : Small 120 s := ⟨y, E, hsf, hy0, by omega, e2⟩
  by_cases he : ordA C n j = ordA C n k
  ·rw [he]
   have := (ordA_lt C n hk).1
   simp [List.getElem?_set, h.len, this, hsm]
  ·simp only
   rw [List.getElem?_set_ne (Ne.symm he)]
   have : j ≠ k := fun e => he (by rw [e])
   exact h.row j (by omega)
theorem runs_all {C : List Int} {n : Nat} (hn : n ≤ 5) (hC : ∀ j : Nat, 0 ≤ C[j]?.getD 0 ∧ C[j]?.getD 0 ≤ 100) {A : Int} (h0 : 0 ≤ A) (h1 : A ≤ 500) : ∀ k, k ≤ n → ∃ st, runA C n (A, 1) (List.replicate n (0, 0)) k = some st ∧ Runs C n k st
 | 0, _ => ⟨_, rfl, ⟨A, Fr.int A (by omega) (by omega), h0, by simp [fallN]; omega⟩, fun j hj => absurd hj (by omega), by simp⟩
 | k + 1, hk => by
   obtain ⟨st, h2, h3⟩ := runs_all hn hC h0 h1 k (by omega)
   obtain ⟨st', h4, h5⟩ := runs_step hn (by omega) hC h3
   exact ⟨st', by rw [runA_succ C n h2, h4], h5⟩
theorem valid_small {x : Int} {C : List Int} (h : validPair 0 x C = true) : ∀ j : Nat, 0 ≤ C[j]?.getD 0 ∧ C[j]?.getD 0 ≤ 100 := by
 have hv := valid_claims h
 intro j
 by_cases hj : j < C.length
 ·exact hv.2.2.2.2.2.2 j hj
 ·rw [List.getElem?_eq_none (by omega)]; simp
theorem award_whole {x : Int} {C : List Int} (h : validPair 0 x C = true) {A : Int} (h0 : 0 ≤ A) (h1 : A ≤ sumW C) : awardOk C A 1 = true ∧ (awardL C A 1).length = C.length ∧ ∀ i, i < C.length → Small 120 ((awardL C A 1)[i]?.getD (0, 0)) := by
 have hv := valid_claims h
 have hC := valid_small h
 have hfit : fitsR C A 1 = true := by
  have hfA := Fr.int A (by omega) (by omega)
  have hfS := Fr.int (sumW C) (by omega) (by omega)
  simp only [fitsR, small, Bool.and_eq_true, List.all_eq_true, inB, decide_eq_true_eq]
  refine ⟨⟨fun c hc => ?_, by omega, by omega⟩, hfA.1, h0, ?_⟩
  ·obtain ⟨j, hj, rfl⟩ := List.getElem_of_mem hc
   have := hC j
   rw [List.getElem?_eq_getElem hj] at this
   simp only [Option.getD_some] at this
   omega
  ·rw [hfA.cmp hfS]
   split
   ·omega
   ·split <;> omega
 obtain ⟨st, h2, h3⟩ := runs_all hv.2.1 hC h0 (by omega) C.length (Nat.le_refl _)
 have hO : awardOk C A 1 = true := by unfold awardOk; rw [hfit, h2]; rfl
 have hL : awardL C A 1 = st.2 := by unfold awardL; rw [if_pos hfit, h2]; rfl
 refine ⟨hO, by rw [hL]; exact h3.len, fun i hi => ?_⟩
 obtain ⟨k, hk, he⟩ := ordA_all C C.length hi
 rw [hL, ← he]
 exact h3.row k hk
def halfR (p : Int × Int) : Int × Int := (divR p (2, 1)).1
theorem half_small {p : Int × Int} (h : Small 120 p) : (divR p (2, 1)).2 = true ∧ Small 240 (halfR p) := by
 obtain ⟨y, E, hf, h0, h1, h2⟩ := h
 have hE := hf.2.1
 obtain ⟨r, h3, h4⟩ := hf.div (Fr.int 2 (by omega) (by omega)) (by omega) (z := y) (F := E * 2) (by omega) (by omega) (by omega) (by grind)
 unfold halfR
 rw [h3]
 exact ⟨rfl, y, E * 2, h4, h0, by omega, by omega⟩
def talA (x : Int) (C : List Int) : Int := if 2 * x ≤ sumW C then 2 * x else 2 * (sumW C - x)
def talH (x : Int) (C : List Int) : List (Int × Int) := (awardL C (talA x C) 1).map halfR
def talL (x : Int) (C : List Int) : List (Int × Int) := if validPair 0 x C = true then (if 2 * x ≤ sumW C then talH x C else (lessL C (talH x C)).getD []) else []
theorem talA_bd {x : Int} {C : List Int} (h : validPair 0 x C = true) : 0 ≤ talA x C ∧ talA x C ≤ sumW C := by
 have hv := valid_claims h
 unfold talA
 split <;> omega
theorem tal_award {x : Int} {C : List Int} (h : validPair 0 x C = true) : awardOk C (talA x C) 1 = true ∧ (awardL C (talA x C) 1).length = C.length ∧ ∀ i, i < C.length → (divR ((awardL C (talA x C) 1)[i]?.getD (0, 0)) (2, 1)).2 = true ∧ Small 240 (halfR ((awardL C (talA x C) 1)[i]?.getD (0, 0))) := by
 obtain ⟨h1, h2, h3⟩ := award_whole h (talA_bd h).1 (talA_bd h).2
 exact ⟨h1, h2, fun i hi => half_small (h3 i hi)⟩
theorem talH_len {x : Int} {C : List Int} (h : validPair 0 x C = true) : (talH x C).length = C.length := by
 unfold talH
 rw [List.length_map]
 exact (tal_award h).2.1
theorem map_at {f : Int × Int → Int × Int} {L : List (Int × Int)} {i : Nat} (h : i < L.length) : (L.map f)[i]?.getD (0, 0) = f (L[i]?.getD (0, 0)) := by simp [h]
theorem tal_less {x : Int} {C : List Int} (h : validPair 0 x C = true) : lessL C (talH x C) = runT (loseF C (talH x C)) C.length ∧ (lessL C (talH x C)).isSome = true := by
 have hC := valid_small h
 have hv := valid_claims h
 have hfit : fitL C = true := by
  unfold fitL
  rw [List.all_eq_true]
  intro c hc
  obtain ⟨j, hj, rfl⟩ := List.getElem_of_mem hc
  have := hC j
  rw [List.getElem?_eq_getElem hj] at this
  simp only [Option.getD_some] at this
  simp only [inB, Bool.and_eq_true, decide_eq_true_eq]
  omega
 have h1 := lessL_eq hfit (talH_len h)
 refine ⟨h1, ?_⟩
 rw [h1, runT_all (F := fun i => (subR (C[i]?.getD 0, 1) ((talH x C)[i]?.getD (0, 0))).1) fun i hi => ?_]
 ·rfl
 ·unfold loseF
  rw [if_pos]
  have hl := (tal_award h).2.1
  have : (talH x C)[i]?.getD (0, 0) = halfR ((awardL C (talA x C) 1)[i]?.getD (0, 0)) := by unfold talH; rw [map_at (by omega)]
  rw [this]
  obtain ⟨y, E, hf, h0, h2, h3⟩ := ((tal_award h).2.2 i hi).2
  have hE := hf.2.1
  have hc := hC i
  generalize C[i]?.getD 0 = c at *
  have hcf := Fr.int c (by omega) (by omega)
  have hcE : c * E ≤ 100 * 240 := Int.mul_le_mul (by omega) (by omega) (by omega) (by omega)
  have hc0 : 0 ≤ c * E := Int.mul_nonneg (by omega) (by omega)
  obtain ⟨r, h4, _⟩ := hcf.sub hf (z := c * E - y) (F := E) (by omega) (by omega) (by omega) (diff_bd (by simp only; omega) (small_parts hf h0 h2 (by omega))) (by grind)
  rw [h4]
open Go.RowKit
theorem rest_nat : ∀ n : Fin 6, ∀ s : Fin 32, s.val < cN n.val → bits .andNot .i64 ((cN n.val : Int) - 1) ((s.val : Nat) : Int) = (cN n.val : Int) - 1 - ((s.val : Nat) : Int) := by decide +kernel
theorem rest_bits (n s : Nat) (hn : n ≤ 5) (hs : s < cN n) : bits .andNot .i64 ((cN n : Int) - 1) (s : Int) = (cN n : Int) - 1 - (s : Int) := rest_nat ⟨n, by omega⟩ ⟨s, by have := cN_le n hn; omega⟩ hs
theorem rest_bit_nat : ∀ n : Fin 6, ∀ s : Fin 32, ∀ k : Fin 5, s.val < cN n.val → k.val < n.val → bit ((cN n.val : Int) - 1 - ((s.val : Nat) : Int)) k.val = !bit ((s.val : Nat) : Int) k.val := by decide +kernel
theorem rest_bit (n s k : Nat) (hn : n ≤ 5) (hs : s < cN n) (hk : k < n) : bit ((cN n : Int) - 1 - (s : Int)) k = !bit (s : Int) k := rest_bit_nat ⟨n, by omega⟩ ⟨s, by have := cN_le n hn; omega⟩ ⟨k, by omega⟩ hs hk
theorem sumTo_le {l : List Int} (h : ∀ i : Nat, 0 ≤ l[i]?.getD 0 ∧ l[i]?.getD 0 ≤ 100) (c : Int) : ∀ k, k ≤ 1000 → 0 ≤ sumTo c l k ∧ sumTo c l k ≤ 100 * k
 | 0, _ => by simp [sumTo]
 | k + 1, hk => by
   have ih := sumTo_le h c k (by omega)
   have hx := h k
   unfold sumTo
   split
   ·unfold wrap64; omega
   ·omega
theorem sumTo_step {l : List Int} (h : ∀ i : Nat, 0 ≤ l[i]?.getD 0 ∧ l[i]?.getD 0 ≤ 100) (c : Int) (k : Nat) (hk : k ≤ 1000) : sumTo c l (k + 1) = (if bit c k then sumTo c l k + l[k]?.getD 0 else sumTo c l k) := by
 have := sumTo_le h c k hk
 have hx := h k
 rw [sumTo]
 split
 ·unfold wrap64; omega
 ·rfl
theorem sumW_le : ∀ (l : List Int) (acc A : Int), (∀ x ∈ l, 0 ≤ x ∧ x ≤ 100) → 0 ≤ acc → acc ≤ A → A + 100 * l.length ≤ 1000000 → l.foldl (fun a x => wrap64 (a + x)) acc ≤ A + 100 * l.length
 | [], acc, A, _, _, h, _ => by simpa using h
 | x :: l, acc, A, hx, h0, h, hA => by
   have h1 := hx x List.mem_cons_self
   simp only [List.foldl_cons, List.length_cons] at *
   have hw : wrap64 (acc + x) = acc + x := by unfold wrap64; omega
   rw [hw]
   have := sumW_le l (acc + x) (A + 100) (fun y hy => hx y (List.mem_cons_of_mem _ hy)) (by omega) (by omega) (by omega)
   omega
theorem valid_all {lo x : Int} {l : List Int} (h : validPair lo x l = true) : (∀ i : Nat, 0 ≤ l[i]?.getD 0 ∧ l[i]?.getD 0 ≤ 100) ∧ lo ≤ x ∧ x ≤ 500 := by
 have hlen := valid_len h
 unfold validPair small at h
 simp only [Bool.and_eq_true] at h
 have hall : ∀ y ∈ l, 0 ≤ y ∧ y ≤ 100 := fun y hy => by
  have := List.all_eq_true.1 h.1.1 y hy
  unfold inB at this
  simpa using this
 refine ⟨fun i => ?_, ?_⟩
 ·by_cases hi : i < l.length
  ·have := hall _ (List.getElem_mem hi)
   simpa [hi] using this
  ·simp [List.getElem?_eq_none (by omega : l.length ≤ i)]
 ·have hb : lo ≤ x ∧ x ≤ sumW l := by have := h.2; unfold inB at this; simpa using this
  have := sumW_le l 0 0 hall (by omega) (by omega) (by omega)
  unfold sumW at hb
  omega
def maxI (a b : Int) : Int := if a > b then a else b
def bankF (q : Int) (l : List Int) (s : Nat) : Int := maxI 0 (q - sumTo ((cN l.length : Int) - 1 - (s : Int)) l l.length) * bitI (decide (0 < s))
def bankP (q : Int) (l : List Int) : Nat := if validPair 0 q l then l.length else 0
def bankL (q : Int) (l : List Int) : List Int := if validPair 0 q l then rowF (bankF q l) (cN l.length) else []
theorem bankF_le {q : Int} {l : List Int} (h : validPair 0 q l = true) (s : Nat) : 0 ≤ bankF q l s ∧ bankF q l s ≤ 500 := by
 have hv := valid_all h
 have hl := valid_len h
 have hs := sumTo_le hv.1 ((cN l.length : Int) - 1 - (s : Int)) l.length (by omega)
 unfold bankF maxI
 cases decide (0 < s) <;> simp [bitI] <;> split <;> omega
theorem bankF_wrap {q : Int} {l : List Int} (h : validPair 0 q l = true) (s : Nat) : IntKind.i64.wrap (maxI 0 (q - sumTo ((cN l.length : Int) - 1 - (s : Int)) l l.length) * bitI (decide (0 < s))) = bankF q l s := by
 have := bankF_le h s
 have he : maxI 0 (q - sumTo ((cN l.length : Int) - 1 - (s : Int)) l l.length) * bitI (decide (0 < s)) = bankF q l s := rfl
 rw [he, IntKind.wrap_i64]; omega
theorem go_BankruptcyGame1 : IsGo Tryz.prog 120 := isGo Tryz.func120 (by kernel_rfl) (by kernel_rfl)
set_option maxHeartbeats 1000000 in
theorem i_BankruptcyGame1 {w : World} {q : Int} {a : Option Addr} {n cap b b' : Nat} {l : List Int} (s : Nat) (h : Ints w a n cap l) (hb : w.heap[b]? = some (.cells #[.int .i64 q, .slice a n cap] 66 (0, 0))) (hb' : w.cell? ⟨b', 0, none⟩ = some (.int .i64 ((cN n : Int) - 1))) (hv : validPair 0 q l = true) (hs : s < cN n) (h5 : n ≤ 5) :
 Calls Tryz.prog 120 #[.int .i64 (s : Int), .pointer (some ⟨b, 0, none⟩), .pointer (some ⟨b', 0, none⟩)] w fun e w' => e = .returned (.int .i64 (bankF q l s)) ∧ Ext w w' := by
 have c0 := two_cell0 hb
 have c1 := two_cell1 hb
 have HI := Lib.hid h
 have HL := Lib.hid h.hlen
 have HC := Lib.hid (rest_bits n s h5 hs)
 have hN := cN_le n h5
 have hall := valid_all hv
 have hst := sumTo_le hall.1 ((cN n : Int) - 1 - (s : Int)) n (by omega)
 have hq := hall.2
 have HF := Lib.hid (bankF_wrap hv s)
 have HFL := Lib.hid (bankF_le hv s)
 by_cases h0 : s = 0
 ·subst h0
  clear h hb hv hall hst
  go_enter Tryz.func120, Tryz.ntmps120
  go_wp2_with fail
  go_ret
  exact ⟨ret_int (by unfold bankF; simp [bitI]), Ext.refl _⟩
 ·have hsp : decide (0 < s) = true := by simp; omega
  have HSP := Lib.hid hsp
  clear h hb hv hall hsp
  go_enter Tryz.func120, Tryz.ntmps120
  go_wp2
  go_quiet ((go_at_call 121; rw [HC.out]; exact quiet_same (i_sumOver _ (HI.out.drewN _) (by omega) (by omega) (by omega))))
  go_wp2
  all_goals
   go_ret
   refine ⟨ret_int ?_, below_drewN (Ext.refl _) _⟩
   unfold bankF maxI
   rw [HL.out, HSP.out]
   simp only [bitI, if_true, Int.mul_one]
   split <;> omega
set_option maxHeartbeats 4000000 in
theorem i_BankruptcyGame {w : World} {q : Int} {a : Option Addr} {n cap : Nat} {l : List Int} (h : Ints w a n cap l) :
 Calls Tryz.prog 45 #[pair q a n cap] w fun e w' => GameV w' w.heap.size e (bankP q l) (bankL q l) (validPair 0 q l) ∧ Ext w w' := by
 have hi := h.alloc (.cells #[.int .i64 q, .slice a n cap] 66)
 have HL := Lib.hid h.hlen
 have HV := Lib.hid (i_IsValidClaims (x := q) (hi.ext (Ext.alloc _ (.cells #[.int .i64 0, .slice none 0 0] 29))))
 have HX := Lib.hid ((Ext.alloc w (.cells #[.int .i64 q, .slice a n cap] 66)).trans (Ext.alloc _ (.cells #[.int .i64 0, .slice none 0 0] 29)))
 have hmax := h.hmax
 have hcap := h.hcap
 cases hv : validPair 0 q l
 ·rw [hv] at HV
  have HVV := Lib.hid hv
  clear hv
  go_enter Tryz.func45, Tryz.ntmps45
  go_wp2_with fail
  refine HV.out.mono ?_
  rintro e w1 ⟨rfl, hx⟩
  have r0 : w1.cell? ⟨w.heap.size + 1, 0, none⟩ = some (.int .i64 0) := hx.cellSome (by simp)
  have r1 : w1.cell? ⟨w.heap.size + 1, 1, none⟩ = some (.slice none 0 0) := hx.cellSome (by simp)
  have f0 : w1.frozen? ⟨w.heap.size + 1, 0, none⟩ = false := (hx.frozens _ _ (by simp)).trans (by simp)
  have f1 : w1.frozen? ⟨w.heap.size + 1, 1, none⟩ = false := (hx.frozens _ _ (by simp)).trans (by simp)
  have HX1 := Lib.hid (HX.out.trans hx)
  clear hx
  go_wp2
  refine bodyPost_ret (v := .tuple #[.agg #[.int .i64 0, .slice none 0 0], .bool false]) (by simp [results, Tryz.results45, go_sem, r0, r1]) rfl ⟨⟨.slice none 0 0, ?_, ?_⟩, ?_⟩
  ·unfold bankP; rw [HVV.out]; rfl
  ·unfold bankL; rw [HVV.out]; exact ⟨rfl, .inl ⟨rfl, rfl⟩⟩
  ·exact (HX1.out.setCell (by simp) _).setCell (by simp) _
 ·rw [hv] at HV
  have HVV := Lib.hid hv
  have hn5 : 1 ≤ n ∧ n ≤ 5 := by have := valid_len hv; have := HL.out; omega
  obtain ⟨hn1, hn5⟩ := hn5
  have hN := cN_le n hn5
  have HI := Lib.hid hi
  have HVB := Lib.hid hv
  have hint : IntKind.i64.wrap ((cN n : Int) - 1) = (cN n : Int) - 1 := by rw [IntKind.wrap_i64]; omega
  clear hv
  go_enter Tryz.func45, Tryz.ntmps45
  go_wp2_with fail
  refine HV.out.mono ?_
  rintro e w1 ⟨rfl, hx⟩
  have c1 : w1.cell? ⟨w.heap.size, 1, none⟩ = some (.slice a n cap) := hx.cellSome (by simp)
  have HB := Lib.hid (show w1.heap[w.heap.size]? = some (.cells #[.int .i64 q, .slice a n cap] 66 (0, 0)) from (hx.block _ (by simp; omega)).trans (by rw [heapA_old _ _ _ (by simp)]; exact heapA_new _ _ _ rfl))
  have HX1 := Lib.hid hx
  have HI1 := Lib.hid ((HI.out.ext (Ext.alloc _ _)).ext hx)
  clear hx
  have hs1 : w.heap.size < w1.heap.size := World.block_lt_of_cell? _ _ c1
  have HXB := Lib.hid (Ext.alloc w1 (.cells #[.int .i64 ((cN n : Int) - 1)] 3))
  have HT : Hid (Tells Tryz.prog (w1.alloc (.cells #[.int .i64 ((cN n : Int) - 1)] 3)) 120 #[.pointer (some ⟨w.heap.size, 0, none⟩), .pointer (some ⟨w1.heap.size, 0, none⟩)] (cN n) (bankF q l)) := Lib.hid fun s w2 hs k =>
   i_BankruptcyGame1 s ((HI1.out.ext HXB.out).ext k) (((HXB.out.trans k).block _ (lt_of_block HB.out)).trans HB.out) (k.cellSome (by simp)) HVB.out hs hn5
  have HM := Lib.hid (i_made hn1 hn5 go_BankruptcyGame1 HT.out (by unfold bankF; simp [bitI]) (fun s _ => by have := bankF_le HVB.out s; omega))
  go_wp2_with (first | (go_at_call 107; refine (i_CountC n hn5 _).mono ?_; rintro e w' ⟨rfl, rfl⟩))
  refine HM.out.mono ?_
  rintro e w2 ⟨⟨v, rfl, ho⟩, hx⟩
  obtain ⟨a2, n2, c2, rfl, HN2⟩ := ho.var
  have HX2 := Lib.hid ((HX1.out.trans HXB.out).trans hx)
  have r0 : w2.cell? ⟨w.heap.size + 1, 0, none⟩ = some (.int .i64 0) := HX2.out.cellSome (by simp)
  have r1 : w2.cell? ⟨w.heap.size + 1, 1, none⟩ = some (.slice none 0 0) := HX2.out.cellSome (by simp)
  have f0 : w2.frozen? ⟨w.heap.size + 1, 0, none⟩ = false := (HX2.out.frozens _ _ (by simp)).trans (by simp)
  have f1 : w2.frozen? ⟨w.heap.size + 1, 1, none⟩ = false := (HX2.out.frozens _ _ (by simp)).trans (by simp)
  have HO := Lib.hid ho
  have hsz1 := HX1.out.size
  simp at hsz1
  clear ho hx
  go_wp2
  refine bodyPost_ret (v := .tuple #[.agg #[.int .i64 (n : Int), .slice a2 n2 c2], .bool true]) (by simp [results, Tryz.results45, go_sem, r0, r1]) rfl ⟨⟨.slice a2 n2 c2, ?_, ?_⟩, ?_⟩
  ·unfold bankP; rw [HVV.out, if_pos rfl, HL.out]
  ·unfold bankL; rw [HVV.out, if_pos rfl, HL.out]
   refine HO.out.mono (by simp; omega) |>.keep fun j hj => ?_
   have := (HO.out.lt j hj).1
   simp at this
   rw [heap_setCell_other _ _ _ _ (by simp; omega), heap_setCell_other _ _ _ _ (by simp; omega)]
  ·exact ((HX.out.trans HX2.out).setCell (by simp) _).setCell (by simp) _
theorem s_l1Max (x y : Int) (w : World) : Calls Tryz.prog 122 #[.int .i64 x, .int .i64 y] w fun e w' => e = .returned (.int .i64 (maxI x y)) ∧ w = w' := by
 by_cases h : x > y
 all_goals
  have H := Lib.hid h
  go_enter Tryz.func122, Tryz.ntmps122
  go_wp2_with fail
  go_ret
  exact ⟨ret_int (by unfold maxI; first | (rw [if_pos H.out]) | (rw [if_neg (by have := H.out; omega)])), rfl⟩
set_option maxRecDepth 100000 in
set_option maxHeartbeats 8000000 in
theorem s_BankruptcyGame {w : World} {q : Int} {a : Option Addr} {n cap : Nat} {l : List Int} (h : Ints w a n cap l) :
 Calls Tryz.prog 46 #[pair q a n cap] w fun e w' => GameV w' w.heap.size e (bankP q l) (bankL q l) (validPair 0 q l) ∧ Ext w w' := by
 have hi := h.alloc (.cells #[.int .i64 q, .slice a n cap] 66)
 have HL := Lib.hid h.hlen
 have HV := Lib.hid (s_IsValidClaims (x := q) (hi.ext (Ext.alloc _ (.cells #[.int .i64 0, .slice none 0 0] 29))))
 have HX := Lib.hid ((Ext.alloc w (.cells #[.int .i64 q, .slice a n cap] 66)).trans (Ext.alloc _ (.cells #[.int .i64 0, .slice none 0 0] 29)))
 have hmax := h.hmax
 have hcap := h.hcap
 cases hv : validPair 0 q l
 ·rw [hv] at HV
  have HVV := Lib.hid hv
  clear hv
  go_enter Tryz.func46, Tryz.ntmps46
  go_wp2_with fail
  refine HV.out.mono ?_
  rintro e w1 ⟨rfl, hx⟩
  have r0 : w1.cell? ⟨w.heap.size + 1, 0, none⟩ = some (.int .i64 0) := hx.cellSome (by simp)
  have r1 : w1.cell? ⟨w.heap.size + 1, 1, none⟩ = some (.slice none 0 0) := hx.cellSome (by simp)
  have f0 : w1.frozen? ⟨w.heap.size + 1, 0, none⟩ = false := (hx.frozens _ _ (by simp)).trans (by simp)
  have f1 : w1.frozen? ⟨w.heap.size + 1, 1, none⟩ = false := (hx.frozens _ _ (by simp)).trans (by simp)
  have HX1 := Lib.hid (HX.out.trans hx)
  clear hx
  go_wp2
  refine bodyPost_ret (v := .tuple #[.agg #[.int .i64 0, .slice none 0 0], .bool false]) (by simp [results, Tryz.results46, go_sem, r0, r1]) rfl ⟨⟨.slice none 0 0, ?_, ?_⟩, ?_⟩
  ·unfold bankP; rw [HVV.out]; rfl
  ·unfold bankL; rw [HVV.out]; exact ⟨rfl, .inl ⟨rfl, rfl⟩⟩
  ·exact (HX1.out.setCell (by simp) _).setCell (by simp) _
 ·rw [hv] at HV
  have HVV := Lib.hid hv
  have hn5 : 1 ≤ n ∧ n ≤ 5 := by have := valid_len hv; have := HL.out; omega
  obtain ⟨hn1, hn5⟩ := hn5
  have hN := cN_le n hn5
  have HI := Lib.hid hi
  have HVB := Lib.hid hv
  have hall := valid_all hv
  have HALL := Lib.hid hall.1
  have hq := hall.2
  clear hv h hi hall
  go_enter Tryz.func46, Tryz.ntmps46
  go_wp2_with fail
  refine HV.out.mono ?_
  rintro e w1 ⟨rfl, hx⟩
  have c1 : w1.cell? ⟨w.heap.size, 1, none⟩ = some (.slice a n cap) := hx.cellSome (by simp)
  have hs1 : w.heap.size < w1.heap.size := World.block_lt_of_cell? _ _ c1
  have hs2 : w.heap.size + 1 < w1.heap.size := by have := hx.size; simp at this; omega
  have HX1 := Lib.hid hx
  have HI1 := Lib.hid ((HI.out.ext (Ext.alloc _ _)).ext hx)
  clear hx
  go_wp2_with (first | (go_at_call 73; refine (s_CountC n hn5 _).mono ?_; rintro e w' ⟨rfl, rfl⟩))
  go_loopw [6] (fun i wr => ∃ (k : Nat) (a1 : Option Addr) (n1 c1 : Nat), k ≤ cN n ∧ i = .int .i64 (k : Int) ∧ Hid (OwnI wr (w1.heap.size + 1) (.slice a1 n1 c1) (rowF (bankF q l) k)) ∧ Hid (wr.heap[w1.heap.size]? = some (.cells #[.int .i64 (n : Int), .slice a1 n1 c1] 29 (0, 0))) ∧ Hid (Ext w1 wr)) (fun i _ => cN n - (intOf i).toNat)
  case atStart =>
   refine ⟨0, none, 0, 0, Nat.zero_le _, rfl, Lib.hid (by unfold rowF; exact ⟨rfl, .inl ⟨rfl, rfl⟩⟩), Lib.hid ?_, Lib.hid ?_⟩
   ·exact heapA_new _ _ _ (by simp)
   ·exact Ext.alloc _ _
  case round =>
   obtain ⟨k, a1, n1, c1, hk, rfl, HO, HB, HX2⟩ := hrel
   have hg0 := two_cell0 HB.out
   have hg1 := two_cell1 HB.out
   have hsz := lt_of_block HB.out
   have c0 : wr.cell? ⟨w.heap.size, 0, none⟩ = some (.int .i64 q) := (HX1.out.trans HX2.out).cellSome (by simp)
   have c1' : wr.cell? ⟨w.heap.size, 1, none⟩ = some (.slice a n cap) := (HX1.out.trans HX2.out).cellSome (by simp)
   by_cases hlt : k < cN n
   ·have HF := Lib.hid (bankF_wrap HVB.out k)
    go_wp2_with fail
    go_loopw [7, 8] (fun t i ws => ∃ j : Nat, j ≤ n ∧ i = .int .i64 (j : Int) ∧ t = .int .i64 (q - sumTo ((cN n : Int) - 1 - (k : Int)) l j) ∧ ws = wr) (fun _ i _ => n - (intOf i).toNat)
    case atStart => exact ⟨0, Nat.zero_le _, rfl, by simp [sumTo], rfl⟩
    case round =>
     obtain ⟨j, hj, rfl, rfl, rfl⟩ := hrel
     have hst := sumTo_le HALL.out ((cN n : Int) - 1 - (k : Int)) j (by omega)
     by_cases hjl : j < n
     ·have HP := Lib.hid (hasP_bit (k : Int) j (by omega) (by omega))
      have HS := Lib.hid (sumTo_step HALL.out ((cN n : Int) - 1 - (k : Int)) j (by omega))
      have HR := Lib.hid (rest_bit n k j hn5 hlt hjl)
      obtain ⟨bb, off, rfl, hc⟩ := (HI1.out.ext HX2.out).at hjl
      have hx1 := HALL.out j
      cases hbit : bit (k : Int) j
      all_goals
       have HBT := Lib.hid hbit
       clear hbit
       go_wp2_with (first | (go_at_call 79; refine (s_HasPlayer _ _ _ (by omega)).mono ?_; rw [HP.out, HBT.out]; rintro e w' ⟨rfl, rfl⟩))
       go_roundw
       case rel => exact ⟨j + 1, by omega, by go_num, by rw [HS.out, HR.out, HBT.out]; simp <;> omega, by simp⟩
       case measure => simp [intOf]; omega
     ·have hje : j = n := by omega
      subst hje
      go_wp2
      go_region_law (first
       | (refine step_of_wp _ rfl (wp_append_ints _ _ rfl (w1.heap.size + 1) _ _ rfl ((HO.out.ext (Ext.alloc _ _)).ext (Ext.drew _)) _ 1 _ [IntKind.i64.wrap (maxI 0 (q - sumTo ((cN j : Int) - 1 - (k : Int)) l j) * bitI (decide (0 < k)))] rfl ((Ints.one _ _ _).ext (Ext.drew _)) (by rw [rowF_len]; omega) (by simp; omega) ?_); intro v3 w3 ho3 hg3 hn3; obtain ⟨a3, n3, c3, rfl, HN3⟩ := ho3.var; have HO3 := Lib.hid ho3; have HX3 := Lib.hid (ext_grown ((HX2.out.trans (Ext.alloc _ _)).trans (Ext.drew _)) hg3 (fun j hj => by have := (HO.out.lt j hj).1; omega)); have HB3 := Lib.hid ((hg3.block _ (by simp; omega) (fun e => by have := (HO.out.lt _ e.symm).1; omega)).trans (((Ext.alloc wr _).trans (Ext.drew _)).block _ hsz |>.trans HB.out)); have cg3 := two_cell1 HB3.out; have fg3 := frozen_of_row w3 w1.heap.size 1 _ _ HB3.out; clear ho3 hg3 hn3)
       | (go_simp; go_at_call 122; refine (s_l1Max _ _ _).mono ?_; rintro e w' ⟨rfl, rfl⟩)
       | (go_simp; go_at_call 74; refine (s_l1Bit _ _).mono ?_; rintro e w' ⟨rfl, rfl⟩))
      all_goals
       go_wp2
       go_roundw
       case rel =>
        refine ⟨k + 1, a3, n3, c3, by omega, by go_num, Lib.hid ?_, Lib.hid (two_set HB3.out), Lib.hid (HX3.out.setCell (by simp) _)⟩
        rw [rowF_succ]
        have hf := HF.out
        rw [HL.out] at hf
        rw [← hf]
        exact HO3.out.keep fun j hj => heap_setCell_other _ _ _ _ (by have := (HO3.out.lt j hj).1; simp; omega)
       case measure => simp [intOf]; omega
   ·have hkn : k = cN n := by omega
    subst hkn
    have r0 : wr.cell? ⟨w.heap.size + 1, 0, none⟩ = some (.int .i64 0) := (HX1.out.trans HX2.out).cellSome (by simp)
    have r1 : wr.cell? ⟨w.heap.size + 1, 1, none⟩ = some (.slice none 0 0) := (HX1.out.trans HX2.out).cellSome (by simp)
    have f0 : wr.frozen? ⟨w.heap.size + 1, 0, none⟩ = false := ((HX1.out.trans HX2.out).frozens _ _ (by simp)).trans (by simp)
    have f1 : wr.frozen? ⟨w.heap.size + 1, 1, none⟩ = false := ((HX1.out.trans HX2.out).frozens _ _ (by simp)).trans (by simp)
    go_wp2
    refine bodyPost_ret (v := .tuple #[.agg #[.int .i64 (n : Int), .slice a1 n1 c1], .bool true]) (by simp [results, Tryz.results46, go_sem, r0, r1]) rfl ⟨⟨.slice a1 n1 c1, ?_, ?_⟩, ?_⟩
    ·unfold bankP; rw [HVV.out, if_pos rfl, HL.out]
    ·unfold bankL; rw [HVV.out, if_pos rfl, HL.out]
     refine HO.out.mono (by omega) |>.keep fun j hj => ?_
     have := (HO.out.lt j hj).1
     rw [heap_setCell_other _ _ _ _ (by simp; omega), heap_setCell_other _ _ _ _ (by simp; omega)]
    ·exact ((HX.out.trans (HX1.out.trans HX2.out)).setCell (by simp) _).setCell (by simp) _
def pos (ord : List Int) (k : Nat) : Nat := (ord[k]?.getD 0).toNat
theorem game_bound {p : Int} {V : List Int} (h : gameOk p V = true) : ∀ i : Nat, -500 ≤ V[i]?.getD 0 ∧ V[i]?.getD 0 ≤ 500 := fun i => by
 obtain ⟨_, _, _, _, _, _, hVb⟩ := gameOk_len h
 by_cases hi : i < V.length
 ·have := hVb _ (List.getElem_mem hi); simpa [hi] using this
 ·simp [List.getElem?_eq_none (by omega : V.length ≤ i)]
end Go.Proofs.YthjjfkeacobikaaGreat
