import Derived.Test.YthjjfkeacobikaaGreatTaAllG30
import Derived.Test.YthjjfkeacobikaaGreatTaAllG5
import Derived.Test.YthjjfkeacobikaaGreatTaAllG27
set_option linter.unusedVariables false
set_option linter.unusedSimpArgs false
namespace Go.Proofs.YthjjfkeacobikaaGreat
def rowZ (n : Nat) (z : Nat → Rat) (r : List Int) : Rat := sumN (fun j => ((r[j]?.getD 0 : Int) : Rat) * z j) n
theorem rowZ_mix {n c : Nat} {z : Nat → Rat} {p r : List Int} (hr : r.length = n) (h1 : rowZ n z p = 0) (h2 : rowZ n z r = 0) : rowZ n z (mixR c p r) = 0 := by
 have e : rowZ n z (mixR c p r) = ((p[c]?.getD 0 : Int) : Rat) * rowZ n z r + (-((r[c]?.getD 0 : Int) : Rat)) * rowZ n z p := by
  unfold rowZ
  rw [← sumN_mul, ← sumN_lin]
  refine sumN_congr fun j hj => ?_
  rw [mixR_at (by omega), Rat.intCast_sub, Rat.intCast_mul, Rat.intCast_mul]
  grind
 rw [e, h1, h2]
 grind
theorem steps_zero {n : Nat} {z : Nat → Rat} {M : List (List Int)} (hz : ∀ i, i < n → rowZ n z (M[i]?.getD []) = 0) (hd : ∀ i, i < n → (M[i]?.getD [])[i]?.getD 0 ≠ 0) (h0 : ∀ i j, i < n → j < i → (M[i]?.getD [])[j]?.getD 0 = 0) : ∀ d, d ≤ n → ∀ k, n - d ≤ k → k < n → z k = 0
 | 0, _, k, h1, h2 => by omega
 | d + 1, hdn, k, h1, h2 => by
   have ih := steps_zero hz hd h0 d (by omega)
   by_cases hk : n - d ≤ k
   ·exact ih k hk h2
   ·have e := hz k h2
    unfold rowZ at e
    rw [sumN_one h2 (fun j hj hne => by
     by_cases hjk : j < k
     ·rw [h0 k j h2 hjk]
      have e0 : ((0 : Int) : Rat) = 0 := rfl
      rw [e0]; grind
     ·rw [ih j (by omega) hj]; grind)] at e
    have hne : (((M[k]?.getD [])[k]?.getD 0 : Int) : Rat) ≠ 0 := by
     intro h
     exact hd k h2 (by exact_mod_cast h)
    rcases Rat.mul_eq_zero.1 e with h | h
    ·exact absurd h hne
    ·exact h
structure Steps (n : Nat) (z : Nat → Rat) (m c : Nat) (T : List (List Int)) : Prop where
 len : T.length = m
 cm : c ≤ m
 wid : ∀ i, i < m → (T[i]?.getD []).length = n
 ann : ∀ i, i < m → rowZ n z (T[i]?.getD []) = 0
 dia : ∀ i, i < c → (T[i]?.getD [])[i]?.getD 0 ≠ 0
 low : ∀ i j, i < m → j < i → j < c → (T[i]?.getD [])[j]?.getD 0 = 0
theorem steps_next {n : Nat} {z : Nat → Rat} {m c : Nat} {T : List (List Int)} (h : Steps n z m c T) (hc : c < n) (hp : pivM T c c < T.length) : Steps n z m (c + 1) (redM mixR c (swp T c (pivM T c c)) c T.length) := by
 obtain ⟨p1, p2, _⟩ := pivM_some hp
 obtain ⟨q, hq⟩ : ∃ q, q = pivM T c c := ⟨_, rfl⟩
 rw [← hq] at hp p1 p2 ⊢
 have hl := h.len
 have hcm : c < m := by omega
 have hS : ∀ i, (swp T c q)[i]?.getD [] = if i = q then T[c]?.getD [] else if i = c then T[q]?.getD [] else T[i]?.getD [] := fun i => swp_at (by omega) (by omega) i
 have hSw : ∀ i, i < m → ((swp T c q)[i]?.getD []).length = n := fun i hi => by
  rw [hS]; split
  ·exact h.wid c hcm
  ·split
   ·exact h.wid q (by omega)
   ·exact h.wid i hi
 have hSa : ∀ i, i < m → rowZ n z ((swp T c q)[i]?.getD []) = 0 := fun i hi => by
  rw [hS]; split
  ·exact h.ann c hcm
  ·split
   ·exact h.ann q (by omega)
   ·exact h.ann i hi
 have hSl : ∀ i j, i < m → j < i → j < c → ((swp T c q)[i]?.getD [])[j]?.getD 0 = 0 := fun i j hi hji hjc => by
  rw [hS]; split
  ·exact h.low c j hcm hjc hjc
  ·split
   ·exact h.low q j (by omega) (by omega) hjc
   ·exact h.low i j hi hji hjc
 have hSc : ((swp T c q)[c]?.getD [])[c]?.getD 0 ≠ 0 := by
  rw [hS]
  by_cases e : c = q
  ·rw [if_pos e]; rw [← e] at p2; exact p2
  ·rw [if_neg e, if_pos rfl]; exact p2
 have hR : ∀ i, i < m → (redM mixR c (swp T c q) c T.length)[i]?.getD [] = if c < i ∧ i < T.length then mixR c ((swp T c q)[c]?.getD []) ((swp T c q)[i]?.getD []) else (swp T c q)[i]?.getD [] := fun i hi => redM_at mixR c _ c T.length (by rw [swp_len]; omega)
 refine ⟨by rw [redM_len, swp_len, hl], by omega, fun i hi => ?_, fun i hi => ?_, fun i hi => ?_, fun i j hi hji hjc => ?_⟩
 ·rw [hR i hi]; split
  ·rw [mixR_len]; exact hSw i hi
  ·exact hSw i hi
 ·rw [hR i hi]; split
  ·exact rowZ_mix (hSw i hi) (hSa c hcm) (hSa i hi)
  ·exact hSa i hi
 ·rw [hR i (by omega), if_neg (by omega)]
  by_cases e : i = c
  ·subst e; exact hSc
  ·rw [hS, if_neg (by omega), if_neg e]; exact h.dia i (by omega)
 ·rw [hR i hi]
  split
  ·rw [mixR_at (by rw [hSw i hi]; omega)]
   by_cases e : j = c
   ·subst e; rw [Int.mul_comm]; omega
   ·rw [hSl i j hi hji (by omega), hSl c j hcm (by omega) (by omega)]; simp
  ·have : i ≤ c := by omega
   exact hSl i j hi hji (by omega)
theorem run_le (M : List (List Int)) : ∀ n, (runM mixR M n).2 ≤ n
 | 0 => Nat.le_refl _
 | n + 1 => by
   have ih := run_le M n
   unfold runM colM
   split
   ·show (runM mixR M n).2 + 1 ≤ n + 1; omega
   ·omega
theorem run_steps {n : Nat} {z : Nat → Rat} {M : List (List Int)} (hw : ∀ i, i < M.length → (M[i]?.getD []).length = n) (hz : ∀ i, i < M.length → rowZ n z (M[i]?.getD []) = 0) : ∀ c, c ≤ n → (runM mixR M c).2 = c → Steps n z M.length c (runM mixR M c).1
 | 0, _, _ => ⟨rfl, Nat.zero_le _, hw, hz, fun i hi => by omega, fun i j _ _ hj => by omega⟩
 | c + 1, hc, he => by
   have hle := run_le M c
   unfold runM colM at he ⊢
   split at he
   ·next hp =>
    have e : (runM mixR M c).2 = c := by
     have : (runM mixR M c).2 + 1 = c + 1 := he
     omega
    have ih := run_steps hw hz c (by omega) e
    rw [if_pos hp]
    rw [e] at hp ⊢
    exact steps_next ih (by omega) hp
   ·omega
theorem full_rank {n : Nat} {z : Nat → Rat} {M : List (List Int)} (hw : ∀ i, i < M.length → (M[i]?.getD []).length = n) (hz : ∀ i, i < M.length → rowZ n z (M[i]?.getD []) = 0) (hr : (runM mixR M n).2 = n) : ∀ k, k < n → z k = 0 := by
 have h := run_steps hw hz n (Nat.le_refl _) hr
 have hcm := h.cm
 exact fun k hk => steps_zero (fun i hi => h.ann i (by omega)) h.dia (fun i j hi hj => h.low i j (by omega) hj (by omega)) n (Nat.le_refl _) k (by omega) hk
theorem rowZ_dig {q : Nat} {y z : Nat → Rat} {V : List Int} {s : Int} (h : exZ q V y s = exZ q V z s) : rowZ q (fun k => y k + (-1) * z k) (digR q s) = 0 := by
 have e : rowZ q (fun k => y k + (-1) * z k) (digR q s) = zs q y s + (-1) * zs q z s := by
  unfold rowZ zs
  rw [← sumN_lin]
  refine sumN_congr fun j hj => ?_
  have : (digR q s)[j]?.getD 0 = bitI (hasP s (j : Int)) := by
   unfold digR
   rw [List.getElem?_map, List.getElem?_range hj]
   rfl
  rw [this]
  grind
 rw [e]
 unfold exZ at h
 grind
theorem meets_unique {p : Int} {V : List Int} {L : List (Int × Int × Int)} (hg : gameOk p V = true) (hd : doneN p V L = true) {y z : Nat → Rat} (hy : Meets p.toNat V L y) (hz : Meets p.toNat V L z) : ∀ k, k < p.toNat → y k = z k := by
 obtain ⟨_, _, hp, hp1, hp5, _⟩ := game_cN hg
 unfold doneN at hd
 have hd := of_decide_eq_true hd
 rw [rank_same] at hd
 unfold rankS at hd
 split at hd
 ·have hr : (runM mixR ((((V.length : Int) - 1) :: L.map (·.1)).map (digR p.toNat)) p.toNat).2 = p.toNat := by omega
  have hall : ∀ s ∈ ((V.length : Int) - 1) :: L.map (·.1), exZ p.toNat V y s = exZ p.toNat V z s := fun s hs => by
   rcases List.mem_cons.1 hs with rfl | hs
   ·rw [hy.grand, hz.grand]
   ·obtain ⟨f, hf, rfl⟩ := List.mem_map.1 hs
    rw [hy.fixed f hf, hz.fixed f hf]
  have hrow : ∀ i, i < ((((V.length : Int) - 1) :: L.map (·.1)).map (digR p.toNat)).length → ∃ s ∈ ((V.length : Int) - 1) :: L.map (·.1), ((((V.length : Int) - 1) :: L.map (·.1)).map (digR p.toNat))[i]?.getD [] = digR p.toNat s := fun i hi => by
   rw [List.getElem?_eq_getElem hi, Option.getD_some]
   obtain ⟨s, hs, e⟩ := List.mem_map.1 (List.getElem_mem hi)
   exact ⟨s, hs, e.symm⟩
  have h0 := full_rank (n := p.toNat) (z := fun k => y k + (-1) * z k) (fun i hi => by
   obtain ⟨s, _, e⟩ := hrow i hi
   rw [e, digR_len]) (fun i hi => by
   obtain ⟨s, hs, e⟩ := hrow i hi
   rw [e]
   exact rowZ_dig (hall s hs)) hr
  intro k hk
  have := h0 k hk
  change y k + (-1) * z k = 0 at this
  grind
 ·omega
theorem nuc_done {p : Int} {V : List Int} : ∀ {f k : Nat} {L : List (Int × Int × Int)}, (nucF p V f L k).ok = true → doneN p V (nucF p V f L k).st = true
 | 0, k, L, h => by cases h
 | f + 1, k, L, h => by
   by_cases hok : stOk p V L = true ∧ (nucLp p.toNat V L).status = 1
   ·by_cases hd : doneN p V (nextN V L (nucLp p.toNat V L)) = true
    ·rw [nucF, if_pos hok, if_pos hd]; exact hd
    ·have e : nucF p V (f + 1) L k = nucF p V f (nextN V L (nucLp p.toNat V L)) (k + 1) := by rw [nucF, if_pos hok, if_neg hd]
     rw [e] at h ⊢
     exact nuc_done h
   ·rw [nucF, if_neg hok] at h
    cases h
end Go.Proofs.YthjjfkeacobikaaGreat
