import Derived.Test.YthjjfkeacobikaaGreatTaAllG13
import Derived.Test.YthjjfkeacobikaaGreatTaAllG15
import Derived.Test.YthjjfkeacobikaaGreatTaAllG17
import Derived.Test.YthjjfkeacobikaaGreatTaAllG32
import Derived.Test.YthjjfkeacobikaaGreatTaAllG33
set_option linter.unusedVariables false
set_option linter.unusedSimpArgs false
namespace Go.Proofs.YthjjfkeacobikaaGreat
section
variable (c : Nat → Int) (E X0 : Int) (n : Nat)
theorem ssA_sat (hdE : facI n ∣ E) (hdX : facI n ∣ X0) (hE0 : 0 < E) (hn : n ≤ 3) (hc : ∀ k, 0 ≤ c k) (hmono : ∀ i j, i ≤ j → j < n → c i ≤ c j) (hend : xsA c E X0 n n = 0) {i j : Nat} (hi : i < n) (hj : j < n) (h : ssA c E X0 n i < ssA c E X0 n j) : ssA c E X0 n i = c i * E := by
 have x0 : xsA c E X0 n 0 = X0 := rfl
 have hor := fun k (hk : k < n) => ssA_or c E X0 n hdE hdX (k := k) hk
 have hst := fun k => xsA_succ c E X0 n k
 have hcm : ∀ a b, a ≤ b → b < n → c a * E ≤ c b * E := fun a b h1 h2 => Int.mul_le_mul_of_nonneg_right (hmono a b h1 h2) (by omega)
 have hcase : n = 1 ∨ n = 2 ∨ n = 3 := by omega
 rcases hcase with rfl | rfl | rfl
 ·obtain rfl : i = j := by omega
  omega
 ·obtain ⟨q0, a0, b0⟩ := hor 0 (by omega)
  obtain ⟨q1, a1, b1⟩ := hor 1 (by omega)
  have s0 := hst 0
  have s1 := hst 1
  have m01 := hcm 0 1 (by omega) (by omega)
  have e0 : ((2 - 0 : Nat) : Int) = 2 := rfl
  have e1 : ((2 - 1 : Nat) : Int) = 1 := rfl
  rw [e0] at a0
  rw [e1] at a1
  simp only [Nat.zero_add, Nat.reduceAdd] at s0 s1
  have hi2 : i = 0 ∨ i = 1 := by omega
  have hj2 : j = 0 ∨ j = 1 := by omega
  rcases hi2 with rfl | rfl <;> rcases hj2 with rfl | rfl <;> omega
 ·obtain ⟨q0, a0, b0⟩ := hor 0 (by omega)
  obtain ⟨q1, a1, b1⟩ := hor 1 (by omega)
  obtain ⟨q2, a2, b2⟩ := hor 2 (by omega)
  have s0 := hst 0
  have s1 := hst 1
  have s2 := hst 2
  have m01 := hcm 0 1 (by omega) (by omega)
  have m12 := hcm 1 2 (by omega) (by omega)
  have e0 : ((3 - 0 : Nat) : Int) = 3 := rfl
  have e1 : ((3 - 1 : Nat) : Int) = 2 := rfl
  have e2 : ((3 - 2 : Nat) : Int) = 1 := rfl
  rw [e0] at a0
  rw [e1] at a1
  rw [e2] at a2
  simp only [Nat.zero_add, Nat.reduceAdd] at s0 s1 s2
  have hi2 : i = 0 ∨ i = 1 ∨ i = 2 := by omega
  have hj2 : j = 0 ∨ j = 1 ∨ j = 2 := by omega
  rcases hi2 with rfl | rfl | rfl <;> rcases hj2 with rfl | rfl | rfl <;> omega
end
theorem award_law2 {C : List Int} {x y : Int} (h : fitsR C x y = true) (hn : C.length ≤ 3) (hy : y ≤ 3) (hC : ∀ j : Nat, C[j]?.getD 0 ≤ 1000) :
 awardOk C x y = true ∧ (awardL C x y).length = C.length ∧ ∃ (S : Nat → Int), (1 ≤ y * facI C.length ∧ y * facI C.length ≤ 100) ∧ (∀ i, i < C.length → Fr ((awardL C x y)[i]?.getD (0, 0)) (S i) (y * facI C.length) ∧ 0 ≤ S i ∧ S i ≤ C[i]?.getD 0 * (y * facI C.length) ∧ S i ≤ 1000000) ∧
  (∀ i j, i < C.length → j < C.length → C[i]?.getD 0 = C[j]?.getD 0 → S i = S j) ∧ ((List.range C.length).map S).sum = x * facI C.length ∧
  (∀ i j, i < C.length → j < C.length → S i < S j → S i = C[i]?.getD 0 * (y * facI C.length)) := by
 obtain ⟨hsum, hs0, hs1, hv, hx0, hxs, hl1, hl5⟩ := fits_sum h
 have hv2 := valR_bd hv
 simp only at hv2
 obtain ⟨n, hnn⟩ : ∃ n, n = C.length := ⟨_, rfl⟩
 have hCn : ∀ j : Nat, 0 ≤ C[j]?.getD 0 ∧ C[j]?.getD 0 ≤ 1000 := fun j => by
  refine ⟨?_, hC j⟩
  have hsm : small C 100000 = true := by unfold fitsR at h; rw [Bool.and_eq_true] at h; exact h.1
  unfold small at hsm
  rw [Bool.and_eq_true] at hsm
  by_cases hj : j < C.length
  ·have := all_get hsm.1 hj
   simp only [inB, Bool.and_eq_true, decide_eq_true_eq] at this
   exact this.1
  ·rw [List.getElem?_eq_none (by omega)]; simp
 have hf6 : 1 ≤ facI n ∧ facI n ≤ 6 := by
  have : ∀ n : Fin 4, 1 ≤ facI n.val ∧ facI n.val ≤ 6 := by decide +kernel
  exact this ⟨n, by omega⟩
 have hE1 : 1 ≤ y * facI n ∧ y * facI n ≤ 18 := by
  have h1 : 1 * 1 ≤ y * facI n := Int.mul_le_mul (by omega) hf6.1 (by omega) (by omega)
  have h2 : y * facI n ≤ 3 * 6 := Int.mul_le_mul hy hf6.2 (by omega) (by omega)
  omega
 have hcs : C.sum ≤ 3000 := by
  rw [← sum_at C]
  have : ∀ (f : Nat → Int) (m : Nat), (∀ i, f i ≤ 1000) → ((List.range m).map f).sum ≤ 1000 * m := by
   intro f m hf
   induction m with
   | zero => simp
   | succ m ih => rw [List.range_succ, List.map_append, List.sum_append]; have := hf m; simp; omega
  have := this (fun i => C[i]?.getD 0) C.length (fun i => (hCn i).2)
  omega
 have hx9 : x ≤ 9000 := by
  have : C.sum * y ≤ 3000 * 3 := Int.mul_le_mul hcs hy (by omega) (by omega)
  omega
 have hX : 0 ≤ x * facI n ∧ x * facI n ≤ 54000 := ⟨Int.mul_nonneg hx0 (by omega), by have : x * facI n ≤ 9000 * 6 := Int.mul_le_mul hx9 hf6.2 (by omega) (by omega); omega⟩
 have hcm : claimed (clm C n) n n = C.sum := by
  have := claimed_sum (clm C n) n n (Nat.le_refl _)
  rw [Nat.sub_self, List.range_zero, List.map_nil, List.sum_nil, Int.add_zero] at this
  rw [this]
  have h2 := ord_sumI C n fun i => C[i]?.getD 0
  rw [← sum_at C, ← hnn]
  exact h2
 have hfr : Fr (x, y) (x * facI n) (y * facI n) := by
  have := (Fr.self hv).scale (k := facI n) (by omega)
  exact this
 have hle : x * facI n ≤ claimed (clm C n) n n * (y * facI n) := by
  rw [hcm]
  have := Int.mul_le_mul_of_nonneg_right hxs (show 0 ≤ facI n by omega)
  rw [Int.mul_assoc] at this
  exact this
 have hdE : facI n ∣ y * facI n := ⟨y, Int.mul_comm _ _⟩
 have hdX : facI n ∣ x * facI n := ⟨x, Int.mul_comm _ _⟩
 obtain ⟨st, h2, h3⟩ := runN_all (C := C) hdE hdX (by omega) hCn (by omega) hle (by omega) hfr n (Nat.le_refl _)
 have hO : awardOk C x y = true := by unfold awardOk; rw [h, ← hnn, h2]; rfl
 have hL : awardL C x y = st.2 := by unfold awardL; rw [if_pos h, ← hnn, h2]; rfl
 have hcl : ∀ j, 0 ≤ clm C n j := fun j => (hCn _).1
 have hmono : ∀ i j, i ≤ j → j < n → clm C n i ≤ clm C n j := fun i j => clm_mono C
 have hsb := fun k (hk : k < n) => ssA_bd (clm C n) (y * facI n) (x * facI n) n hdE hdX (by omega) hcl hmono hX.1 hle (k := k) hk
 rw [← hnn]
 refine ⟨hO, by rw [hL]; exact h3.len, fun i => ssA (clm C n) (y * facI n) (x * facI n) n (plcA C n i), by omega, fun i hi => ?_, fun i j hi hj he => ?_, ?_, fun i j hi hj hlt => ?_⟩
 ·obtain ⟨k, hk, hki⟩ := ordA_all C n hi
  rw [hL, ← hki]
  simp only
  rw [plcA_ord hk]
  exact ⟨h3.row k hk, (hsb k hk).1, (hsb k hk).2.1, by have := (hsb k hk).2.2; omega⟩
 ·obtain ⟨k, hk, hki⟩ := ordA_all C n hi
  obtain ⟨l, hl, hlj⟩ := ordA_all C n hj
  rw [← hki, ← hlj] at he ⊢
  simp only
  rw [plcA_ord hk, plcA_ord hl]
  have he' : clm C n k = clm C n l := he
  rcases Nat.le_total k l with hkl | hkl
  ·obtain ⟨d, rfl⟩ := Nat.exists_eq_add_of_le hkl
   exact ssA_same (clm C n) _ _ n hdE hdX hmono d hl he'
  ·obtain ⟨d, rfl⟩ := Nat.exists_eq_add_of_le hkl
   exact (ssA_same (clm C n) _ _ n hdE hdX hmono d hk he'.symm).symm
 ·have h4 := ord_sumI C n fun i => ssA (clm C n) (y * facI n) (x * facI n) n (plcA C n i)
  rw [← h4]
  have h5 : ((List.range n).map fun k => ssA (clm C n) (y * facI n) (x * facI n) n (plcA C n (ordA C n k))).sum = ((List.range n).map (ssA (clm C n) (y * facI n) (x * facI n) n)).sum := by
   congr 1
   exact List.map_congr_left fun k hk => by rw [plcA_ord (List.mem_range.1 hk)]
  rw [h5, ssA_sum]
  have hend := xsA_bd (clm C n) (y * facI n) (x * facI n) n hdE hdX (by omega) hcl hmono hX.1 hle n (Nat.le_refl _)
  rw [Nat.sub_self] at hend
  simp only [claimed, Int.zero_mul] at hend
  omega
 ·obtain ⟨k, hk, hki⟩ := ordA_all C n hi
  obtain ⟨l, hl, hlj⟩ := ordA_all C n hj
  rw [← hki, ← hlj] at hlt
  rw [← hki]
  simp only at hlt ⊢
  rw [plcA_ord hk, plcA_ord hl] at hlt
  rw [plcA_ord hk]
  have hend := xsA_bd (clm C n) (y * facI n) (x * facI n) n hdE hdX (by omega) hcl hmono hX.1 hle n (Nat.le_refl _)
  rw [Nat.sub_self] at hend
  simp only [claimed, Int.zero_mul] at hend
  exact ssA_sat (clm C n) (y * facI n) (x * facI n) n hdE hdX (by omega) (by omega) hcl hmono (by omega) hk hl hlt
theorem sep3 {X ai aj ak Si Sj Sk Ti Tj Tk vi vj vik vjk : Int} (h0 : 0 ≤ Si ∧ 0 ≤ Sj ∧ 0 ≤ Sk) (h1 : Si ≤ ai ∧ Sj ≤ aj ∧ Sk ≤ ak)
 (hij : Si < Sj → Si = ai) (hji : Sj < Si → Sj = aj)
 (hT : (2 * X ≤ ai + aj + ak ∧ Si + Sj + Sk = 2 * X ∧ Ti = Si ∧ Tj = Sj ∧ Tk = Sk) ∨ (ai + aj + ak < 2 * X ∧ Si + Sj + Sk = 2 * (ai + aj + ak - X) ∧ Ti = 2 * ai - Si ∧ Tj = 2 * aj - Sj ∧ Tk = 2 * ak - Sk))
 (hvi : (vi = 0 ∧ X ≤ aj + ak) ∨ (vi = X - aj - ak ∧ aj + ak ≤ X)) (hvj : (vj = 0 ∧ X ≤ ai + ak) ∨ (vj = X - ai - ak ∧ ai + ak ≤ X))
 (hvik : (vik = 0 ∧ X ≤ aj) ∨ (vik = X - aj ∧ aj ≤ X)) (hvjk : (vjk = 0 ∧ X ≤ ai) ∨ (vjk = X - ai ∧ ai ≤ X)) :
 (2 * vi - Ti ≤ 2 * vj - Tj ∨ 2 * vi - Ti ≤ 2 * vjk - Tj - Tk) ∧ (2 * vik - Ti - Tk ≤ 2 * vj - Tj ∨ 2 * vik - Ti - Tk ≤ 2 * vjk - Tj - Tk) := by
 rcases hT with ⟨a, b, rfl, rfl, rfl⟩ | ⟨a, b, rfl, rfl, rfl⟩ <;> rcases hvi with ⟨rfl, c1⟩ | ⟨rfl, c1⟩ <;> rcases hvj with ⟨rfl, c2⟩ | ⟨rfl, c2⟩ <;> rcases hvik with ⟨rfl, c3⟩ | ⟨rfl, c3⟩ <;> rcases hvjk with ⟨rfl, c4⟩ | ⟨rfl, c4⟩ <;> (constructor <;> omega)
structure TalF (x : Int) (C : List Int) (F : Int) (S T : Nat → Int) : Prop where
 f1 : 1 ≤ F ∧ F ≤ 6
 len : (talL x C).length = C.length
 fr : ∀ k, k < C.length → Fr ((talL x C)[k]?.getD (0, 0)) (T k) (2 * F)
 off : ∀ k, C.length ≤ k → S k = 0 ∧ T k = 0
 bd : ∀ k, k < C.length → 0 ≤ S k ∧ S k ≤ C[k]?.getD 0 * F
 sat : ∀ i j, i < C.length → j < C.length → S i < S j → S i = C[i]?.getD 0 * F
 tot : (2 * x ≤ sumW C ∧ ((List.range C.length).map S).sum = 2 * x * F ∧ ∀ k, k < C.length → T k = S k) ∨
  (sumW C < 2 * x ∧ ((List.range C.length).map S).sum = 2 * (sumW C - x) * F ∧ ∀ k, k < C.length → T k = 2 * (C[k]?.getD 0 * F) - S k)
theorem mulLe {a b c d : Int} (h1 : 0 ≤ a) (h2 : a ≤ b) (h3 : 0 ≤ c) (h4 : c ≤ d) : 0 ≤ a * c ∧ a * c ≤ b * d := ⟨Int.mul_nonneg h1 h3, Int.mul_le_mul h2 h4 h3 (by omega)⟩
theorem tal_fr {x : Int} {C : List Int} (h : validPair 0 x C = true) (hn : C.length ≤ 3) : ∃ F S T, TalF x C F S T := by
 have hv := valid_claims h
 have hC := valid_small h
 obtain ⟨hA0, hA1⟩ := talA_bd h
 have hfit : fitsR C (talA x C) 1 = true := by
  have := (tal_award h).1
  unfold awardOk at this
  exact (both this).1
 obtain ⟨_, hlen, S, hE, hrow, _, hsum, hsat⟩ := award_law2 hfit hn (by omega) (fun j => by have := hC j; omega)
 obtain ⟨n, hnn⟩ : ∃ n, n = C.length := ⟨_, rfl⟩
 obtain ⟨F, hF⟩ : ∃ F, F = 1 * facI n := ⟨_, rfl⟩
 have hf6 : 1 ≤ F ∧ F ≤ 6 := by
  have : ∀ n : Fin 4, 1 ≤ facI n.val ∧ facI n.val ≤ 6 := by decide +kernel
  have := this ⟨n, by omega⟩
  simp only at this
  omega
 rw [← hnn, ← hF] at hrow hsat
 rw [← hnn, show talA x C * facI n = talA x C * F by rw [hF, Int.one_mul]] at hsum
 rw [← hnn] at hlen
 have hCF : ∀ k, 0 ≤ C[k]?.getD 0 * F ∧ C[k]?.getD 0 * F ≤ 600 := fun k => mulLe (hC k).1 (hC k).2 (by omega) hf6.2
 have hhalf : ∀ k, k < n → (divR ((awardL C (talA x C) 1)[k]?.getD (0, 0)) (2, 1)).2 = true ∧ Fr (halfR ((awardL C (talA x C) 1)[k]?.getD (0, 0))) (S k) (2 * F) := fun k hk => by
  obtain ⟨hf, s0, s1, _⟩ := hrow k hk
  have := hCF k
  obtain ⟨r, h3, h4⟩ := hf.div (Fr.int 2 (by omega) (by omega)) (by omega) (z := S k) (F := 2 * F) (by omega) (by omega) (by omega) (by grind)
  unfold halfR
  rw [h3]
  exact ⟨rfl, h4⟩
 have hH : ∀ k, k < n → (talH x C)[k]?.getD (0, 0) = halfR ((awardL C (talA x C) 1)[k]?.getD (0, 0)) := fun k hk => by
  unfold talH; rw [map_at (by omega)]
 by_cases hc : 2 * x ≤ sumW C
 ·refine ⟨F, fun k => if k < n then S k else 0, fun k => if k < n then S k else 0, hf6, ?_, fun k hk => ?_, fun k hk => ?_, fun k hk => ?_, fun i j hi hj hl => ?_, .inl ⟨hc, ?_, fun k hk => rfl⟩⟩
  ·unfold talL; rw [if_pos h, if_pos hc]; exact talH_len h
  ·rw [← hnn] at hk
   (try simp only)
   rw [if_pos hk]
   unfold talL
   rw [if_pos h, if_pos hc, hH k hk]
   exact (hhalf k hk).2
  ·(try simp only); rw [if_neg (by omega)]; exact ⟨rfl, rfl⟩
  ·rw [← hnn] at hk
   (try simp only); rw [if_pos hk]
   exact ⟨(hrow k hk).2.1, (hrow k hk).2.2.1⟩
  ·rw [← hnn] at hi hj
   (try simp only at hl ⊢)
   rw [if_pos hi, if_pos hj] at hl
   rw [if_pos hi]
   exact hsat i j hi hj hl
  ·rw [← hnn, sum_congrN n (G := S) fun k hk => if_pos hk, hsum]
   unfold talA
   rw [if_pos hc]
 ·obtain ⟨hless, _⟩ := tal_less h
  have hF2 : ∀ k, k < n → loseF C (talH x C) k = some (subR (C[k]?.getD 0, 1) ((talH x C)[k]?.getD (0, 0))).1 ∧ Fr (subR (C[k]?.getD 0, 1) ((talH x C)[k]?.getD (0, 0))).1 (2 * (C[k]?.getD 0 * F) - S k) (2 * F) := fun k hk => by
   obtain ⟨hf, s0, s1, _⟩ := hrow k hk
   have hcf := hCF k
   have hh := (hhalf k hk).2
   rw [← hH k hk] at hh
   have hcs := hC k
   have z1 := hh.size
   have p1 := (valR_bd hh.1).1
   have n1 : 0 ≤ C[k]?.getD 0 * ((talH x C)[k]?.getD (0, 0)).2 ∧ C[k]?.getD 0 * ((talH x C)[k]?.getD (0, 0)).2 ≤ 100 * 12 := mulLe hcs.1 hcs.2 (by omega) (by omega)
   obtain ⟨r, h4, h5⟩ := (Fr.int (C[k]?.getD 0) (by omega) (by omega)).sub hh (z := 2 * (C[k]?.getD 0 * F) - S k) (F := 2 * F) (by omega) (by omega) (by omega) (by simp only; omega) (by grind)
   unfold loseF
   rw [h4]
   exact ⟨by rw [if_pos rfl], h5⟩
  have hrun : lessL C (talH x C) = some ((List.range n).map fun k => (subR (C[k]?.getD 0, 1) ((talH x C)[k]?.getD (0, 0))).1) := by
   rw [hless, ← hnn]
   exact runT_all (F := fun k => (subR (C[k]?.getD 0, 1) ((talH x C)[k]?.getD (0, 0))).1) fun k hk => (hF2 k hk).1
  have hL : talL x C = (List.range n).map fun k => (subR (C[k]?.getD 0, 1) ((talH x C)[k]?.getD (0, 0))).1 := by
   unfold talL
   rw [if_pos h, if_neg hc, hrun]
   rfl
  refine ⟨F, fun k => if k < n then S k else 0, fun k => if k < n then 2 * (C[k]?.getD 0 * F) - S k else 0, hf6, ?_, fun k hk => ?_, fun k hk => ?_, fun k hk => ?_, fun i j hi hj hl => ?_, .inr ⟨by omega, ?_, fun k hk => ?_⟩⟩
  ·rw [hL, List.length_map, List.length_range, hnn]
  ·rw [← hnn] at hk
   (try simp only)
   rw [if_pos hk, hL, List.getElem?_map, List.getElem?_range hk, Option.map_some, Option.getD_some]
   exact (hF2 k hk).2
  ·(try simp only); rw [if_neg (by omega), if_neg (by omega)]; exact ⟨rfl, rfl⟩
  ·rw [← hnn] at hk
   (try simp only); rw [if_pos hk]
   exact ⟨(hrow k hk).2.1, (hrow k hk).2.2.1⟩
  ·rw [← hnn] at hi hj
   (try simp only at hl ⊢)
   rw [if_pos hi, if_pos hj] at hl
   rw [if_pos hi]
   exact hsat i j hi hj hl
  ·rw [← hnn, sum_congrN n (G := S) fun k hk => if_pos hk, hsum]
   unfold talA
   rw [if_neg hc]
  ·rw [← hnn] at hk
   (try simp only); rw [if_pos hk, if_pos hk]
end Go.Proofs.YthjjfkeacobikaaGreat
namespace Go.Proofs.YthjjfkeacobikaaGreat
theorem max_at {α : Type} (f : α → Rat) : ∀ (l : List α), l ≠ [] → ∃ a ∈ l, ∀ b ∈ l, f b ≤ f a
 | [], h => absurd rfl h
 | [a], _ => ⟨a, List.mem_cons_self, fun b hb => by rw [List.mem_singleton] at hb; rw [hb]; exact Rat.le_refl⟩
 | a :: c :: l, _ => by
   obtain ⟨m, hm, hmax⟩ := max_at f (c :: l) (by simp)
   rcases (Rat.le_total : f a ≤ f m ∨ f m ≤ f a) with h | h
   ·refine ⟨m, List.mem_cons_of_mem _ hm, fun b hb => ?_⟩
    rcases List.mem_cons.1 hb with e | e
    ·rw [e]; exact h
    ·exact hmax b e
   ·refine ⟨a, List.mem_cons_self, fun b hb => ?_⟩
    rcases List.mem_cons.1 hb with e | e
    ·rw [e]; exact Rat.le_refl
    ·exact Rat.le_trans (hmax b e) h
theorem countP_lt {α : Type} {p q : α → Bool} : ∀ {l : List α}, (∀ x ∈ l, p x = true → q x = true) → (∃ x ∈ l, p x = false ∧ q x = true) → l.countP p < l.countP q
 | [], _, h => by obtain ⟨x, hx, _⟩ := h; cases hx
 | a :: l, h, hx => by
   have hle : l.countP p ≤ l.countP q := List.countP_mono_left fun x hm => h x (List.mem_cons_of_mem _ hm)
   obtain ⟨x, hm, h1, h2⟩ := hx
   rw [List.countP_cons, List.countP_cons]
   rcases List.mem_cons.1 hm with e | e
   ·subst e
    rw [if_neg (by rw [h1]; simp), if_pos h2]
    omega
   ·have ih := countP_lt (fun x hm => h x (List.mem_cons_of_mem _ hm)) ⟨x, e, h1, h2⟩
    have := h a List.mem_cons_self
    cases hp : p a
    ·rw [if_neg (by simp)]; omega
    ·rw [if_pos rfl, if_pos (this hp)]; omega
theorem sumN_pos {f : Nat → Rat} : ∀ {m : Nat}, 0 < sumN f m → ∃ k, k < m ∧ 0 < f k
 | 0, h => absurd h (by simp [sumN])
 | m + 1, h => by
   by_cases hm : 0 < f m
   ·exact ⟨m, by omega, hm⟩
   ·have h2 : 0 < sumN f m := by simp only [sumN] at h; grind
    obtain ⟨k, hk, h3⟩ := sumN_pos h2
    exact ⟨k, by omega, h3⟩
theorem single_bits : ∀ q : Fin 6, ∀ i : Fin 5, i.val < q.val → ∀ k : Fin 5, hasP ((2 ^ i.val : Nat) : Int) (k.val : Int) = decide (k.val = i.val) := by decide +kernel
theorem others_bits : ∀ q : Fin 6, ∀ i : Fin 5, i.val < q.val → ∀ k : Fin 5, k.val < q.val → hasP ((cN q.val - 1 - 2 ^ i.val : Nat) : Int) (k.val : Int) = !decide (k.val = i.val) := by decide +kernel
theorem single_in : ∀ q : Fin 6, ∀ i : Fin 5, 2 ≤ q.val → i.val < q.val → 1 ≤ 2 ^ i.val ∧ 2 ^ i.val < cN q.val - 1 ∧ 1 ≤ cN q.val - 1 - 2 ^ i.val ∧ cN q.val - 1 - 2 ^ i.val < cN q.val - 1 := by decide
theorem zs_single {q : Nat} (hq : q ≤ 5) {i : Nat} (hi : i < q) (z : Nat → Rat) : zs q z ((2 ^ i : Nat) : Int) = z i := by
 unfold zs
 rw [sumN_one (i := i) hi (fun k hk hne => ?_)]
 ·have := single_bits ⟨q, by omega⟩ ⟨i, by omega⟩ hi ⟨i, by omega⟩
  simp only at this
  rw [this]
  show z i * ((1 : Int) : Rat) = _
  have e : ((1 : Int) : Rat) = 1 := rfl
  rw [e]; grind
 ·have := single_bits ⟨q, by omega⟩ ⟨i, by omega⟩ hi ⟨k, by omega⟩
  simp only at this
  rw [this, decide_eq_false hne]
  show z k * ((0 : Int) : Rat) = 0
  have e : ((0 : Int) : Rat) = 0 := rfl
  rw [e]; grind
theorem zs_others {q : Nat} (hq : q ≤ 5) {i : Nat} (hi : i < q) (z : Nat → Rat) : zs q z ((cN q - 1 - 2 ^ i : Nat) : Int) = sumN z q - z i := by
 have h1 := zs_single hq hi z
 have e : sumN z q = zs q z ((2 ^ i : Nat) : Int) + 1 * zs q z ((cN q - 1 - 2 ^ i : Nat) : Int) := by
  unfold zs
  rw [← sumN_lin]
  refine sumN_congr fun k hk => ?_
  have a := single_bits ⟨q, by omega⟩ ⟨i, by omega⟩ hi ⟨k, by omega⟩
  have b := others_bits ⟨q, by omega⟩ ⟨i, by omega⟩ hi ⟨k, by omega⟩ hk
  simp only at a b
  rw [a, b]
  have e1 : ((1 : Int) : Rat) = 1 := rfl
  have e0 : ((0 : Int) : Rat) = 0 := rfl
  cases decide (k = i) with
  | true => show z k = z k * ((1 : Int) : Rat) + 1 * (z k * ((0 : Int) : Rat)); rw [e1, e0]; grind
  | false => show z k = z k * ((0 : Int) : Rat) + 1 * (z k * ((1 : Int) : Rat)); rw [e1, e0]; grind
 rw [h1] at e
 grind
def Sep (q : Nat) (V : List Int) (z : Nat → Rat) : Prop := ∀ i j s : Nat, i < q → j < q → i ≠ j → 1 ≤ s → s < cN q - 1 → hasP (s : Int) (i : Int) = true → hasP (s : Int) (j : Int) = false →
 exZ q V z (s : Int) ≤ exZ q V z ((2 ^ j : Nat) : Int) ∨ exZ q V z (s : Int) ≤ exZ q V z ((cN q - 1 - 2 ^ i : Nat) : Int)
theorem sep_less {q : Nat} (h2 : 2 ≤ q) (hq : q ≤ 5) {V : List Int} (hV : V.length = cN q) {y z : Nat → Rat} (hy : exZ q V y ((V.length : Int) - 1) = 0) (hz : exZ q V z ((V.length : Int) - 1) = 0) (hs : Sep q V z) {k : Nat} (hk : k < q) (hne : y k ≠ z k) :
 ¬ More (exL q V y) (exL q V z) := by
 have hsum : sumN y q = sumN z q := by
  unfold exZ at hy hz
  rw [show ((V.length : Int) - 1) = (cN q : Int) - 1 by omega, zs_grand hq] at hy hz
  grind
 have hdl : ∀ s : Int, exZ q V y s = exZ q V z s - (zs q y s - zs q z s) := fun s => by unfold exZ; grind
 obtain ⟨l, hl⟩ : ∃ l, l = (List.range (cN q)).filter fun s => decide (1 ≤ s) && (decide (s < cN q - 1) && decide (zs q y (s : Int) ≠ zs q z (s : Int))) := ⟨_, rfl⟩
 have hmem : ∀ s, s ∈ l ↔ 1 ≤ s ∧ s < cN q - 1 ∧ zs q y (s : Int) ≠ zs q z (s : Int) := fun s => by
  rw [hl, List.mem_filter, List.mem_range]
  simp only [Bool.and_eq_true, decide_eq_true_eq]
  constructor
  ·exact fun h => h.2
  ·exact fun h => ⟨by omega, h⟩
 obtain ⟨i1, i2, _, _⟩ := single_in ⟨q, by omega⟩ ⟨k, by omega⟩ h2 hk
 have hin : 2 ^ k ∈ l := (hmem _).2 ⟨i1, i2, by rw [zs_single hq hk, zs_single hq hk]; exact hne⟩
 obtain ⟨s0, hs0, hmax⟩ := max_at (fun s : Nat => exZ q V z (s : Int)) l (fun e => by rw [e] at hin; cases hin)
 obtain ⟨a1, a2, a3⟩ := (hmem s0).1 hs0
 obtain ⟨t0, ht0⟩ : ∃ t, t = exZ q V z (s0 : Int) := ⟨_, rfl⟩
 have f1 : ∀ s : Nat, 1 ≤ s → s < cN q - 1 → t0 < exZ q V z (s : Int) → exZ q V y (s : Int) = exZ q V z (s : Int) := fun s h1 h3 h4 => by
  by_cases he : zs q y (s : Int) = zs q z (s : Int)
  ·unfold exZ; rw [he]
  ·have := hmax s ((hmem s).2 ⟨h1, h3, he⟩)
   rw [← ht0] at this
   exfalso; grind
 have f2 : ∃ t : Nat, 1 ≤ t ∧ t < cN q - 1 ∧ t0 < exZ q V y (t : Int) ∧ exZ q V z (t : Int) ≤ t0 := by
  have key : ∀ t : Nat, 1 ≤ t → t < cN q - 1 → zs q y (t : Int) < zs q z (t : Int) → t0 ≤ exZ q V z (t : Int) → ∃ t : Nat, 1 ≤ t ∧ t < cN q - 1 ∧ t0 < exZ q V y (t : Int) ∧ exZ q V z (t : Int) ≤ t0 := fun t h1 h3 h4 h5 => by
   have := hmax t ((hmem t).2 ⟨h1, h3, by grind⟩)
   rw [← ht0] at this
   refine ⟨t, h1, h3, ?_, this⟩
   rw [hdl]; grind
  have hcase : zs q y (s0 : Int) < zs q z (s0 : Int) ∨ zs q z (s0 : Int) < zs q y (s0 : Int) := by grind
  rcases hcase with hlt | hgt
  ·exact key s0 a1 a2 hlt (by rw [ht0]; exact Rat.le_refl)
  ·-- who gains in s0, and who loses outside
   have hg : 0 < sumN (fun i => (y i - z i) * ((bitI (hasP (s0 : Int) (i : Int)) : Int) : Rat)) q := by
    have e : sumN (fun i => (y i - z i) * ((bitI (hasP (s0 : Int) (i : Int)) : Int) : Rat)) q = zs q y s0 + (-1) * zs q z s0 := by
     unfold zs; rw [← sumN_lin]; exact sumN_congr fun i hi => by grind
    rw [e]; grind
   obtain ⟨i, hi, hip⟩ := sumN_pos hg
   have hl2 : 0 < sumN (fun j => (z j - y j) * ((bitI (!hasP (s0 : Int) (j : Int)) : Int) : Rat)) q := by
    have e : sumN (fun j => (z j - y j) * ((bitI (!hasP (s0 : Int) (j : Int)) : Int) : Rat)) q = (sumN z q + (-1) * sumN y q) + (1 : Rat) * sumN (fun i => (y i - z i) * ((bitI (hasP (s0 : Int) (i : Int)) : Int) : Rat)) q := by
     rw [← sumN_lin, ← sumN_lin]
     refine sumN_congr fun i hi => ?_
     have e1 : ((1 : Int) : Rat) = 1 := rfl
     have e0 : ((0 : Int) : Rat) = 0 := rfl
     cases hasP (s0 : Int) (i : Int) with
     | true => show (z i - y i) * ((0 : Int) : Rat) = z i + -1 * y i + 1 * ((y i - z i) * ((1 : Int) : Rat)); rw [e1, e0]; grind
     | false => show (z i - y i) * ((1 : Int) : Rat) = z i + -1 * y i + 1 * ((y i - z i) * ((0 : Int) : Rat)); rw [e1, e0]; grind
    rw [e, hsum]; grind
   obtain ⟨j, hj, hjp⟩ := sumN_pos hl2
   have e1 : ((1 : Int) : Rat) = 1 := rfl
   have e0 : ((0 : Int) : Rat) = 0 := rfl
   have hbi : hasP (s0 : Int) (i : Int) = true ∧ z i < y i := by
    cases hb : hasP (s0 : Int) (i : Int) with
    | true => rw [hb] at hip; have hip : 0 < (y i - z i) * ((1 : Int) : Rat) := hip; rw [e1] at hip; exact ⟨rfl, by grind⟩
    | false => rw [hb] at hip; have hip : 0 < (y i - z i) * ((0 : Int) : Rat) := hip; rw [e0] at hip; grind
   have hbj : hasP (s0 : Int) (j : Int) = false ∧ y j < z j := by
    cases hb : hasP (s0 : Int) (j : Int) with
    | true => rw [hb] at hjp; have hjp : 0 < (z j - y j) * ((0 : Int) : Rat) := hjp; rw [e0] at hjp; grind
    | false => rw [hb] at hjp; have hjp : 0 < (z j - y j) * ((1 : Int) : Rat) := hjp; rw [e1] at hjp; exact ⟨rfl, by grind⟩
   have hij : i ≠ j := fun e => by have := hbi.1; rw [e, hbj.1] at this; cases this
   obtain ⟨j1, j2, _, _⟩ := single_in ⟨q, by omega⟩ ⟨j, by omega⟩ h2 hj
   obtain ⟨_, _, k1, k2⟩ := single_in ⟨q, by omega⟩ ⟨i, by omega⟩ h2 hi
   rcases hs i j s0 hi hj hij a1 a2 hbi.1 hbj.1 with h | h
   ·exact key (2 ^ j) j1 j2 (by rw [zs_single hq hj, zs_single hq hj]; exact hbj.2) (by rw [ht0]; exact h)
   ·exact key (cN q - 1 - 2 ^ i) k1 k2 (by rw [zs_others hq hi, zs_others hq hi, hsum]; have := hbi.2; grind) (by rw [ht0]; exact h)
 rintro ⟨t, m1, m2⟩
 have hidx : ∀ s ∈ seqI 1 (V.length - 2), ∃ u : Nat, s = (u : Int) ∧ 1 ≤ u ∧ u < cN q - 1 := fun s hm => by
  unfold seqI at hm
  obtain ⟨i, hi, rfl⟩ := List.mem_map.1 hm
  have := List.mem_range.1 hi
  exact ⟨1 + i, by push_cast; rfl, by omega, by omega⟩
 by_cases ht : t0 ≤ t
 ·have : cntGt t (exL q V z) ≤ cntGt t (exL q V y) := by
   unfold cntGt exL
   rw [List.countP_map, List.countP_map]
   refine List.countP_mono_left fun s hm hp => ?_
   obtain ⟨u, rfl, h1, h3⟩ := hidx s hm
   simp only [Function.comp_apply, decide_eq_true_eq] at hp ⊢
   rw [f1 u h1 h3 (by grind)]
   exact hp
  omega
 ·obtain ⟨u, h1, h3, h4, h5⟩ := f2
  have hu := m1 (exZ q V y (u : Int)) (by grind)
  have : cntGe (exZ q V y (u : Int)) (exL q V z) < cntGe (exZ q V y (u : Int)) (exL q V y) := by
   unfold cntGe exL
   rw [List.countP_map, List.countP_map]
   refine countP_lt (fun s hm hp => ?_) ⟨(u : Int), ?_, ?_, ?_⟩
   ·obtain ⟨v, rfl, g1, g3⟩ := hidx s hm
    simp only [Function.comp_apply, decide_eq_true_eq] at hp ⊢
    rw [f1 v g1 g3 (by grind)]
    exact hp
   ·unfold seqI
    exact List.mem_map.2 ⟨u - 1, List.mem_range.2 (by omega), by omega⟩
   ·simp only [Function.comp_apply, decide_eq_false_iff_not]; grind
   ·simp only [Function.comp_apply, decide_eq_true_eq]; exact Rat.le_refl
  omega
theorem sep_nuc {p : Int} {V : List Int} {z : Nat → Rat} (hp1 : p ≠ 1) (hok : (nucR p V).ok = true) (hz : exZ p.toNat V z ((V.length : Int) - 1) = 0) (hs : Sep p.toNat V z) :
 ∀ k, k < p.toNat → val ((nucR p V).pt[k]?.getD (0, 0)) = z k := by
 intro k hk
 cases hg : gameOk p V with
 | false => unfold nucR at hok; rw [if_neg (by rw [hg]; simp)] at hok; cases hok
 | true =>
   obtain ⟨q, hpq, h1, h5, hlen, _⟩ := gameOk_len hg
   have hpt : p.toNat = q := by omega
   have e : nucR p V = nucF p V ((frN V []).length + 1) [] 0 := by unfold nucR; rw [if_pos hg, if_neg hp1]
   rw [e] at hok ⊢
   obtain ⟨hm, _, _, hall⟩ := nuc_least hok
   rcases Classical.em (val ((nucF p V ((frN V []).length + 1) [] 0).pt[k]?.getD (0, 0)) = z k) with h | h
   ·exact h
   ·exfalso
    rcases hall z ⟨hz, fun f hf => by cases hf⟩ with hh | hh
    ·exact h (meets_unique hg (nuc_done hok) hm hh k hk)
    ·rw [hpt] at hk hz hs hh
     exact sep_less (by omega) h5 hlen (by have := hm.grand; rw [hpt] at this; exact this) hz hs hk h hh
def outS (F : Nat → Int) (s : Nat) : Nat → Int
 | 0 => 0
 | m + 1 => outS F s m + if bit (s : Int) m = true then 0 else F m
def clC (C : List Int) (k : Nat) : Int := C[k]?.getD 0
theorem out_sum (F : Nat → Int) (s : Nat) : ∀ m, m ≤ 5 → sumM F s m + outS F s m = outS F 0 m
 | 0, _ => by simp [sumM, outS]
 | m + 1, h => by
   have ih := out_sum F s m (by omega)
   have hb : bit ((0 : Nat) : Int) m = false := by
    have : ∀ k : Fin 5, bit ((0 : Nat) : Int) k.val = false := by decide
    exact this ⟨m, by omega⟩
   simp only [sumM, outS]
   rw [hb, if_neg (by simp : ¬ (false = true))]
   cases bit (s : Int) m
   ·rw [if_neg (by simp), if_neg (by simp)]; omega
   ·rw [if_pos rfl, if_pos rfl]; omega
theorem out_all (F : Nat → Int) : ∀ m, m ≤ 5 → outS F 0 m = ((List.range m).map F).sum
 | 0, _ => rfl
 | m + 1, h => by
   have hb : bit ((0 : Nat) : Int) m = false := by
    have : ∀ k : Fin 5, bit ((0 : Nat) : Int) k.val = false := by decide
    exact this ⟨m, by omega⟩
   rw [List.range_succ, List.map_append, List.sum_append, ← out_all F m (by omega)]
   simp only [outS]
   rw [hb, if_neg (by simp : ¬ (false = true))]
   simp
theorem out_le {F G : Nat → Int} (s : Nat) : ∀ m, (∀ k, k < m → F k ≤ G k) → outS F s m ≤ outS G s m
 | 0, _ => by simp [outS]
 | m + 1, h => by
   have ih := out_le s m (fun k hk => h k (by omega))
   have := h m (by omega)
   simp only [outS]
   split <;> omega
theorem out_scale (F : Nat → Int) (c : Int) (s : Nat) : ∀ m, outS (fun k => c * F k) s m = c * outS F s m
 | 0 => by simp [outS]
 | m + 1 => by simp only [outS]; rw [out_scale F c s m, Int.mul_add]; split <;> simp
theorem out_up {F : Nat → Int} (s : Nat) {n : Nat} (h : ∀ k, n ≤ k → F k = 0) : ∀ d, outS F s (n + d) = outS F s n
 | 0 => rfl
 | d + 1 => by
   rw [show n + (d + 1) = (n + d) + 1 from rfl]
   simp only [outS]
   rw [out_up s h d, h (n + d) (by omega)]
   split <;> omega
theorem sum_nn {F : Nat → Int} (s : Nat) : ∀ m, (∀ k, k < m → 0 ≤ F k) → 0 ≤ sumM F s m
 | 0, _ => by simp [sumM]
 | m + 1, h => by
   have ih := sum_nn s m (fun k hk => h k (by omega))
   have := h m (by omega)
   simp only [sumM]
   split <;> omega
theorem or_bits : ∀ a b : Fin 32, ∀ k : Fin 5, bit ((a.val ||| b.val : Nat) : Int) k.val = (bit (a.val : Int) k.val || bit (b.val : Int) k.val) ∧ bit ((a.val &&& b.val : Nat) : Int) k.val = (bit (a.val : Int) k.val && bit (b.val : Int) k.val) := by decide +kernel
theorem or_in : ∀ n : Fin 6, ∀ a b : Fin 32, a.val < cN n.val → b.val < cN n.val → a.val ||| b.val < cN n.val ∧ a.val &&& b.val < cN n.val := by decide +kernel
theorem out_conv {F : Nat → Int} (h0 : ∀ k, 0 ≤ F k) {a b : Nat} (ha : a < 32) (hb : b < 32) : ∀ m, m ≤ 5 → outS F (a ||| b) m + outS F (a &&& b) m = outS F a m + outS F b m ∧ outS F (a ||| b) m ≤ outS F a m ∧ outS F (a ||| b) m ≤ outS F b m
 | 0, _ => by simp [outS]
 | m + 1, h => by
   obtain ⟨i1, i2, i3⟩ := out_conv h0 ha hb m (by omega)
   obtain ⟨b1, b2⟩ := or_bits ⟨a, ha⟩ ⟨b, hb⟩ ⟨m, by omega⟩
   simp only at b1 b2
   have := h0 m
   simp only [outS]
   rw [b1, b2]
   cases bit (a : Int) m <;> cases bit (b : Int) m <;> simp <;> omega
theorem rowF_gt (f : Nat → Int) (n k : Nat) (h : k < n) : (rowF f n)[k]?.getD 0 = f k := by
 unfold rowF
 simp [h]
section
variable {x : Int} {C : List Int}
theorem cl_bd (h : validPair 0 x C = true) (k : Nat) : 0 ≤ clC C k ∧ clC C k ≤ 100 := valid_small h k
theorem cl_sum (h : validPair 0 x C = true) : outS (clC C) 0 C.length = sumW C := by
 have hv := valid_claims h
 rw [out_all _ _ hv.2.1]
 have h1 := sum_at C
 have h2 := sumW_small C 0 (fun y hy => by
  obtain ⟨j, hj, rfl⟩ := List.getElem_of_mem hy
  have := valid_small h j
  rw [List.getElem?_eq_getElem hj, Option.getD_some] at this
  omega) (by omega) (by omega)
 have h3 : sumW C = C.sum := by unfold sumW; have := h2.1; omega
 rw [h3, ← h1]
 rfl
theorem out_sumTo (h : validPair 0 x C = true) {s : Nat} (hs : s < cN C.length) : ∀ k, k ≤ C.length → sumTo ((cN C.length : Int) - 1 - (s : Int)) C k = outS (clC C) s k
 | 0, _ => rfl
 | k + 1, hk => by
   have hv := valid_claims h
   rw [sumTo_step (valid_small h) _ k (by omega), rest_bit _ _ _ hv.2.1 hs (by omega), out_sumTo h hs k (by omega)]
   simp only [outS]
   cases bit (s : Int) k
   ·rw [if_pos (by rfl), if_neg (by simp)]; rfl
   ·rw [if_neg (by simp), if_pos rfl]; omega
theorem bank_at (h : validPair 0 x C = true) {s : Nat} (hs : s < cN C.length) : (bankL x C)[s]?.getD 0 = maxI 0 (x - outS (clC C) s C.length) := by
 have hv := valid_claims h
 unfold bankL
 rw [if_pos h, rowF_gt _ _ _ hs]
 unfold bankF
 rw [out_sumTo h hs _ (Nat.le_refl _)]
 by_cases h0 : 0 < s
 ·rw [decide_eq_true h0]
  show _ * (1 : Int) = _
  rw [Int.mul_one]
 ·obtain rfl : s = 0 := by omega
  rw [cl_sum h]
  show _ * (0 : Int) = _
  rw [Int.mul_zero]
  unfold maxI
  split <;> omega
theorem bank_game (h : validPair 0 x C = true) : gameOk (C.length : Int) (bankL x C) = true := by
 have hv := valid_claims h
 have hcn := cN_le C.length hv.2.1
 have h0 := bank_at h (s := 0) (by omega)
 rw [cl_sum h] at h0
 unfold bankL at h0 ⊢
 rw [if_pos h] at h0 ⊢
 rw [rowF_gt _ _ _ (by omega)] at h0
 refine rowF_ok hv.1 hv.2.1 ?_ fun s _ => ?_
 ·rw [h0]; unfold maxI; split <;> omega
 ·have := bankF_le h s; omega
theorem bank_len (h : validPair 0 x C = true) : (bankL x C).length = cN C.length := by unfold bankL; rw [if_pos h, rowF_len]
theorem bank_conv (h : validPair 0 x C = true) : convOk (C.length : Int) (bankL x C) = true := by
 have hv := valid_claims h
 have hcn := cN_le C.length hv.2.1
 unfold convOk
 rw [bank_game h, Bool.true_and, bank_len h, List.all_eq_true]
 intro a ha
 rw [List.all_eq_true]
 intro b hb
 have ha := List.mem_range.1 ha
 have hb := List.mem_range.1 hb
 obtain ⟨o1, o2⟩ := or_in ⟨C.length, by omega⟩ ⟨a, by omega⟩ ⟨b, by omega⟩ ha hb
 obtain ⟨c1, c2, c3⟩ := out_conv (F := clC C) (fun k => (cl_bd h k).1) (a := a) (b := b) (by omega) (by omega) C.length hv.2.1
 unfold convF
 rw [bank_at h ha, bank_at h hb, bank_at h o1, bank_at h o2]
 have : ¬ (maxI 0 (x - outS (clC C) (a ||| b) C.length) + maxI 0 (x - outS (clC C) (a &&& b) C.length) < maxI 0 (x - outS (clC C) a C.length) + maxI 0 (x - outS (clC C) b C.length)) := by
  unfold maxI
  (repeat' split) <;> omega
 rw [decide_eq_false this]
 rfl
variable {F : Int} {S T : Nat → Int}
theorem TalF.cl (h : validPair 0 x C = true) (hF : TalF x C F S T) (k : Nat) : 0 ≤ S k ∧ S k ≤ clC C k * F ∧ 0 ≤ T k ∧ T k ≤ 2 * F * clC C k := by
 have hc := cl_bd h k
 have hf := hF.f1
 have hcf : 0 ≤ clC C k * F := Int.mul_nonneg hc.1 (by omega)
 have e : 2 * F * clC C k = 2 * (clC C k * F) := by grind
 by_cases hk : k < C.length
 ·have hb := hF.bd k hk
  have hb : 0 ≤ S k ∧ S k ≤ clC C k * F := hb
  rcases hF.tot with ⟨_, _, ht⟩ | ⟨_, _, ht⟩
  ·have := ht k hk; omega
  ·have := ht k hk
   have : T k = 2 * (clC C k * F) - S k := this
   omega
 ·have := hF.off k (by omega); omega
theorem TalF.sumT (h : validPair 0 x C = true) (hF : TalF x C F S T) : outS T 0 C.length = x * (2 * F) := by
 have hv := valid_claims h
 have hs : outS (clC C) 0 C.length = sumW C := cl_sum h
 rcases hF.tot with ⟨_, ht, hk⟩ | ⟨_, ht, hk⟩
 ·rw [← out_all _ _ hv.2.1] at ht
  have e : outS T 0 C.length = outS S 0 C.length := by
   have h1 := out_le (F := T) (G := S) 0 C.length (fun k hkk => by rw [hk k hkk]; omega)
   have h2 := out_le (F := S) (G := T) 0 C.length (fun k hkk => by rw [hk k hkk]; omega)
   omega
  rw [e, ht]; grind
 ·rw [← out_all _ _ hv.2.1] at ht
  have add : ∀ m, m ≤ C.length → outS T 0 m = 2 * F * outS (clC C) 0 m - outS S 0 m := by
   intro m
   induction m with
   | zero => intro _; simp [outS]
   | succ m ih =>
     intro hm
     have ih := ih (by omega)
     have hkm := hk m (by omega)
     have hkm : T m = 2 * (clC C m * F) - S m := hkm
     simp only [outS]
     rw [ih]
     split
     ·grind
     ·rw [hkm]; grind
  rw [add _ (Nat.le_refl _), hs, ht]; grind
theorem tal_core (h : validPair 0 x C = true) (hF : TalF x C F S T) : coreS (C.length : Int) (bankL x C) (talL x C) = true := by
 have hv := valid_claims h
 have hcn := cN_le C.length hv.2.1
 have hf := hF.f1
 have hT0 : ∀ k, C.length ≤ k → T k = 0 := fun k hk => (hF.off k hk).2
 have hc0 : ∀ k, C.length ≤ k → clC C k = 0 := fun k hk => by unfold clC; rw [List.getElem?_eq_none hk]; rfl
 obtain ⟨d, hd⟩ : ∃ d, C.length + d = 5 := ⟨5 - C.length, by omega⟩
 have hout : ∀ s, sumM T s 5 = x * (2 * F) - outS T s C.length := fun s => by
  have e := out_sum T s 5 (by omega)
  have e1 := out_up (F := T) s hT0 d
  have e2 := out_up (F := T) 0 hT0 d
  rw [hd] at e1 e2
  rw [e1, e2, hF.sumT h] at e
  omega
 have hle : ∀ s, outS T s C.length ≤ 2 * F * outS (clC C) s C.length := fun s => by
  rw [← out_scale]
  exact out_le s _ fun k _ => (hF.cl h k).2.2.2
 refine core_of (bank_game h) (D := 2 * F) (S := T) (by omega) hF.len hF.fr (fun k => ?_) ?_ fun s hs => ?_
 ·have h4 := (hF.cl h k).2.2
  have hc := cl_bd h k
  have h12 : 2 * F * clC C k ≤ 12 * 100 := Int.mul_le_mul (by omega) hc.2 hc.1 (by omega)
  omega
 ·rw [hout, bank_at h (by omega)]
  have hz : ∀ G : Nat → Int, outS G (cN C.length - 1) C.length = 0 := fun G => by
   have : ∀ m, m ≤ C.length → outS G (cN C.length - 1) m = 0 := by
    intro m
    induction m with
    | zero => intro _; rfl
    | succ m ih =>
      intro hm
      have hb := all_bit ⟨C.length, by omega⟩ ⟨m, by omega⟩ (show m < C.length by omega)
      simp only at hb
      simp only [outS]
      rw [ih (by omega), hb, if_pos rfl]; rfl
   exact this _ (Nat.le_refl _)
  rw [hz, hz]
  have : maxI 0 (x - 0) = x := by unfold maxI; split <;> omega
  rw [this]; omega
 ·rw [bank_at h hs]
  have h1 := hle s
  have h2 := sum_nn (F := T) s 5 (fun k _ => (hF.cl h k).2.2.1)
  rw [hout] at h2 ⊢
  unfold maxI
  split
  ·rw [Int.zero_mul]; exact h2
  ·have e : (x - outS (clC C) s C.length) * (2 * F) = x * (2 * F) - 2 * F * outS (clC C) s C.length := by grind
   rw [e]; omega
end
end Go.Proofs.YthjjfkeacobikaaGreat
namespace Go.Proofs.YthjjfkeacobikaaGreat
theorem fr_val {p : Int × Int} {y D : Int} (h : Fr p y D) : (D : Rat) * val p = (y : Rat) := by
 have hb := valR_bd h.1
 have h3 := h.2.2
 have e : (p.1 : Rat) * (D : Rat) = (y : Rat) * (p.2 : Rat) := by
  rw [← Rat.intCast_mul, ← Rat.intCast_mul, h3]
 have h2 : ((p.2 : Int) : Rat) ≠ 0 := ratne (by omega)
 unfold val
 grind
theorem zs_sumM {q : Nat} {z : Nat → Rat} {T : Nat → Int} {D : Int} (h : ∀ k, k < q → (D : Rat) * z k = (T k : Rat)) (s : Nat) : ∀ m, m ≤ q → m ≤ 5 → (D : Rat) * sumN (fun k => z k * ((bitI (hasP (s : Int) (k : Int)) : Int) : Rat)) m = ((sumM T s m : Int) : Rat)
 | 0, _, _ => by
   show (D : Rat) * 0 = ((0 : Int) : Rat)
   have e0 : ((0 : Int) : Rat) = 0 := rfl
   rw [e0]; grind
 | m + 1, hm, h5 => by
   have ih := zs_sumM h s m (by omega) (by omega)
   have hk := h m (by omega)
   simp only [sumN, sumM]
   rw [hasP_bit (s : Int) m (by omega) (by omega), Rat.intCast_add, ← ih]
   have e0 : ((0 : Int) : Rat) = 0 := rfl
   have e1 : ((1 : Int) : Rat) = 1 := rfl
   cases bit (s : Int) m with
   | true => rw [if_pos rfl]; show _ * (_ + z m * ((1 : Int) : Rat)) = _; rw [e1, ← hk]; grind
   | false => rw [if_neg (by simp)]; show _ * (_ + z m * ((0 : Int) : Rat)) = _ + ((0 : Int) : Rat); rw [e0]; grind
theorem tab3 (F : Nat → Int) : (sumM F 1 3 = F 0 ∧ sumM F 2 3 = F 1 ∧ sumM F 3 3 = F 0 + F 1 ∧ sumM F 4 3 = F 2 ∧ sumM F 5 3 = F 0 + F 2 ∧ sumM F 6 3 = F 1 + F 2) ∧ (outS F 1 3 = F 1 + F 2 ∧ outS F 2 3 = F 0 + F 2 ∧ outS F 3 3 = F 2 ∧ outS F 4 3 = F 0 + F 1 ∧ outS F 5 3 = F 1 ∧ outS F 6 3 = F 0) ∧ outS F 0 3 = F 0 + F 1 + F 2 := by
 have hb : ∀ s : Fin 8, ∀ k : Fin 3, bit (s.val : Int) k.val = s.val.testBit k.val := by decide
 refine ⟨⟨?_, ?_, ?_, ?_, ?_, ?_⟩, ⟨?_, ?_, ?_, ?_, ?_, ?_⟩, ?_⟩ <;> simp only [sumM, outS]
 ·rw [hb ⟨1, by omega⟩ ⟨0, by omega⟩, hb ⟨1, by omega⟩ ⟨1, by omega⟩, hb ⟨1, by omega⟩ ⟨2, by omega⟩]; simp [Nat.testBit]
 ·rw [hb ⟨2, by omega⟩ ⟨0, by omega⟩, hb ⟨2, by omega⟩ ⟨1, by omega⟩, hb ⟨2, by omega⟩ ⟨2, by omega⟩]; simp [Nat.testBit]
 ·rw [hb ⟨3, by omega⟩ ⟨0, by omega⟩, hb ⟨3, by omega⟩ ⟨1, by omega⟩, hb ⟨3, by omega⟩ ⟨2, by omega⟩]; simp [Nat.testBit]
 ·rw [hb ⟨4, by omega⟩ ⟨0, by omega⟩, hb ⟨4, by omega⟩ ⟨1, by omega⟩, hb ⟨4, by omega⟩ ⟨2, by omega⟩]; simp [Nat.testBit]
 ·rw [hb ⟨5, by omega⟩ ⟨0, by omega⟩, hb ⟨5, by omega⟩ ⟨1, by omega⟩, hb ⟨5, by omega⟩ ⟨2, by omega⟩]; simp [Nat.testBit]
 ·rw [hb ⟨6, by omega⟩ ⟨0, by omega⟩, hb ⟨6, by omega⟩ ⟨1, by omega⟩, hb ⟨6, by omega⟩ ⟨2, by omega⟩]; simp [Nat.testBit]
 ·rw [hb ⟨1, by omega⟩ ⟨0, by omega⟩, hb ⟨1, by omega⟩ ⟨1, by omega⟩, hb ⟨1, by omega⟩ ⟨2, by omega⟩]; simp [Nat.testBit]
 ·rw [hb ⟨2, by omega⟩ ⟨0, by omega⟩, hb ⟨2, by omega⟩ ⟨1, by omega⟩, hb ⟨2, by omega⟩ ⟨2, by omega⟩]; simp [Nat.testBit]
 ·rw [hb ⟨3, by omega⟩ ⟨0, by omega⟩, hb ⟨3, by omega⟩ ⟨1, by omega⟩, hb ⟨3, by omega⟩ ⟨2, by omega⟩]; simp [Nat.testBit]
 ·rw [hb ⟨4, by omega⟩ ⟨0, by omega⟩, hb ⟨4, by omega⟩ ⟨1, by omega⟩, hb ⟨4, by omega⟩ ⟨2, by omega⟩]; simp [Nat.testBit]
 ·rw [hb ⟨5, by omega⟩ ⟨0, by omega⟩, hb ⟨5, by omega⟩ ⟨1, by omega⟩, hb ⟨5, by omega⟩ ⟨2, by omega⟩]; simp [Nat.testBit]
 ·rw [hb ⟨6, by omega⟩ ⟨0, by omega⟩, hb ⟨6, by omega⟩ ⟨1, by omega⟩, hb ⟨6, by omega⟩ ⟨2, by omega⟩]; simp [Nat.testBit]
 ·rw [hb ⟨0, by omega⟩ ⟨0, by omega⟩, hb ⟨0, by omega⟩ ⟨1, by omega⟩, hb ⟨0, by omega⟩ ⟨2, by omega⟩]; simp [Nat.testBit]
theorem tab2 (F : Nat → Int) : (sumM F 1 2 = F 0 ∧ sumM F 2 2 = F 1) ∧ (outS F 1 2 = F 1 ∧ outS F 2 2 = F 0) ∧ outS F 0 2 = F 0 + F 1 := by
 have hb : ∀ s : Fin 8, ∀ k : Fin 3, bit (s.val : Int) k.val = s.val.testBit k.val := by decide
 refine ⟨⟨?_, ?_⟩, ⟨?_, ?_⟩, ?_⟩ <;> simp only [sumM, outS]
 ·rw [hb ⟨1, by omega⟩ ⟨0, by omega⟩, hb ⟨1, by omega⟩ ⟨1, by omega⟩]; simp [Nat.testBit]
 ·rw [hb ⟨2, by omega⟩ ⟨0, by omega⟩, hb ⟨2, by omega⟩ ⟨1, by omega⟩]; simp [Nat.testBit]
 ·rw [hb ⟨1, by omega⟩ ⟨0, by omega⟩, hb ⟨1, by omega⟩ ⟨1, by omega⟩]; simp [Nat.testBit]
 ·rw [hb ⟨2, by omega⟩ ⟨0, by omega⟩, hb ⟨2, by omega⟩ ⟨1, by omega⟩]; simp [Nat.testBit]
 ·rw [hb ⟨0, by omega⟩ ⟨0, by omega⟩, hb ⟨0, by omega⟩ ⟨1, by omega⟩]; simp [Nat.testBit]
theorem max_scale {x r F : Int} (hF : 1 ≤ F) : (F * maxI 0 (x - r) = 0 ∧ x * F ≤ r * F) ∨ (F * maxI 0 (x - r) = x * F - r * F ∧ r * F ≤ x * F) := by
 unfold maxI
 split
 ·next h => exact .inl ⟨by simp, Int.mul_le_mul_of_nonneg_right (by omega) (by omega)⟩
 ·next h => exact .inr ⟨by grind, Int.mul_le_mul_of_nonneg_right (by omega) (by omega)⟩
theorem vcast {w X r a b : Int} (h : (w = 0 ∧ X ≤ r) ∨ (w = X - r ∧ r ≤ X)) (e : r = a + b) : (w = 0 ∧ X ≤ a + b) ∨ (w = X - a - b ∧ a + b ≤ X) := by
 subst e
 rcases h with ⟨h1, h2⟩ | ⟨h1, h2⟩
 ·exact .inl ⟨h1, h2⟩
 ·exact .inr ⟨by omega, h2⟩
section
variable {x : Int} {C : List Int} {F : Int} {S T : Nat → Int}
theorem ex_int (h : validPair 0 x C = true) (hF : TalF x C F S T) {s : Nat} (hs : s < cN C.length) :
 ((2 * F : Int) : Rat) * exZ C.length (bankL x C) (fun k => val ((talL x C)[k]?.getD (0, 0))) (s : Int) = ((2 * (F * maxI 0 (x - outS (clC C) s C.length)) - sumM T s C.length : Int) : Rat) := by
 have hv := valid_claims h
 have hz := zs_sumM (q := C.length) (z := fun k => val ((talL x C)[k]?.getD (0, 0))) (T := T) (D := 2 * F) (fun k hk => fr_val (hF.fr k hk)) s C.length (Nat.le_refl _) hv.2.1
 unfold exZ zs
 rw [Int.toNat_natCast, bank_at h hs]
 have e : ((2 * (F * maxI 0 (x - outS (clC C) s C.length)) - sumM T s C.length : Int) : Rat) = ((2 * F : Int) : Rat) * ((maxI 0 (x - outS (clC C) s C.length) : Int) : Rat) - ((sumM T s C.length : Int) : Rat) := by
  rw [Rat.intCast_sub, ← Rat.intCast_mul]
  congr 2
  grind
 rw [e, ← hz]
 grind
theorem ex_le (h : validPair 0 x C = true) (hF : TalF x C F S T) {s t : Nat} (hs : s < cN C.length) (ht : t < cN C.length)
 (hle : 2 * (F * maxI 0 (x - outS (clC C) s C.length)) - sumM T s C.length ≤ 2 * (F * maxI 0 (x - outS (clC C) t C.length)) - sumM T t C.length) :
 exZ C.length (bankL x C) (fun k => val ((talL x C)[k]?.getD (0, 0))) (s : Int) ≤ exZ C.length (bankL x C) (fun k => val ((talL x C)[k]?.getD (0, 0))) (t : Int) := by
 have h1 := ex_int h hF hs
 have h2 := ex_int h hF ht
 have h3 := Rat.intCast_le_intCast.2 hle
 rw [← h1, ← h2] at h3
 have hf := hF.f1
 have hp : (0 : Rat) < ((2 * F : Int) : Rat) := by
  have e : ((0 : Int) : Rat) = 0 := rfl
  rw [← e]
  exact Rat.intCast_lt_intCast.2 (by omega)
 exact Rat.le_of_mul_le_mul_left h3 hp
theorem ex_grand (h : validPair 0 x C = true) (hF : TalF x C F S T) : exZ C.length (bankL x C) (fun k => val ((talL x C)[k]?.getD (0, 0))) (((bankL x C).length : Int) - 1) = 0 := by
 have hv := valid_claims h
 have hcn := cN_le C.length hv.2.1
 have hf := hF.f1
 have h1 := ex_int h hF (s := cN C.length - 1) (by omega)
 have hz : ∀ G : Nat → Int, outS G (cN C.length - 1) C.length = 0 := fun G => by
  have : ∀ m, m ≤ C.length → outS G (cN C.length - 1) m = 0 := by
   intro m
   induction m with
   | zero => intro _; rfl
   | succ m ih =>
     intro hm
     have hb := all_bit ⟨C.length, by omega⟩ ⟨m, by omega⟩ (show m < C.length by omega)
     simp only at hb
     simp only [outS]
     rw [ih (by omega), hb, if_pos rfl]; rfl
  exact this _ (Nat.le_refl _)
 have hs := out_sum T (cN C.length - 1) C.length hv.2.1
 rw [hz, hF.sumT h] at hs
 rw [hz] at h1
 have hm : maxI 0 (x - 0) = x := by unfold maxI; split <;> omega
 rw [hm] at h1
 have he : 2 * (F * x) - sumM T (cN C.length - 1) C.length = 0 := by
  have : x * (2 * F) = 2 * (F * x) := by grind
  omega
 rw [he] at h1
 rw [bank_len h, show ((cN C.length : Nat) : Int) - 1 = ((cN C.length - 1 : Nat) : Int) by omega]
 have e0 : ((0 : Int) : Rat) = 0 := rfl
 rw [e0] at h1
 have hne : ((2 * F : Int) : Rat) ≠ 0 := ratne (by omega)
 grind
theorem sep_two (h : validPair 0 x C = true) (hF : TalF x C F S T) (hn : C.length = 2) : Sep C.length (bankL x C) (fun k => val ((talL x C)[k]?.getD (0, 0))) := by
 have hf := hF.f1
 have hc4 : cN 2 = 4 := by decide
 have key : ∀ s t : Nat, s < 4 → t < 4 → 2 * (F * maxI 0 (x - outS (clC C) s 2)) - sumM T s 2 ≤ 2 * (F * maxI 0 (x - outS (clC C) t 2)) - sumM T t 2 →
  exZ C.length (bankL x C) (fun k => val ((talL x C)[k]?.getD (0, 0))) (s : Int) ≤ exZ C.length (bankL x C) (fun k => val ((talL x C)[k]?.getD (0, 0))) (t : Int) := fun s t hs ht hl =>
  ex_le h hF (by rw [hn, hc4]; exact hs) (by rw [hn, hc4]; exact ht) (by rw [hn]; exact hl)
 obtain ⟨⟨a1, a2⟩, ⟨b1, b2⟩, _⟩ := tab2 T
 obtain ⟨_, ⟨c1, c2⟩, c0⟩ := tab2 (clC C)
 have q0 := hF.cl h 0
 have q1 := hF.cl h 1
 have k0 : 0 < C.length := by omega
 have k1 : 1 < C.length := by omega
 have s01 := hF.sat 0 1 k0 k1
 have s10 := hF.sat 1 0 k1 k0
 have s01 : S 0 < S 1 → S 0 = clC C 0 * F := s01
 have s10 : S 1 < S 0 → S 1 = clC C 1 * F := s10
 have hcs := cl_sum h
 rw [hn, c0] at hcs
 have htot := hF.tot
 rw [hn] at htot
 have ht : (2 * x ≤ clC C 0 + clC C 1 ∧ S 0 + S 1 = 2 * (x * F) ∧ T 0 = S 0 ∧ T 1 = S 1) ∨ (clC C 0 + clC C 1 < 2 * x ∧ S 0 + S 1 = 2 * (clC C 0 * F + clC C 1 * F - x * F) ∧ T 0 = 2 * (clC C 0 * F) - S 0 ∧ T 1 = 2 * (clC C 1 * F) - S 1) := by
  have hr : ((List.range 2).map S).sum = S 0 + S 1 := by simp [List.range_succ]
  rw [hr, ← hcs] at htot
  rcases htot with ⟨u1, u2, u3⟩ | ⟨u1, u2, u3⟩
  ·exact .inl ⟨u1, by rw [u2]; grind, u3 0 (by omega), u3 1 (by omega)⟩
  ·exact .inr ⟨u1, by rw [u2]; grind, u3 0 (by omega), u3 1 (by omega)⟩
 have m0 : 2 * x ≤ clC C 0 + clC C 1 → 2 * (x * F) ≤ clC C 0 * F + clC C 1 * F := fun hh => by have := Int.mul_le_mul_of_nonneg_right hh (show 0 ≤ F by omega); grind
 have m1 : clC C 0 + clC C 1 < 2 * x → clC C 0 * F + clC C 1 * F < 2 * (x * F) := fun hh => by have := Int.mul_lt_mul_of_pos_right hh (show 0 < F by omega); grind
 have v1 := max_scale (x := x) (r := clC C 1) (F := F) hf.1
 have v2 := max_scale (x := x) (r := clC C 0) (F := F) hf.1
 have e12 : 2 * (F * maxI 0 (x - outS (clC C) 1 2)) - sumM T 1 2 = 2 * (F * maxI 0 (x - outS (clC C) 2 2)) - sumM T 2 2 := by
  rw [a1, a2, c1, c2]
  obtain ⟨w1, hw1⟩ : ∃ w, w = F * maxI 0 (x - clC C 1) := ⟨_, rfl⟩
  obtain ⟨w2, hw2⟩ : ∃ w, w = F * maxI 0 (x - clC C 0) := ⟨_, rfl⟩
  rw [← hw1] at v1 ⊢
  rw [← hw2] at v2 ⊢
  rcases ht with ⟨u0, u1, u2, u3⟩ | ⟨u0, u1, u2, u3⟩
  ·have := m0 u0; omega
  ·have := m1 u0; omega
 intro i j s hi hj hij h1 h2 hbi hbj
 rw [hn] at hi hj h2
 rw [hc4] at h2
 have hi' : i = 0 ∨ i = 1 := by omega
 have hj' : j = 0 ∨ j = 1 := by omega
 have hs' : s = 1 ∨ s = 2 := by omega
 left
 rcases hi' with rfl | rfl <;> rcases hj' with rfl | rfl <;> rcases hs' with rfl | rfl <;> first
  | exact absurd rfl hij
  | exact absurd hbi (by decide)
  | exact absurd hbj (by decide)
  | exact key 1 2 (by omega) (by omega) (by omega)
  | exact key 2 1 (by omega) (by omega) (by omega)
set_option maxHeartbeats 1000000 in
theorem sep_three (h : validPair 0 x C = true) (hF : TalF x C F S T) (hn : C.length = 3) : Sep C.length (bankL x C) (fun k => val ((talL x C)[k]?.getD (0, 0))) := by
 have hf := hF.f1
 have hc8 : cN 3 = 8 := by decide
 obtain ⟨E, hE⟩ : ∃ E : Nat → Int, E = fun s => 2 * (F * maxI 0 (x - outS (clC C) s 3)) - sumM T s 3 := ⟨_, rfl⟩
 have key : ∀ s t : Nat, s < 8 → t < 8 → E s ≤ E t →
  exZ C.length (bankL x C) (fun k => val ((talL x C)[k]?.getD (0, 0))) (s : Int) ≤ exZ C.length (bankL x C) (fun k => val ((talL x C)[k]?.getD (0, 0))) (t : Int) := fun s t hs ht hl =>
  ex_le h hF (by rw [hn, hc8]; exact hs) (by rw [hn, hc8]; exact ht) (by rw [hn]; rw [hE] at hl; exact hl)
 obtain ⟨⟨a1, a2, a3, a4, a5, a6⟩, _, _⟩ := tab3 T
 obtain ⟨_, ⟨c1, c2, c3, c4, c5, c6⟩, c0⟩ := tab3 (clC C)
 have q0 := hF.cl h 0
 have q1 := hF.cl h 1
 have q2 := hF.cl h 2
 have hcs := cl_sum h
 rw [hn, c0] at hcs
 have htot := hF.tot
 have sat : ∀ i j, i < 3 → j < 3 → S i < S j → S i = clC C i * F := fun i j hi hj => hF.sat i j (by omega) (by omega)
 rw [hn] at htot
 obtain ⟨X, hX⟩ : ∃ X, X = x * F := ⟨_, rfl⟩
 obtain ⟨b0, hb0⟩ : ∃ b, b = clC C 0 * F := ⟨_, rfl⟩
 obtain ⟨b1, hb1⟩ : ∃ b, b = clC C 1 * F := ⟨_, rfl⟩
 obtain ⟨b2, hb2⟩ : ∃ b, b = clC C 2 * F := ⟨_, rfl⟩
 have ht : (2 * X ≤ b0 + b1 + b2 ∧ S 0 + S 1 + S 2 = 2 * X ∧ T 0 = S 0 ∧ T 1 = S 1 ∧ T 2 = S 2) ∨ (b0 + b1 + b2 < 2 * X ∧ S 0 + S 1 + S 2 = 2 * (b0 + b1 + b2 - X) ∧ T 0 = 2 * b0 - S 0 ∧ T 1 = 2 * b1 - S 1 ∧ T 2 = 2 * b2 - S 2) := by
  have hr : ((List.range 3).map S).sum = S 0 + S 1 + S 2 := by simp [List.range_succ]; omega
  rw [hr, ← hcs] at htot
  rcases htot with ⟨u1, u2, u3⟩ | ⟨u1, u2, u3⟩
  ·refine .inl ⟨?_, by rw [u2, hX]; grind, u3 0 (by omega), u3 1 (by omega), u3 2 (by omega)⟩
   have := Int.mul_le_mul_of_nonneg_right u1 (show 0 ≤ F by omega)
   grind
  ·refine .inr ⟨?_, by rw [u2, hX, hb0, hb1, hb2]; grind, by rw [hb0]; exact u3 0 (by omega), by rw [hb1]; exact u3 1 (by omega), by rw [hb2]; exact u3 2 (by omega)⟩
   have := Int.mul_lt_mul_of_pos_right u1 (show 0 < F by omega)
   grind
 have hv : ∀ r, (F * maxI 0 (x - r) = 0 ∧ X ≤ r * F) ∨ (F * maxI 0 (x - r) = X - r * F ∧ r * F ≤ X) := fun r => by rw [hX]; exact max_scale hf.1
 have t01 : (clC C 0 + clC C 1) * F = b0 + b1 := by rw [hb0, hb1]; grind
 have t02 : (clC C 0 + clC C 2) * F = b0 + b2 := by rw [hb0, hb2]; grind
 have t12 : (clC C 1 + clC C 2) * F = b1 + b2 := by rw [hb1, hb2]; grind
 have v1 := hv (clC C 1 + clC C 2)
 have v2 := hv (clC C 0 + clC C 2)
 have v4 := hv (clC C 0 + clC C 1)
 have v3 := hv (clC C 2)
 have v5 := hv (clC C 1)
 have v6 := hv (clC C 0)
 rw [t12] at v1
 rw [t02] at v2
 rw [t01] at v4
 rw [← hb2] at v3
 rw [← hb1] at v5
 rw [← hb0] at v6
 have E1 : E 1 = 2 * (F * maxI 0 (x - (clC C 1 + clC C 2))) - T 0 := by rw [hE]; simp only; rw [c1, a1]
 have E2 : E 2 = 2 * (F * maxI 0 (x - (clC C 0 + clC C 2))) - T 1 := by rw [hE]; simp only; rw [c2, a2]
 have E3 : E 3 = 2 * (F * maxI 0 (x - clC C 2)) - (T 0 + T 1) := by rw [hE]; simp only; rw [c3, a3]
 have E4 : E 4 = 2 * (F * maxI 0 (x - (clC C 0 + clC C 1))) - T 2 := by rw [hE]; simp only; rw [c4, a4]
 have E5 : E 5 = 2 * (F * maxI 0 (x - clC C 1)) - (T 0 + T 2) := by rw [hE]; simp only; rw [c5, a5]
 have E6 : E 6 = 2 * (F * maxI 0 (x - clC C 0)) - (T 1 + T 2) := by rw [hE]; simp only; rw [c6, a6]
 generalize F * maxI 0 (x - (clC C 1 + clC C 2)) = w1 at v1 E1
 generalize F * maxI 0 (x - (clC C 0 + clC C 2)) = w2 at v2 E2
 generalize F * maxI 0 (x - (clC C 0 + clC C 1)) = w4 at v4 E4
 generalize F * maxI 0 (x - clC C 2) = w3 at v3 E3
 generalize F * maxI 0 (x - clC C 1) = w5 at v5 E5
 generalize F * maxI 0 (x - clC C 0) = w6 at v6 E6
 have u0 : 0 ≤ S 0 ∧ S 0 ≤ b0 := by rw [hb0]; omega
 have u1 : 0 ≤ S 1 ∧ S 1 ≤ b1 := by rw [hb1]; omega
 have u2 : 0 ≤ S 2 ∧ S 2 ≤ b2 := by rw [hb2]; omega
 have g01 := sat 0 1 (by omega) (by omega)
 have g02 := sat 0 2 (by omega) (by omega)
 have g10 := sat 1 0 (by omega) (by omega)
 have g12 := sat 1 2 (by omega) (by omega)
 have g20 := sat 2 0 (by omega) (by omega)
 have g21 := sat 2 1 (by omega) (by omega)
 rw [← hb0] at g01 g02
 rw [← hb1] at g10 g12
 rw [← hb2] at g20 g21
 clear hv key sat htot q0 q1 q2 t01 t02 t12 hX hb0 hb1 hb2 a1 a2 a3 a4 a5 a6 c1 c2 c3 c4 c5 c6 c0 hcs
 have s01 := sep3 (X := X) (ai := b0) (aj := b1) (ak := b2) (Si := S 0) (Sj := S 1) (Sk := S 2) (Ti := T 0) (Tj := T 1) (Tk := T 2) (vi := w1) (vj := w2) (vik := w5) (vjk := w6) ⟨u0.1, u1.1, u2.1⟩ ⟨u0.2, u1.2, u2.2⟩ g01 g10
  (ht.imp (fun ⟨a, b, c, d, e⟩ => ⟨by clear ht v1 v2 v3 v4 v5 v6 g01 g02 g10 g12 g20 g21; omega, by clear ht v1 v2 v3 v4 v5 v6 g01 g02 g10 g12 g20 g21; omega, c, d, e⟩) (fun ⟨a, b, c, d, e⟩ => ⟨by clear ht v1 v2 v3 v4 v5 v6 g01 g02 g10 g12 g20 g21; omega, by clear ht v1 v2 v3 v4 v5 v6 g01 g02 g10 g12 g20 g21; omega, c, d, e⟩))
  (vcast v1 (by first | rfl | exact Int.add_comm _ _)) (vcast v2 (by first | rfl | exact Int.add_comm _ _)) v5 v6
 have s02 := sep3 (X := X) (ai := b0) (aj := b2) (ak := b1) (Si := S 0) (Sj := S 2) (Sk := S 1) (Ti := T 0) (Tj := T 2) (Tk := T 1) (vi := w1) (vj := w4) (vik := w3) (vjk := w6) ⟨u0.1, u2.1, u1.1⟩ ⟨u0.2, u2.2, u1.2⟩ g02 g20
  (ht.imp (fun ⟨a, b, c, d, e⟩ => ⟨by clear ht v1 v2 v3 v4 v5 v6 g01 g02 g10 g12 g20 g21; omega, by clear ht v1 v2 v3 v4 v5 v6 g01 g02 g10 g12 g20 g21; omega, c, e, d⟩) (fun ⟨a, b, c, d, e⟩ => ⟨by clear ht v1 v2 v3 v4 v5 v6 g01 g02 g10 g12 g20 g21; omega, by clear ht v1 v2 v3 v4 v5 v6 g01 g02 g10 g12 g20 g21; omega, c, e, d⟩))
  (vcast v1 (by first | rfl | exact Int.add_comm _ _)) (vcast v4 (by first | rfl | exact Int.add_comm _ _)) v3 v6
 have s10 := sep3 (X := X) (ai := b1) (aj := b0) (ak := b2) (Si := S 1) (Sj := S 0) (Sk := S 2) (Ti := T 1) (Tj := T 0) (Tk := T 2) (vi := w2) (vj := w1) (vik := w6) (vjk := w5) ⟨u1.1, u0.1, u2.1⟩ ⟨u1.2, u0.2, u2.2⟩ g10 g01
  (ht.imp (fun ⟨a, b, c, d, e⟩ => ⟨by clear ht v1 v2 v3 v4 v5 v6 g01 g02 g10 g12 g20 g21; omega, by clear ht v1 v2 v3 v4 v5 v6 g01 g02 g10 g12 g20 g21; omega, d, c, e⟩) (fun ⟨a, b, c, d, e⟩ => ⟨by clear ht v1 v2 v3 v4 v5 v6 g01 g02 g10 g12 g20 g21; omega, by clear ht v1 v2 v3 v4 v5 v6 g01 g02 g10 g12 g20 g21; omega, d, c, e⟩))
  (vcast v2 (by first | rfl | exact Int.add_comm _ _)) (vcast v1 (by first | rfl | exact Int.add_comm _ _)) v6 v5
 have s12 := sep3 (X := X) (ai := b1) (aj := b2) (ak := b0) (Si := S 1) (Sj := S 2) (Sk := S 0) (Ti := T 1) (Tj := T 2) (Tk := T 0) (vi := w2) (vj := w4) (vik := w3) (vjk := w5) ⟨u1.1, u2.1, u0.1⟩ ⟨u1.2, u2.2, u0.2⟩ g12 g21
  (ht.imp (fun ⟨a, b, c, d, e⟩ => ⟨by clear ht v1 v2 v3 v4 v5 v6 g01 g02 g10 g12 g20 g21; omega, by clear ht v1 v2 v3 v4 v5 v6 g01 g02 g10 g12 g20 g21; omega, d, e, c⟩) (fun ⟨a, b, c, d, e⟩ => ⟨by clear ht v1 v2 v3 v4 v5 v6 g01 g02 g10 g12 g20 g21; omega, by clear ht v1 v2 v3 v4 v5 v6 g01 g02 g10 g12 g20 g21; omega, d, e, c⟩))
  (vcast v2 (by first | rfl | exact Int.add_comm _ _)) (vcast v4 (by first | rfl | exact Int.add_comm _ _)) v3 v5
 have s20 := sep3 (X := X) (ai := b2) (aj := b0) (ak := b1) (Si := S 2) (Sj := S 0) (Sk := S 1) (Ti := T 2) (Tj := T 0) (Tk := T 1) (vi := w4) (vj := w1) (vik := w6) (vjk := w3) ⟨u2.1, u0.1, u1.1⟩ ⟨u2.2, u0.2, u1.2⟩ g20 g02
  (ht.imp (fun ⟨a, b, c, d, e⟩ => ⟨by clear ht v1 v2 v3 v4 v5 v6 g01 g02 g10 g12 g20 g21; omega, by clear ht v1 v2 v3 v4 v5 v6 g01 g02 g10 g12 g20 g21; omega, e, c, d⟩) (fun ⟨a, b, c, d, e⟩ => ⟨by clear ht v1 v2 v3 v4 v5 v6 g01 g02 g10 g12 g20 g21; omega, by clear ht v1 v2 v3 v4 v5 v6 g01 g02 g10 g12 g20 g21; omega, e, c, d⟩))
  (vcast v4 (by first | rfl | exact Int.add_comm _ _)) (vcast v1 (by first | rfl | exact Int.add_comm _ _)) v6 v3
 have s21 := sep3 (X := X) (ai := b2) (aj := b1) (ak := b0) (Si := S 2) (Sj := S 1) (Sk := S 0) (Ti := T 2) (Tj := T 1) (Tk := T 0) (vi := w4) (vj := w2) (vik := w5) (vjk := w3) ⟨u2.1, u1.1, u0.1⟩ ⟨u2.2, u1.2, u0.2⟩ g21 g12
  (ht.imp (fun ⟨a, b, c, d, e⟩ => ⟨by clear ht v1 v2 v3 v4 v5 v6 g01 g02 g10 g12 g20 g21; omega, by clear ht v1 v2 v3 v4 v5 v6 g01 g02 g10 g12 g20 g21; omega, e, d, c⟩) (fun ⟨a, b, c, d, e⟩ => ⟨by clear ht v1 v2 v3 v4 v5 v6 g01 g02 g10 g12 g20 g21; omega, by clear ht v1 v2 v3 v4 v5 v6 g01 g02 g10 g12 g20 g21; omega, e, d, c⟩))
  (vcast v4 (by first | rfl | exact Int.add_comm _ _)) (vcast v2 (by first | rfl | exact Int.add_comm _ _)) v5 v3
 clear v1 v2 v3 v4 v5 v6 ht g01 g02 g10 g12 g20 g21 u0 u1 u2
 have r01 : (E 1 ≤ E 2 ∨ E 1 ≤ E 6) ∧ (E 5 ≤ E 2 ∨ E 5 ≤ E 6) := ⟨s01.1.imp (fun h => by omega) (fun h => by omega), s01.2.imp (fun h => by omega) (fun h => by omega)⟩
 have r02 : (E 1 ≤ E 4 ∨ E 1 ≤ E 6) ∧ (E 3 ≤ E 4 ∨ E 3 ≤ E 6) := ⟨s02.1.imp (fun h => by omega) (fun h => by omega), s02.2.imp (fun h => by omega) (fun h => by omega)⟩
 have r10 : (E 2 ≤ E 1 ∨ E 2 ≤ E 5) ∧ (E 6 ≤ E 1 ∨ E 6 ≤ E 5) := ⟨s10.1.imp (fun h => by omega) (fun h => by omega), s10.2.imp (fun h => by omega) (fun h => by omega)⟩
 have r12 : (E 2 ≤ E 4 ∨ E 2 ≤ E 5) ∧ (E 3 ≤ E 4 ∨ E 3 ≤ E 5) := ⟨s12.1.imp (fun h => by omega) (fun h => by omega), s12.2.imp (fun h => by omega) (fun h => by omega)⟩
 have r20 : (E 4 ≤ E 1 ∨ E 4 ≤ E 3) ∧ (E 6 ≤ E 1 ∨ E 6 ≤ E 3) := ⟨s20.1.imp (fun h => by omega) (fun h => by omega), s20.2.imp (fun h => by omega) (fun h => by omega)⟩
 have r21 : (E 4 ≤ E 2 ∨ E 4 ≤ E 3) ∧ (E 5 ≤ E 2 ∨ E 5 ≤ E 3) := ⟨s21.1.imp (fun h => by omega) (fun h => by omega), s21.2.imp (fun h => by omega) (fun h => by omega)⟩
 clear s01 s02 s10 s12 s20 s21 E1 E2 E3 E4 E5 E6
 have key : ∀ s t : Nat, s < 8 → t < 8 → E s ≤ E t →
  exZ C.length (bankL x C) (fun k => val ((talL x C)[k]?.getD (0, 0))) (s : Int) ≤ exZ C.length (bankL x C) (fun k => val ((talL x C)[k]?.getD (0, 0))) (t : Int) := fun s t hs ht hl =>
  ex_le h hF (by rw [hn, hc8]; exact hs) (by rw [hn, hc8]; exact ht) (by rw [hn]; rw [hE] at hl; exact hl)
 intro i j s hi hj hij h1 h2 hbi hbj
 rw [hn] at hi hj h2 ⊢
 rw [hn] at key
 rw [hc8] at h2 ⊢
 have hi' : i = 0 ∨ i = 1 ∨ i = 2 := by omega
 have hj' : j = 0 ∨ j = 1 ∨ j = 2 := by omega
 have hs' : s = 1 ∨ s = 2 ∨ s = 3 ∨ s = 4 ∨ s = 5 ∨ s = 6 := by omega
 rcases hi' with rfl | rfl | rfl <;> rcases hj' with rfl | rfl | rfl <;> rcases hs' with rfl | rfl | rfl | rfl | rfl | rfl <;> first
  | exact absurd rfl hij
  | exact absurd hbi (by decide)
  | exact absurd hbj (by decide)
  | exact r01.1.imp (key 1 2 (by omega) (by omega)) (key 1 6 (by omega) (by omega))
  | exact r01.2.imp (key 5 2 (by omega) (by omega)) (key 5 6 (by omega) (by omega))
  | exact r02.1.imp (key 1 4 (by omega) (by omega)) (key 1 6 (by omega) (by omega))
  | exact r02.2.imp (key 3 4 (by omega) (by omega)) (key 3 6 (by omega) (by omega))
  | exact r10.1.imp (key 2 1 (by omega) (by omega)) (key 2 5 (by omega) (by omega))
  | exact r10.2.imp (key 6 1 (by omega) (by omega)) (key 6 5 (by omega) (by omega))
  | exact r12.1.imp (key 2 4 (by omega) (by omega)) (key 2 5 (by omega) (by omega))
  | exact r12.2.imp (key 3 4 (by omega) (by omega)) (key 3 5 (by omega) (by omega))
  | exact r20.1.imp (key 4 1 (by omega) (by omega)) (key 4 3 (by omega) (by omega))
  | exact r20.2.imp (key 6 1 (by omega) (by omega)) (key 6 3 (by omega) (by omega))
  | exact r21.1.imp (key 4 2 (by omega) (by omega)) (key 4 3 (by omega) (by omega))
  | exact r21.2.imp (key 5 2 (by omega) (by omega)) (key 5 3 (by omega) (by omega))
end
theorem nucR_pt {p : Int} {V : List Int} (hp1 : p ≠ 1) (hok : (nucR p V).ok = true) : (nucR p V).pt.length = p.toNat ∧ ∀ y ∈ (nucR p V).pt, valR y = true := by
 cases hg : gameOk p V with
 | false => unfold nucR at hok; rw [if_neg (by rw [hg]; simp)] at hok; cases hok
 | true =>
   have e : nucR p V = nucF p V ((frN V []).length + 1) [] 0 := by unfold nucR; rw [if_pos hg, if_neg hp1]
   rw [e] at hok ⊢
   exact nuc_ptv hok
theorem tal_nuc {x : Int} {C : List Int} (h : validPair 0 x C = true) (hn : C.length ≤ 3) (hok : (nucR (C.length : Int) (bankL x C)).ok = true) : talL x C = (nucR (C.length : Int) (bankL x C)).pt := by
 have hv := valid_claims h
 obtain ⟨F, S, T, hF⟩ := tal_fr h hn
 have hf := hF.f1
 have hfv : ∀ k, k < C.length → valR ((talL x C)[k]?.getD (0, 0)) = true := fun k hk => (hF.fr k hk).1
 by_cases h1 : C.length = 1
 ·have e : (nucR (C.length : Int) (bankL x C)).pt = [(grandV (C.length : Int) (bankL x C), 1)] := by
   unfold nucR
   rw [if_pos (bank_game h), if_pos (by omega)]
  rw [e]
  have hg0 := ex_grand h hF
  have hlen := hF.len
  rw [h1] at hlen
  obtain ⟨y, hy⟩ : ∃ y, talL x C = [y] := List.length_eq_one_iff.1 hlen
  rw [hy] at hg0 ⊢
  have hfy := hfv 0 (by omega)
  rw [hy] at hfy
  have hfy : valR y = true := hfy
  have hbb : gameOk (C.length : Int) (bankL x C) = true := bank_game h
  obtain ⟨_, _, _, _, _, _, hb⟩ := gameOk_len hbb
  have hl2 : (bankL x C).length = 2 := by rw [bank_len h, h1]; decide
  have hgv : grandV (C.length : Int) (bankL x C) = (bankL x C)[1]?.getD 0 := by rw [grandV_ok hbb, hl2]
  rw [hgv]
  have hbv := hb _ (List.getElem_mem (show 1 < (bankL x C).length by omega))
  have hbv : -500 ≤ (bankL x C)[1]?.getD 0 ∧ (bankL x C)[1]?.getD 0 ≤ 500 := by rw [List.getElem?_eq_getElem (by omega), Option.getD_some]; exact hbv
  congr 1
  refine val_inj hfy (Fr.int _ (by omega) (by omega)).1 ?_
  rw [val_whole]
  rw [h1, hl2] at hg0
  unfold exZ zs at hg0
  simp only [sumN] at hg0
  have e1 : (((2 : Nat) : Int) - 1) = 1 := rfl
  rw [e1] at hg0
  have hb1 : hasP 1 ((0 : Nat) : Int) = true := by decide
  rw [hb1] at hg0
  have e2 : ((bitI true : Int) : Rat) = 1 := rfl
  rw [e2] at hg0
  have e3 : ([y][0]?.getD (0, 0)) = y := rfl
  rw [e3] at hg0
  have e4 : (1 : Int).toNat = 1 := rfl
  rw [e4] at hg0
  grind
 ·have hsep : Sep C.length (bankL x C) (fun k => val ((talL x C)[k]?.getD (0, 0))) := by
   have : C.length = 2 ∨ C.length = 3 := by omega
   rcases this with h2 | h3
   ·exact sep_two h hF h2
   ·exact sep_three h hF h3
  have hp1 : (C.length : Int) ≠ 1 := by omega
  obtain ⟨p1, p2⟩ := nucR_pt hp1 hok
  rw [Int.toNat_natCast] at p1
  have hval := sep_nuc (p := (C.length : Int)) (V := bankL x C) (z := fun k => val ((talL x C)[k]?.getD (0, 0))) hp1 hok (by rw [Int.toNat_natCast]; exact ex_grand h hF) (by rw [Int.toNat_natCast]; exact hsep)
  rw [Int.toNat_natCast] at hval
  refine List.ext_getElem (by rw [hF.len, p1]) fun k hk1 hk2 => ?_
  rw [hF.len] at hk1
  have h4 := hval k hk1
  have h5 := hfv k hk1
  have h6 := p2 _ (List.getElem_mem hk2)
  rw [List.getElem?_eq_getElem hk2, Option.getD_some, List.getElem?_eq_getElem (by rw [hF.len]; exact hk1), Option.getD_some] at h4
  rw [List.getElem?_eq_getElem (by rw [hF.len]; exact hk1), Option.getD_some] at h5
  exact val_inj h5 h6 h4.symm
end Go.Proofs.YthjjfkeacobikaaGreat
