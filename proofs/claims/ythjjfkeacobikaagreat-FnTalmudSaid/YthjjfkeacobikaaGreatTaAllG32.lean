import Derived.Test.YthjjfkeacobikaaGreatTaAllG31
import Derived.Test.YthjjfkeacobikaaGreatTaAllG27
set_option linter.unusedVariables false
set_option linter.unusedSimpArgs false
namespace Go.Proofs.YthjjfkeacobikaaGreat
theorem nuc_pt {p : Int} {V : List Int} : ∀ {f k : Nat} {L : List (Int × Int × Int)}, (nucF p V f L k).ok = true → ∃ L', stOk p V L' = true ∧ (nucLp p.toNat V L').status = 1 ∧ (nucF p V f L k).pt = ptN p.toNat (nucLp p.toNat V L')
 | 0, k, L, h => by cases h
 | f + 1, k, L, h => by
   by_cases hok : stOk p V L = true ∧ (nucLp p.toNat V L).status = 1
   ·by_cases hdn : doneN p V (nextN V L (nucLp p.toNat V L)) = true
    ·exact ⟨L, hok.1, hok.2, by rw [nucF, if_pos hok, if_pos hdn]⟩
    ·have e : nucF p V (f + 1) L k = nucF p V f (nextN V L (nucLp p.toNat V L)) (k + 1) := by rw [nucF, if_pos hok, if_neg hdn]
     rw [e] at h ⊢
     exact nuc_pt h
   ·rw [nucF, if_neg hok] at h
    cases h
theorem nuc_ptv {p : Int} {V : List Int} {f k : Nat} {L : List (Int × Int × Int)} (h : (nucF p V f L k).ok = true) : (nucF p V f L k).pt.length = p.toNat ∧ ∀ x ∈ (nucF p V f L k).pt, valR x = true := by
 obtain ⟨L', h1, h2, h3⟩ := nuc_pt h
 obtain ⟨_, s2, _, s4⟩ := nuc_sizes h1 h2
 rw [h3]
 unfold ptN
 refine ⟨by simp [s2], fun x hx => ?_⟩
 obtain ⟨y, hy, rfl⟩ := List.mem_map.1 hx
 rw [valR_negR]
 obtain ⟨i, hi, rfl⟩ := List.mem_iff_getElem.1 (List.mem_of_mem_take hy)
 have := s4 i hi
 rw [List.getElem?_eq_getElem hi, Option.getD_some] at this
 exact this
end Go.Proofs.YthjjfkeacobikaaGreat
