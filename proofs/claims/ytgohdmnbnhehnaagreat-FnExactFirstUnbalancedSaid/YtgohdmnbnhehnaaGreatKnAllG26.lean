import Derived.Test.YtgohdmnbnhehnaaGreatKnAllG11
namespace Go.Proofs.YtgohdmnbnhehnaaGreat
set_option linter.unusedVariables false
open Go.RowKit
theorem levP_mem {l : List (Int × Int)} {e : Int × Int} : ∀ {m : Nat}, ∀ x ∈ levP l e m, 1 ≤ x ∧ x ≤ (m : Int)
 | 0, x, h => by simp [levP] at h
 | m + 1, x, h => by
   by_cases hc : cmpR (l[m]?.getD (0, 0)) e < 0
   ·rw [levP_skip hc] at h
    have := levP_mem x h; omega
   ·rw [levP_take hc] at h
    rcases List.mem_append.1 h with h | h
    ·have := levP_mem x h; omega
    ·rw [List.mem_singleton] at h; subst h; omega
theorem allX_small {p : Int} {V : List Int} {X : List (Int × Int)} {l : List (Int × Int)} (h : allX p V X = some l) : l.length ≤ 32 := by
 have h3 := allX_len h
 obtain ⟨q, _, h4, h5, hlen, _, _⟩ := gameOk_len (payP_game h3.1)
 have := cN_le q h5
 omega
theorem levS_bd (p : Int) (V : List Int) (X : List (Int × Int)) : (levS p V X).length ≤ 32 ∧ ∀ r ∈ levS p V X, r.length ≤ 32 ∧ ∀ k : Nat, r[k]?.getD 0 ≤ 9223372036854775807 := by
 cases h : allX p V X with
 | none => rw [levS_none h]; simp
 | some l =>
   have hl := allX_small h
   rw [levS_some h]
   refine ⟨by have := levT_len l l.length; unfold levL; omega, fun r hr => ?_⟩
   unfold levL levT at hr
   obtain ⟨e, _, rfl⟩ := List.mem_map.1 hr
   refine ⟨by have := levP_len l e l.length; omega, fun k => ?_⟩
   by_cases hk : k < (levP l e l.length).length
   ·rw [List.getElem?_eq_getElem hk, Option.getD_some]
    have := levP_mem _ (List.getElem_mem hk); omega
   ·rw [List.getElem?_eq_none (by omega)]; simp
end Go.Proofs.YtgohdmnbnhehnaaGreat
