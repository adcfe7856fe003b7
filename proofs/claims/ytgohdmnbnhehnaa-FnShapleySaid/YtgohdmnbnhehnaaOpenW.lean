/- A slice of integers that is read as data holds integers of 64 bits. -/
import Derived.Test.YtgohdmnbnhehnaaOpen
namespace Go.Proofs.Ytgohdmnbnhehnaa
set_option linter.unusedVariables false
open Go.ChangeShapes Go.WideShapes Go.ChangeAt Go.RowKit Go.Joins Go.Deep

section
variable {H : Type} {enc : TypeId × Value → H} {P : Program} {w : World} {base : Nat} {spare : Nat → Bool} {held : Bool}
theorem wf_i64 {n : Int} (h : (Lit.int .i64 n).wf = true) : -9223372036854775808 ≤ n ∧ n ≤ 9223372036854775807 := by
  simp only [Lit.wf, Bool.and_eq_true, decide_eq_true_eq] at h
  have h1 : IntKind.i64.min = -9223372036854775808 := by decide
  have h2 : IntKind.i64.max = 9223372036854775807 := by decide
  omega
theorem open_IntsW {t e : TypeId} {fuel : Nat} {v : Value} {x : DataW H × List MemPlace} (ht : P.underlying t = some (.slice e)) (he : P.underlying e = some (.int .i64)) (hc : P.cellsOf e = 1)
    (h : DataW.trod enc P w base spare held fuel t [v] = some x) : ∃ a n cap l, v = .slice a n cap ∧ Ints w a n cap l ∧ ∀ k : Nat, l[k]?.getD 0 ≤ 9223372036854775807 := by
  obtain ⟨a, n, cap, l, hv, hl, h1, h2, h3⟩ := open_list (E := fun u z => u = .int .i64 z ∧ z ≤ 9223372036854775807) ht hc (fun n u y hy => by
    obtain ⟨z, hz, _, wf⟩ := DataW.trod_int he hy
    exact ⟨z, by simpa using hz, (wf_i64 wf).2⟩) h
  refine ⟨a, n, cap, l, hv, ⟨hl, h1, h2, fun k hk => ?_⟩, fun k => ?_⟩
  · obtain ⟨b, off, ha, hc⟩ := h3 k hk
    refine ⟨b, off, ha, fun k hk => ?_⟩
    obtain ⟨u, h4, h5, _⟩ := hc k hk
    rw [h4, h5]
    rfl
  · by_cases hk : k < n
    · obtain ⟨b, off, ha, hc⟩ := h3 k hk
      obtain ⟨u, _, _, h6⟩ := hc k hk
      exact h6
    · rw [List.getElem?_eq_none (by omega)]; simp
theorem wf_u8 {n : Int} (h : (Lit.int .u8 n).wf = true) : 0 ≤ n ∧ n ≤ 255 := by
  simp only [Lit.wf, Bool.and_eq_true, decide_eq_true_eq] at h
  have h1 : IntKind.u8.min = 0 := by decide
  have h2 : IntKind.u8.max = 255 := by decide
  omega
end
end Go.Proofs.Ytgohdmnbnhehnaa
