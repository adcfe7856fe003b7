/- A slice of bytes that is read as data. -/
import Derived.Test.YtgohdmnbnhehnaaOpenW
import Derived.Test.YtgohdmnbnhehnaaDraw
namespace Go.Proofs.Ytgohdmnbnhehnaa
set_option linter.unusedVariables false
open Go.ChangeShapes Go.WideShapes Go.ChangeAt Go.RowKit Go.Joins Go.Deep

section
variable {H : Type} {enc : TypeId × Value → H} {P : Program} {w : World} {base : Nat} {spare : Nat → Bool} {held : Bool}
theorem open_Bytes {t e : TypeId} {fuel : Nat} {v : Value} {x : DataW H × List MemPlace} (ht : P.underlying t = some (.slice e)) (he : P.underlying e = some (.int .u8)) (hc : P.cellsOf e = 1)
    (h : DataW.trod enc P w base spare held fuel t [v] = some x) : ∃ a n cap, v = .slice a n cap ∧ Bytes w a n cap := by
  obtain ⟨a, n, cap, l, hv, hl, h1, h2, h3⟩ := open_list (E := fun u z => u = .int .u8 z ∧ 0 ≤ z ∧ z ≤ 255) ht hc (fun n u y hy => by
    obtain ⟨z, hz, _, wf⟩ := DataW.trod_int he hy
    exact ⟨z, by simpa using hz, wf_u8 wf⟩) h
  refine ⟨a, n, cap, hv, ⟨h1, h2, fun k hk => ?_⟩⟩
  obtain ⟨b, off, ha, hc⟩ := h3 k hk
  refine ⟨b, off, ha, fun k hk => ?_⟩
  obtain ⟨u, h4, h5, h6⟩ := hc k hk
  exact ⟨_, by rw [h4, h5], h6⟩
end
end Go.Proofs.Ytgohdmnbnhehnaa
