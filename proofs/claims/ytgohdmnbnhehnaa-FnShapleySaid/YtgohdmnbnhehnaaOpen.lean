/- How the laws' arguments, read as data, are the slices of integers of our words. -/
import Derived.Test.YtgohdmnbnhehnaaMat
import Derived.Deep.Slices
import Derived.ProofKit
import Derived.OpenShut
import Derived.ShutString
import Derived.ChangeOld
import Derived.Lib.SmallJoins
namespace Go.Proofs.Ytgohdmnbnhehnaa
set_option linter.unusedVariables false
open Go.ChangeShapes Go.WideShapes Go.ChangeAt Go.RowKit Go.Joins Go.Deep

section
variable {H : Type} {enc : TypeId × Value → H} {P : Program} {w : World} {base : Nat} {spare : Nat → Bool} {held : Bool}

theorem open_Ints {t e : TypeId} {fuel : Nat} {v : Value} {x : DataW H × List MemPlace} (ht : P.underlying t = some (.slice e)) (he : P.underlying e = some (.int .i64)) (hc : P.cellsOf e = 1)
    (h : DataW.trod enc P w base spare held fuel t [v] = some x) : ∃ a n cap l, v = .slice a n cap ∧ Ints w a n cap l := by
  rcases open_ints ht he hc h with ⟨hcs, _⟩ | ⟨a, len, cap, zs, hcs, _, hl, hm, hz, _, hcell, _⟩
  · simp at hcs
    exact ⟨none, 0, 0, [], hcs, rfl, Nat.le_refl _, by omega, fun k hk => absurd hk (by omega)⟩
  · simp at hcs
    have hlen : len ≤ zs.length := by rw [hz]; split <;> omega
    refine ⟨some a, len, cap, zs.take len, hcs, by rw [List.length_take]; omega, hl, by simpa [maxLen] using hm, fun k hk => ?_⟩
    obtain ⟨b, off, spot⟩ := a
    have h0 := hcell 0 (by omega)
    have hspot : spot = none := by simpa [Addr.add] using World.cell?_spot h0
    subst hspot
    refine ⟨b, off, rfl, fun k hk => ?_⟩
    have h1 := hcell k (by omega)
    have ha : (⟨b, off, none⟩ : Addr).add k = ⟨b, off + k, none⟩ := by unfold Addr.add; split <;> simp_all
    rw [ha] at h1
    rw [h1]
    simp [hk]

/-- A slice whose elements are one cell each, element by element. -/
theorem open_list {α : Type} [Inhabited α] {E : Value → α → Prop} {t e : TypeId} {fuel : Nat} {v : Value} {x : DataW H × List MemPlace} (ht : P.underlying t = some (.slice e)) (hc : P.cellsOf e = 1)
    (hE : ∀ n u y, DataW.trod enc P w base spare held n e [u] = some y → ∃ z, E u z)
    (h : DataW.trod enc P w base spare held fuel t [v] = some x) :
    ∃ (a : Option Addr) (n cap : Nat) (l : List α), v = .slice a n cap ∧ l.length = n ∧ n ≤ cap ∧ cap ≤ 9223372036854775807 ∧ ∀ k, k < n → ∃ b off, a = some ⟨b, off, none⟩ ∧ ∀ k, k < n → ∃ u, w.cell? ⟨b, off + k, none⟩ = some u ∧ E u (l[k]?.getD default) := by
  rcases open_slice1 ht hc h with ⟨hcs, _⟩ | ⟨a, len, cap, m, n, V, D, Pl, hcs, _, hl, hm, hmm, _, hx⟩
  · simp at hcs
    exact ⟨none, 0, 0, [], hcs, rfl, Nat.le_refl _, by omega, fun k hk => absurd hk (by omega)⟩
  · simp at hcs
    have hlen : len ≤ m := by rw [hmm]; split <;> omega
    obtain ⟨f, hf⟩ := choose_lt (α := α) (n := len) (p := fun i z => E (V i) z) (fun i hi => hE n (V i) _ (hx i (by omega)).2)
    refine ⟨some a, len, cap, (List.range len).map f, hcs, by simp, hl, by simpa [maxLen] using hm, fun k hk => ?_⟩
    obtain ⟨b, off, spot⟩ := a
    have h0 := (hx 0 (by omega)).1
    have hspot : spot = none := by simpa [Addr.add] using World.cell?_spot h0
    subst hspot
    refine ⟨b, off, rfl, fun k hk => ⟨V k, ?_, ?_⟩⟩
    · have h1 := (hx k (by omega)).1
      have ha : (⟨b, off, none⟩ : Addr).add k = ⟨b, off + k, none⟩ := by unfold Addr.add; split <;> simp_all
      rwa [ha] at h1
    · have : ((List.range len).map f)[k]?.getD default = f k := by simp [hk]
      rw [this]
      exact hf k hk

theorem open_IntSS {t e q : TypeId} {fuel : Nat} {v : Value} {x : DataW H × List MemPlace} (ht : P.underlying t = some (.slice e)) (he : P.underlying e = some (.slice q)) (hq : P.underlying q = some (.int .i64)) (hce : P.cellsOf e = 1) (hcq : P.cellsOf q = 1)
    (h : DataW.trod enc P w base spare held fuel t [v] = some x) : ∃ a n cap L, v = .slice a n cap ∧ IntSS w a n cap L := by
  obtain ⟨a, n, cap, L, hv, h1, h2, h3, h4⟩ := open_list (E := fun u l => ∃ a n c, u = .slice a n c ∧ Ints w a n c l) ht hce (fun n u y hy => by
    obtain ⟨a, n, cap, l, hu, hi⟩ := open_Ints he hq hcq hy
    exact ⟨l, a, n, cap, hu, hi⟩) h
  exact ⟨a, n, cap, L, hv, h1, h2, h3, fun k hk => let ⟨b, off, e, hc⟩ := h4 k hk; ⟨b, off, e, fun k hk => let ⟨u, hu, a', n', c', e', hi⟩ := hc k hk; ⟨a', n', c', e' ▸ hu, hi⟩⟩⟩
end
end Go.Proofs.Ytgohdmnbnhehnaa
