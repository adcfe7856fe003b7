/- How the laws' arguments, read as data, are the slices of fractions of our words. -/
import Derived.Test.YtokpmflhgehicaaOpen
import Derived.Test.YtokpmflhgehicaaRat
import Derived.Deep.SlicePairs
namespace Go.Proofs.Ytokpmflhgehicaa
set_option linter.unusedVariables false
open Go.ChangeShapes Go.WideShapes Go.ChangeAt Go.RowKit Go.Joins Go.Deep

section
variable {H : Type} {enc : TypeId × Value → H} {P : Program} {w : World} {base : Nat} {spare : Nat → Bool} {held : Bool}

theorem open_Rats {t e : TypeId} {f0 f1 : Field} {fuel : Nat} {v : Value} {x : DataW H × List MemPlace} (ht : P.underlying t = some (.slice e)) (he : P.underlying e = some (.struct #[f0, f1]))
    (ce : P.cellsOf e = 2) (o0 : f0.offset = 0) (o1 : f1.offset = 1) (c0 : P.cellsOf f0.type = 1) (c1 : P.cellsOf f1.type = 1) (h0 : P.underlying f0.type = some (.int .i64)) (h1 : P.underlying f1.type = some (.int .i64))
    (h : DataW.trod enc P w base spare held fuel t [v] = some x) : ∃ a n cap l, v = .slice a n cap ∧ Rats w a n cap l := by
  rcases open_slice_pairs ht he ce o0 o1 c0 c1 h with ⟨hcs, _⟩ | ⟨a, len, cap, m, n, V0, V1, D0, D1, P0, P1, hcs, _, hl, hm, hmm, _, hx⟩
  · simp at hcs
    exact ⟨none, 0, 0, [], hcs, rfl, Nat.le_refl _, by omega, fun k hk => absurd hk (by omega)⟩
  · simp at hcs
    have hlen : len ≤ m := by rw [hmm]; split <;> omega
    obtain ⟨f, hf⟩ := choose_lt (α := Int × Int) (n := len) (p := fun i z => V0 i = .int .i64 z.1 ∧ V1 i = .int .i64 z.2) (fun i hi => by
      obtain ⟨_, _, t0, t1⟩ := hx i (by omega)
      obtain ⟨x0, e0, _⟩ := DataW.trod_int h0 t0
      obtain ⟨x1, e1, _⟩ := DataW.trod_int h1 t1
      exact ⟨(x0, x1), by simpa using e0, by simpa using e1⟩)
    refine ⟨some a, len, cap, (List.range len).map f, hcs, by simp, hl, by simpa [maxLen] using hm, fun k hk => ?_⟩
    obtain ⟨b, off, spot⟩ := a
    have hz := (hx 0 (by omega)).1
    have hspot : spot = none := by simpa [Addr.add] using World.cell?_spot hz
    subst hspot
    refine ⟨b, off, rfl, fun k hk => ?_⟩
    obtain ⟨q0, q1, _, _⟩ := hx k (by omega)
    have ha : ∀ j, (⟨b, off, none⟩ : Addr).add j = ⟨b, off + j, none⟩ := fun j => by unfold Addr.add; split <;> simp_all
    rw [ha] at q0 q1
    have hk' : ((List.range len).map f)[k]?.getD (0, 0) = f k := by simp [hk]
    rw [hk']
    exact ⟨q0.trans (congrArg some (hf k hk).1), q1.trans (congrArg some (hf k hk).2)⟩

/-- A struct of a struct of two one-cell fields and of a one-cell field. -/
theorem open_nest {r : Reach} {b0 : Nat} {t : TypeId} {fg fp f0 f1 : Field} {v : Value} {d : DataW H} {p : List MemPlace} (hs : P.underlying t = some (.struct #[fg, fp])) (hg : P.underlying fg.type = some (.struct #[f0, f1])) (hC : P.cellsOf t = 3)
    (og : fg.offset = 0) (kg : P.cellsOf fg.type = 2) (op : fp.offset = 2) (kp : P.cellsOf fp.type = 1) (hone : oneCellFields P #[f0, f1] = true)
    (hv : Value.okWide P w r b0 t v) (h : DataW.Trod enc P w base spare held t v d p) :
    ∃ (v0 v1 v2 : Value) (y0 y1 y2 : DataW H × List MemPlace) (n m : Nat), v = .agg #[v0, v1, v2] ∧
      DataW.trod enc P w base spare held n f0.type [v0] = some y0 ∧ DataW.trod enc P w base spare held n f1.type [v1] = some y1 ∧ DataW.trod enc P w base spare held m fp.type [v2] = some y2 := by
  obtain ⟨cs, rfl, hsz⟩ := okWide_struct hs hv
  obtain ⟨c0, c1, c2, rfl⟩ := array3 (hsz.trans hC)
  obtain ⟨fuel, hf⟩ := h
  obtain ⟨yg, y2, n, hx, _, h0, h2⟩ := trod_struct2 hs hf
  rw [og, kg] at h0
  rw [op, kp] at h2
  obtain ⟨y0, y1, m, hy, _, t0, t1⟩ := trod_struct2 hg h0
  obtain ⟨o0, k0⟩ := hone_of hone 0 f0 rfl
  obtain ⟨o1, k1⟩ := hone_of hone 1 f1 rfl
  exact ⟨c0, c1, c2, y0, y1, y2, m, n, rfl, by simpa [Value.cells, o0, k0] using t0, by simpa [Value.cells, o1, k1] using t1, by simpa [Value.cells] using h2⟩
end
end Go.Proofs.Ytokpmflhgehicaa
