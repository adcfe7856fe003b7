/- How the laws' arguments, read as data, are the slices of levels of our words. -/
import Derived.Test.YtokpmflhgehicaaOpenR
import Derived.Test.YtokpmflhgehicaaFixed
namespace Go.Proofs.Ytokpmflhgehicaa
set_option linter.unusedVariables false
open Go.ChangeShapes Go.WideShapes Go.ChangeAt Go.RowKit Go.Joins Go.Deep

section
variable {H : Type} {enc : TypeId × Value → H} {P : Program} {w : World} {base : Nat} {spare : Nat → Bool} {held : Bool}

theorem open_Fixs {t e : TypeId} {fc fx f0 f1 : Field} {fuel : Nat} {v : Value} {x : DataW H × List MemPlace} (ht : P.underlying t = some (.slice e)) (he : P.underlying e = some (.struct #[fc, fx])) (hxx : P.underlying fx.type = some (.struct #[f0, f1]))
    (ce : P.cellsOf e = 3) (oc : fc.offset = 0) (ox : fx.offset = 1) (kc : P.cellsOf fc.type = 1) (kx : P.cellsOf fx.type = 2) (o0 : f0.offset = 0) (o1 : f1.offset = 1) (c0 : P.cellsOf f0.type = 1) (c1 : P.cellsOf f1.type = 1)
    (hc : P.underlying fc.type = some (.int .i64)) (h0 : P.underlying f0.type = some (.int .i64)) (h1 : P.underlying f1.type = some (.int .i64))
    (h : DataW.trod enc P w base spare held fuel t [v] = some x) : ∃ a n cap l, v = .slice a n cap ∧ Fixs w a n cap l := by
  rcases open_slice ht h with ⟨hcs, _⟩ | ⟨a, len, cap, m, n, D, Pl, hcs, _, hl, hm, hmm, _, hx⟩
  · simp at hcs
    exact ⟨none, 0, 0, [], hcs, rfl, Nat.le_refl _, by omega, fun k hk => absurd hk (by omega)⟩
  · simp at hcs
    have hlen : len ≤ m := by rw [hmm]; split <;> omega
    obtain ⟨f, hf⟩ := choose_lt (α := Int × Int × Int) (n := len) (p := fun i z => w.cell? (a.add (i * 3)) = some (.int .i64 z.1) ∧ w.cell? (a.add (i * 3 + 1)) = some (.int .i64 z.2.1) ∧ w.cell? (a.add (i * 3 + 2)) = some (.int .i64 z.2.2)) (fun i hi => by
      obtain ⟨cs', g1, g2⟩ := hx i (by omega)
      rw [ce] at g1
      obtain ⟨_, hl3, hcell⟩ := World.cells?_some g1
      match cs', hl3 with
      | [v0, v1, v2], _ =>
        obtain ⟨yc, yx, k, _, _, tc, tx⟩ := trod_struct2 he g2
        rw [oc, kc] at tc
        rw [ox, kx] at tx
        obtain ⟨y0, y1, k', _, _, t0, t1⟩ := trod_struct2 hxx tx
        rw [o0, c0] at t0
        rw [o1, c1] at t1
        simp at tc t0 t1
        obtain ⟨z0, e0, _⟩ := DataW.trod_int hc tc
        obtain ⟨z1, e1, _⟩ := DataW.trod_int h0 t0
        obtain ⟨z2, e2, _⟩ := DataW.trod_int h1 t1
        obtain rfl : v0 = .int .i64 z0 := by simpa using e0
        obtain rfl : v1 = .int .i64 z1 := by simpa using e1
        obtain rfl : v2 = .int .i64 z2 := by simpa using e2
        have q0 := hcell 0 (by omega)
        have q1 := hcell 1 (by omega)
        have q2 := hcell 2 (by omega)
        rw [add_add] at q0 q1 q2
        exact ⟨(z0, z1, z2), by simpa using q0, by simpa using q1, by simpa using q2⟩)
    refine ⟨some a, len, cap, (List.range len).map f, hcs, by simp, hl, by simpa [maxLen] using hm, fun k hk => ?_⟩
    obtain ⟨b, off, spot⟩ := a
    have hz := (hf 0 (by omega)).1
    have hspot : spot = none := by simpa [Addr.add] using World.cell?_spot hz
    subst hspot
    refine ⟨b, off, rfl, fun k hk => ?_⟩
    obtain ⟨q0, q1, q2⟩ := hf k (by omega)
    have ha : ∀ j, (⟨b, off, none⟩ : Addr).add j = ⟨b, off + j, none⟩ := fun j => by unfold Addr.add; split <;> simp_all
    rw [ha] at q0 q1 q2
    have hk' : ((List.range len).map f)[k]?.getD (0, 0, 0) = f k := by simp [hk]
    rw [hk']
    exact ⟨q0, q1, q2⟩
end
end Go.Proofs.Ytokpmflhgehicaa
