/- FnExactEqualLosses: whatever the arguments, the law answers true and its arguments read as before. No condition. -/
import Derived.Test.YtokpmflhgehicaaRows
import Derived.Test.YtokpmflhgehicaaOpen
import Derived.Test.YtokpmflhgehicaaLawLosses
namespace Go.Proofs.Ytokpmflhgehicaa.fnExactEqualLosses
open Go.Proofs.Ytokpmflhgehicaa
open Go.ChangeShapes Go.WideShapes Go.ChangeAt Go.RowKit Go.Joins
open Go.ChangeMaps (open_string shut_string)
set_option linter.unusedVariables false

theorem own : ownKnob Try.prog.godebug = none := by kernel_rfl
theorem laidOut : laidOutB Try.prog = true := by kernel_rfl

set_option maxRecDepth 100000 in
theorem lifted (os : Os) (started : os.Started) (H : Type) (enc : TypeId × Value → H) :
    ReturnsInHanded {} Try.checked os 9 .any (Rows.fnExactEqualLossesSpec.pre6 enc Try.prog Try.f9 Rows.fnExactEqualLossesRow.domain false) (Rows.fnExactEqualLossesSpec.post enc Try.prog Try.f9 false true false false) := by
  refine returnsInHanded_of_change (C := Try.checked) own started (by kernel_rfl) Try.func9
    (ChangeSpec.witness6 (enc := enc) (C := Try.checked) false ⟨#[], #[.slice none 0 0, .agg #[.int .i64 0, .int .i64 0]], []⟩ 8 (by kernel_rfl) (by kernel_rfl) (by kernel_rfl) (by kernel_rfl)) ?_
  intro W base args ds gs before hval0 hW hcnd _
  have hval : ∀ (j : Nat) t v, Try.f9.params[j]? = some t → args[j]? = some v → Value.okWide Try.prog W .any base t v := hval0
  have hW' := hW
  obtain ⟨p, q, hA0, hV, rfl, hfz, hnd⟩ := hW
  have hA : DataW.TrodAll enc Try.prog W 0 (fun _ => true) true Try.f9.params.toList args.toList ds p := hA0
  rw [Try.params9] at hA hval
  obtain ⟨v0, vs0, d0, ds0, p0, q0, hargs, rfl, rfl, h0, r0⟩ := trodAll_cons hA
  obtain ⟨v1, vs1, d1, ds1, p1, q1, rfl, rfl, rfl, h1, r1⟩ := trodAll_cons r0
  obtain ⟨rfl, rfl, rfl⟩ := trodAll_nil r1
  obtain rfl : args = #[v0, v1] := by cases args; simp_all
  obtain ⟨rfl, rfl⟩ := trodVars_none hV
  have k0 := h0
  have lt0 : ∀ x ∈ p0, x.block < W.heap.size := by obtain ⟨m, hm⟩ := k0; exact DataW.trod_lt m _ _ _ hm
  obtain ⟨a0, n0, c0, rfl⟩ := okWide_slice Try.underlying34 (hval 0 34 v0 rfl rfl)
  obtain ⟨a0', n0', c0', l0, e0, I0⟩ : ∃ a n c l, Value.slice a0 n0 c0 = .slice a n c ∧ Ints W a n c l := by obtain ⟨fuel, hf⟩ := h0; exact open_Ints Try.underlying34 Try.underlying3 (by kernel_rfl) (by simpa [Value.cells] using hf)
  obtain ⟨rfl, rfl, rfl⟩ : a0 = a0' ∧ n0 = n0' ∧ c0 = c0' := by simpa using e0
  have k1 := h1
  have lt1 : ∀ x ∈ p1, x.block < W.heap.size := by obtain ⟨m, hm⟩ := k1; exact DataW.trod_lt m _ _ _ hm
  obtain ⟨u1, s1, y1, z1, m1, rfl, _, _, hy1, hz1⟩ := open_agg2 Try.underlying73 (by kernel_rfl) (by kernel_rfl) (hval 1 73 v1 rfl rfl) h1
  obtain ⟨x1, e1, _, wf1⟩ := DataW.trod_int Try.underlying3 hy1
  obtain ⟨x1', e1', _, wf1'⟩ := DataW.trod_int Try.underlying3 hz1
  obtain rfl : u1 = .int .i64 x1 := by simpa using e1
  obtain rfl : s1 = .int .i64 x1' := by simpa using e1'
  clear hA0 hval0
  refine (l_FnExactEqualLosses (x := x1) (y := x1') I0).mono fun e W' ⟨he, bel⟩ => ?_
  subst he
  exact ⟨_, rfl, _, _, _, [], _, [], hW', trodAll_mk1 (shut_bool Try.underlying4 _), (trodAll_cons_mk (Below.trod laidOut (by kernel_rfl) (of_decide_eq_true (by kernel_rfl)) k0 bel lt0) (trodAll_cons_mk (Below.trod laidOut (by kernel_rfl) (of_decide_eq_true (by kernel_rfl)) k1 bel lt1) trodAll_mk0)), rfl, bel.frame _, fun h => by cases h⟩

theorem over : Rows.fnExactEqualLossesRow.holds Try.pinned (OpenSpec.ofChange Rows.fnExactEqualLossesSpec) :=
  OpenClaim.holds_of_wide 9 Try.f9 rfl rfl rfl rfl rfl rfl rfl ⟨rfl, rfl, rfl, rfl, rfl⟩ rfl rfl rfl rfl rfl (by kernel_rfl) Try.func9 (by kernel_rfl)
    (of_decide_eq_true (by kernel_rfl)) (by unfold Func.isWrapper; first | (rw [if_pos (by decide +kernel)]; kernel_rfl) | (rw [if_neg (by decide +kernel)]; exact ⟨rfl, rfl⟩))
    (fun os started H enc _ => lifted os started H enc)

theorem proved : Rows.FnExactEqualLossesSaid := over
#print axioms proved
end Go.Proofs.Ytokpmflhgehicaa.fnExactEqualLosses
