/- FnExactEqualNucleolus: whatever the arguments, the law answers true and its arguments read as before. No condition. -/
import Derived.Test.YtokpmflhgehicaaRows
import Derived.Test.YtokpmflhgehicaaOpenX
import Derived.Test.YtokpmflhgehicaaLawNuc
namespace Go.Proofs.Ytokpmflhgehicaa.fnExactEqualNucleolus
open Go.Proofs.Ytokpmflhgehicaa
open Go.ChangeShapes Go.WideShapes Go.ChangeAt Go.RowKit Go.Joins
open Go.ChangeMaps (open_string shut_string)
set_option linter.unusedVariables false

theorem own : ownKnob Try.prog.godebug = none := by kernel_rfl
theorem laidOut : laidOutB Try.prog = true := by kernel_rfl

set_option maxRecDepth 100000 in
theorem lifted (os : Os) (started : os.Started) (H : Type) (enc : TypeId × Value → H) :
    ReturnsInHanded {} Try.checked os 3 .any (Rows.fnExactEqualNucleolusSpec.pre6 enc Try.prog Try.f3 Rows.fnExactEqualNucleolusRow.domain false) (Rows.fnExactEqualNucleolusSpec.post enc Try.prog Try.f3 false true false false) := by
  refine returnsInHanded_of_change (C := Try.checked) own started (by kernel_rfl) Try.func3
    (ChangeSpec.witness6 (enc := enc) (C := Try.checked) false ⟨#[], #[.agg #[.bool false, .slice none 0 0, .slice none 0 0, .int .i64 0], .agg #[.bool false, .slice none 0 0, .slice none 0 0, .int .i64 0]], []⟩ 8 (by kernel_rfl) (by kernel_rfl) (by kernel_rfl) (by kernel_rfl)) ?_
  intro W base args ds gs before hval0 hW hcnd _
  have hval : ∀ (j : Nat) t v, Try.f3.params[j]? = some t → args[j]? = some v → Value.okWide Try.prog W .any base t v := hval0
  have hW' := hW
  obtain ⟨p, q, hA0, hV, rfl, hfz, hnd⟩ := hW
  have hA : DataW.TrodAll enc Try.prog W 0 (fun _ => true) true Try.f3.params.toList args.toList ds p := hA0
  rw [Try.params3] at hA hval
  obtain ⟨v0, vs0, d0, ds0, p0, q0, hargs, rfl, rfl, h0, r0⟩ := trodAll_cons hA
  obtain ⟨v1, vs1, d1, ds1, p1, q1, rfl, rfl, rfl, h1, r1⟩ := trodAll_cons r0
  obtain ⟨rfl, rfl, rfl⟩ := trodAll_nil r1
  obtain rfl : args = #[v0, v1] := by cases args; simp_all
  obtain ⟨rfl, rfl⟩ := trodVars_none hV
  have k0 := h0
  have lt0 : ∀ x ∈ p0, x.block < W.heap.size := by obtain ⟨m, hm⟩ := k0; exact DataW.trod_lt m _ _ _ hm
  obtain ⟨u0, s0, g0, w0, y0, z0, t0, y0', m0, rfl, _, _, hy0, hz0, ht0, hy0'⟩ := open_agg4 Try.underlying25 (by kernel_rfl) (by kernel_rfl) (hval 0 25 v0 rfl rfl) h0
  obtain ⟨o0, e0, _⟩ := DataW.trod_bool Try.underlying4 hy0
  obtain ⟨a0, n0, c0, l0, rfl, R0⟩ := open_Rats Try.underlying22 Try.underlying73 (by kernel_rfl) (by kernel_rfl) (by kernel_rfl) (by kernel_rfl) (by kernel_rfl) Try.underlying3 Try.underlying3 hz0
  obtain ⟨b0, o0', j0, r0', rfl, X0⟩ := open_Fixs Try.underlying23 Try.underlying141 Try.underlying73 (by kernel_rfl) (by kernel_rfl) (by kernel_rfl) (by kernel_rfl) (by kernel_rfl) (by kernel_rfl) (by kernel_rfl) (by kernel_rfl) (by kernel_rfl) Try.underlying3 Try.underlying3 Try.underlying3 ht0
  obtain ⟨x0, e0', _, wf0⟩ := DataW.trod_int Try.underlying3 hy0'
  obtain rfl : u0 = .bool o0 := by simpa using e0
  obtain rfl : w0 = .int .i64 x0 := by simpa using e0'
  have k1 := h1
  have lt1 : ∀ x ∈ p1, x.block < W.heap.size := by obtain ⟨m, hm⟩ := k1; exact DataW.trod_lt m _ _ _ hm
  obtain ⟨u1, s1, g1, w1, y1, z1, t1, y1', m1, rfl, _, _, hy1, hz1, ht1, hy1'⟩ := open_agg4 Try.underlying25 (by kernel_rfl) (by kernel_rfl) (hval 1 25 v1 rfl rfl) h1
  obtain ⟨o1, e1, _⟩ := DataW.trod_bool Try.underlying4 hy1
  obtain ⟨a1, n1, c1, l1, rfl, R1⟩ := open_Rats Try.underlying22 Try.underlying73 (by kernel_rfl) (by kernel_rfl) (by kernel_rfl) (by kernel_rfl) (by kernel_rfl) Try.underlying3 Try.underlying3 hz1
  obtain ⟨b1, o1', j1, r1', rfl, X1⟩ := open_Fixs Try.underlying23 Try.underlying141 Try.underlying73 (by kernel_rfl) (by kernel_rfl) (by kernel_rfl) (by kernel_rfl) (by kernel_rfl) (by kernel_rfl) (by kernel_rfl) (by kernel_rfl) (by kernel_rfl) Try.underlying3 Try.underlying3 Try.underlying3 ht1
  obtain ⟨x1, e1', _, wf1⟩ := DataW.trod_int Try.underlying3 hy1'
  obtain rfl : u1 = .bool o1 := by simpa using e1
  obtain rfl : w1 = .int .i64 x1 := by simpa using e1'
  clear hA0 hval0
  refine (l_FnExactEqualNucleolus R0 X0 R1 X1).mono fun e W' ⟨he, bel⟩ => ?_
  subst he
  exact ⟨_, rfl, _, _, _, [], _, [], hW', trodAll_mk1 (shut_bool Try.underlying4 _), (trodAll_cons_mk (Below.trod laidOut (by kernel_rfl) (of_decide_eq_true (by kernel_rfl)) k0 bel lt0) (trodAll_cons_mk (Below.trod laidOut (by kernel_rfl) (of_decide_eq_true (by kernel_rfl)) k1 bel lt1) trodAll_mk0)), rfl, bel.frame _, fun h => by cases h⟩

theorem over : Rows.fnExactEqualNucleolusRow.holds Try.pinned (OpenSpec.ofChange Rows.fnExactEqualNucleolusSpec) :=
  OpenClaim.holds_of_wide 3 Try.f3 rfl rfl rfl rfl rfl rfl rfl ⟨rfl, rfl, rfl, rfl, rfl⟩ rfl rfl rfl rfl rfl (by kernel_rfl) Try.func3 (by kernel_rfl)
    (of_decide_eq_true (by kernel_rfl)) (by unfold Func.isWrapper; first | (rw [if_pos (by decide +kernel)]; kernel_rfl) | (rw [if_neg (by decide +kernel)]; exact ⟨rfl, rfl⟩))
    (fun os started H enc _ => lifted os started H enc)

theorem proved : Rows.FnExactEqualNucleolusSaid := over
#print axioms proved
end Go.Proofs.Ytokpmflhgehicaa.fnExactEqualNucleolus
