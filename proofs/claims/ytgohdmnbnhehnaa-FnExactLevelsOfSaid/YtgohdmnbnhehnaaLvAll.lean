import Derived.Test.YtgohdmnbnhehnaaRows
import Derived.Test.YtgohdmnbnhehnaaLvAllG2
import Derived.Test.YtgohdmnbnhehnaaLvAllG21
namespace Go.Proofs.Ytgohdmnbnhehnaa.fnExactLevelsOf
open Go.Proofs.Ytgohdmnbnhehnaa
open Go.ChangeShapes Go.WideShapes Go.ChangeAt Go.RowKit Go.Joins
open Go.ChangeMaps (open_string shut_string)
set_option linter.unusedVariables false
theorem own : ownKnob Try.prog.godebug = none := by kernel_rfl
theorem laidOut : laidOutB Try.prog = true := by kernel_rfl
set_option maxRecDepth 100000 in
theorem lifted (os : Os) (started : os.Started) (H : Type) (enc : TypeId × Value → H) :
 ReturnsInHanded {} Try.checked os 7 .any (Rows.fnExactLevelsOfSpec.pre6 enc Try.prog Try.f7 Rows.fnExactLevelsOfRow.domain false) (Rows.fnExactLevelsOfSpec.post enc Try.prog Try.f7 false true false false) := by
 refine returnsInHanded_of_change (C := Try.checked) own started (by kernel_rfl) Try.func7
  (ChangeSpec.witness6 (enc := enc) (C := Try.checked) false ⟨#[], #[.agg #[.int .i64 0, .slice none 0 0], .slice none 0 0], []⟩ 8 (by kernel_rfl) (by kernel_rfl) (by kernel_rfl) (by kernel_rfl)) ?_
 intro W base args ds gs before hval0 hW hcnd _
 have hval : ∀ (j : Nat) t v, Try.f7.params[j]? = some t → args[j]? = some v → Value.okWide Try.prog W .any base t v := hval0
 have hW' := hW
 obtain ⟨p, q, hA0, hV, rfl, hfz, hnd⟩ := hW
 have hA : DataW.TrodAll enc Try.prog W 0 (fun _ => true) true Try.f7.params.toList args.toList ds p := hA0
 rw [Try.params7] at hA hval
 obtain ⟨v0, vs0, d0, ds0, p0, q0, hargs, rfl, rfl, h0, r0⟩ := trodAll_cons hA
 obtain ⟨v1, vs1, d1, ds1, p1, q1, rfl, rfl, rfl, h1, r1⟩ := trodAll_cons r0
 obtain ⟨rfl, rfl, rfl⟩ := trodAll_nil r1
 obtain rfl : args = #[v0, v1] := by cases args; simp_all
 obtain ⟨rfl, rfl⟩ := trodVars_none hV
 have k0 := h0
 have lt0 : ∀ x ∈ p0, x.block < W.heap.size := by obtain ⟨m, hm⟩ := k0; exact DataW.trod_lt m _ _ _ hm
 obtain ⟨u0, s0, y0, z0, m0, rfl, _, _, hy0, hz0⟩ := open_agg2 Try.underlying64 (by kernel_rfl) (by kernel_rfl) (hval 0 64 v0 rfl rfl) h0
 obtain ⟨x0, e0, _, wf0⟩ := DataW.trod_int Try.underlying3 hy0
 obtain ⟨a0, n0, c0, l0, rfl, I0⟩ := open_Ints Try.underlying24 Try.underlying3 (by kernel_rfl) hz0
 obtain rfl : u0 = .int .i64 x0 := by simpa using e0
 have k1 := h1
 have lt1 : ∀ x ∈ p1, x.block < W.heap.size := by obtain ⟨m, hm⟩ := k1; exact DataW.trod_lt m _ _ _ hm
 obtain ⟨a1, n1, c1, rfl⟩ := okWide_slice Try.underlying65 (hval 1 65 v1 rfl rfl)
 obtain ⟨a1', n1', c1', l1, e1, I1⟩ : ∃ a n c l, Value.slice a1 n1 c1 = .slice a n c ∧ Rats W a n c l := by obtain ⟨fuel, hf⟩ := h1; exact open_Rats Try.underlying65 Try.underlying113 (by kernel_rfl) (by kernel_rfl) (by kernel_rfl) (by kernel_rfl) (by kernel_rfl) Try.underlying3 Try.underlying3 (by simpa [Value.cells] using hf)
 obtain ⟨rfl, rfl, rfl⟩ : a1 = a1' ∧ n1 = n1' ∧ c1 = c1' := by simpa using e1
 clear hA0 hval0
 refine (l_FnExactLevelsOf I0 I1).mono fun e W' ⟨he, bel⟩ => ?_
 subst he
 exact ⟨_, rfl, _, _, _, [], _, [], hW', trodAll_mk1 (shut_bool Try.underlying4 _), (trodAll_cons_mk (Below.trod laidOut (by kernel_rfl) (of_decide_eq_true (by kernel_rfl)) k0 bel lt0) (trodAll_cons_mk (Below.trod laidOut (by kernel_rfl) (of_decide_eq_true (by kernel_rfl)) k1 bel lt1) trodAll_mk0)), rfl, bel.frame _, fun h => by cases h⟩
theorem over : Rows.fnExactLevelsOfRow.holds Try.pinned (OpenSpec.ofChange Rows.fnExactLevelsOfSpec) :=
 OpenClaim.holds_of_wide 7 Try.f7 rfl rfl rfl rfl rfl rfl rfl ⟨rfl, rfl, rfl, rfl, rfl⟩ rfl rfl rfl rfl rfl (by kernel_rfl) Try.func7 (by kernel_rfl)
  (of_decide_eq_true (by kernel_rfl)) (by unfold Func.isWrapper; first | (rw [if_pos (by decide +kernel)]; kernel_rfl) | (rw [if_neg (by decide +kernel)]; exact ⟨rfl, rfl⟩))
  (fun os started H enc _ => lifted os started H enc)
theorem proved : Rows.FnExactLevelsOfSaid := over
#print axioms proved
end Go.Proofs.Ytgohdmnbnhehnaa.fnExactLevelsOf
