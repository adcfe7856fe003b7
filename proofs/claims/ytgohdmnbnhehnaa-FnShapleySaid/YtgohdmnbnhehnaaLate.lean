/- A region that draws its order and ends in stores: what the loads read is asked for only as long as no store has come up. Over any program. -/
import Derived.Test.YtgohdmnbnhehnaaBase
import Derived.StillTail
import Derived.Deep.RegionHeld3
namespace Go.Proofs.Ytgohdmnbnhehnaa
set_option linter.unusedVariables false

section
variable {P : Program} {ops : Array Oper} {Q : Exit → Act → World → Prop} {md : Region.Mode} {S : World → Prop} {M : List Nat}

/-- None of the operations M has come up. -/
def Fresh (M : List Nat) (listed : Array Bool) : Prop := ∀ j ∈ M, listed.getD j true = false
theorem Fresh.set {M : List Nat} {listed : Array Bool} {i : Nat} (h : Fresh M listed) (hi : i ∉ M) : Fresh M (listed.setIfInBounds i true) := fun j hj => by
  rw [getD_set_ne true (show i ≠ j from fun e => hi (by rw [e]; exact hj))]; exact h j hj
theorem Fresh.unset {M : List Nat} {listed : Array Bool} {i : Nat} (h : Fresh M (listed.setIfInBounds i true)) (hi : i ∉ M) : Fresh M listed := fun j hj => by
  have := h j hj
  rwa [getD_set_ne true (show i ≠ j from fun e => hi (by rw [e]; exact hj))] at this

/-- Whatever order is picked from here on; S holds as long as none of M has come up. -/
def lateAny (P : Program) (md : Region.Mode) (ops : Array Oper) (Q : Exit → Act → World → Prop) (M : List Nat) (S : World → Prop) : Nat → Array Bool → Act → World → Prop
  | 0, listed, a, w => Region.ready md ops listed = [] ∧ Q .normal a w
  | f + 1, listed, a, w => (Region.ready md ops listed = [] → Q .normal a w) ∧
    ∀ i ∈ Region.ready md ops listed, wpOp P ops Q i (fun a' w' => (Fresh M (listed.setIfInBounds i true) → S w') ∧ lateAny P md ops Q M S f (listed.setIfInBounds i true) a' w') a w
theorem lateAny.any : ∀ {f : Nat} {listed : Array Bool} {a : Act} {w : World}, lateAny P md ops Q M S f listed a w → wpAny P md ops Q f listed a w
  | 0, _, _, _, h => h
  | f + 1, _, _, _, h => ⟨h.1, fun i hi => wpOp_mono (fun a' w' h' => lateAny.any h'.2) (h.2 i hi)⟩

theorem late_first {i : Nat} {oi : Oper} {v : Value} {T : World → Prop} (hi : ops[i]? = some oi) (hsel : ∀ (j : Nat) (o : Oper) cs b, ops[j]? = some o → o.op ≠ .select cs b)
    (hQ : ∀ c a w, Q (.panic c) (a.put oi.dst v) w → Q (.panic c) a w) (hiM : i ∉ M)
    (hT : (∀ w, T w) ∨ ((∀ w, S w → T w) ∧ ∀ j ∈ M, ∀ oj, ops[j]? = some oj → ∃ e ∈ oj.after, Region.binds md e = true ∧ e.on = i)) :
    ∀ (f : Nat) (listed : Array Bool) (a : Act) (w : World),
      (∀ j oj, ops[j]? = some oj → j ≠ i → listed.getD j true = false → (∀ e ∈ oj.after, Region.binds md e = true → e.on ≠ i) → oi.apart ops oj = true) →
      i ∈ Region.ready md ops listed → YieldsIf P ops T oi v a → (Fresh M listed → S w) → ((∀ w, T w) ∨ Fresh M listed) →
      lateAny P md ops Q M S f (listed.setIfInBounds i true) (a.put oi.dst v) w → lateAny P md ops Q M S (f + 1) listed a w := by
  have now : ∀ {listed : Array Bool} {w : World}, (Fresh M listed → S w) → ((∀ w, T w) ∨ Fresh M listed) → T w := fun {listed w} h1 h2 => by
    rcases h2 with h2 | h2
    · exact h2 w
    · rcases hT with h3 | h3
      · exact h3 w
      · exact h3.1 w (h1 h2)
  intro f
  induction f with
  | zero =>
    intro listed a w _ hr hy hS hF H
    refine ⟨fun h => absurd hr (by rw [h]; exact List.not_mem_nil), fun j hj => ?_⟩
    by_cases hji : j = i
    · subst hji; exact hy.wpOp hi (now hS hF) ⟨fun h => hS (h.unset hiM), H⟩
    · exact absurd (ready_mono hj hji) (by rw [H.1]; exact List.not_mem_nil)
  | succ f ih =>
    intro listed a w hfree hr hy hS hF H
    refine ⟨fun h => absurd hr (by rw [h]; exact List.not_mem_nil), fun j hj => ?_⟩
    by_cases hji : j = i
    · subst hji; exact hy.wpOp hi (now hS hF) ⟨fun h => hS (h.unset hiM), H⟩
    · obtain ⟨hjun, oj, hoj, hall⟩ := mem_ready.1 hj
      have hnot : ∀ e ∈ oj.after, Region.binds md e = true → e.on ≠ i := fun e he hb heq => by
        have h1 := hall e he hb
        have h0 := (mem_ready.1 hr).1
        rw [heq] at h1
        rcases Nat.lt_or_ge i listed.size with h' | h'
        · simp [h'] at h0 h1; rw [h0] at h1; cases h1
        · simp [Array.getElem?_eq_none h'] at h1
      have step := wpOp_putIf hoj (hfree j oj hoj hji hjun hnot) (fun cs b => hsel i oi cs b hi) (fun cs b => hsel j oj cs b hoj) hQ hy (H.2 j (ready_mono hj hji))
      have hfree' : ∀ k ok, ops[k]? = some ok → k ≠ i → (listed.setIfInBounds j true).getD k true = false →
          (∀ e ∈ ok.after, Region.binds md e = true → e.on ≠ i) → oi.apart ops ok = true := fun k ok hk hki hun hno => by
        refine hfree k ok hk hki ?_ hno
        by_cases hjk : j = k
        · rw [← hjk]; exact hjun
        · rwa [getD_set_ne true hjk] at hun
      have hF' : (∀ w, T w) ∨ Fresh M (listed.setIfInBounds j true) := by
        rcases hF with h2 | h2
        · exact .inl h2
        · rcases hT with h3 | h3
          · exact .inl h3
          · refine .inr (h2.set fun hjM => ?_)
            obtain ⟨e, he, hb, ho⟩ := h3.2 j hjM oj hoj
            exact hnot e he hb ho
      have e1 : (listed.setIfInBounds i true).setIfInBounds j true = (listed.setIfInBounds j true).setIfInBounds i true := Array.setIfInBounds_comm _ _ (Ne.symm hji)
      rw [e1] at step
      exact wpOp_mono (fun a' w' h3 => ⟨fun hFr => h3.2.1 (hFr.set hiM), ih (listed.setIfInBounds j true) a' w' hfree' (ready_mono hr (Ne.symm hji)) h3.1 (fun hFr => h3.2.1 (hFr.set hiM)) hF' h3.2.2⟩) step

/-- All of M wait for i. -/
def waitsB (md : Region.Mode) (ops : Array Oper) (M : List Nat) (i : Nat) : Bool := M.all fun j => Region.waitsFor md ops j i
/-- A load, taken first: while none of M has come up. -/
theorem late_load {i : Nat} {oi : Oper} {v : Value} {f : Nat} {listed : Array Bool} {a : Act} {w : World} (hi : ops[i]? = some oi)
    (hs : Region.noSelect ops = true) (hf : Region.free md ops listed i = true) (hr : (Region.ready md ops listed).contains i = true) (hM : M.contains i = false) (hw : waitsB md ops M i = true) (hfr : M.all (fun j => !listed.getD j true) = true)
    (hQ : ∀ c a w, Q (.panic c) (a.put oi.dst v) w → Q (.panic c) a w) (hy : YieldsIf P ops S oi v a) (hS : S w)
    (h : lateAny P md ops Q M S f (listed.setIfInBounds i true) (a.put oi.dst v) w) : lateAny P md ops Q M S (f + 1) listed a w := by
  refine late_first (T := S) hi (Region.noSelect_spec hs) hQ (by intro h'; rw [List.contains_eq_mem, decide_eq_false_iff_not] at hM; exact hM h') (.inr ⟨fun _ h => h, fun j hj oj hoj => ?_⟩) f listed a w (Region.free_spec hi hf) (by simpa using hr) hy (fun _ => hS) (.inr fun j hj => ?_) h
  · have h1 := List.all_eq_true.1 hw j hj
    obtain ⟨oj', h2, e, he, hb, ho⟩ := Region.waitsFor_spec h1
    rw [hoj] at h2
    cases h2
    exact ⟨e, he, hb, ho⟩
  · have := List.all_eq_true.1 hfr j hj
    simpa using this
/-- What only computes, taken first. -/
theorem late_pure {i : Nat} {oi : Oper} {v : Value} {f : Nat} {listed : Array Bool} {a : Act} {w : World} (hi : ops[i]? = some oi)
    (hs : Region.noSelect ops = true) (hf : Region.free md ops listed i = true) (hr : (Region.ready md ops listed).contains i = true) (hM : M.contains i = false)
    (hQ : ∀ c a w, Q (.panic c) (a.put oi.dst v) w → Q (.panic c) a w) (hy : YieldsIf P ops (fun _ => True) oi v a) (hS : S w)
    (h : lateAny P md ops Q M S f (listed.setIfInBounds i true) (a.put oi.dst v) w) : lateAny P md ops Q M S (f + 1) listed a w :=
  late_first (T := fun _ => True) hi (Region.noSelect_spec hs) hQ (by intro h'; rw [List.contains_eq_mem, decide_eq_false_iff_not] at hM; exact hM h') (.inl fun _ => trivial) f listed a w (Region.free_spec hi hf) (by simpa using hr) hy (fun _ => hS) (.inl fun _ => trivial) h
/-- The same, when one of M has come up. -/
theorem late_after {i : Nat} {oi : Oper} {v : Value} {f : Nat} {listed : Array Bool} {a : Act} {w : World} (hi : ops[i]? = some oi)
    (hs : Region.noSelect ops = true) (hf : Region.free md ops listed i = true) (hr : (Region.ready md ops listed).contains i = true) (hM : M.contains i = false)
    (hQ : ∀ c a w, Q (.panic c) (a.put oi.dst v) w → Q (.panic c) a w) (hy : YieldsIf P ops (fun _ => True) oi v a) (hfr : M.any (fun j => listed.getD j true) = true)
    (h : lateAny P md ops Q M S f (listed.setIfInBounds i true) (a.put oi.dst v) w) : lateAny P md ops Q M S (f + 1) listed a w :=
  late_first (T := fun _ => True) hi (Region.noSelect_spec hs) hQ (by intro h'; rw [List.contains_eq_mem, decide_eq_false_iff_not] at hM; exact hM h') (.inl fun _ => trivial) f listed a w (Region.free_spec hi hf) (by simpa using hr) hy (fun hF => by
    obtain ⟨j, hj, h2⟩ := List.any_eq_true.1 hfr
    rw [hF j hj] at h2
    cases h2) (.inl fun _ => trivial) h
/-- One of M comes up, and nothing else can. -/
theorem late_one {i : Nat} {oi : Oper} {f : Nat} {listed : Array Bool} {a : Act} {w w' : World} (hi : ops[i]? = some oi) (hr : Region.ready md ops listed = [i]) (hM : M.contains i = true) (hl : i < listed.size)
    (hw : Region.wanted oi (yielded ops a.tmps) = true) (hrun : (execOp a.eval oi).run P w = .ok .skip w')
    (h : lateAny P md ops Q M S f (listed.setIfInBounds i true) (a.put oi.dst undef) w') : lateAny P md ops Q M S (f + 1) listed a w := by
  refine ⟨fun h0 => absurd (hr.symm.trans h0) (by simp), fun j hj => ?_⟩
  rw [hr] at hj
  obtain rfl : j = i := by simpa using hj
  unfold wpOp
  simp only [hi, hw, if_true]
  refine .inl ?_
  unfold Oper.wp
  rw [hrun]
  refine ⟨fun hF => absurd (hF j (by simpa using hM)) ?_, h⟩
  simp [hl]
/-- What nothing else stands beside: a call, an append, an alloc. -/
theorem late_step {i : Nat} {oi : Oper} {f : Nat} {listed : Array Bool} {a : Act} {w : World} (hi : ops[i]? = some oi) (hr : Region.ready md ops listed = [i]) (hw : Region.wanted oi (yielded ops a.tmps) = true)
    (h : ∀ K' : Act → World → Prop, Shut (∀ a w, (Fresh M (listed.setIfInBounds i true) → S w) → lateAny P md ops Q M S f (listed.setIfInBounds i true) a w → K' a w) → Oper.wp P oi a w K' Q) : lateAny P md ops Q M S (f + 1) listed a w := by
  refine ⟨fun h0 => absurd (hr.symm.trans h0) (by simp), fun j hj => ?_⟩
  rw [hr] at hj
  obtain rfl : j = i := by simpa using hj
  refine wpOp_step hi (fun K' hK => ?_)
  rw [if_pos hw]
  exact h K' (fun a w h1 h2 => hK a w ⟨h1, h2⟩)
theorem late_done {listed : Array Bool} {a : Act} {w : World} (hr : Region.ready md ops listed = []) (h : Q .normal a w) : ∀ f, lateAny P md ops Q M S f listed a w
  | 0 => ⟨hr, h⟩
  | _ + 1 => ⟨fun _ => h, fun i hi => absurd hi (by rw [hr]; exact List.not_mem_nil)⟩
theorem late_begin {id : Nat} {a : Act} {w : World} (hm : P.follows .mixedOrders = true) (h : lateAny P .any ops Q M S ops.size (Array.replicate ops.size false) a w.drew) : (Code.region id ops true).wp P Q a w :=
  wp_region_any hm h.any
end

end Go.Proofs.Ytgohdmnbnhehnaa
