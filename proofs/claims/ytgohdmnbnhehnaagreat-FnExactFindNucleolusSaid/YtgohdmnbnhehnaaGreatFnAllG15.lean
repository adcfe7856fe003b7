import Derived.Test.YtgohdmnbnhehnaaGreatFnAllG14
import Derived.Test.YtgohdmnbnhehnaaGreatFnAllG0
import Derived.StillTail
import Derived.Deep.RegionHeld3
import Derived.StillTailTactics
namespace Go.Proofs.YtgohdmnbnhehnaaGreat
set_option linter.unusedVariables false
set_option linter.unusedSimpArgs false
set_option maxRecDepth 100000
open Go.RowKit
set_option maxHeartbeats 2000000 in
theorem i_sign (x y : Int) (w : World) : Calls Tryz.prog 249 #[ratV x y] w fun e w' => e = .returned (.int .i64 (cmpR (x, y) (0, 1))) ∧ Ext w w' := by
 obtain ⟨W, hW⟩ : ∃ W, W = w.alloc (.cells #[.int .i64 x, .int .i64 y] 85) := ⟨_, rfl⟩
 have HX := Lib.hid (show Ext w W by rw [hW]; exact Ext.alloc _ _)
 have c0 : W.cell? ⟨w.heap.size, 0, none⟩ = some (.int .i64 x) := by rw [hW]; simp
 have c1 : W.cell? ⟨w.heap.size, 1, none⟩ = some (.int .i64 y) := by rw [hW]; simp
 go_enter Tryz.func249, Tryz.ntmps249
 go_upto_region 1 with fail
 rw [← hW]
 clear hW
 have hk2 : Ext W W.drew := Ext.drew W
 have hka := hk2
 have HKEEP := Lib.hid (fun (w' : World) (h : Ext W w') => (⟨h.cellSome c0, h.cellSome c1, h⟩ : w'.cell? ⟨w.heap.size, 0, none⟩ = some (.int .i64 x) ∧ w'.cell? ⟨w.heap.size, 1, none⟩ = some (.int .i64 y) ∧ Ext W w'))
 go_region_held3 (fun w' => w'.cell? ⟨w.heap.size, 0, none⟩ = some (.int .i64 x) ∧ w'.cell? ⟨w.heap.size, 1, none⟩ = some (.int .i64 y) ∧ Ext W w')
  (with_reducible exact HKEEP.out _ hk2)
  (first
    | (go_at_call 87
       (with_reducible refine (i_whole 0 _).mono ?_)
       rintro e w3 ⟨rfl, hx_w3⟩
       have hk2 : Ext W w3 := hk2.trans hx_w3
       have hs_w3 := hk2.size)
    | (go_at_call 123
       (with_reducible refine (i_CompareRat x y 0 1 _).mono ?_)
       rintro e w4 ⟨rfl, hx_w4⟩
       have hk2 : Ext W w4 := hk2.trans hx_w4
       have hs_w4 := hk2.size)
    | fail)
 clear HKEEP hka
 go_wp2_with fail
 go_ret
 exact ⟨rfl, HX.out.trans hk2⟩
theorem enterT_no {costs : List (Int × Int)} {m : Nat} (h : costs.length < m) : enterT costs m = -1 := by unfold enterT; rw [if_pos (by omega)]
theorem enterT_at {costs : List (Int × Int)} {m j : Nat} (h : m ≤ costs.length) (hj : j < m) (h0 : (costs.take j).all (fun c => !belowZ c) = true) (h1 : belowZ (costs[j]?.getD (0, 0)) = true) : enterT costs m = j := by
 unfold enterT
 rw [if_neg (by omega)]
 refine indexF_at (d := (0, 0)) (by simp; omega) (by rw [Int.toNat_natCast, List.take_take, Nat.min_eq_left (by omega)]; exact h0) ?_
 rw [Int.toNat_natCast, List.getElem?_take, if_pos hj]; exact h1
theorem enterT_none {costs : List (Int × Int)} {m : Nat} (h : m ≤ costs.length) (h0 : (costs.take m).all (fun c => !belowZ c) = true) : enterT costs m = -1 := by
 unfold enterT
 rw [if_neg (by omega), Int.toNat_natCast]
 exact indexF_none h0
theorem belowZ_snoc {costs : List (Int × Int)} {j : Nat} {c : Int × Int} (hj : j < costs.length) (hc : costs[j]?.getD (0, 0) = c) (h0 : (costs.take j).all (fun c => !belowZ c) = true) (h1 : belowZ c = false) : (costs.take (j + 1)).all (fun c => !belowZ c) = true := by
 rw [take_snocR hj, List.all_append, h0, hc]; simp [h1]
set_option maxHeartbeats 4000000 in
theorem i_EnteringColumn {w : World} {ra : Option Addr} {rn rc : Nat} {ba : Option Addr} {bn bc : Nat} {x : Int} {a : Option Addr} {n cap : Nat} {costs : List (Int × Int)} (h : Rats w a n cap costs) (m : Nat) (hm : m ≤ 100000) :
 Calls Tryz.prog 225 #[tbW ra rn rc ba bn bc x, .slice a n cap, .int .i64 (m : Int)] w fun e w' => e = .returned (.int .i64 (enterT costs m)) ∧ Ext w w' := by
 have hx0 := Ext.alloc w (tbBox ra rn rc ba bn bc x)
 have HX0 := Lib.hid hx0
 have H := Lib.hid (h.ext hx0)
 have hc1 := h.hcap
 have hc2 := h.hmax
 have HL := Lib.hid h.hlen
 clear h hx0
 by_cases hmn : n < m
 ·have HN := Lib.hid (show enterT costs m = -1 from enterT_no (by rw [HL.out]; exact hmn))
  have hgt : (m : Int) > (n : Int) := by omega
  go_enter Tryz.func225, Tryz.ntmps225
  go_wp2_with fail
  go_ret
  exact ⟨ret_int HN.out.symm, HX0.out⟩
 ·have hle : ¬ (m : Int) > (n : Int) := by omega
  go_enter Tryz.func225, Tryz.ntmps225
  go_wp2_with fail
  go_loopg [7] m (fun gk ii wr => ∃ k : Nat, Hid (gk + k = m) ∧ ii = .int .i64 (k : Int) ∧ Hid ((costs.take k).all (fun c => !belowZ c) = true) ∧ Hid (Ext (w.alloc (tbBox ra rn rc ba bn bc x)) wr))
  case atStart => exact ⟨0, Lib.hid (by omega), rfl, Lib.hid rfl, Lib.hid (Ext.refl _)⟩
  case round =>
   obtain ⟨g1, h_g1⟩ : ∃ x, x = gk := ⟨_, rfl⟩
   subst h_g1
   obtain ⟨wr1, h_wr1⟩ : ∃ x, x = wr := ⟨_, rfl⟩
   subst h_wr1
   obtain ⟨k, HK, rfl, HA, HX⟩ := hrel
   by_cases hlt : k < m
   ·have hkn : k < n := by omega
    obtain ⟨zb, zoff, p, q, hza, hpq, hz0, hz1⟩ := (H.out.ext HX.out).at hkn
    subst hza
    have HPQ := Lib.hid hpq
    have HS := Lib.hid (i_sign p q wr1)
    obtain ⟨sg, hsg⟩ : ∃ s, s = cmpR (p, q) (0, 1) := ⟨_, rfl⟩
    have HSG := Lib.hid (show belowZ (p, q) = decide (sg < 0) by rw [hsg]; rfl)
    rw [← hsg] at HS
    clear hpq hsg
    by_cases hs0 : sg < 0
    ·have HR := Lib.hid (show enterT costs m = k from enterT_at (by rw [HL.out]; omega) hlt HA.out (by rw [HPQ.out, HSG.out, decide_eq_true hs0]))
     go_wp2_with fail
     refine HS.out.mono ?_
     rintro e w3 ⟨rfl, hx⟩
     have X3 := Lib.hid (HX.out.trans hx)
     clear hx
     go_wp2_with fail
     go_ret
     exact ⟨ret_int HR.out.symm, HX0.out.trans X3.out⟩
    ·have HT := Lib.hid (belowZ_snoc (by rw [HL.out]; exact hkn) HPQ.out HA.out (by rw [HSG.out, decide_eq_false hs0]))
     go_wp2_with fail
     refine HS.out.mono ?_
     rintro e w3 ⟨rfl, hx⟩
     have X3 := Lib.hid (HX.out.trans hx)
     clear hx
     go_wp2_with fail
     go_roundg (g1 - 1)
     case measure => have := HK.out; omega
     case rel => exact ⟨k + 1, Lib.hid (by have := HK.out; omega), by go_num, HT, X3⟩
   ·have hkm : m = k := by have := HK.out; omega
    subst hkm
    have HR := Lib.hid (show enterT costs m = -1 from enterT_none (by rw [HL.out]; omega) HA.out)
    go_wp2_with fail
    go_ret
    exact ⟨ret_int HR.out.symm, HX0.out.trans HX.out⟩
section
variable {P : Program} {ops : Array Oper} {Q : Exit → Act → World → Prop} {md : Region.Mode} {S : World → Prop} {M : List Nat}
def Fresh (M : List Nat) (listed : Array Bool) : Prop := ∀ j ∈ M, listed.getD j true = false
theorem Fresh.set {M : List Nat} {listed : Array Bool} {i : Nat} (h : Fresh M listed) (hi : i ∉ M) : Fresh M (listed.setIfInBounds i true) := fun j hj => by
 rw [getD_set_ne true (show i ≠ j from fun e => hi (by rw [e]; exact hj))]; exact h j hj
theorem Fresh.unset {M : List Nat} {listed : Array Bool} {i : Nat} (h : Fresh M (listed.setIfInBounds i true)) (hi : i ∉ M) : Fresh M listed := fun j hj => by
 have := h j hj
 rwa [getD_set_ne true (show i ≠ j from fun e => hi (by rw [e]; exact hj))] at this
def lateAny (P : Program) (md : Region.Mode) (ops : Array Oper) (Q : Exit → Act → World → Prop) (M : List Nat) (S : World → Prop) : Nat → Array Bool → Act → World → Prop
 | 0, listed, a, w => Region.ready md ops listed = [] ∧ Q .normal a w
 | f + 1, listed, a, w => (Region.ready md ops listed = [] → Q .normal a w) ∧
   ∀ i ∈ Region.ready md ops listed, wpOp P ops Q i (fun a' w' => (Fresh M (listed.setIfInBounds i true) → S w') ∧ lateAny P md ops Q M S f (listed.setIfInBounds i true) a' w') a w
theorem lateAny.any : ∀ {f : Nat} {listed : Array Bool} {a : Act} {w : World}, lateAny P md ops Q M S f listed a w → wpAny P md ops Q f listed a w
 | 0, _, _, _, h => h
 | f + 1, _, _, _, h => ⟨h.1, fun i hi => wpOp_mono (fun a' w' h' => lateAny.any h'.2) (h.2 i hi)⟩
theorem late_first {i : Nat} {oi : Oper} {v : Value} {T : World → Prop} (hi : ops[i]? = some oi) (hsel : ∀ (j : Nat) (o : Oper) cs b, ops[j]? = some o → o.op ≠ .select cs b)
 (hQ : ∀ c a w, Q (.panic c) (a.put oi.dst v) w → Q (.panic c) a w) (hiM : i ∉ M)
 (hT : (∀ w, T w) ∨ ((∀ w, S w → T w) ∧ ∀ j ∈ M, ∀ oj, ops[j]? = some oj → ∃ e ∈ oj.after, Region.binds md e = true ∧ e.on = i)) :
 ∀ (f : Nat) (listed : Array Bool) (a : Act) (w : World),
   (∀ j oj, ops[j]? = some oj → j ≠ i → listed.getD j true = false → (∀ e ∈ oj.after, Region.binds md e = true → e.on ≠ i) → oi.apart ops oj = true) →
   i ∈ Region.ready md ops listed → YieldsIf P ops T oi v a → (Fresh M listed → S w) → ((∀ w, T w) ∨ Fresh M listed) →
   lateAny P md ops Q M S f (listed.setIfInBounds i true) (a.put oi.dst v) w → lateAny P md ops Q M S (f + 1) listed a w := by
 have now : ∀ {listed : Array Bool} {w : World}, (Fresh M listed → S w) → ((∀ w, T w) ∨ Fresh M listed) → T w := fun {listed w} h1 h2 => by
  rcases h2 with h2 | h2
  ·exact h2 w
  ·rcases hT with h3 | h3
   ·exact h3 w
   ·exact h3.1 w (h1 h2)
 intro f
 induction f with
 | zero =>
   intro listed a w _ hr hy hS hF H
   refine ⟨fun h => absurd hr (by rw [h]; exact List.not_mem_nil), fun j hj => ?_⟩
   by_cases hji : j = i
   ·subst hji; exact hy.wpOp hi (now hS hF) ⟨fun h => hS (h.unset hiM), H⟩
   ·exact absurd (ready_mono hj hji) (by rw [H.1]; exact List.not_mem_nil)
 | succ f ih =>
   intro listed a w hfree hr hy hS hF H
   refine ⟨fun h => absurd hr (by rw [h]; exact List.not_mem_nil), fun j hj => ?_⟩
   by_cases hji : j = i
   ·subst hji; exact hy.wpOp hi (now hS hF) ⟨fun h => hS (h.unset hiM), H⟩
   ·obtain ⟨hjun, oj, hoj, hall⟩ := mem_ready.1 hj
    have hnot : ∀ e ∈ oj.after, Region.binds md e = true → e.on ≠ i := fun e he hb heq => by
     have h1 := hall e he hb
     have h0 := (mem_ready.1 hr).1
     rw [heq] at h1
     rcases Nat.lt_or_ge i listed.size with h' | h'
     ·simp [h'] at h0 h1; rw [h0] at h1; cases h1
     ·simp [Array.getElem?_eq_none h'] at h1
    have step := wpOp_putIf hoj (hfree j oj hoj hji hjun hnot) (fun cs b => hsel i oi cs b hi) (fun cs b => hsel j oj cs b hoj) hQ hy (H.2 j (ready_mono hj hji))
    have hfree' : ∀ k ok, ops[k]? = some ok → k ≠ i → (listed.setIfInBounds j true).getD k true = false →
     (∀ e ∈ ok.after, Region.binds md e = true → e.on ≠ i) → oi.apart ops ok = true := fun k ok hk hki hun hno => by
     refine hfree k ok hk hki ?_ hno
     by_cases hjk : j = k
     ·rw [← hjk]; exact hjun
     ·rwa [getD_set_ne true hjk] at hun
    have hF' : (∀ w, T w) ∨ Fresh M (listed.setIfInBounds j true) := by
     rcases hF with h2 | h2
     ·exact .inl h2
     ·rcases hT with h3 | h3
      ·exact .inl h3
      ·refine .inr (h2.set fun hjM => ?_)
       obtain ⟨e, he, hb, ho⟩ := h3.2 j hjM oj hoj
       exact hnot e he hb ho
    have e1 : (listed.setIfInBounds i true).setIfInBounds j true = (listed.setIfInBounds j true).setIfInBounds i true := Array.setIfInBounds_comm _ _ (Ne.symm hji)
    rw [e1] at step
    exact wpOp_mono (fun a' w' h3 => ⟨fun hFr => h3.2.1 (hFr.set hiM), ih (listed.setIfInBounds j true) a' w' hfree' (ready_mono hr (Ne.symm hji)) h3.1 (fun hFr => h3.2.1 (hFr.set hiM)) hF' h3.2.2⟩) step
def waitsB (md : Region.Mode) (ops : Array Oper) (M : List Nat) (i : Nat) : Bool := M.all fun j => Region.waitsFor md ops j i
theorem late_load {i : Nat} {oi : Oper} {v : Value} {f : Nat} {listed : Array Bool} {a : Act} {w : World} (hi : ops[i]? = some oi)
 (hs : Region.noSelect ops = true) (hf : Region.free md ops listed i = true) (hr : (Region.ready md ops listed).contains i = true) (hM : M.contains i = false) (hw : waitsB md ops M i = true) (hfr : M.all (fun j => !listed.getD j true) = true)
 (hQ : ∀ c a w, Q (.panic c) (a.put oi.dst v) w → Q (.panic c) a w) (hy : YieldsIf P ops S oi v a) (hS : S w)
 (h : lateAny P md ops Q M S f (listed.setIfInBounds i true) (a.put oi.dst v) w) : lateAny P md ops Q M S (f + 1) listed a w := by
 refine late_first (T := S) hi (Region.noSelect_spec hs) hQ (by intro h'; rw [List.contains_eq_mem, decide_eq_false_iff_not] at hM; exact hM h') (.inr ⟨fun _ h => h, fun j hj oj hoj => ?_⟩) f listed a w (Region.free_spec hi hf) (by simpa using hr) hy (fun _ => hS) (.inr fun j hj => ?_) h
 ·have h1 := List.all_eq_true.1 hw j hj
  obtain ⟨oj', h2, e, he, hb, ho⟩ := Region.waitsFor_spec h1
  rw [hoj] at h2
  cases h2
  exact ⟨e, he, hb, ho⟩
 ·have := List.all_eq_true.1 hfr j hj
  simpa using this
theorem late_pure {i : Nat} {oi : Oper} {v : Value} {f : Nat} {listed : Array Bool} {a : Act} {w : World} (hi : ops[i]? = some oi)
 (hs : Region.noSelect ops = true) (hf : Region.free md ops listed i = true) (hr : (Region.ready md ops listed).contains i = true) (hM : M.contains i = false)
 (hQ : ∀ c a w, Q (.panic c) (a.put oi.dst v) w → Q (.panic c) a w) (hy : YieldsIf P ops (fun _ => True) oi v a) (hS : S w)
 (h : lateAny P md ops Q M S f (listed.setIfInBounds i true) (a.put oi.dst v) w) : lateAny P md ops Q M S (f + 1) listed a w :=
 late_first (T := fun _ => True) hi (Region.noSelect_spec hs) hQ (by intro h'; rw [List.contains_eq_mem, decide_eq_false_iff_not] at hM; exact hM h') (.inl fun _ => trivial) f listed a w (Region.free_spec hi hf) (by simpa using hr) hy (fun _ => hS) (.inl fun _ => trivial) h
theorem late_after {i : Nat} {oi : Oper} {v : Value} {f : Nat} {listed : Array Bool} {a : Act} {w : World} (hi : ops[i]? = some oi)
 (hs : Region.noSelect ops = true) (hf : Region.free md ops listed i = true) (hr : (Region.ready md ops listed).contains i = true) (hM : M.contains i = false)
 (hQ : ∀ c a w, Q (.panic c) (a.put oi.dst v) w → Q (.panic c) a w) (hy : YieldsIf P ops (fun _ => True) oi v a) (hfr : M.any (fun j => listed.getD j true) = true)
 (h : lateAny P md ops Q M S f (listed.setIfInBounds i true) (a.put oi.dst v) w) : lateAny P md ops Q M S (f + 1) listed a w :=
 late_first (T := fun _ => True) hi (Region.noSelect_spec hs) hQ (by intro h'; rw [List.contains_eq_mem, decide_eq_false_iff_not] at hM; exact hM h') (.inl fun _ => trivial) f listed a w (Region.free_spec hi hf) (by simpa using hr) hy (fun hF => by
  obtain ⟨j, hj, h2⟩ := List.any_eq_true.1 hfr
  rw [hF j hj] at h2
  cases h2) (.inl fun _ => trivial) h
theorem late_one {i : Nat} {oi : Oper} {f : Nat} {listed : Array Bool} {a : Act} {w w' : World} (hi : ops[i]? = some oi) (hr : Region.ready md ops listed = [i]) (hM : M.contains i = true) (hl : i < listed.size)
 (hw : Region.wanted oi (yielded ops a.tmps) = true) (hrun : (execOp a.eval oi).run P w = .ok .skip w')
 (h : lateAny P md ops Q M S f (listed.setIfInBounds i true) (a.put oi.dst undef) w') : lateAny P md ops Q M S (f + 1) listed a w := by
 refine ⟨fun h0 => absurd (hr.symm.trans h0) (by simp), fun j hj => ?_⟩
 rw [hr] at hj
 obtain rfl : j = i := by simpa using hj
 unfold wpOp
 simp only [hi, hw, if_true]
 refine .inl ?_
 unfold Oper.wp
 rw [hrun]
 refine ⟨fun hF => absurd (hF j (by simpa using hM)) ?_, h⟩
 simp [hl]
theorem late_step {i : Nat} {oi : Oper} {f : Nat} {listed : Array Bool} {a : Act} {w : World} (hi : ops[i]? = some oi) (hr : Region.ready md ops listed = [i]) (hw : Region.wanted oi (yielded ops a.tmps) = true)
 (h : ∀ K' : Act → World → Prop, Shut (∀ a w, (Fresh M (listed.setIfInBounds i true) → S w) → lateAny P md ops Q M S f (listed.setIfInBounds i true) a w → K' a w) → Oper.wp P oi a w K' Q) : lateAny P md ops Q M S (f + 1) listed a w := by
 refine ⟨fun h0 => absurd (hr.symm.trans h0) (by simp), fun j hj => ?_⟩
 rw [hr] at hj
 obtain rfl : j = i := by simpa using hj
 refine wpOp_step hi (fun K' hK => ?_)
 rw [if_pos hw]
 exact h K' (fun a w h1 h2 => hK a w ⟨h1, h2⟩)
theorem lp (i : Nat) {oi : Oper} {v : Value} {f : Nat} {listed l' : Array Bool} {a a' : Act} {w : World} (h : lateAny P md ops Q M S f l' a' w) (hi : ops[i]? = some oi := by simp only [gA, gB, gC]; rfl) (hs : Region.noSelect ops = true := by kernel_rfl)
 (hf : Region.free md ops listed i = true := by kernel_rfl) (hr : (Region.ready md ops listed).contains i = true := by kernel_rfl) (hM : M.contains i = false := by kernel_rfl) (hQ : ∀ c a w, Q (.panic c) (a.put oi.dst v) w → Q (.panic c) a w := by exact fun _ _ _ h => h)
 (hy : YieldsIf P ops (fun _ => True) oi v a := by (refine Or.inl ⟨by rfl, ?_⟩; intro w hSw; (try dsimp only at hSw); go_simp; (try with_reducible rfl))) (hS : S w := by assumption)
 (hl : listed.setIfInBounds i true = l' := by (try simp only [sA, sB, sC]); rfl) (ha : a.put oi.dst v = a' := by (try simp only [Act.put, sA, sB, sC]); rfl) : lateAny P md ops Q M S (f + 1) listed a w := by subst hl ha; exact late_pure hi hs hf hr hM hQ hy hS h
theorem ll (i : Nat) {oi : Oper} {v : Value} {f : Nat} {listed l' : Array Bool} {a a' : Act} {w : World} (h : lateAny P md ops Q M S f l' a' w) (hi : ops[i]? = some oi := by simp only [gA, gB, gC]; rfl) (hs : Region.noSelect ops = true := by kernel_rfl)
 (hf : Region.free md ops listed i = true := by kernel_rfl) (hr : (Region.ready md ops listed).contains i = true := by kernel_rfl) (hM : M.contains i = false := by kernel_rfl) (hD : waitsB md ops M i = true := by kernel_rfl) (hE : M.all (fun j => !listed.getD j true) = true := by kernel_rfl) (hQ : ∀ c a w, Q (.panic c) (a.put oi.dst v) w → Q (.panic c) a w := by exact fun _ _ _ h => h)
 (hy : YieldsIf P ops S oi v a := by (refine Or.inl ⟨by rfl, ?_⟩; intro w hSw; (try dsimp only at hSw); go_simp; (try with_reducible rfl))) (hS : S w := by assumption)
 (hl : listed.setIfInBounds i true = l' := by (try simp only [sA, sB, sC]); rfl) (ha : a.put oi.dst v = a' := by (try simp only [Act.put, sA, sB, sC]); rfl) : lateAny P md ops Q M S (f + 1) listed a w := by subst hl ha; exact late_load hi hs hf hr hM hD hE hQ hy hS h
theorem late_done {listed : Array Bool} {a : Act} {w : World} (hr : Region.ready md ops listed = []) (h : Q .normal a w) : ∀ f, lateAny P md ops Q M S f listed a w
 | 0 => ⟨hr, h⟩
 | _ + 1 => ⟨fun _ => h, fun i hi => absurd hi (by rw [hr]; exact List.not_mem_nil)⟩
theorem late_begin {id : Nat} {a : Act} {w : World} (hm : P.follows .mixedOrders = true) (h : lateAny P .any ops Q M S ops.size (Array.replicate ops.size false) a w.drew) : (Code.region id ops true).wp P Q a w :=
 wp_region_any hm h.any
end
end Go.Proofs.YtgohdmnbnhehnaaGreat
namespace Go.Proofs.YtgohdmnbnhehnaaGreat
set_option linter.unusedVariables false
set_option linter.unusedSimpArgs false
set_option maxRecDepth 100000
open Go.RowKit
def updB (st cc bi bb : Int) : Bool := decide (st < 0) || (decide (cc < 0) || (decide (cc = 0) && decide (bi < bb)))
theorem leaveF_A {t : Tb} {c : Nat} {st : Int × (Int × Int)} {k : Nat} {p : Int × Int} (hp : t.at k c = p) (h : cmpR p (0, 1) ≤ 0) : leaveF t c st k = st := by
 unfold leaveF; rw [hp, if_pos h]
theorem leaveF_B {t : Tb} {c : Nat} {st : Int × (Int × Int)} {k u : Nat} {p q : Int × Int} (hu : u = t.cols.toNat + t.rows.length) (hp : t.at k c = p) (hq : t.at k u = q) (h : ¬ cmpR p (0, 1) ≤ 0) (hd : (divR q p).2 = false) : leaveF t c st k = st := by
 unfold leaveF; rw [hp, if_neg h, ← hu, hq, if_pos hd]
theorem leaveF_C {t : Tb} {c : Nat} {st : Int} {l : Int × Int} {k u : Nat} {p q d : Int × Int} (hu : u = t.cols.toNat + t.rows.length) (hp : t.at k c = p) (hq : t.at k u = q) (h : ¬ cmpR p (0, 1) ≤ 0) (hd : divR q p = (d, true)) {bi bb : Int} (hb : t.basis[k]?.getD 0 = bi) (hbb : t.basis[st.toNat]?.getD 0 = bb) :
 leaveF t c (st, l) k = if updB st (cmpR d l) bi bb = true then ((k : Int), d) else (st, l) := by
 unfold leaveF
 rw [hp, if_neg h, ← hu, hq, hd, if_neg (by simp)]
 simp only [hb, hbb, updB, Bool.or_eq_true, Bool.and_eq_true, decide_eq_true_eq]
theorem leaveN_bd (t : Tb) (c : Nat) : ∀ k, (leaveN t c k).1 = -1 ∨ (0 ≤ (leaveN t c k).1 ∧ (leaveN t c k).1 < k)
 | 0 => .inl rfl
 | k + 1 => by
   have ih := leaveN_bd t c k
   show (leaveF t c (leaveN t c k) k).1 = -1 ∨ (0 ≤ (leaveF t c (leaveN t c k) k).1 ∧ (leaveF t c (leaveN t c k) k).1 < ((k + 1 : Nat) : Int))
   unfold leaveF
   split
   ·omega
   ·split
    ·omega
    ·split
     ·right; simp; omega
     ·omega
section
variable {w : World} {ra : Option Addr} {rn rc : Nat} {ba : Option Addr} {bn bc : Nat} {t : Tb}
set_option maxHeartbeats 16000000 in
theorem i_LeavingRow (h : TbC w ra rn rc ba bn bc t) (hrn : rn ≤ 100000) (col : Int) :
 Calls Tryz.prog 226 #[tbW ra rn rc ba bn bc t.cols, .int .i64 col] w fun e w' => e = .returned (.int .i64 (leaveT t col)) ∧ Ext w w' := by
 have HF := Lib.hid (i_formed (h.ext (Ext.alloc w (tbBox ra rn rc ba bn bc t.cols))) (by omega))
 have HTP := Lib.hid (fun ok => tbOk_parts h ok)
 obtain ⟨rows, basis, x⟩ := t
 have hx0 := Ext.alloc w (tbBox ra rn rc ba bn bc x)
 have HX0 := Lib.hid hx0
 have H := Lib.hid (h.ext hx0)
 have hr1 := h.rows.hcap
 have hr2 := h.rows.hmax
 have hb1 := h.basis.hcap
 have hb2 := h.basis.hmax
 have HLR := Lib.hid h.rows.hlen
 have HE := Lib.hid (show leaveT ⟨rows, basis, x⟩ col = if (tbOk ⟨rows, basis, x⟩ && inB col 0 (x + (rn : Int) - 1)) = true then (leaveN ⟨rows, basis, x⟩ col.toNat rn).1 else -1 by
  unfold leaveT; simp only; rw [h.rows.hlen])
 clear h hx0
 show Calls _ _ #[tbW ra rn rc ba bn bc x, .int .i64 col] w _
 cases hok : tbOk ⟨rows, basis, x⟩
 ·rw [hok] at HF
  have HN := Lib.hid (show leaveT ⟨rows, basis, x⟩ col = -1 by rw [HE.out, hok]; rfl)
  clear hok
  go_enter Tryz.func226, Tryz.ntmps226
  go_wp2_with fail
  refine HF.out.mono ?_
  rintro e w1 ⟨rfl, hx⟩
  have X1 := Lib.hid (HX0.out.trans hx)
  clear hx
  go_wp2_with fail
  go_ret
  exact ⟨ret_int HN.out.symm, X1.out⟩
 ·rw [hok] at HF
  obtain ⟨m, hxm, hm, hbr, HRL, HBS⟩ := HTP.out hok
  simp only at hxm
  subst hxm hbr
  have hre := Lib.hid hok
  replace HRL := Lib.hid HRL
  replace HBS := Lib.hid HBS
  clear hok
  have HIW := Lib.hid (fun w => i_within col 0 ((m : Int) + (bn : Int) - 1) w)
  cases hin : inB col 0 ((m : Int) + (bn : Int) - 1)
  ·have HN := Lib.hid (show leaveT ⟨rows, basis, (m : Int)⟩ col = -1 by rw [HE.out, hin]; simp)
   simp only [hin] at HIW
   clear hin
   go_enter Tryz.func226, Tryz.ntmps226
   go_wp2_with fail
   refine HF.out.mono ?_
   rintro e w1 ⟨rfl, hx⟩
   have c0 : w1.cell? ⟨w.heap.size, 0, none⟩ = some (.slice ra bn rc) := hx.cellSome (by simp)
   have c2 : w1.cell? ⟨w.heap.size, 2, none⟩ = some (.int .i64 (m : Int)) := hx.cellSome (by simp)
   have X1 := Lib.hid (HX0.out.trans hx)
   clear hx
   go_wp2_with fail
   refine (HIW.out _).mono ?_
   rintro e w2 ⟨rfl, rfl⟩
   go_wp2_with fail
   go_ret
   exact ⟨ret_int HN.out.symm, X1.out⟩
  ·obtain ⟨c, rfl⟩ : ∃ c : Nat, col = c := ⟨col.toNat, by simp [inB] at hin; omega⟩
   have hc : c < m + bn := by simp [inB] at hin; omega
   have HR := Lib.hid (show leaveT ⟨rows, basis, (m : Int)⟩ (c : Int) = (leaveN ⟨rows, basis, (m : Int)⟩ c bn).1 by rw [HE.out, hre.out, hin]; simp)
   simp only [hin] at HIW
   clear hin
   obtain ⟨u, hu⟩ : ∃ u, u = m + bn := ⟨_, rfl⟩
   have HU := Lib.hid (show u = (Tb.mk rows basis (m : Int)).cols.toNat + (Tb.mk rows basis (m : Int)).rows.length by show u = Int.toNat (m : Int) + rows.length; rw [show rows.length = bn from HLR.out]; omega)
   have HUM := Lib.hid hu
   have hcu : c < u := by omega
   have hub : u ≤ 200000 := by omega
   clear hu
   go_enter Tryz.func226, Tryz.ntmps226
   go_wp2_with fail
   refine HF.out.mono ?_
   rintro e w1 ⟨rfl, hx⟩
   have c0 : w1.cell? ⟨w.heap.size, 0, none⟩ = some (.slice ra bn rc) := hx.cellSome (by simp)
   have c1 : w1.cell? ⟨w.heap.size, 1, none⟩ = some (.slice ba bn bc) := hx.cellSome (by simp)
   have c2 : w1.cell? ⟨w.heap.size, 2, none⟩ = some (.int .i64 (m : Int)) := hx.cellSome (by simp)
   have C1 := Lib.hid c1
   have X1 := Lib.hid (HX0.out.trans hx)
   have H1 := Lib.hid (H.out.ext hx)
   have hs1 : w.heap.size < w1.heap.size := by have := hx.size; simp at this; omega
   clear hx c1
   go_wp2_with fail
   refine (HIW.out _).mono ?_
   rintro e w2 ⟨rfl, rfl⟩
   have HB0 := Lib.hid (Boxed.new (Ext.refl w1) 0 0)
   go_wp2_with fail
   go_loopg [5, 30] bn (fun gk bst ii wr => ∃ (k : Nat) (st l1 l2 : Int), Hid (gk + k = bn) ∧ ii = .int .i64 (k : Int) ∧ bst = .int .i64 st ∧ Hid (leaveN ⟨rows, basis, (m : Int)⟩ c k = (st, (l1, l2))) ∧ Hid (Boxed w1 wr w1.heap.size l1 l2))
   case atStart => exact ⟨0, -1, 0, 0, Lib.hid (by omega), rfl, rfl, Lib.hid rfl, HB0⟩
   case round =>
    obtain ⟨g1, h_g1⟩ : ∃ x, x = gk := ⟨_, rfl⟩
    subst h_g1
    obtain ⟨wr1, h_wr1⟩ : ∃ x, x = wr := ⟨_, rfl⟩
    subst h_wr1
    obtain ⟨k, st, l1, l2, HK, rfl, rfl, HL, HB⟩ := hrel
    clear c0 c2
    by_cases hlt : k < bn
    ·obtain ⟨zb, zoff, za, zn, zc, hza, hz0, hrow⟩ := (H1.out.ext HB.out.ext).rows.at hlt
     subst hza
     have hzn : zn = u + 1 := by rw [← hrow.hlen, HUM.out]; exact HRL.out k hlt
     have HZN := Lib.hid hzn
     have hrc := hrow.hcap
     have hrm := hrow.hmax
     have HROW := Lib.hid hrow
     obtain ⟨yb, yoff, p, q, hya, hpq, hy0, hy1⟩ := hrow.at (show c < zn by omega)
     subst hya
     have HPQ := Lib.hid (show Tb.at ⟨rows, basis, (m : Int)⟩ k c = (p, q) from hpq)
     have HS := Lib.hid (i_sign p q wr1)
     obtain ⟨sg, hsg⟩ : ∃ s, s = cmpR (p, q) (0, 1) := ⟨_, rfl⟩
     have HSG := Lib.hid hsg
     rw [← hsg] at HS
     have hcz : c < zn := by omega
     clear hpq hsg hrow hzn
     by_cases hs0 : sg ≤ 0
     ·have HST := Lib.hid (show leaveN ⟨rows, basis, (m : Int)⟩ c (k + 1) = (st, (l1, l2)) by
       show leaveF _ c (leaveN _ c k) k = _
       rw [HL.out]; exact leaveF_A HPQ.out (by rw [← HSG.out]; exact hs0))
      go_wp2_with fail
      refine HS.out.mono ?_
      rintro e w3 ⟨rfl, hx⟩
      have HB3 := Lib.hid (HB.out.grow hx)
      clear hx
      go_wp2_with fail
      go_roundg (g1 - 1)
      case measure => have := HK.out; omega
      case rel => exact ⟨k + 1, st, l1, l2, Lib.hid (by have := HK.out; omega), by go_num, rfl, HST, HB3⟩
     ·have HS0 := Lib.hid hs0
      go_wp2_with fail
      refine HS.out.mono ?_
      rintro e w3 ⟨rfl, hx⟩
      have HB3 := Lib.hid (HB.out.grow hx)
      replace hy0 := hx.cellSome hy0
      replace hy1 := hx.cellSome hy1
      obtain ⟨ub, uoff, p', q', hua, hpq', hv0, hv1⟩ := (HROW.out.ext hx).at (show u < zn by have := HZN.out; omega)
      simp only [Option.some.injEq, Addr.mk.injEq, and_true] at hua
      obtain ⟨rfl, rfl⟩ := hua
      have HQQ := Lib.hid (show Tb.at ⟨rows, basis, (m : Int)⟩ k u = (p', q') from hpq')
      obtain ⟨d1, d2, dok, hdd⟩ : ∃ x y ok, divR (p', q') (p, q) = ((x, y), ok) := ⟨_, _, _, rfl⟩
      have HDD := Lib.hid hdd
      clear hpq' hdd hx hz0
      have hwr : IntKind.i64.wrap ((zn : Int) - 1) = (u : Int) := by have := HZN.out; rw [IntKind.wrap_i64]; omega
      have hu0 : (0 : Int) ≤ (u : Int) := by omega
      have hu1 : (u : Int) < (zn : Int) := by have := HZN.out; omega
      have hc0 : (0 : Int) ≤ (c : Int) := by omega
      have hc1 : (c : Int) < (zn : Int) := by omega
      go_upto_region 9 with fail
      go_cut [9, 10] (fun sx so wx => ∃ g : Nat, sx = .pointer (some ⟨g, 0, none⟩) ∧ so = .bool dok ∧ Hid (Boxed w3 wx g d1 d2))
      case first =>
       have hk2 : Ext w3 w3.drew := Ext.drew w3
       have hka : Ext w3 (w3.alloc (.cells #[.int .i64 0, .int .i64 0] 85)).drew := (Ext.alloc _ _).trans (Ext.drew _)
       have HKEEP := Lib.hid (fun (w' : World) (h : Ext w3 w') => (⟨h.cellSome hy0, h.cellSome hy1, h.cellSome hv0, h.cellSome hv1, h⟩ : w'.cell? ⟨yb, yoff + c * 2, none⟩ = some (.int .i64 p) ∧ w'.cell? ⟨yb, yoff + c * 2 + 1, none⟩ = some (.int .i64 q) ∧ w'.cell? ⟨yb, yoff + u * 2, none⟩ = some (.int .i64 p') ∧ w'.cell? ⟨yb, yoff + u * 2 + 1, none⟩ = some (.int .i64 q') ∧ Ext w3 w'))
       go_region_held3 (fun w' => w'.cell? ⟨yb, yoff + c * 2, none⟩ = some (.int .i64 p) ∧ w'.cell? ⟨yb, yoff + c * 2 + 1, none⟩ = some (.int .i64 q) ∧ w'.cell? ⟨yb, yoff + u * 2, none⟩ = some (.int .i64 p') ∧ w'.cell? ⟨yb, yoff + u * 2 + 1, none⟩ = some (.int .i64 q') ∧ Ext w3 w')
        (first
          | with_reducible exact HKEEP.out _ hk2
          | with_reducible exact HKEEP.out _ hka
          | with_reducible exact HKEEP.out _ ((hk2.setCell (by first | (simp; done) | (simp; omega)) _).setCell (by first | (simp; done) | (simp; omega)) _)
          | with_reducible exact HKEEP.out _ (hk2.trans (Ext.alloc _ _))
          | with_reducible exact HKEEP.out _ (hBB.put _ _).ext)
        (first
          | (go_at_call 250
             (with_reducible refine (i_DivRat p' q' p q _).mono ?_)
             rw [HDD.out]
             rintro e w5 ⟨rfl, hx_w5⟩
             first | (with_reducible have hBB := Boxed.grow hBB hx_w5) | (with_reducible have hBB := Boxed.firstD hx_w5) | (with_reducible have hBB := Boxed.laterD hk2 hx_w5) | skip
             first | (have b0_ := hBB.c0; have b1_ := hBB.c1; have fb_ := hBB.free) | skip
             have hk2 : Ext w3 w5 := by first | with_reducible exact hk2.trans hx_w5 | with_reducible exact hka.trans hx_w5 | with_reducible exact (hk2.trans (Ext.alloc _ _)).trans hx_w5
             have hk2s := hk2.size)
          | fail)
       all_goals (go_wp2_with fail; go_meet; first | exact ⟨_, rfl, rfl, Lib.hid (hBB.put _ _)⟩ | exact ⟨_, rfl, rfl, Lib.hid (Boxed.new hk2 _ _)⟩ | exact ⟨_, rfl, rfl, Lib.hid (Boxed.new' hk2 _ _ (by simp))⟩)
      obtain ⟨g, rfl, rfl, HB1⟩ := hcut
      clear hwr hu0 hu1 hc0 hc1 hy0 hy1 hv0 hv1
      have HB4 := Lib.hid (HB3.out.grow HB1.out.ext)
      cases dok
      ·have HST := Lib.hid (show leaveN ⟨rows, basis, (m : Int)⟩ c (k + 1) = (st, (l1, l2)) by
        show leaveF _ c (leaveN _ c k) k = _
        rw [HL.out]; exact leaveF_B HU.out HPQ.out HQQ.out (by rw [← HSG.out]; have := HS0.out; omega) (by rw [HDD.out]))
       go_wp2_with fail
       go_roundg (g1 - 1)
       case measure => have := HK.out; omega
       case rel => exact ⟨k + 1, st, l1, l2, Lib.hid (by have := HK.out; omega), by go_num, rfl, HST, HB4⟩
      ·have g0 := HB1.out.c0
       have g1' := HB1.out.c1
       have b0 := HB4.out.c0
       have b1 := HB4.out.c1
       have HCM := Lib.hid (i_CompareRat d1 d2 l1 l2 wc)
       obtain ⟨cc, hcc⟩ : ∃ s, s = cmpR (d1, d2) (l1, l2) := ⟨_, rfl⟩
       have HCC := Lib.hid hcc
       rw [← hcc] at HCM
       clear hcc
       go_wp2_with fail
       refine HCM.out.mono ?_
       rintro e w6 ⟨rfl, hx⟩
       have HB6 := Lib.hid (HB4.out.grow hx)
       have HG6 := Lib.hid (HB1.out.grow hx)
       clear hx g0 g1' b0 b1
       have c1 := HB6.out.ext.cellSome C1.out
       obtain ⟨eb, eoff, hea, he0⟩ := (H1.out.ext HB6.out.ext).basis.at hlt
       subst hea
       obtain ⟨bi, hbi⟩ : ∃ b, b = basis[k]?.getD 0 := ⟨_, rfl⟩
       have HBI := Lib.hid hbi
       rw [← hbi] at he0
       clear hbi
       have HBD := Lib.hid (leaveN_bd ⟨rows, basis, (m : Int)⟩ c k)
       have hk0 : (0 : Int) ≤ (k : Int) := by omega
       have hk1 : (k : Int) < (bn : Int) := by omega
       have HUP := Lib.hid (fun bb (hbb : basis[st.toNat]?.getD 0 = bb) => show leaveN ⟨rows, basis, (m : Int)⟩ c (k + 1) = if updB st cc bi bb = true then ((k : Int), (d1, d2)) else (st, (l1, l2)) by
        show leaveF _ c (leaveN _ c k) k = _
        rw [HL.out, HCC.out]
        exact leaveF_C HU.out HPQ.out HQQ.out (by rw [← HSG.out]; have := HS0.out; omega) HDD.out HBI.out.symm hbb)
       go_upto_region 12 with fail
       go_cut [82] (fun s82 wx => ∃ bb : Int, s82 = .bool (updB st cc bi bb) ∧ Hid (basis[st.toNat]?.getD 0 = bb) ∧ Hid (Ext w6 wx))
       case first =>
        have hk2 : Ext w6 w6.drew := Ext.drew w6
        by_cases hst : st < 0
        ·have hd0 : decide (st < 0) = true := decide_eq_true hst
         refine wp_region_held_drew (S := (fun w' => w'.cell? ⟨w.heap.size, 1, none⟩ = some (.slice (some ⟨eb, eoff, none⟩) bn bc) ∧ w'.cell? ⟨eb, eoff + k, none⟩ = some (.int .i64 bi) ∧ Ext w6 w')) (by kernel_rfl) ?_ (fun hHeld => ?_)
         ·exact ⟨hk2.cellSome c1, hk2.cellSome he0, hk2⟩
         refine tk 0 ?_
         refine tk 1 ?_
         refine tk 2 ?_
         refine sk 3 ?_
         refine sk 4 ?_
         refine tk 5 ?_
         refine tk 6 ?_
         refine sk 7 ?_
         refine sk 8 ?_
         refine sk 9 ?_
         refine sk 10 ?_
         refine sk 11 ?_
         refine sk 12 ?_
         refine sk 13 ?_
         refine sk 14 ?_
         refine sk 15 ?_
         refine sk 16 ?_
         refine sk 17 ?_
         refine sk 18 ?_
         refine sk 19 ?_
         refine sk 20 ?_
         refine sk 21 ?_
         refine tk 22 ?_
         refine wpAnyH_done (by kernel_rfl) ?_ _
         go_wp2_with fail
         go_meet
         exact ⟨_, by unfold updB; rw [hd0]; rfl, Lib.hid rfl, Lib.hid hk2⟩
        ·have hd0 : decide (st < 0) = false := decide_eq_false (by omega)
         obtain ⟨sn, rfl⟩ : ∃ sn : Nat, st = sn := ⟨st.toNat, by omega⟩
         have hsn : sn < bn := by have := HBD.out; rw [HL.out] at this; simp only at this; omega
         obtain ⟨fb, foff, hfa, hf0⟩ := (H1.out.ext HB6.out.ext).basis.at hsn
         simp only [Option.some.injEq, Addr.mk.injEq, and_true] at hfa
         obtain ⟨rfl, rfl⟩ := hfa
         obtain ⟨bb, hbb⟩ : ∃ b, b = basis[sn]?.getD 0 := ⟨_, rfl⟩
         have HBB := Lib.hid (show basis[Int.toNat (sn : Int)]?.getD 0 = bb by rw [Int.toNat_natCast, hbb])
         rw [← hbb] at hf0
         have hs0' : (0 : Int) ≤ (sn : Int) := by omega
         have hs1' : (sn : Int) < (bn : Int) := by omega
         clear hbb
         by_cases hcc : cc < 0
         ·have hd1 : decide (cc < 0) = true := decide_eq_true hcc
          refine wp_region_held_drew (S := (fun w' => w'.cell? ⟨w.heap.size, 1, none⟩ = some (.slice (some ⟨eb, eoff, none⟩) bn bc) ∧ w'.cell? ⟨eb, eoff + k, none⟩ = some (.int .i64 bi) ∧ Ext w6 w')) (by kernel_rfl) ?_ (fun hHeld => ?_)
          ·exact ⟨hk2.cellSome c1, hk2.cellSome he0, hk2⟩
          refine tk 0 ?_
          refine tk 1 ?_
          refine tk 2 ?_
          refine tk 3 ?_
          refine tk 4 ?_
          refine tk 5 ?_
          refine tk 6 ?_
          refine sk 7 ?_
          refine sk 8 ?_
          refine sk 9 ?_
          refine sk 10 ?_
          refine sk 11 ?_
          refine sk 12 ?_
          refine sk 13 ?_
          refine sk 14 ?_
          refine sk 15 ?_
          refine sk 16 ?_
          refine sk 17 ?_
          refine sk 18 ?_
          refine sk 19 ?_
          refine sk 20 ?_
          refine sk 21 ?_
          refine tk 22 ?_
          refine wpAnyH_done (by kernel_rfl) ?_ _
          go_wp2_with fail
          go_meet
          exact ⟨bb, by unfold updB; rw [hd0, hd1]; rfl, HBB, Lib.hid hk2⟩
         ·have hd1 : decide (cc < 0) = false := decide_eq_false (by omega)
          by_cases hc0 : cc = 0
          ·subst hc0
           refine wp_region_held_drew (S := (fun w' => w'.cell? ⟨w.heap.size, 1, none⟩ = some (.slice (some ⟨eb, eoff, none⟩) bn bc) ∧ w'.cell? ⟨eb, eoff + k, none⟩ = some (.int .i64 bi) ∧ w'.cell? ⟨eb, eoff + sn, none⟩ = some (.int .i64 bb) ∧ Ext w6 w')) (by kernel_rfl) ?_ (fun hHeld => ?_)
           ·exact ⟨hk2.cellSome c1, hk2.cellSome he0, hk2.cellSome hf0, hk2⟩
           refine tk 0 ?_
           refine tk 1 ?_
           refine tk 2 ?_
           refine tk 3 ?_
           refine tk 4 ?_
           refine tk 5 ?_
           refine tk 6 ?_
           refine tk 7 ?_
           refine tk 8 ?_
           refine tk 9 ?_
           refine tk 10 ?_
           refine tk 11 ?_
           refine tk 12 ?_
           refine tk 13 ?_
           refine tk 14 ?_
           refine tk 15 ?_
           refine tk 16 ?_
           refine tk 17 ?_
           refine tk 18 ?_
           refine tk 19 ?_
           refine tk 20 ?_
           refine tk 21 ?_
           refine tk 22 ?_
           refine wpAnyH_done (by kernel_rfl) ?_ _
           go_wp2_with fail
           go_meet
           exact ⟨bb, by unfold updB; rw [hd0]; rfl, HBB, Lib.hid hk2⟩
          ·have hd2 : (cc == 0) = false := by simp; omega
           refine wp_region_held_drew (S := (fun w' => w'.cell? ⟨w.heap.size, 1, none⟩ = some (.slice (some ⟨eb, eoff, none⟩) bn bc) ∧ w'.cell? ⟨eb, eoff + k, none⟩ = some (.int .i64 bi) ∧ Ext w6 w')) (by kernel_rfl) ?_ (fun hHeld => ?_)
           ·exact ⟨hk2.cellSome c1, hk2.cellSome he0, hk2⟩
           refine tk 0 ?_
           refine tk 1 ?_
           refine tk 2 ?_
           refine tk 3 ?_
           refine tk 4 ?_
           refine tk 5 ?_
           refine tk 6 ?_
           refine tk 7 ?_
           refine tk 8 ?_
           refine tk 9 ?_
           refine sk 10 ?_
           refine sk 11 ?_
           refine sk 12 ?_
           refine sk 13 ?_
           refine sk 14 ?_
           refine sk 15 ?_
           refine sk 16 ?_
           refine sk 17 ?_
           refine sk 18 ?_
           refine sk 19 ?_
           refine sk 20 ?_
           refine tk 21 ?_
           refine tk 22 ?_
           refine wpAnyH_done (by kernel_rfl) ?_ _
           go_wp2_with fail
           go_meet
           exact ⟨bb, by unfold updB; rw [hd0, hd1, decide_eq_false hc0]; rfl, HBB, Lib.hid hk2⟩
       obtain ⟨bb, rfl, HBB, HX7⟩ := hcut
       have HB7 := Lib.hid (HB6.out.grow HX7.out)
       have HG7 := Lib.hid (HG6.out.grow HX7.out)
       have HU2 := Lib.hid (HUP.out bb HBB.out)
       clear c1 he0
       cases hub2 : updB st cc bi bb
       ·have HST := Lib.hid (show leaveN ⟨rows, basis, (m : Int)⟩ c (k + 1) = (st, (l1, l2)) by rw [HU2.out, hub2]; rfl)
        go_wp2_with fail
        go_roundg (g1 - 1)
        case measure => have := HK.out; omega
        case rel => exact ⟨k + 1, st, l1, l2, Lib.hid (by have := HK.out; omega), by go_num, rfl, HST, HB7⟩
       ·have HST := Lib.hid (show leaveN ⟨rows, basis, (m : Int)⟩ c (k + 1) = ((k : Int), (d1, d2)) by rw [HU2.out, hub2]; rfl)
        have g0 := HG7.out.c0
        have g1' := HG7.out.c1
        have b0 := HB7.out.c0
        have b1 := HB7.out.c1
        have bf := HB7.out.free
        have HB8 := Lib.hid ((HB7.out.grow (Ext.drew wc)).put d1 d2)
        go_upto_region 13 with fail
        go_still_tail 3, (by kernel_rfl)
        go_wp2_with fail
        go_roundg (g1 - 1)
        case measure => have := HK.out; omega
        case rel => exact ⟨k + 1, (k : Int), d1, d2, Lib.hid (by have := HK.out; omega), by go_num, rfl, HST, HB8⟩
    ·have hkn : bn = k := by have := HK.out; omega
     subst hkn
     have HY := Lib.hid (show leaveT ⟨rows, basis, (m : Int)⟩ (c : Int) = st by rw [HR.out, HL.out])
     go_wp2_with fail
     go_ret
     exact ⟨ret_int HY.out.symm, X1.out.trans HB.out.ext⟩
end
end Go.Proofs.YtgohdmnbnhehnaaGreat
namespace Go.Proofs.YtgohdmnbnhehnaaGreat
set_option linter.unusedVariables false
set_option linter.unusedSimpArgs false
set_option maxRecDepth 100000
open Go.RowKit
theorem RMat.inrow {w : World} {base G N cap : Nat} {vs : List Value} {M : List (List (Int × Int))} (h : RMat w base (some ⟨G, 0, none⟩) N cap vs M) {i n g c : Nat} (hi : i < N) (hv : vs[i]?.getD undef = .slice (some ⟨g, 0, none⟩) n c) {j : Nat} (hj : j < (M[i]?.getD []).length) (x y : Int) :
 RMat ((w.setCell ⟨g, j * 2, none⟩ (.int .i64 x)).setCell ⟨g, j * 2 + 1, none⟩ (.int .i64 y)) base (some ⟨G, 0, none⟩) N cap vs (M.set i ((M[i]?.getD []).set j (x, y))) := by
 have hil : i < M.length := by rw [h.len]; exact hi
 have hr := h.rows.row i hil
 rw [hv] at hr
 have hgG : g ≠ G := fun e => hr.apart h.own g rfl (by subst e; rfl)
 have hset : ∀ k, k ≠ g → ((w.setCell ⟨g, j * 2, none⟩ (.int .i64 x)).setCell ⟨g, j * 2 + 1, none⟩ (.int .i64 y)).heap[k]? = w.heap[k]? := fun k hk => by
  rw [heap_setCell_other _ _ _ _ hk, heap_setCell_other _ _ _ _ hk]
 refine ⟨h.own.keep fun k hk => hset k (by simp only [Value.ownBlock, Option.some.injEq] at hk; show k ≠ g; omega), ?_⟩
 refine ⟨by rw [List.length_set]; exact h.rows.len, fun k hk => ?_, fun a b k hab hb => h.rows.apart a b k hab (by rw [List.length_set] at hb; exact hb)⟩
 rw [List.length_set] at hk
 by_cases hki : k = i
 ·subst hki
  rw [hv, List.getElem?_set_self hil]
  exact hr.set hj x y
 ·rw [List.getElem?_set_ne (Ne.symm hki)]
  refine (h.rows.row k hk).keep fun b hb => hset b fun e => ?_
  subst e
  rcases Nat.lt_or_gt_of_ne hki with hlt | hlt
  ·exact h.rows.apart k i _ hlt hil hb (by rw [hv]; rfl)
  ·exact h.rows.apart i k _ hlt hk (by rw [hv]; rfl) hb
structure TbM (w : World) (base g G N cap : Nat) (vb : Value) (x : Int) (vs : List Value) (M : List (List (Int × Int))) (l : List Int) : Prop where
 box : w.heap[g]? = some (.cells #[.slice (some ⟨G, 0, none⟩) N cap, vb, .int .i64 x] 142 (0, 0))
 hg : base ≤ g
 m : RMat w base (some ⟨G, 0, none⟩) N cap vs M
 b : OwnI w base vb l
section
variable {w : World} {base g G N cap : Nat} {vb : Value} {x : Int} {vs : List Value} {M : List (List (Int × Int))} {l : List Int}
theorem TbM.ext {w' : World} (h : TbM w base g G N cap vb x vs M l) (hx : Ext w w') : TbM w' base g G N cap vb x vs M l := ⟨(hx.block _ (lt_of_block h.box)).trans h.box, h.hg, h.m.ext hx, h.b.ext hx⟩
theorem TbM.own (h : TbM w base g G N cap vb x vs M l) : OwnT w base (.slice (some ⟨G, 0, none⟩) N cap) vb vs ⟨M, l, x⟩ := ⟨h.m.own, h.m.rows, h.b⟩
theorem TbM.c0 (h : TbM w base g G N cap vb x vs M l) : w.cell? ⟨g, 0, none⟩ = some (.slice (some ⟨G, 0, none⟩) N cap) := tbox0 h.box
theorem TbM.rowNe (h : TbM w base g G N cap vb x vs M l) {i : Nat} {g' : Nat} (hi : i < M.length) (hv : (vs[i]?.getD undef).ownBlock = some g') : g' ≠ g ∧ vb.ownBlock ≠ some g' := by
 have hr := h.m.rows.row i hi
 exact ⟨fun e => (ownsRow_ne hr h.box (by decide)) (by rw [hv, e]), fun e => ownsRow_apart (by decide) hr h.b g' hv e⟩
theorem TbM.inrow (h : TbM w base g G N cap vb x vs M l) {i n g' c : Nat} (hi : i < N) (hv : vs[i]?.getD undef = .slice (some ⟨g', 0, none⟩) n c) {j : Nat} (hj : j < (M[i]?.getD []).length) (p q : Int) :
 TbM ((w.setCell ⟨g', j * 2, none⟩ (.int .i64 p)).setCell ⟨g', j * 2 + 1, none⟩ (.int .i64 q)) base g G N cap vb x vs (M.set i ((M[i]?.getD []).set j (p, q))) l := by
 obtain ⟨h1, h2⟩ := h.rowNe (i := i) (g' := g') (by rw [h.m.len]; exact hi) (by rw [hv]; rfl)
 refine ⟨?_, h.hg, h.m.inrow hi hv hj p q, h.b.keep fun k hk => ?_⟩
 ·rw [heap_setCell_other _ _ _ _ h1.symm, heap_setCell_other _ _ _ _ h1.symm]; exact h.box
 ·have : k ≠ g' := fun e => h2 (by rw [hk, e])
  rw [heap_setCell_other _ _ _ _ this, heap_setCell_other _ _ _ _ this]
theorem TbM.put {w2 : World} (h : TbM w base g G N cap vb x vs M l) (hx : Ext w w2) (hb : base ≤ w.heap.size) {v : Value} {r : List (Int × Int)} (ho : OwnR w2 w.heap.size v r) {i : Nat} (hi : i < N) :
 TbM (w2.setCell ⟨G, i, none⟩ v) base g G N cap vb x (vs.set i v) (M.set i r) l := by
 have h2 := h.ext hx
 have hG : g ≠ G := fun e => (ownsRow_ne h.m.own h.box (by decide)) (by rw [e]; rfl)
 refine ⟨by rw [heap_setCell_other _ _ _ _ hG]; exact h2.box, h.hg, h.m.put hx hb ho hi, h2.b.keep fun k hk => heap_setCell_other _ _ _ _ fun e => ?_⟩
 exact ownsRow_apart (by decide) h2.b h2.m.own k hk (by subst e; rfl)
theorem TbM.putB {B n bc : Nat} (h : TbM w base g G N cap (.slice (some ⟨B, 0, none⟩) n bc) x vs M l) (i : Nat) (z : Int) :
 TbM (w.setCell ⟨B, i, none⟩ (.int .i64 z)) base g G N cap (.slice (some ⟨B, 0, none⟩) n bc) x vs M (l.set i z) := by
 have hBg : g ≠ B := fun e => (ownsRow_ne h.b h.box (by decide)) (by rw [e]; rfl)
 refine ⟨by rw [heap_setCell_other _ _ _ _ hBg]; exact h.box, h.hg, h.m.keep (fun k hk => heap_setCell_other _ _ _ _ fun e => ?_) (fun j k hj hk => heap_setCell_other _ _ _ _ fun e => ?_), h.b.set i z⟩
 ·exact ownsRow_apart (by decide) h.m.own h.b k hk (by subst e; rfl)
 ·exact ownsRow_apart (by decide) (h.m.rows.row j (by rw [h.m.len]; exact hj)) h.b k hk (by subst e; rfl)
end
def pivOr (t : Tb) (row col : Int) : Tb := (pivotT t row col).getD t
theorem pivotT_no {t : Tb} {row col : Int} (h : pivArgs t row col = false) : pivotT t row col = none := by unfold pivotT; rw [h]; rfl
theorem pivotT_yes {t : Tb} {r c : Nat} (h : pivArgs t (r : Int) (c : Int) = true) : pivotT t r c = pivotG t r c := by unfold pivotT; rw [if_pos h]; rfl
theorem pivotG_div {t : Tb} {r c : Nat} (h : divL (t.row r) (t.at r c) = none) : pivotG t r c = none := by unfold pivotG; rw [h]; rfl
theorem pivotG_main {t : Tb} {r c : Nat} {main : List (Int × Int)} (h : divL (t.row r) (t.at r c) = some main) : pivotG t r c = (pivN t r c main t.rows.length).map fun rs => ⟨rs, t.basis.set r (c : Int), t.cols⟩ := by unfold pivotG; rw [h]; rfl
theorem pivN_none {t : Tb} {r c : Nat} {main : List (Int × Int)} {k : Nat} (h : pivN t r c main k = none) : ∀ {n : Nat}, k ≤ n → pivN t r c main n = none
 | n, hn => by
   obtain ⟨d, rfl⟩ : ∃ d, n = k + d := ⟨n - k, by omega⟩
   clear hn
   induction d with
   | zero => exact h
   | succ d ih => show (pivN t r c main (k + d)).bind _ = none; rw [ih]; rfl
theorem pivN_main {t : Tb} {r c : Nat} {main : List (Int × Int)} (hr : r < t.rows.length) : ∀ {k : Nat} {M : List (List (Int × Int))}, pivN t r c main k = some M → M.length = t.rows.length ∧ M[r]?.getD [] = main
 | 0, M, h => by
   simp only [pivN, Option.some.injEq] at h
   subst h
   exact ⟨by simp, by rw [List.getElem?_set_self hr]; rfl⟩
 | k + 1, M, h => by
   simp only [pivN] at h
   cases e : pivN t r c main k with
   | none => rw [e] at h; cases h
   | some s0 =>
     rw [e] at h
     simp only [Option.bind_some] at h
     obtain ⟨h1, h2⟩ := pivN_main hr e
     unfold pivF at h
     split at h
     ·simp only [Option.some.injEq] at h; subst h; exact ⟨h1, h2⟩
     ·next hn =>
      rw [Option.map_eq_some_iff] at h
      obtain ⟨x, _, rfl⟩ := h
      refine ⟨by rw [List.length_set, h1], ?_⟩
      rw [List.getElem?_set_ne (fun e => hn (.inl e))]; exact h2
theorem pivN_skip {t : Tb} {r c : Nat} {main : List (Int × Int)} {k : Nat} {M : List (List (Int × Int))} (h : pivN t r c main k = some M) (hs : k = r ∨ t.at k c = (0, 1)) : pivN t r c main (k + 1) = some M := by
 simp only [pivN, h, Option.bind_some, pivF, if_pos hs]
theorem pivN_go {t : Tb} {r c : Nat} {main : List (Int × Int)} {k : Nat} {M : List (List (Int × Int))} (h : pivN t r c main k = some M) (hs : ¬ (k = r ∨ t.at k c = (0, 1))) : pivN t r c main (k + 1) = (sclL (t.row k) (negR (t.at k c)) main).map fun x => M.set k x := by
 simp only [pivN, h, Option.bind_some, pivF, if_neg hs]
theorem divMid {r m : List (Int × Int)} {j : Nat} {q : Int × Int} (hm : m.length = j) (hj : j < r.length) : (m ++ r.drop j).set j q = (m ++ [q]) ++ r.drop (j + 1) := by
 rw [List.set_append_right _ _ (by omega), hm, Nat.sub_self, List.drop_eq_getElem_cons hj, List.set_cons_zero, List.append_assoc]; rfl
end Go.Proofs.YtgohdmnbnhehnaaGreat
