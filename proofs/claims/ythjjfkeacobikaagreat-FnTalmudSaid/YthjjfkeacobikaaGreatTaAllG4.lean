import Derived.Test.YthjjfkeacobikaaGreatTaAllG3
import Derived.Test.YthjjfkeacobikaaGreatTaAllG0
import Derived.StillTail
import Derived.Deep.RegionHeld3
import Derived.Test.YthjjfkeacobikaaGreatTaAllG2
set_option linter.unusedVariables false
set_option linter.unusedSimpArgs false
namespace Go.Proofs.YthjjfkeacobikaaGreat
set_option maxRecDepth 100000
open Go.RowKit
structure BS (w wr : World) (cb gb rb : Nat) (x : Int) (a : Option Addr) (m cap : Nat) (V : List Int) : Prop where
 cur : Cur wr cb
 gbk : wr.heap[gb]? = some (.cells #[.int .i64 x, .slice a m cap] 29 (0, 0))
 rbk : wr.heap[rb]? = some (.cells #[.int .i64 0, .slice none 0 0] 29 (0, 0))
 grown : w.grownBy wr (some cb)
 own : OwnI wr w.heap.size (.slice a m cap) V
 apart : gb ≠ cb ∧ rb ≠ cb ∧ rb ≠ gb ∧ w.heap.size ≤ gb ∧ w.heap.size ≤ rb
 free : ∀ k, (Value.slice a m cap).ownBlock = some k → k ≠ gb ∧ k ≠ rb
section
variable {P : Program} {ops : Array Oper} {Q : Exit → Act → World → Prop} {md : Region.Mode} {S : World → Prop} {M : List Nat}
def Fresh (M : List Nat) (listed : Array Bool) : Prop := ∀ j ∈ M, listed.getD j true = false
theorem Fresh.set {M : List Nat} {listed : Array Bool} {i : Nat} (h : Fresh M listed) (hi : i ∉ M) : Fresh M (listed.setIfInBounds i true) := fun j hj => by
 rw [getD_set_ne true (show i ≠ j from fun e => hi (by rw [e]; exact hj))]; exact h j hj
theorem Fresh.unset {M : List Nat} {listed : Array Bool} {i : Nat} (h : Fresh M (listed.setIfInBounds i true)) (hi : i ∉ M) : Fresh M listed := fun j hj => by
 have := h j hj
 rwa [getD_set_ne true (show i ≠ j from fun e => hi (by rw [e]; exact hj))] at this
def lateAny (P : Program) (md : Region.Mode) (ops : Array Oper) (Q : Exit → Act → World → Prop) (M : List Nat) (S : World → Prop) : Nat → Array Bool → Act → World → Prop
 | 0, listed, a, w => Region.ready md ops listed = [] ∧ Q .normal a w
 | f + 1, listed, a, w => (Region.ready md ops listed = [] → Q .normal a w) ∧
   ∀ i ∈ Region.ready md ops listed, wpOp P ops Q i (fun a' w' => (Fresh M (listed.setIfInBounds i true) → S w') ∧ lateAny P md ops Q M S f (listed.setIfInBounds i true) a' w') a w
theorem lateAny.any : ∀ {f : Nat} {listed : Array Bool} {a : Act} {w : World}, lateAny P md ops Q M S f listed a w → wpAny P md ops Q f listed a w
 | 0, _, _, _, h => h
 | f + 1, _, _, _, h => ⟨h.1, fun i hi => wpOp_mono (fun a' w' h' => lateAny.any h'.2) (h.2 i hi)⟩
theorem late_first {i : Nat} {oi : Oper} {v : Value} {T : World → Prop} (hi : ops[i]? = some oi) (hsel : ∀ (j : Nat) (o : Oper) cs b, ops[j]? = some o → o.op ≠ .select cs b)
 (hQ : ∀ c a w, Q (.panic c) (a.put oi.dst v) w → Q (.panic c) a w) (hiM : i ∉ M)
 (hT : (∀ w, T w) ∨ ((∀ w, S w → T w) ∧ ∀ j ∈ M, ∀ oj, ops[j]? = some oj → ∃ e ∈ oj.after, Region.binds md e = true ∧ e.on = i)) :
 ∀ (f : Nat) (listed : Array Bool) (a : Act) (w : World),
   (∀ j oj, ops[j]? = some oj → j ≠ i → listed.getD j true = false → (∀ e ∈ oj.after, Region.binds md e = true → e.on ≠ i) → oi.apart ops oj = true) →
   i ∈ Region.ready md ops listed → YieldsIf P ops T oi v a → (Fresh M listed → S w) → ((∀ w, T w) ∨ Fresh M listed) →
   lateAny P md ops Q M S f (listed.setIfInBounds i true) (a.put oi.dst v) w → lateAny P md ops Q M S (f + 1) listed a w := by
 have now : ∀ {listed : Array Bool} {w : World}, (Fresh M listed → S w) → ((∀ w, T w) ∨ Fresh M listed) → T w := fun {listed w} h1 h2 => by
  rcases h2 with h2 | h2
  ·exact h2 w
  ·rcases hT with h3 | h3
   ·exact h3 w
   ·exact h3.1 w (h1 h2)
 intro f
 induction f with
 | zero =>
   intro listed a w _ hr hy hS hF H
   refine ⟨fun h => absurd hr (by rw [h]; exact List.not_mem_nil), fun j hj => ?_⟩
   by_cases hji : j = i
   ·subst hji; exact hy.wpOp hi (now hS hF) ⟨fun h => hS (h.unset hiM), H⟩
   ·exact absurd (ready_mono hj hji) (by rw [H.1]; exact List.not_mem_nil)
 | succ f ih =>
   intro listed a w hfree hr hy hS hF H
   refine ⟨fun h => absurd hr (by rw [h]; exact List.not_mem_nil), fun j hj => ?_⟩
   by_cases hji : j = i
   ·subst hji; exact hy.wpOp hi (now hS hF) ⟨fun h => hS (h.unset hiM), H⟩
   ·obtain ⟨hjun, oj, hoj, hall⟩ := mem_ready.1 hj
    have hnot : ∀ e ∈ oj.after, Region.binds md e = true → e.on ≠ i := fun e he hb heq => by
     have h1 := hall e he hb
     have h0 := (mem_ready.1 hr).1
     rw [heq] at h1
     rcases Nat.lt_or_ge i listed.size with h' | h'
     ·simp [h'] at h0 h1; rw [h0] at h1; cases h1
     ·simp [Array.getElem?_eq_none h'] at h1
    have step := wpOp_putIf hoj (hfree j oj hoj hji hjun hnot) (fun cs b => hsel i oi cs b hi) (fun cs b => hsel j oj cs b hoj) hQ hy (H.2 j (ready_mono hj hji))
    have hfree' : ∀ k ok, ops[k]? = some ok → k ≠ i → (listed.setIfInBounds j true).getD k true = false →
     (∀ e ∈ ok.after, Region.binds md e = true → e.on ≠ i) → oi.apart ops ok = true := fun k ok hk hki hun hno => by
     refine hfree k ok hk hki ?_ hno
     by_cases hjk : j = k
     ·rw [← hjk]; exact hjun
     ·rwa [getD_set_ne true hjk] at hun
    have hF' : (∀ w, T w) ∨ Fresh M (listed.setIfInBounds j true) := by
     rcases hF with h2 | h2
     ·exact .inl h2
     ·rcases hT with h3 | h3
      ·exact .inl h3
      ·refine .inr (h2.set fun hjM => ?_)
       obtain ⟨e, he, hb, ho⟩ := h3.2 j hjM oj hoj
       exact hnot e he hb ho
    have e1 : (listed.setIfInBounds i true).setIfInBounds j true = (listed.setIfInBounds j true).setIfInBounds i true := Array.setIfInBounds_comm _ _ (Ne.symm hji)
    rw [e1] at step
    exact wpOp_mono (fun a' w' h3 => ⟨fun hFr => h3.2.1 (hFr.set hiM), ih (listed.setIfInBounds j true) a' w' hfree' (ready_mono hr (Ne.symm hji)) h3.1 (fun hFr => h3.2.1 (hFr.set hiM)) hF' h3.2.2⟩) step
def waitsB (md : Region.Mode) (ops : Array Oper) (M : List Nat) (i : Nat) : Bool := M.all fun j => Region.waitsFor md ops j i
theorem late_load {i : Nat} {oi : Oper} {v : Value} {f : Nat} {listed : Array Bool} {a : Act} {w : World} (hi : ops[i]? = some oi)
 (hs : Region.noSelect ops = true) (hf : Region.free md ops listed i = true) (hr : (Region.ready md ops listed).contains i = true) (hM : M.contains i = false) (hw : waitsB md ops M i = true) (hfr : M.all (fun j => !listed.getD j true) = true)
 (hQ : ∀ c a w, Q (.panic c) (a.put oi.dst v) w → Q (.panic c) a w) (hy : YieldsIf P ops S oi v a) (hS : S w)
 (h : lateAny P md ops Q M S f (listed.setIfInBounds i true) (a.put oi.dst v) w) : lateAny P md ops Q M S (f + 1) listed a w := by
 refine late_first (T := S) hi (Region.noSelect_spec hs) hQ (by intro h'; rw [List.contains_eq_mem, decide_eq_false_iff_not] at hM; exact hM h') (.inr ⟨fun _ h => h, fun j hj oj hoj => ?_⟩) f listed a w (Region.free_spec hi hf) (by simpa using hr) hy (fun _ => hS) (.inr fun j hj => ?_) h
 ·have h1 := List.all_eq_true.1 hw j hj
  obtain ⟨oj', h2, e, he, hb, ho⟩ := Region.waitsFor_spec h1
  rw [hoj] at h2
  cases h2
  exact ⟨e, he, hb, ho⟩
 ·have := List.all_eq_true.1 hfr j hj
  simpa using this
theorem late_pure {i : Nat} {oi : Oper} {v : Value} {f : Nat} {listed : Array Bool} {a : Act} {w : World} (hi : ops[i]? = some oi)
 (hs : Region.noSelect ops = true) (hf : Region.free md ops listed i = true) (hr : (Region.ready md ops listed).contains i = true) (hM : M.contains i = false)
 (hQ : ∀ c a w, Q (.panic c) (a.put oi.dst v) w → Q (.panic c) a w) (hy : YieldsIf P ops (fun _ => True) oi v a) (hS : S w)
 (h : lateAny P md ops Q M S f (listed.setIfInBounds i true) (a.put oi.dst v) w) : lateAny P md ops Q M S (f + 1) listed a w :=
 late_first (T := fun _ => True) hi (Region.noSelect_spec hs) hQ (by intro h'; rw [List.contains_eq_mem, decide_eq_false_iff_not] at hM; exact hM h') (.inl fun _ => trivial) f listed a w (Region.free_spec hi hf) (by simpa using hr) hy (fun _ => hS) (.inl fun _ => trivial) h
theorem late_one {i : Nat} {oi : Oper} {f : Nat} {listed : Array Bool} {a : Act} {w w' : World} (hi : ops[i]? = some oi) (hr : Region.ready md ops listed = [i]) (hM : M.contains i = true) (hl : i < listed.size)
 (hw : Region.wanted oi (yielded ops a.tmps) = true) (hrun : (execOp a.eval oi).run P w = .ok .skip w')
 (h : lateAny P md ops Q M S f (listed.setIfInBounds i true) (a.put oi.dst undef) w') : lateAny P md ops Q M S (f + 1) listed a w := by
 refine ⟨fun h0 => absurd (hr.symm.trans h0) (by simp), fun j hj => ?_⟩
 rw [hr] at hj
 obtain rfl : j = i := by simpa using hj
 unfold wpOp
 simp only [hi, hw, if_true]
 refine .inl ?_
 unfold Oper.wp
 rw [hrun]
 refine ⟨fun hF => absurd (hF j (by simpa using hM)) ?_, h⟩
 simp [hl]
theorem late_step {i : Nat} {oi : Oper} {f : Nat} {listed : Array Bool} {a : Act} {w : World} (hi : ops[i]? = some oi) (hr : Region.ready md ops listed = [i]) (hw : Region.wanted oi (yielded ops a.tmps) = true)
 (h : ∀ K' : Act → World → Prop, Shut (∀ a w, (Fresh M (listed.setIfInBounds i true) → S w) → lateAny P md ops Q M S f (listed.setIfInBounds i true) a w → K' a w) → Oper.wp P oi a w K' Q) : lateAny P md ops Q M S (f + 1) listed a w := by
 refine ⟨fun h0 => absurd (hr.symm.trans h0) (by simp), fun j hj => ?_⟩
 rw [hr] at hj
 obtain rfl : j = i := by simpa using hj
 refine wpOp_step hi (fun K' hK => ?_)
 rw [if_pos hw]
 exact h K' (fun a w h1 h2 => hK a w ⟨h1, h2⟩)
theorem lp (i : Nat) {oi : Oper} {v : Value} {f : Nat} {listed l' : Array Bool} {a a' : Act} {w : World} (h : lateAny P md ops Q M S f l' a' w) (hi : ops[i]? = some oi := by simp only [gA, gB, gC]; rfl) (hs : Region.noSelect ops = true := by kernel_rfl)
 (hf : Region.free md ops listed i = true := by kernel_rfl) (hr : (Region.ready md ops listed).contains i = true := by kernel_rfl) (hM : M.contains i = false := by kernel_rfl) (hQ : ∀ c a w, Q (.panic c) (a.put oi.dst v) w → Q (.panic c) a w := by exact fun _ _ _ h => h)
 (hy : YieldsIf P ops (fun _ => True) oi v a := by (refine Or.inl ⟨by rfl, ?_⟩; intro w hSw; (try dsimp only at hSw); go_simp; (try with_reducible rfl))) (hS : S w := by assumption)
 (hl : listed.setIfInBounds i true = l' := by (try simp only [sA, sB, sC]); rfl) (ha : a.put oi.dst v = a' := by (try simp only [Act.put, sA, sB, sC]); rfl) : lateAny P md ops Q M S (f + 1) listed a w := by subst hl ha; exact late_pure hi hs hf hr hM hQ hy hS h
theorem ll (i : Nat) {oi : Oper} {v : Value} {f : Nat} {listed l' : Array Bool} {a a' : Act} {w : World} (h : lateAny P md ops Q M S f l' a' w) (hi : ops[i]? = some oi := by simp only [gA, gB, gC]; rfl) (hs : Region.noSelect ops = true := by kernel_rfl)
 (hf : Region.free md ops listed i = true := by kernel_rfl) (hr : (Region.ready md ops listed).contains i = true := by kernel_rfl) (hM : M.contains i = false := by kernel_rfl) (hD : waitsB md ops M i = true := by kernel_rfl) (hE : M.all (fun j => !listed.getD j true) = true := by kernel_rfl) (hQ : ∀ c a w, Q (.panic c) (a.put oi.dst v) w → Q (.panic c) a w := by exact fun _ _ _ h => h)
 (hy : YieldsIf P ops S oi v a := by (refine Or.inl ⟨by rfl, ?_⟩; intro w hSw; (try dsimp only at hSw); go_simp; (try with_reducible rfl))) (hS : S w := by assumption)
 (hl : listed.setIfInBounds i true = l' := by (try simp only [sA, sB, sC]); rfl) (ha : a.put oi.dst v = a' := by (try simp only [Act.put, sA, sB, sC]); rfl) : lateAny P md ops Q M S (f + 1) listed a w := by subst hl ha; exact late_load hi hs hf hr hM hD hE hQ hy hS h
theorem late_done {listed : Array Bool} {a : Act} {w : World} (hr : Region.ready md ops listed = []) (h : Q .normal a w) : ∀ f, lateAny P md ops Q M S f listed a w
 | 0 => ⟨hr, h⟩
 | _ + 1 => ⟨fun _ => h, fun i hi => absurd hi (by rw [hr]; exact List.not_mem_nil)⟩
theorem late_begin {id : Nat} {a : Act} {w : World} (hm : P.follows .mixedOrders = true) (h : lateAny P .any ops Q M S ops.size (Array.replicate ops.size false) a w.drew) : (Code.region id ops true).wp P Q a w :=
 wp_region_any hm h.any
end
end Go.Proofs.YthjjfkeacobikaaGreat
namespace Go.Proofs.YthjjfkeacobikaaGreat
set_option maxRecDepth 100000
open Go.RowKit
abbrev Bx := Nat → Option (Array Value × TypeId)
def Bx.nil : Bx := fun _ => none
def Bx.upd (f : Bx) (b : Nat) (p : Array Value × TypeId) : Bx := fun k => if k = b then some p else f k
theorem Bx.same (f : Bx) (b : Nat) (p : Array Value × TypeId) : f.upd b p b = some p := by unfold Bx.upd; rw [if_pos rfl]
theorem Bx.other (f : Bx) {b k : Nat} (p : Array Value × TypeId) (h : k ≠ b) : f.upd b p k = f k := by unfold Bx.upd; rw [if_neg h]
structure Bxs (w wr : World) (cb : Nat) (f : Bx) : Prop where
 cur : Cur wr cb
 grown : w.grownBy wr (some cb)
 box : ∀ b p, f b = some p → wr.heap[b]? = some (.cells p.1 p.2 (0, 0)) ∧ b ≠ cb ∧ w.heap.size ≤ b
 dry : ∀ b p, f b = some p → ∀ (j : Nat) (y : Int), p.1[j]? ≠ some (Value.int .u8 y)
section
variable {w wr w' : World} {cb b : Nat} {f : Bx} {p : Array Value × TypeId}
theorem Bxs.lt (h : Bxs w wr cb f) (hf : f b = some p) : b < wr.heap.size := lt_of_block (h.box b p hf).1
theorem Bxs.call (h : Bxs w wr cb f) (hc : Cur w' cb) (hg : wr.grownBy w' (some cb)) : Bxs w w' cb f :=
 ⟨hc, grown_two h.grown hg, fun b p hf => ⟨(grown_block hg (h.lt hf) (h.box b p hf).2.1).trans (h.box b p hf).1, (h.box b p hf).2⟩, h.dry⟩
theorem Bxs.ext (h : Bxs w wr cb f) (hx : Ext wr w') : Bxs w w' cb f := h.call (h.cur.ext hx) (grown_ext _ hx)
theorem Bxs.cell (h : Bxs w wr cb f) (hf : f b = some p) (i : Nat) : wr.cell? ⟨b, i, none⟩ = p.1[i]? := cell_of_row wr b i _ _ _ (h.box b p hf).1
theorem Bxs.c0 {x0 x1 : Value} {t : TypeId} (h : Bxs w wr cb f) (hf : f b = some (#[x0, x1], t)) : wr.cell? ⟨b, 0, none⟩ = some x0 := h.cell hf 0
theorem Bxs.c1 {x0 x1 : Value} {t : TypeId} (h : Bxs w wr cb f) (hf : f b = some (#[x0, x1], t)) : wr.cell? ⟨b, 1, none⟩ = some x1 := h.cell hf 1
theorem Bxs.free (h : Bxs w wr cb f) (hf : f b = some p) (i : Nat) : wr.frozen? ⟨b, i, none⟩ = false := frozen_of_row wr b i _ _ (h.box b p hf).1
theorem Bxs.start (hc : Cur wr cb) (hg : w.grownBy wr (some cb)) : Bxs w wr cb Bx.nil := ⟨hc, hg, fun _ _ h => (by cases h), fun _ _ h => (by cases h)⟩
theorem Bxs.add (h : Bxs w wr cb f) (b : Nat) (arr : Array Value) (t : TypeId) (hb : wr.heap[b]? = some (.cells arr t (0, 0))) (hne : b ≠ cb) (hw : w.heap.size ≤ b) (hd : ∀ (j : Nat) (y : Int), arr[j]? ≠ some (Value.int .u8 y)) : Bxs w wr cb (f.upd b (arr, t)) := by
 refine ⟨h.cur, h.grown, fun k p hf => ?_, fun k p hf => ?_⟩
 all_goals
  by_cases e : k = b
  ·subst e
   rw [Bx.same] at hf
   cases hf
   first | exact ⟨hb, hne, hw⟩ | exact hd
  ·rw [Bx.other _ _ e] at hf
   first | exact h.box k p hf | exact h.dry k p hf
theorem Bxs.new (h : Bxs w wr cb f) (arr : Array Value) (t : TypeId) (hd : ∀ (j : Nat) (y : Int), arr[j]? ≠ some (Value.int .u8 y)) : Bxs w (wr.alloc (.cells arr t)) cb (f.upd wr.heap.size (arr, t)) :=
 (h.ext (Ext.alloc wr _)).add _ _ _ (heap_alloc_new _ _) (by have := h.cur.lt; omega) h.grown.size hd
theorem Bxs.put (h : Bxs w wr cb f) (hf : f b = some p) (i : Nat) (v : Value) (hv : ∀ y : Int, v ≠ Value.int .u8 y) : Bxs w (wr.setCell ⟨b, i, none⟩ v) cb (f.upd b (p.1.setIfInBounds i v, p.2)) := by
 have hb := h.box b p hf
 have ho : ∀ j, j ≠ b → (wr.setCell ⟨b, i, none⟩ v).heap[j]? = wr.heap[j]? := fun j hj => heap_setCell_other _ _ _ _ hj
 have hg := h.grown
 refine ⟨h.cur.put' hb.2.1 (fun j y e => ?_) i v, ⟨hg.os, hg.tape, hg.output, by simpa using hg.size, fun j hj hn => (ho j (by omega)).trans (hg.block j hj hn)⟩, fun k q hk => ?_, fun k q hk => ?_⟩
 ·rw [h.cell hf] at e; exact h.dry b p hf j y e
 ·by_cases e : k = b
  ·subst e
   rw [Bx.same] at hk
   cases hk
   exact ⟨heap_setCell_same wr k i _ _ v hb.1, hb.2⟩
  ·rw [Bx.other _ _ e] at hk
   have := h.box k q hk
   exact ⟨(ho k e).trans this.1, this.2⟩
 ·by_cases e : k = b
  ·subst e
   rw [Bx.same] at hk
   cases hk
   intro j y ej
   simp only [Array.getElem?_setIfInBounds] at ej
   split at ej
   ·split at ej
    ·exact hv y (Option.some.inj ej)
    ·cases ej
   ·exact h.dry k p hf j y ej
  ·rw [Bx.other _ _ e] at hk
   exact h.dry k q hk
theorem Bxs.put2 {x0 x1 : Value} {t : TypeId} (h : Bxs w wr cb f) (hf : f b = some (#[x0, x1], t)) (v0 v1 : Value) (h0 : ∀ y : Int, v0 ≠ Value.int .u8 y) (h1 : ∀ y : Int, v1 ≠ Value.int .u8 y) :
 Bxs w ((wr.setCell ⟨b, 0, none⟩ v0).setCell ⟨b, 1, none⟩ v1) cb (f.upd b (#[v0, v1], t)) := by
 have h2 := (h.put hf 0 v0 h0).put (Bx.same _ _ _) 1 v1 h1
 refine ⟨h2.cur, h2.grown, fun k p hk => h2.box k p ?_, fun k p hk => h2.dry k p ?_⟩
 all_goals
  by_cases e : k = b
  ·subst e; rw [Bx.same] at hk ⊢; rw [← hk]; rfl
  ·rw [Bx.other _ _ e] at hk; rw [Bx.other _ _ e, Bx.other _ _ e]; exact hk
theorem OwnI.calls {base : Nat} {v : Value} {V : List Int} (ho : OwnI wr base v V) (hg : wr.grownBy w' (some cb)) (hb : cb < base) : OwnI w' base v V :=
 ho.keep fun k hk => grown_block hg (ho.lt k hk).2 (by have := (ho.lt k hk).1; omega)
theorem OwnI.put2 {base : Nat} {v : Value} {V : List Int} (ho : OwnI wr base v V) (hb : b < base) (v0 v1 : Value) : OwnI ((wr.setCell ⟨b, 0, none⟩ v0).setCell ⟨b, 1, none⟩ v1) base v V :=
 ((OwnI.on ho).set hb v0 |>.set (a := ⟨b, 1, none⟩) hb v1).here
theorem Cur.puts {k : Nat} {u : Value} (h : Cur wr cb) (hne : b ≠ cb) (hb : wr.cell? ⟨b, k, none⟩ = some u) (hu : ∀ y : Int, u ≠ Value.int .u8 y) (v : Value) : Cur (wr.setCell ⟨b, k, none⟩ v) cb := by
 obtain ⟨ba, bn, bc, i, x, h1, h2, h3, h4, h5⟩ := h
 refine ⟨ba, bn, bc, i, x, (heap_setCell_other _ _ _ _ (Ne.symm hne)).trans h1, ⟨h2.hcap, h2.hmax, fun j hj => ?_⟩, h3, h4, h5⟩
 obtain ⟨b', off, e, hc⟩ := h2.cell j hj
 refine ⟨b', off, e, fun j hj => ?_⟩
 obtain ⟨y, hy, hy1⟩ := hc j hj
 refine ⟨y, (World.cell?_setCell_other _ _ _ _ fun e2 => ?_).trans hy, hy1⟩
 rw [e2, hy] at hb
 exact hu y (Option.some.inj hb).symm
theorem Bxs.putr {k : Nat} {u : Value} (h : Bxs w wr cb f) (hne : b ≠ cb) (hw : w.heap.size ≤ b) (hf : f b = none) (hb : wr.cell? ⟨b, k, none⟩ = some u) (hu : ∀ y : Int, u ≠ Value.int .u8 y) (v : Value) : Bxs w (wr.setCell ⟨b, k, none⟩ v) cb f := by
 have ho : ∀ j, j ≠ b → (wr.setCell ⟨b, k, none⟩ v).heap[j]? = wr.heap[j]? := fun j hj => heap_setCell_other _ _ _ _ hj
 have hg := h.grown
 refine ⟨h.cur.puts hne hb hu v, ⟨hg.os, hg.tape, hg.output, by simpa using hg.size, fun j hj hn => (ho j (by omega)).trans (hg.block j hj hn)⟩, fun j q hq => ?_, h.dry⟩
 have := h.box j q hq
 exact ⟨(ho j fun e => by subst e; rw [hf] at hq; cases hq).trans this.1, this.2⟩
theorem Cur.above (h : Cur wr cb) (hk : ∀ k, k ≤ cb → w'.heap[k]? = wr.heap[k]?) : Cur w' cb := by
 obtain ⟨ba, bn, bc, i, x, h1, h2, h3, h4, h5⟩ := h
 refine ⟨ba, bn, bc, i, x, (hk cb (Nat.le_refl _)).trans h1, ⟨h2.hcap, h2.hmax, fun j hj => ?_⟩, h3, h4, h5⟩
 obtain ⟨b', off, e, hc⟩ := h2.cell j hj
 refine ⟨b', off, e, fun j hj => ?_⟩
 obtain ⟨y, hy, hy1⟩ := hc j hj
 exact ⟨y, (cell_same (hk b' (Nat.le_of_lt (h5 b' off e (by omega)))) _).trans hy, hy1⟩
theorem Bxs.grew {r : Option Nat} (h : Bxs w wr cb f) (hg : wr.grownBy w' r) (hr : ∀ k, r = some k → cb < k ∧ w.heap.size ≤ k ∧ f k = none) : Bxs w w' cb f := by
 have hl := h.cur.lt
 refine ⟨h.cur.above fun k hk => hg.block k (by omega) (fun e => by have := (hr k e.symm).1; omega), ?_, fun b p hb => ?_, h.dry⟩
 ·have h0 := h.grown
  exact ⟨hg.os.trans h0.os, hg.tape.trans h0.tape, hg.output.trans h0.output, Nat.le_trans h0.size hg.size, fun j hj hn => (hg.block j (by have := h0.size; omega) (fun e => by have := (hr j e.symm).2.1; omega)).trans (h0.block j hj hn)⟩
 ·have := h.box b p hb
  exact ⟨(hg.block b (h.lt hb) (fun e => by have := (hr b e.symm).2.2; rw [this] at hb; cases hb)).trans this.1, this.2⟩
theorem Bxs.all (h : Bxs w wr cb f) (hcb : w.heap.size ≤ cb) : Ext w wr := ext_grown (Ext.refl w) h.grown (fun k hk => by have := Option.some.inj hk; omega)
end
theorem pair_dry (x : Int) (s : Value) (hs : ∀ y : Int, s ≠ Value.int .u8 y) : ∀ (j : Nat) (y : Int), (#[Value.int .i64 x, s] : Array Value)[j]? ≠ some (Value.int .u8 y) := fun j y e => by
 match j with
 | 0 => simp at e
 | 1 => exact hs y (by simpa using e)
 | j + 2 => simp at e
theorem slice_dry (a : Option Addr) (n c : Nat) : ∀ y : Int, Value.slice a n c ≠ Value.int .u8 y := fun y e => by cases e
theorem i64_dry (x : Int) : ∀ y : Int, Value.int .i64 x ≠ Value.int .u8 y := fun y e => by cases e
end Go.Proofs.YthjjfkeacobikaaGreat
namespace Go.Proofs.YthjjfkeacobikaaGreat
open Go.RowKit
set_option maxHeartbeats 400000 in
theorem s_l8Ints {w : World} {a a' : Option Addr} {n n' cap cap' : Nat} {l l' : List Int} (h : Ints w a n cap l) (h' : Ints w a' n' cap' l') :
 Calls Tryz.prog 77 #[.slice a n cap, .slice a' n' cap'] w fun e w' => e = .returned (.bool (decide (l = l'))) ∧ Drew w w' := by
 have hn := h.hcap
 have hm := h.hmax
 have hn' := h'.hcap
 have hm' := h'.hmax
 have HL := Lib.hid h.hlen
 have HL' := Lib.hid h'.hlen
 by_cases hne : n = n'
 ·subst hne
  go_enter Tryz.func77, Tryz.ntmps77
  go_wp2
  go_loopw [5] (fun i wr => ∃ k : Nat, k ≤ n ∧ i = .int .i64 k ∧ l.take k = l'.take k ∧ Drew w wr) (fun i _ => n - (intOf i).toNat)
  case atStart => exact ⟨0, Nat.zero_le _, rfl, rfl, Drew.refl _⟩
  case round =>
   obtain ⟨k, hk, rfl, htk, hx⟩ := hrel
   have HT := Lib.hid htk
   clear htk
   by_cases hlt : k < n
   ·have h1 := h.ext hx.ext
    have h1' := h'.ext hx.ext
    obtain ⟨b, off, rfl, hc⟩ := h1.at hlt
    obtain ⟨b', off', rfl, hc'⟩ := h1'.at hlt
    by_cases hq : l[k]?.getD 0 = l'[k]?.getD 0
    ·have HQ := Lib.hid hq
     have hq1 : (l[k]?.getD 0 != l'[k]?.getD 0) = false := by simp [hq]
     clear hq
     go_wp2
     go_quiet (fail)
     go_wp2
     go_roundw
     case rel => exact ⟨k + 1, by omega, by go_num, by rw [take_snoc (by have := HL.out; omega), take_snoc (by have := HL'.out; omega), HT.out, HQ.out], hx.trans ⟨_, rfl⟩⟩
     case measure => simp [intOf]; omega
    ·have HQ := Lib.hid hq
     have hq1 : (l[k]?.getD 0 != l'[k]?.getD 0) = true := by simp [hq]
     clear hq
     go_wp2
     go_quiet (fail)
     go_wp2
     go_ret
     refine ⟨ret_bool ?_, hx.trans ⟨_, rfl⟩⟩
     symm
     rw [decide_eq_false_iff_not]
     intro e
     exact HQ.out (by rw [e])
   ·go_wp2
    go_ret
    refine ⟨ret_bool ?_, hx⟩
    symm
    rw [decide_eq_true_eq]
    have := HT.out
    rwa [List.take_of_length_le (by have := HL.out; omega), List.take_of_length_le (by have := HL'.out; omega)] at this
 ·have hne' : ((n : Int) != (n' : Int)) = true := by simp; omega
  have HN := Lib.hid hne
  clear hne
  go_enter Tryz.func77, Tryz.ntmps77
  go_wp2
  go_ret
  refine ⟨ret_bool ?_, Drew.refl _⟩
  symm
  rw [decide_eq_false_iff_not]
  intro e
  exact HN.out (by rw [← HL.out, ← HL'.out, e])
def gameOk (p : Int) (l : List Int) : Bool := l.all (fun x => inB x (-500) 500) && (inB p 1 5 && (decide ((l.length : Int) = cntC p) && decide (l[0]?.getD 0 = 0)))
theorem gameOk_len {p : Int} {l : List Int} (h : gameOk p l = true) : ∃ n : Nat, p = n ∧ 1 ≤ n ∧ n ≤ 5 ∧ l.length = cN n ∧ l[0]?.getD 0 = 0 ∧ ∀ x ∈ l, -500 ≤ x ∧ x ≤ 500 := by
 unfold gameOk at h
 simp only [Bool.and_eq_true, decide_eq_true_eq] at h
 obtain ⟨ha, hp, hl, h0⟩ := h
 have hb : 1 ≤ p ∧ p ≤ 5 := by unfold inB at hp; simpa using hp
 refine ⟨p.toNat, by omega, by omega, by omega, ?_, h0, ?_⟩
 ·have : p = (p.toNat : Int) := by omega
  rw [this, cntC_nat _ (by omega)] at hl
  omega
 ·intro x hx
  have := List.all_eq_true.1 ha x hx
  unfold inB at this
  simpa using this
set_option maxHeartbeats 1000000 in
theorem s_IsValidGame {w : World} {p : Int} {a : Option Addr} {n cap : Nat} {l : List Int} (h : Ints w a n cap l) :
 Calls Tryz.prog 89 #[pair p a n cap] w fun e w' => e = .returned (.bool (gameOk p l)) ∧ Ext w w' := by
 have h1 := h.alloc (.cells #[.int .i64 p, .slice a n cap] 29)
 have hn := h.hcap
 have hm := h.hmax
 have HL := Lib.hid h.hlen
 clear h
 go_enter Tryz.func89, Tryz.ntmps89
 go_wp2
 go_loop [3] (fun i => ∃ k : Nat, k ≤ n ∧ i = .int .i64 k ∧ (l.take k).all (fun x => inB x (-500) 500) = true) (fun i => n - (intOf i).toNat)
 case atStart => exact ⟨0, Nat.zero_le _, rfl, rfl⟩
 case round =>
  obtain ⟨k, hk, rfl, hall⟩ := hrel
  have HA := Lib.hid hall
  clear hall
  by_cases hlt : k < n
  ·obtain ⟨b, off, rfl, hc⟩ := h1.at hlt
   cases hb : inB (l[k]?.getD 0) (-500) 500
   ·have HB := Lib.hid hb
    go_wp2_with (first | (go_at_call 95; refine (s_l1In _ _ _ _).mono ?_; rintro e w' ⟨rfl, rfl⟩))
    go_ret
    refine ⟨ret_bool ?_, Ext.alloc _ _⟩
    symm
    unfold gameOk
    cases hx : l.all (fun x => inB x (-500) 500)
    ·rfl
    ·have := all_get hx (k := k) (by have := HL.out; omega); rw [HB.out] at this; cases this
   ·have HB := Lib.hid hb
    go_wp2_with (first | (go_at_call 95; refine (s_l1In _ _ _ _).mono ?_; rintro e w' ⟨rfl, rfl⟩))
    go_round
    case rel => exact ⟨k + 1, by omega, by go_num, by rw [take_snoc (by have := HL.out; omega), List.all_append, HA.out]; simpa using HB.out⟩
    case measure => simp [intOf]; omega
  ·have hkn : k = l.length := by have := HL.out; omega
   have hall := HA.out
   rw [hkn, List.take_length] at hall
   have HALL := Lib.hid hall
   clear hall hkn
   cases hp : inB p 1 5
   ·have HP := Lib.hid hp
    go_wp2
    go_quiet ((first | (go_at_call 95; exact quiet_same (s_l1In _ _ _ _)) | (go_at_call 73; exact quiet_same (s_CountCoalitions _ _))))
    go_wp2
    go_ret
    exact ⟨ret_bool (by unfold gameOk; rw [HALL.out, HP.out]; rfl), below_drewN (Ext.alloc _ _) _⟩
   ·have HP := Lib.hid hp
    cases hl : ((n : Int) == cntC p)
    ·have HE := Lib.hid hl
     go_wp2
     go_quiet ((first | (go_at_call 95; exact quiet_same (s_l1In _ _ _ _)) | (go_at_call 73; exact quiet_same (s_CountCoalitions _ _))))
     go_wp2
     go_ret
     refine ⟨ret_bool ?_, below_drewN (Ext.alloc _ _) _⟩
     have : ¬ ((l.length : Int) = cntC p) := by rw [HL.out]; have := HE.out; simpa using this
     unfold gameOk; rw [decide_eq_false this]; simp
    ·have HE := Lib.hid hl
     have hpos : 0 < n := by
      have h1 : 1 ≤ p ∧ p ≤ 5 := by unfold inB at hp; simpa using hp
      have h2 : (n : Int) = cntC p := by simpa using hl
      unfold cntC at h2
      rw [if_pos (by unfold inB; simp; omega)] at h2
      have := pow_pos p.toNat
      omega
     obtain ⟨b, off, rfl, hc⟩ := h1.at hpos
     rw [Nat.add_zero] at hc
     go_wp2
     go_quiet ((first | (go_at_call 95; exact quiet_same (s_l1In _ _ _ _)) | (go_at_call 73; exact quiet_same (s_CountCoalitions _ _))))
     go_wp2
     go_ret
     refine ⟨ret_bool ?_, below_drewN (Ext.alloc _ _) _⟩
     have he : (l.length : Int) = cntC p := by rw [HL.out]; have := HE.out; simpa using this
     unfold gameOk
     rw [HALL.out, HP.out, decide_eq_true he]
     rw [Bool.eq_iff_iff]; simp
theorem i_IsValidGame1 (x : Int) (w : World) : Calls Tryz.prog 192 #[.int .i64 x] w fun e w' => e = .returned (.bool (!inB x (-500) 500)) ∧ w = w' := by
 go_enter Tryz.func192, Tryz.ntmps192
 go_wp2_with (first | (go_at_call 80; refine (i_within _ _ _ _).mono ?_; rintro e w' ⟨rfl, rfl⟩))
 go_ret
 exact ⟨rfl, rfl⟩
theorem go_IsValidGame1 : IsGo Tryz.prog 192 := isGo Tryz.func192 (by kernel_rfl) (by kernel_rfl)
theorem asks_IsValidGame1 (w : World) : Asks Tryz.prog w 192 #[] (fun x => !inB x (-500) 500) :=
 fun x w1 _ => (i_IsValidGame1 x w1).mono fun e w' ⟨he, hw⟩ => ⟨he, hw ▸ Ext.refl _⟩
theorem gameOk_any (p : Int) (l : List Int) : gameOk p l = (inB p 1 5 && (decide ((l.length : Int) = cntC p) && (decide (l[0]?.getD 0 = 0) && !l.any (fun x => !inB x (-500) 500)))) := by
 unfold gameOk
 have : (!l.any (fun x => !inB x (-500) 500)) = l.all (fun x => inB x (-500) 500) := by rw [List.not_any_eq_all_not]; simp
 rw [this]
 cases l.all (fun x => inB x (-500) 500) <;> simp
set_option maxHeartbeats 1000000 in
theorem i_IsValidGame {w : World} {p : Int} {a : Option Addr} {n cap : Nat} {l : List Int} (h : Ints w a n cap l) :
 Calls Tryz.prog 130 #[pair p a n cap] w fun e w' => e = .returned (.bool (gameOk p l)) ∧ Ext w w' := by
 have h1 := h.alloc (.cells #[.int .i64 p, .slice a n cap] 29)
 have HX := Lib.hid (Ext.alloc w (.cells #[.int .i64 p, .slice a n cap] 29))
 have hn := h.hcap
 have hm := h.hmax
 have HL := Lib.hid h.hlen
 clear h
 cases hp : inB p 1 5
 ·have HP := Lib.hid hp
  go_enter Tryz.func130, Tryz.ntmps130
  go_wp2
  go_quiet ((first | (go_at_call 80; exact quiet_same (i_within _ _ _ _))))
  go_wp2
  go_ret
  exact ⟨ret_bool (by rw [gameOk_any, HP.out]; rfl), below_drewN (Ext.alloc _ _) _⟩
 ·have HP := Lib.hid hp
  obtain ⟨m, rfl⟩ : ∃ m : Nat, p = m := ⟨p.toNat, by unfold inB at hp; simp at hp; omega⟩
  have hm1 : 1 ≤ m ∧ m ≤ 5 := by unfold inB at hp; simp at hp; omega
  obtain ⟨hm1, hm5⟩ := hm1
  have hwp : IntKind.i64.wrap ((2 : Int) ^ m) = (cN m : Int) := by
   have h1 := pow_pos m
   have h2 := pow_le5 m hm5
   rw [IntKind.wrap_i64, cN_pow]; omega
  have hwp' : wrap64 ((2 : Int) ^ m) = (cN m : Int) := (wrap_pow m hm5).trans (cN_pow m).symm
  have HC := Lib.hid (cntC_nat m hm5)
  have hN := cN_le m hm5
  cases hl : ((n : Int) != (cN m : Int))
  ·have hnm : n = cN m := Int.ofNat.inj (show (n : Int) = (cN m : Int) by simpa using hl)
   have HNM := Lib.hid hnm
   have hpos : 0 < n := by omega
   obtain ⟨b, off, rfl, hc⟩ := h1.at hpos
   rw [Nat.add_zero] at hc
   clear hnm
   cases h0 : (l[0]?.getD 0 != 0)
   ·have HZ := Lib.hid h0
    have HI := Lib.hid h1
    go_enter Tryz.func130, Tryz.ntmps130
    go_wp2
    go_quiet ((first | (go_at_call 80; exact quiet_same (i_within _ _ _ _))))
    go_wp2_with fail
    refine (containsFunc_ints (HI.out.drewN _) go_IsValidGame1 (asks_IsValidGame1 _)).mono ?_
    rintro e w1 ⟨rfl, hx⟩
    go_wp2
    go_ret
    refine ⟨ret_bool ?_, Ext.trans (below_drewN HX.out _) hx⟩
    rw [gameOk_any, HP.out, HC.out, HL.out, HNM.out, decide_eq_true rfl]
    have : l[0]?.getD 0 = 0 := by simpa using HZ.out
    rw [decide_eq_true this]
    rfl
   ·have HZ := Lib.hid h0
    go_enter Tryz.func130, Tryz.ntmps130
    go_wp2
    go_quiet ((first | (go_at_call 80; exact quiet_same (i_within _ _ _ _))))
    go_wp2
    go_ret
    refine ⟨ret_bool ?_, below_drewN HX.out _⟩
    have : ¬ (l[0]?.getD 0 = 0) := by simpa using HZ.out
    rw [gameOk_any, decide_eq_false this]
    simp
  ·have HNE := Lib.hid hl
   go_enter Tryz.func130, Tryz.ntmps130
   go_wp2
   go_quiet ((first | (go_at_call 80; exact quiet_same (i_within _ _ _ _))))
   go_wp2
   go_ret
   refine ⟨ret_bool ?_, below_drewN HX.out _⟩
   have : ¬ ((l.length : Int) = cntC (m : Int)) := by rw [HL.out, HC.out]; have := HNE.out; simpa using this
   rw [gameOk_any, decide_eq_false this]
   simp
end Go.Proofs.YthjjfkeacobikaaGreat
