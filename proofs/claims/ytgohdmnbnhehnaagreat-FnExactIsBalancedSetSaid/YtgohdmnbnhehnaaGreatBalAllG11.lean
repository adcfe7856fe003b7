import Derived.Test.YtgohdmnbnhehnaaGreatBalAllG10
import Derived.Test.YtgohdmnbnhehnaaGreatBalAllG4
namespace Go.Proofs.YtgohdmnbnhehnaaGreat
set_option linter.unusedVariables false
set_option linter.unusedSimpArgs false
set_option maxRecDepth 100000
open Go.RowKit
structure TbC (w : World) (ra : Option Addr) (rn rc : Nat) (ba : Option Addr) (bn bc : Nat) (t : Tb) : Prop where
  rows : RatSS w ra rn rc t.rows
  basis : Ints w ba bn bc t.basis
theorem TbC.ext {w w' : World} {ra : Option Addr} {rn rc : Nat} {ba : Option Addr} {bn bc : Nat} {t : Tb} (h : TbC w ra rn rc ba bn bc t) (hx : Ext w w') : TbC w' ra rn rc ba bn bc t := ⟨h.rows.ext hx, h.basis.ext hx⟩
abbrev tbW (ra : Option Addr) (rn rc : Nat) (ba : Option Addr) (bn bc : Nat) (x : Int) : Value := .agg #[.slice ra rn rc, .slice ba bn bc, .int .i64 x]
abbrev tbBox (ra : Option Addr) (rn rc : Nat) (ba : Option Addr) (bn bc : Nat) (x : Int) : Obj := .cells #[.slice ra rn rc, .slice ba bn bc, .int .i64 x] 142
structure TbO (w : World) (base g : Nat) (va vb : Value) (x : Int) (vs : List Value) (M : List (List (Int × Int))) (l : List Int) : Prop where
  box : w.heap[g]? = some (.cells #[va, vb, .int .i64 x] 142 (0, 0))
  hg : base ≤ g
  a : OwnW w base va vs
  rows : RowsR w base vs M
  b : OwnI w base vb l
section
variable {w : World} {base g : Nat} {va vb : Value} {x : Int} {vs : List Value} {M : List (List (Int × Int))} {l : List Int}
theorem TbO.lt (h : TbO w base g va vb x vs M l) : g < w.heap.size := lt_of_block h.box
theorem TbO.ext {w' : World} (h : TbO w base g va vb x vs M l) (hx : Ext w w') : TbO w' base g va vb x vs M l :=
  ⟨(hx.block _ h.lt).trans h.box, h.hg, h.a.ext hx, h.rows.ext hx, h.b.ext hx⟩
theorem tbox0 {x y z : Value} {t : TypeId} (h : w.heap[g]? = some (.cells #[x, y, z] t (0, 0))) : w.cell? ⟨g, 0, none⟩ = some x := by rw [cell_of_row w g 0 _ _ _ h]; rfl
theorem tbox1 {x y z : Value} {t : TypeId} (h : w.heap[g]? = some (.cells #[x, y, z] t (0, 0))) : w.cell? ⟨g, 1, none⟩ = some y := by rw [cell_of_row w g 1 _ _ _ h]; rfl
theorem tbox2 {x y z : Value} {t : TypeId} (h : w.heap[g]? = some (.cells #[x, y, z] t (0, 0))) : w.cell? ⟨g, 2, none⟩ = some z := by rw [cell_of_row w g 2 _ _ _ h]; rfl
theorem tboxf {x y z : Value} {t : TypeId} (h : w.heap[g]? = some (.cells #[x, y, z] t (0, 0))) (k : Nat) : w.frozen? ⟨g, k, none⟩ = false := frozen_of_row w g k _ _ h
theorem TbO.pushA {w1 w2 : World} (h : TbO w base g va vb x vs M l) (hx : Ext w w1) {vr va' : Value} {r : List (Int × Int)} (hr : OwnR w1 w.heap.size vr r) (hbs : base ≤ w.heap.size) (hgr : w1.grownBy w2 va.ownBlock) (ho : OwnW w2 base va' (vs ++ [vr])) :
    TbO (w2.setCell ⟨g, 0, none⟩ va') base g va' vb x (vs ++ [vr]) (M ++ [r]) l := by
  have h1 := h.ext hx
  have hbox : w2.heap[g]? = some (.cells #[va, vb, .int .i64 x] 142 (0, 0)) := (hgr.block g h1.lt (ownsRow_ne h1.a h1.box (by decide))).trans h1.box
  have hset : ∀ k, k ≠ g → (w2.setCell ⟨g, 0, none⟩ va').heap[k]? = w2.heap[k]? := fun k hk => heap_setCell_other _ _ _ _ hk
  have hB2 : OwnI w2 base vb l := h1.b.keep fun k hk => hgr.block k (h1.b.lt k hk).2 fun e => ownsRow_apart (by decide) h1.b h1.a k hk e.symm
  have hR1 : RowsR w1 base (vs ++ [vr]) (M ++ [r]) := h.rows.snoc hx hr hbs
  have hR2 : RowsR w2 base (vs ++ [vr]) (M ++ [r]) := hR1.keep fun i k hi hk => hgr.block k ((hR1.row i hi).lt k hk).2 fun e => (hR1.row i hi).apart h1.a k hk e.symm
  refine ⟨?_, h.hg, ?_, ?_, ?_⟩
  · have := heap_setCell_same w2 g 0 _ _ va' hbox
    exact this
  · exact ho.keep fun k hk => hset k fun e => (ownsRow_ne ho hbox (by decide)) (by rw [hk, e])
  · exact hR2.keep fun i k hi hk => hset k fun e => (ownsRow_ne (hR2.row i hi) hbox (by decide)) (by rw [hk, e])
  · exact hB2.keep fun k hk => hset k fun e => (ownsRow_ne hB2 hbox (by decide)) (by rw [hk, e])
theorem TbO.boxA {w1 w2 : World} (h : TbO w base g va vb x vs M l) (hx : Ext w w1) (hg : w1.grownBy w2 va.ownBlock) : w2.heap[g]? = some (.cells #[va, vb, .int .i64 x] 142 (0, 0)) :=
  (hg.block g (h.ext hx).lt (ownsRow_ne (h.ext hx).a (h.ext hx).box (by decide))).trans (h.ext hx).box
theorem TbO.boxB {w1 w2 : World} (h : TbO w base g va vb x vs M l) (hx : Ext w w1) (hg : w1.grownBy w2 vb.ownBlock) : w2.heap[g]? = some (.cells #[va, vb, .int .i64 x] 142 (0, 0)) :=
  (hg.block g (h.ext hx).lt (ownsRow_ne (h.ext hx).b (h.ext hx).box (by decide))).trans (h.ext hx).box
theorem TbO.pushB {w1 w2 : World} (h : TbO w base g va vb x vs M l) (hx : Ext w w1) {vb' : Value} {l' : List Int} (hgr : w1.grownBy w2 vb.ownBlock) (ho : OwnI w2 base vb' l') :
    TbO (w2.setCell ⟨g, 1, none⟩ vb') base g va vb' x vs M l' := by
  have h1 := h.ext hx
  have hbox := h.boxB hx hgr
  have hset : ∀ k, k ≠ g → (w2.setCell ⟨g, 1, none⟩ vb').heap[k]? = w2.heap[k]? := fun k hk => heap_setCell_other _ _ _ _ hk
  have hA2 : OwnW w2 base va vs := h1.a.keep fun k hk => hgr.block k (h1.a.lt k hk).2 fun e => ownsRow_apart (by decide) h1.a h1.b k hk e.symm
  have hR2 : RowsR w2 base vs M := h1.rows.keep fun i k hi hk => hgr.block k ((h1.rows.row i hi).lt k hk).2 fun e => ownsRow_apart (by decide) (h1.rows.row i hi) h1.b k hk e.symm
  refine ⟨?_, h.hg, ?_, ?_, ?_⟩
  · have := heap_setCell_same w2 g 1 _ _ vb' hbox
    exact this
  · exact hA2.keep fun k hk => hset k fun e => (ownsRow_ne hA2 hbox (by decide)) (by rw [hk, e])
  · exact hR2.keep fun i k hi hk => hset k fun e => (ownsRow_ne (hR2.row i hi) hbox (by decide)) (by rw [hk, e])
  · exact ho.keep fun k hk => hset k fun e => (ownsRow_ne ho hbox (by decide)) (by rw [hk, e])
theorem TbO.mono {base' : Nat} (h : TbO w base g va vb x vs M l) (hb : base' ≤ base) : TbO w base' g va vb x vs M l :=
  ⟨h.box, Nat.le_trans hb h.hg, by
    refine ⟨h.a.1, ?_⟩
    rcases h.a.2 with hn | ⟨g, cap, cur, rfl, hbb, rest⟩
    · exact .inl hn
    · exact .inr ⟨g, cap, cur, rfl, Nat.le_trans hb hbb, rest⟩, ⟨h.rows.len, fun i hi => (h.rows.row i hi).mono hb, h.rows.apart⟩, h.b.mono hb⟩
theorem TbO.new {w3 : World} {vb : Value} {base' : Nat} (hb : OwnI w3 base' vb l) (hb' : base ≤ base') (hs : base ≤ w3.heap.size) :
    TbO (w3.alloc (.cells #[.slice none 0 0, vb, .int .i64 x] 142)) base w3.heap.size (.slice none 0 0) vb x [] [] l :=
  ⟨heap_alloc_new _ _, hs, World.ownsRow_nil _ base _ 1, RowsR.nil _ _, (hb.mono hb').ext (Ext.alloc _ _)⟩
theorem TbO.put3 {w3 : World} {vb v0 v1 v2 : Value} {base' : Nat} (hbox : w3.heap[g]? = some (.cells #[v0, v1, v2] 142 (0, 0))) (hb : OwnI w3 base' vb l) (hb' : base ≤ base') (hs : base ≤ g) :
    TbO (((w3.setCell ⟨g, 0, none⟩ (.slice none 0 0)).setCell ⟨g, 1, none⟩ vb).setCell ⟨g, 2, none⟩ (.int .i64 x)) base g (.slice none 0 0) vb x [] [] l := by
  have e1 := heap_setCell_same w3 g 0 _ _ (.slice none 0 0) hbox
  have e2 := heap_setCell_same _ g 1 _ _ vb e1
  have e3 := heap_setCell_same _ g 2 _ _ (.int .i64 x) e2
  refine ⟨e3, hs, World.ownsRow_nil _ base _ 1, RowsR.nil _ _, ?_⟩
  refine (hb.mono hb').keep fun k hk => ?_
  have hne : k ≠ g := fun e => (ownsRow_ne hb hbox (by decide)) (by rw [hk, e])
  rw [heap_setCell_other _ _ _ _ hne, heap_setCell_other _ _ _ _ hne, heap_setCell_other _ _ _ _ hne]
end
structure OwnT (w : World) (base : Nat) (va vb : Value) (vs : List Value) (t : Tb) : Prop where
  a : OwnW w base va vs
  rows : RowsR w base vs t.rows
  b : OwnI w base vb t.basis
theorem OwnT.ext {w w' : World} {base : Nat} {va vb : Value} {vs : List Value} {t : Tb} (h : OwnT w base va vb vs t) (hx : Ext w w') : OwnT w' base va vb vs t := ⟨h.a.ext hx, h.rows.ext hx, h.b.ext hx⟩
theorem OwnT.mono {w : World} {base base' : Nat} {va vb : Value} {vs : List Value} {t : Tb} (h : OwnT w base va vb vs t) (hb : base' ≤ base) : OwnT w base' va vb vs t :=
  ⟨by
    refine ⟨h.a.1, ?_⟩
    rcases h.a.2 with hn | ⟨g, cap, cur, rfl, hbb, rest⟩
    · exact .inl hn
    · exact .inr ⟨g, cap, cur, rfl, Nat.le_trans hb hbb, rest⟩, ⟨h.rows.len, fun i hi => (h.rows.row i hi).mono hb, h.rows.apart⟩, h.b.mono hb⟩
theorem OwnT.tbc {w : World} {base : Nat} {ra : Option Addr} {rn rc : Nat} {ba : Option Addr} {bn bc : Nat} {vs : List Value} {t : Tb} (h : OwnT w base (.slice ra rn rc) (.slice ba bn bc) vs t) : TbC w ra rn rc ba bn bc t :=
  ⟨OwnRR.ratss ⟨vs, h.a, h.rows⟩, h.b.ints⟩
theorem OwnT.keepAll {w w' : World} {base : Nat} {va vb : Value} {vs : List Value} {t : Tb} (h : OwnT w base va vb vs t) (hk : ∀ k, base ≤ k → w'.heap[k]? = w.heap[k]?) : OwnT w' base va vb vs t :=
  ⟨h.a.keep fun k e => hk k (h.a.lt k e).1, h.rows.keep fun i k hi e => hk k ((h.rows.row i hi).lt k e).1, h.b.keep fun k e => hk k (h.b.lt k e).1⟩
theorem set3_other (w : World) (b k : Nat) (x y z : Value) (h : k ≠ b) : (((w.setCell ⟨b, 0, none⟩ x).setCell ⟨b, 1, none⟩ y).setCell ⟨b, 2, none⟩ z).heap[k]? = w.heap[k]? := by
  rw [heap_setCell_other _ _ _ _ h, heap_setCell_other _ _ _ _ h, heap_setCell_other _ _ _ _ h]
theorem TbO.own {w : World} {base g : Nat} {va vb : Value} {x : Int} {vs : List Value} {M : List (List (Int × Int))} {l : List Int} (h : TbO w base g va vb x vs M l) : OwnT w base va vb vs ⟨M, l, x⟩ := ⟨h.a, h.rows, h.b⟩
theorem Ext.set3 {w w' : World} (h : Ext w w') {b : Nat} (hb : w.heap.size ≤ b) (x y z : Value) : Ext w (((w'.setCell ⟨b, 0, none⟩ x).setCell ⟨b, 1, none⟩ y).setCell ⟨b, 2, none⟩ z) := ((h.setCell (p := ⟨b, 0, none⟩) hb _).setCell (p := ⟨b, 1, none⟩) hb _).setCell (p := ⟨b, 2, none⟩) hb _
theorem clone_rats {w : World} {a : Option Addr} {n cap : Nat} {l : List (Int × Int)} (h : Rats w a n cap l) (hb : n ≤ 1099511627776) :
    Calls Tryz.prog 247 #[.slice a n cap] w fun e w' => ∃ v, e = .returned v ∧ OwnR w' w.heap.size v l ∧ Ext w w' := by
  have heq : ∀ w' : World, (binOp .eql 30 (.slice a n cap) (.slice none 0 0)).run Tryz.prog w' = .ok (.bool a.isNone) w' := fun w' => Lib.run_eql_slice_nil w' _ _ a n cap 0 0 Tryz.underlying30
  have HL := Lib.hid h.hlen
  cases a with
  | none =>
    have hl : l = [] := by
      have : ¬ 0 < n := fun hn => by obtain ⟨b, off, e, _⟩ := h.cell 0 hn; cases e
      exact List.eq_nil_of_length_eq_zero (by have := HL.out; omega)
    simp only [Option.isNone_none] at heq
    go_enter Tryz.func247, Tryz.ntmps247
    go_wp2
    go_ret
    exact ⟨_, rfl, by rw [hl]; exact OwnR.nil w _, Ext.refl _⟩
  | some ad =>
    simp only [Option.isNone_some] at heq
    have HI := Lib.hid (h.ext (Ext.alloc w (.cells #[] 85)))
    have HO := Lib.hid (OwnR.made w w.heap.size (Nat.le_refl _))
    clear h
    go_enter Tryz.func247, Tryz.ntmps247
    go_wp2_with (first | (at_builtin; refine append_rats rfl _ _ rfl w.heap.size _ _ rfl HO.out _ n _ l rfl HI.out (by simpa using hb) (by simp) ?_; intro v' w1 ho hg hnear))
    go_ret
    exact ⟨_, rfl, by simpa using ho, ext_grown (Ext.alloc _ _) hg (fun k hk => Nat.le_of_eq (Option.some.inj (show some w.heap.size = some k from hk)))⟩
end Go.Proofs.YtgohdmnbnhehnaaGreat
namespace Go.Proofs.YtgohdmnbnhehnaaGreat
set_option linter.unusedVariables false
set_option linter.unusedSimpArgs false
set_option maxRecDepth 100000
open Go.RowKit
theorem all_takeG {α : Type} {p : α → Bool} {l : List α} {k : Nat} {d : α} (h : k < l.length) : (l.take (k + 1)).all p = ((l.take k).all p && p (l[k]?.getD d)) := by
  rw [List.take_succ_eq_append_getElem h, List.all_append, List.getElem?_eq_getElem h]; simp
theorem all_falseG {α : Type} {p : α → Bool} {l : List α} {k : Nat} {d : α} (h : k < l.length) (hb : p (l[k]?.getD d) = false) : l.all p = false := by
  rw [List.all_eq_false]
  exact ⟨l[k], List.getElem_mem h, by rw [List.getElem?_eq_getElem h] at hb; simpa using hb⟩
set_option maxHeartbeats 1000000 in
theorem s_l5Small {w : World} {a : Option Addr} {n cap : Nat} {l : List Int} (h : Ints w a n cap l) :
    Calls Tryz.prog 171 #[.slice a n cap] w fun e w' => e = .returned (.bool (l.all (inB · (-5000) 5000))) ∧ w = w' := by
  have hcap := h.hcap
  have hmax := h.hmax
  have HL := Lib.hid h.hlen
  have HI := Lib.hid h
  clear h
  go_enter Tryz.func171, Tryz.ntmps171
  go_wp2_with fail
  go_loopg [3] n (fun gk ii wr => ∃ k : Nat, Hid (gk + k = n) ∧ ii = .int .i64 (k : Int) ∧ Hid ((l.take k).all (inB · (-5000) 5000) = true) ∧ w = wr)
  case atStart => exact ⟨0, Lib.hid (by omega), rfl, Lib.hid rfl, rfl⟩
  case round =>
    obtain ⟨k, HK, rfl, HA, rfl⟩ := hrel
    by_cases hlt : k < n
    · obtain ⟨b, off, rfl, hc0⟩ := HI.out.at hlt
      obtain ⟨x, hx⟩ : ∃ x, x = l[k]?.getD 0 := ⟨_, rfl⟩
      rw [← hx] at hc0
      have HC := Lib.hid (s_l1In x (-5000) 5000 w)
      cases hb : inB x (-5000) 5000
      all_goals
        rw [hb] at HC
      · have HF := Lib.hid (show l.all (inB · (-5000) 5000) = false from all_falseG (d := 0) (by rw [HL.out]; exact hlt) (by rw [← hx]; exact hb))
        clear hx hb
        go_wp2_with (first | (go_at_call 56; refine HC.out.mono ?_; rintro e w2 ⟨rfl, rfl⟩))
        go_ret
        exact ⟨ret_bool HF.out.symm, rfl⟩
      · have HT := Lib.hid (show (l.take (k + 1)).all (inB · (-5000) 5000) = true by rw [all_takeG (d := 0) (by rw [HL.out]; exact hlt), HA.out, ← hx, hb]; rfl)
        clear hx hb
        go_wp2_with (first | (go_at_call 56; refine HC.out.mono ?_; rintro e w2 ⟨rfl, rfl⟩))
        go_roundg (gk - 1)
        case measure => have := HK.out; omega
        case rel => exact ⟨k + 1, Lib.hid (by have := HK.out; omega), by go_num, HT, rfl⟩
    · have HT := Lib.hid (show l.take k = l from List.take_of_length_le (by rw [HL.out]; have := HK.out; omega))
      go_wp2_with fail
      go_ret
      exact ⟨ret_bool (by have := HA.out; rw [HT.out] at this; exact this.symm), rfl⟩
section
variable {w : World} {a : Option Addr} {na ca : Nat} {b : Option Addr} {nb cb : Nat} {c : Option Addr} {nc cc : Nat} {A : List (List Int)} {B : List Int} {C : List (Int × Int)}
theorem okLP_rowsOnly {A : List (List Int)} {B : List Int} {C : List (Int × Int)} (h : A.all (okRowI C.length) = false) : okLP A B C = false := by rw [okLP_eq, h]; simp
set_option maxHeartbeats 4000000 in
theorem s_IsValidLP (h : LpC w a na ca b nb cb c nc cc A B C) :
    Calls Tryz.prog 128 #[lpW a na ca b nb cb c nc cc] w fun e w' => e = .returned (.bool (okLP A B C)) ∧ Ext w w' := by
  have hx0 := Ext.alloc w (lpBox a na ca b nb cb c nc cc)
  have HX0 := Lib.hid hx0
  have H := Lib.hid (h.ext hx0)
  have HE := Lib.hid (okLP_eq A B C)
  have HTB := Lib.hid (show (w.alloc (lpBox a na ca b nb cb c nc cc)).heap[w.heap.size]? = some (.cells #[.slice a na ca, .slice b nb cb, .slice c nc cc] 67 (0, 0)) from heapA_new _ _ _ rfl)
  have ha1 := h.a.hcap
  have ha2 := h.a.hmax
  have hb1 := h.b.hcap
  have hb2 := h.b.hmax
  have hc1 := h.c.hcap
  have hc2 := h.c.hmax
  have HLA := Lib.hid h.a.hlen
  have HLB := Lib.hid h.b.hlen
  have HLC := Lib.hid h.c.hlen
  clear h hx0
  go_enter Tryz.func128, Tryz.ntmps128
  go_upto_region 1 with fail
  obtain ⟨W, hW⟩ : ∃ x, x = w.alloc (lpBox a na ca b nb cb c nc cc) := ⟨_, rfl⟩
  rw [← hW] at HX0 H HTB
  rw [← hW]
  clear hW
  go_wp2_with fail
  go_loopg [3] na (fun gk ii wr => ∃ k : Nat, Hid (gk + k = na) ∧ ii = .int .i64 (k : Int) ∧ Hid ((A.take k).all (okRowI nc) = true) ∧ Hid (Ext W wr))
  case atStart => exact ⟨0, Lib.hid (by omega), rfl, Lib.hid rfl, Lib.hid (Ext.refl _)⟩
  case round =>
    obtain ⟨g1, h_g1⟩ : ∃ x, x = gk := ⟨_, rfl⟩
    subst h_g1
    obtain ⟨wr1, h_wr1⟩ : ∃ x, x = wr := ⟨_, rfl⟩
    subst h_wr1
    obtain ⟨k, HK, rfl, HA, HX⟩ := hrel
    have p0 := tbox0 (HX.out.blk HTB.out)
    have p2 := tbox2 (HX.out.blk HTB.out)
    by_cases hlt : k < na
    · obtain ⟨gb, goff, ra, rn, rc, hga, hgc, hrow⟩ := (H.out.ext HX.out).a.at hlt
      subst hga
      have HLR := Lib.hid hrow.hlen
      have hrn := hrow.hcap
      have hrm := hrow.hmax
      have HKA := Lib.hid (show k < A.length by rw [HLA.out]; exact hlt)
      have HROW := Lib.hid hrow
      have hk0 : (0 : Int) ≤ (k : Int) := by omega
      have hk1 : (k : Int) < (na : Int) := by omega
      clear hrow
      go_upto_region 4 with fail
      have hk2 : Ext wr1 wr1.drew := Ext.drew wr1
      by_cases hl : rn = nc
      · subst hl
        have hne : ((rn : Int) != (rn : Int)) = false := by simp
        obtain ⟨sm, hsm⟩ : ∃ s, s = (A[k]?.getD []).all (inB · (-5000) 5000) := ⟨_, rfl⟩
        have HRI := Lib.hid (show okRowI rn (A[k]?.getD []) = sm by unfold okRowI; rw [HLR.out, hsm]; simp)
        have HSM := Lib.hid (fun (W' : World) (hx : Ext wr1 W') => s_l5Small (HROW.out.ext hx))
        simp only [← hsm] at HSM
        clear hsm
        refine wp_region_held_drew (S := (fun w' => w'.cell? ⟨w.heap.size, 0, none⟩ = some (.slice (some ⟨gb, goff, none⟩) na ca) ∧ w'.cell? ⟨w.heap.size, 2, none⟩ = some (.slice c rn cc) ∧ w'.cell? ⟨gb, goff + k, none⟩ = some (.slice ra rn rc) ∧ Ext wr1 w')) (by kernel_rfl) ?_ (fun hHeld => ?_)
        · exact ⟨hk2.cellSome p0, hk2.cellSome p2, hk2.cellSome hgc, hk2⟩
        refine wpAnyH_take (i := 0) (oi := ?_) (v := ?_) ?_ ?_ ?_ ?_ ?_ ?_ ?_ ?_
        rotate_left 2
        · simp only [gA, gB, gC]; rfl
        · kernel_rfl
        · kernel_rfl
        · kernel_rfl
        · exact fun _ _ _ h => h
        · refine Or.inl ⟨by rfl, ?_⟩; intro w hSw; (try dsimp only at hSw); go_simp; (try with_reducible rfl)
        · assumption
        try simp only [Act.put, sA, sB, sC]
        refine wpAnyH_take (i := 1) (oi := ?_) (v := ?_) ?_ ?_ ?_ ?_ ?_ ?_ ?_ ?_
        rotate_left 2
        · simp only [gA, gB, gC]; rfl
        · kernel_rfl
        · kernel_rfl
        · kernel_rfl
        · exact fun _ _ _ h => h
        · refine Or.inl ⟨by rfl, ?_⟩; intro w hSw; (try dsimp only at hSw); go_simp; (try with_reducible rfl)
        · assumption
        try simp only [Act.put, sA, sB, sC]
        refine wpAnyH_take (i := 2) (oi := ?_) (v := ?_) ?_ ?_ ?_ ?_ ?_ ?_ ?_ ?_
        rotate_left 2
        · simp only [gA, gB, gC]; rfl
        · kernel_rfl
        · kernel_rfl
        · kernel_rfl
        · exact fun _ _ _ h => h
        · refine Or.inl ⟨by rfl, ?_⟩; intro w hSw; (try dsimp only at hSw); go_simp; (try with_reducible rfl)
        · assumption
        try simp only [Act.put, sA, sB, sC]
        refine wpAnyH_take (i := 3) (oi := ?_) (v := ?_) ?_ ?_ ?_ ?_ ?_ ?_ ?_ ?_
        rotate_left 2
        · simp only [gA, gB, gC]; rfl
        · kernel_rfl
        · kernel_rfl
        · kernel_rfl
        · exact fun _ _ _ h => h
        · refine Or.inl ⟨by rfl, ?_⟩; intro w hSw; (try dsimp only at hSw); go_simp; (try with_reducible rfl)
        · assumption
        try simp only [Act.put, sA, sB, sC]
        refine wpAnyH_take (i := 4) (oi := ?_) (v := ?_) ?_ ?_ ?_ ?_ ?_ ?_ ?_ ?_
        rotate_left 2
        · simp only [gA, gB, gC]; rfl
        · kernel_rfl
        · kernel_rfl
        · kernel_rfl
        · exact fun _ _ _ h => h
        · refine Or.inl ⟨by rfl, ?_⟩; intro w hSw; (try dsimp only at hSw); go_simp; (try with_reducible rfl)
        · assumption
        try simp only [Act.put, sA, sB, sC]
        refine wpAnyH_take (i := 5) (oi := ?_) (v := ?_) ?_ ?_ ?_ ?_ ?_ ?_ ?_ ?_
        rotate_left 2
        · simp only [gA, gB, gC]; rfl
        · kernel_rfl
        · kernel_rfl
        · kernel_rfl
        · exact fun _ _ _ h => h
        · refine Or.inl ⟨by rfl, ?_⟩; intro w hSw; (try dsimp only at hSw); go_simp; (try with_reducible rfl)
        · assumption
        try simp only [Act.put, sA, sB, sC]
        refine wpAnyH_take (i := 6) (oi := ?_) (v := ?_) ?_ ?_ ?_ ?_ ?_ ?_ ?_ ?_
        rotate_left 2
        · simp only [gA, gB, gC]; rfl
        · kernel_rfl
        · kernel_rfl
        · kernel_rfl
        · exact fun _ _ _ h => h
        · refine Or.inl ⟨by rfl, ?_⟩; intro w hSw; (try dsimp only at hSw); go_simp; (try with_reducible rfl)
        · assumption
        try simp only [Act.put, sA, sB, sC]
        refine wpAnyH_take (i := 7) (oi := ?_) (v := ?_) ?_ ?_ ?_ ?_ ?_ ?_ ?_ ?_
        rotate_left 2
        · simp only [gA, gB, gC]; rfl
        · kernel_rfl
        · kernel_rfl
        · kernel_rfl
        · exact fun _ _ _ h => h
        · refine Or.inl ⟨by rfl, ?_⟩; intro w hSw; (try dsimp only at hSw); go_simp; (try with_reducible rfl)
        · assumption
        try simp only [Act.put, sA, sB, sC]
        refine wpAnyH_take (i := 8) (oi := ?_) (v := ?_) ?_ ?_ ?_ ?_ ?_ ?_ ?_ ?_
        rotate_left 2
        · simp only [gA, gB, gC]; rfl
        · kernel_rfl
        · kernel_rfl
        · kernel_rfl
        · exact fun _ _ _ h => h
        · refine Or.inl ⟨by rfl, ?_⟩; intro w hSw; (try dsimp only at hSw); go_simp; (try with_reducible rfl)
        · assumption
        try simp only [Act.put, sA, sB, sC]
        refine wpAnyH_take (i := 9) (oi := ?_) (v := ?_) ?_ ?_ ?_ ?_ ?_ ?_ ?_ ?_
        rotate_left 2
        · simp only [gA, gB, gC]; rfl
        · kernel_rfl
        · kernel_rfl
        · kernel_rfl
        · exact fun _ _ _ h => h
        · refine Or.inl ⟨by rfl, ?_⟩; intro w hSw; (try dsimp only at hSw); go_simp; (try with_reducible rfl)
        · assumption
        try simp only [Act.put, sA, sB, sC]
        refine wpAnyH_take (i := 10) (oi := ?_) (v := ?_) ?_ ?_ ?_ ?_ ?_ ?_ ?_ ?_
        rotate_left 2
        · simp only [gA, gB, gC]; rfl
        · kernel_rfl
        · kernel_rfl
        · kernel_rfl
        · exact fun _ _ _ h => h
        · refine Or.inl ⟨by rfl, ?_⟩; intro w hSw; (try dsimp only at hSw); go_simp; (try with_reducible rfl)
        · assumption
        try simp only [Act.put, sA, sB, sC]
        refine wpAnyH_take (i := 11) (oi := ?_) (v := ?_) ?_ ?_ ?_ ?_ ?_ ?_ ?_ ?_
        rotate_left 2
        · simp only [gA, gB, gC]; rfl
        · kernel_rfl
        · kernel_rfl
        · kernel_rfl
        · exact fun _ _ _ h => h
        · refine Or.inl ⟨by rfl, ?_⟩; intro w hSw; (try dsimp only at hSw); go_simp; (try with_reducible rfl)
        · assumption
        try simp only [Act.put, sA, sB, sC]
        refine wpAnyH_take (i := 12) (oi := ?_) (v := ?_) ?_ ?_ ?_ ?_ ?_ ?_ ?_ ?_
        rotate_left 2
        · simp only [gA, gB, gC]; rfl
        · kernel_rfl
        · kernel_rfl
        · kernel_rfl
        · exact fun _ _ _ h => h
        · refine Or.inl ⟨by rfl, ?_⟩; intro w hSw; (try dsimp only at hSw); go_simp; (try with_reducible rfl)
        · assumption
        try simp only [Act.put, sA, sB, sC]
        refine wpAnyH_take (i := 13) (oi := ?_) (v := ?_) ?_ ?_ ?_ ?_ ?_ ?_ ?_ ?_
        rotate_left 2
        · simp only [gA, gB, gC]; rfl
        · kernel_rfl
        · kernel_rfl
        · kernel_rfl
        · exact fun _ _ _ h => h
        · refine Or.inl ⟨by rfl, ?_⟩; intro w hSw; (try dsimp only at hSw); go_simp; (try with_reducible rfl)
        · assumption
        try simp only [Act.put, sA, sB, sC]
        refine wpAnyH_take (i := 14) (oi := ?_) (v := ?_) ?_ ?_ ?_ ?_ ?_ ?_ ?_ ?_
        rotate_left 2
        · simp only [gA, gB, gC]; rfl
        · kernel_rfl
        · kernel_rfl
        · kernel_rfl
        · exact fun _ _ _ h => h
        · refine Or.inl ⟨by rfl, ?_⟩; intro w hSw; (try dsimp only at hSw); go_simp; (try with_reducible rfl)
        · assumption
        try simp only [Act.put, sA, sB, sC]
        refine wpAnyH_take (i := 15) (oi := ?_) (v := ?_) ?_ ?_ ?_ ?_ ?_ ?_ ?_ ?_
        rotate_left 2
        · simp only [gA, gB, gC]; rfl
        · kernel_rfl
        · kernel_rfl
        · kernel_rfl
        · exact fun _ _ _ h => h
        · refine Or.inl ⟨by rfl, ?_⟩; intro w hSw; (try dsimp only at hSw); go_simp; (try with_reducible rfl)
        · assumption
        try simp only [Act.put, sA, sB, sC]
        refine wpAnyH_ready (rs := [16]) (by kernel_rfl) (by simp) ?_
        refine AllReadyH.cons (o := ?_) ?_ (fun K hK => ?_) AllReadyH.nil
        rotate_left
        · simp only [gA, gB, gC]; rfl
        go_simp
        (go_at_call 171; refine (HSM.out _ hk2).mono ?_; rintro e w3 ⟨rfl, rfl⟩)
        go_wp2_with fail
        refine hK.out _ _ ?_ (fun hHeld => ?_)
        · exact ⟨hk2.cellSome p0, hk2.cellSome p2, hk2.cellSome hgc, hk2⟩
        clear hK K
        try simp only [Act.put, sA, sB, sC]
        refine wpAnyH_take (i := 17) (oi := ?_) (v := ?_) ?_ ?_ ?_ ?_ ?_ ?_ ?_ ?_
        rotate_left 2
        · simp only [gA, gB, gC]; rfl
        · kernel_rfl
        · kernel_rfl
        · kernel_rfl
        · exact fun _ _ _ h => h
        · refine Or.inl ⟨by rfl, ?_⟩; intro w hSw; (try dsimp only at hSw); go_simp; (try with_reducible rfl)
        · assumption
        try simp only [Act.put, sA, sB, sC]
        refine wpAnyH_take (i := 18) (oi := ?_) (v := ?_) ?_ ?_ ?_ ?_ ?_ ?_ ?_ ?_
        rotate_left 2
        · simp only [gA, gB, gC]; rfl
        · kernel_rfl
        · kernel_rfl
        · kernel_rfl
        · exact fun _ _ _ h => h
        · refine Or.inl ⟨by rfl, ?_⟩; intro w hSw; (try dsimp only at hSw); go_simp; (try with_reducible rfl)
        · assumption
        try simp only [Act.put, sA, sB, sC]
        refine wpAnyH_done (by kernel_rfl) ?_ _
        have HX2 := Lib.hid (HX.out.trans hk2)
        clear p0 p2 hgc hk2
        cases sm
        · have HF := Lib.hid (show okLP A B C = false from okLP_rowsOnly (all_falseL HKA.out (by rw [HLC.out]; exact HRI.out)))
          go_wp2_with fail
          go_ret
          exact ⟨ret_bool HF.out.symm, HX0.out.trans HX2.out⟩
        · have HT := Lib.hid (show (A.take (k + 1)).all (okRowI rn) = true by rw [all_takeL HKA.out, HA.out, HRI.out]; rfl)
          go_wp2_with fail
          go_roundg (g1 - 1)
          case measure => have := HK.out; omega
          case rel => exact ⟨k + 1, Lib.hid (by have := HK.out; omega), by go_num, HT, HX2⟩
      · have hne : ((rn : Int) != (nc : Int)) = true := by simp; omega
        have HF := Lib.hid (show okLP A B C = false from okLP_rowsOnly (all_falseL HKA.out (by unfold okRowI; rw [HLR.out, HLC.out, decide_eq_false hl]; rfl)))
        clear hl
        refine wp_region_held_drew (S := (fun w' => w'.cell? ⟨w.heap.size, 0, none⟩ = some (.slice (some ⟨gb, goff, none⟩) na ca) ∧ w'.cell? ⟨w.heap.size, 2, none⟩ = some (.slice c nc cc) ∧ w'.cell? ⟨gb, goff + k, none⟩ = some (.slice ra rn rc) ∧ Ext wr1 w')) (by kernel_rfl) ?_ (fun hHeld => ?_)
        · exact ⟨hk2.cellSome p0, hk2.cellSome p2, hk2.cellSome hgc, hk2⟩
        refine wpAnyH_take (i := 0) (oi := ?_) (v := ?_) ?_ ?_ ?_ ?_ ?_ ?_ ?_ ?_
        rotate_left 2
        · simp only [gA, gB, gC]; rfl
        · kernel_rfl
        · kernel_rfl
        · kernel_rfl
        · exact fun _ _ _ h => h
        · refine Or.inl ⟨by rfl, ?_⟩; intro w hSw; (try dsimp only at hSw); go_simp; (try with_reducible rfl)
        · assumption
        try simp only [Act.put, sA, sB, sC]
        refine wpAnyH_take (i := 1) (oi := ?_) (v := ?_) ?_ ?_ ?_ ?_ ?_ ?_ ?_ ?_
        rotate_left 2
        · simp only [gA, gB, gC]; rfl
        · kernel_rfl
        · kernel_rfl
        · kernel_rfl
        · exact fun _ _ _ h => h
        · refine Or.inl ⟨by rfl, ?_⟩; intro w hSw; (try dsimp only at hSw); go_simp; (try with_reducible rfl)
        · assumption
        try simp only [Act.put, sA, sB, sC]
        refine wpAnyH_take (i := 2) (oi := ?_) (v := ?_) ?_ ?_ ?_ ?_ ?_ ?_ ?_ ?_
        rotate_left 2
        · simp only [gA, gB, gC]; rfl
        · kernel_rfl
        · kernel_rfl
        · kernel_rfl
        · exact fun _ _ _ h => h
        · refine Or.inl ⟨by rfl, ?_⟩; intro w hSw; (try dsimp only at hSw); go_simp; (try with_reducible rfl)
        · assumption
        try simp only [Act.put, sA, sB, sC]
        refine wpAnyH_take (i := 3) (oi := ?_) (v := ?_) ?_ ?_ ?_ ?_ ?_ ?_ ?_ ?_
        rotate_left 2
        · simp only [gA, gB, gC]; rfl
        · kernel_rfl
        · kernel_rfl
        · kernel_rfl
        · exact fun _ _ _ h => h
        · refine Or.inl ⟨by rfl, ?_⟩; intro w hSw; (try dsimp only at hSw); go_simp; (try with_reducible rfl)
        · assumption
        try simp only [Act.put, sA, sB, sC]
        refine wpAnyH_take (i := 4) (oi := ?_) (v := ?_) ?_ ?_ ?_ ?_ ?_ ?_ ?_ ?_
        rotate_left 2
        · simp only [gA, gB, gC]; rfl
        · kernel_rfl
        · kernel_rfl
        · kernel_rfl
        · exact fun _ _ _ h => h
        · refine Or.inl ⟨by rfl, ?_⟩; intro w hSw; (try dsimp only at hSw); go_simp; (try with_reducible rfl)
        · assumption
        try simp only [Act.put, sA, sB, sC]
        refine wpAnyH_take (i := 5) (oi := ?_) (v := ?_) ?_ ?_ ?_ ?_ ?_ ?_ ?_ ?_
        rotate_left 2
        · simp only [gA, gB, gC]; rfl
        · kernel_rfl
        · kernel_rfl
        · kernel_rfl
        · exact fun _ _ _ h => h
        · refine Or.inl ⟨by rfl, ?_⟩; intro w hSw; (try dsimp only at hSw); go_simp; (try with_reducible rfl)
        · assumption
        try simp only [Act.put, sA, sB, sC]
        refine wpAnyH_take (i := 6) (oi := ?_) (v := ?_) ?_ ?_ ?_ ?_ ?_ ?_ ?_ ?_
        rotate_left 2
        · simp only [gA, gB, gC]; rfl
        · kernel_rfl
        · kernel_rfl
        · kernel_rfl
        · exact fun _ _ _ h => h
        · refine Or.inl ⟨by rfl, ?_⟩; intro w hSw; (try dsimp only at hSw); go_simp; (try with_reducible rfl)
        · assumption
        try simp only [Act.put, sA, sB, sC]
        refine wpAnyH_take (i := 7) (oi := ?_) (v := ?_) ?_ ?_ ?_ ?_ ?_ ?_ ?_ ?_
        rotate_left 2
        · simp only [gA, gB, gC]; rfl
        · kernel_rfl
        · kernel_rfl
        · kernel_rfl
        · exact fun _ _ _ h => h
        · refine Or.inl ⟨by rfl, ?_⟩; intro w hSw; (try dsimp only at hSw); go_simp; (try with_reducible rfl)
        · assumption
        try simp only [Act.put, sA, sB, sC]
        refine wpAnyH_take (i := 8) (oi := ?_) (v := ?_) ?_ ?_ ?_ ?_ ?_ ?_ ?_ ?_
        rotate_left 2
        · simp only [gA, gB, gC]; rfl
        · kernel_rfl
        · kernel_rfl
        · kernel_rfl
        · exact fun _ _ _ h => h
        · refine Or.inl ⟨by rfl, ?_⟩; intro w hSw; (try dsimp only at hSw); go_simp; (try with_reducible rfl)
        · assumption
        try simp only [Act.put, sA, sB, sC]
        refine wpAnyH_take (i := 9) (oi := ?_) (v := ?_) ?_ ?_ ?_ ?_ ?_ ?_ ?_ ?_
        rotate_left 2
        · simp only [gA, gB, gC]; rfl
        · kernel_rfl
        · kernel_rfl
        · kernel_rfl
        · exact fun _ _ _ h => h
        · refine Or.inl ⟨by rfl, ?_⟩; intro w hSw; (try dsimp only at hSw); go_simp; (try with_reducible rfl)
        · assumption
        try simp only [Act.put, sA, sB, sC]
        refine wpAnyH_take (i := 10) (oi := ?_) (v := ?_) ?_ ?_ ?_ ?_ ?_ ?_ ?_ ?_
        rotate_left 2
        · simp only [gA, gB, gC]; rfl
        · kernel_rfl
        · kernel_rfl
        · kernel_rfl
        · exact fun _ _ _ h => h
        · refine Or.inl ⟨by rfl, ?_⟩; intro w hSw; (try dsimp only at hSw); go_simp; (try with_reducible rfl)
        · assumption
        try simp only [Act.put, sA, sB, sC]
        refine wpAnyH_take (i := 11) (oi := ?_) (v := undef) ?_ ?_ ?_ ?_ ?_ ?_ ?_ ?_
        rotate_left
        · simp only [gA, gB, gC]; rfl
        · kernel_rfl
        · kernel_rfl
        · kernel_rfl
        · exact fun _ _ _ h => h
        · exact Or.inr ⟨by rfl, rfl⟩
        · assumption
        try simp only [Act.put, sA, sB, sC]
        refine wpAnyH_take (i := 12) (oi := ?_) (v := undef) ?_ ?_ ?_ ?_ ?_ ?_ ?_ ?_
        rotate_left
        · simp only [gA, gB, gC]; rfl
        · kernel_rfl
        · kernel_rfl
        · kernel_rfl
        · exact fun _ _ _ h => h
        · exact Or.inr ⟨by rfl, rfl⟩
        · assumption
        try simp only [Act.put, sA, sB, sC]
        refine wpAnyH_take (i := 13) (oi := ?_) (v := undef) ?_ ?_ ?_ ?_ ?_ ?_ ?_ ?_
        rotate_left
        · simp only [gA, gB, gC]; rfl
        · kernel_rfl
        · kernel_rfl
        · kernel_rfl
        · exact fun _ _ _ h => h
        · exact Or.inr ⟨by rfl, rfl⟩
        · assumption
        try simp only [Act.put, sA, sB, sC]
        refine wpAnyH_take (i := 14) (oi := ?_) (v := undef) ?_ ?_ ?_ ?_ ?_ ?_ ?_ ?_
        rotate_left
        · simp only [gA, gB, gC]; rfl
        · kernel_rfl
        · kernel_rfl
        · kernel_rfl
        · exact fun _ _ _ h => h
        · exact Or.inr ⟨by rfl, rfl⟩
        · assumption
        try simp only [Act.put, sA, sB, sC]
        refine wpAnyH_take (i := 15) (oi := ?_) (v := undef) ?_ ?_ ?_ ?_ ?_ ?_ ?_ ?_
        rotate_left
        · simp only [gA, gB, gC]; rfl
        · kernel_rfl
        · kernel_rfl
        · kernel_rfl
        · exact fun _ _ _ h => h
        · exact Or.inr ⟨by rfl, rfl⟩
        · assumption
        try simp only [Act.put, sA, sB, sC]
        refine wpAnyH_take (i := 16) (oi := ?_) (v := undef) ?_ ?_ ?_ ?_ ?_ ?_ ?_ ?_
        rotate_left
        · simp only [gA, gB, gC]; rfl
        · kernel_rfl
        · kernel_rfl
        · kernel_rfl
        · exact fun _ _ _ h => h
        · exact Or.inr ⟨by rfl, rfl⟩
        · assumption
        try simp only [Act.put, sA, sB, sC]
        refine wpAnyH_take (i := 17) (oi := ?_) (v := undef) ?_ ?_ ?_ ?_ ?_ ?_ ?_ ?_
        rotate_left
        · simp only [gA, gB, gC]; rfl
        · kernel_rfl
        · kernel_rfl
        · kernel_rfl
        · exact fun _ _ _ h => h
        · exact Or.inr ⟨by rfl, rfl⟩
        · assumption
        try simp only [Act.put, sA, sB, sC]
        refine wpAnyH_take (i := 18) (oi := ?_) (v := ?_) ?_ ?_ ?_ ?_ ?_ ?_ ?_ ?_
        rotate_left 2
        · simp only [gA, gB, gC]; rfl
        · kernel_rfl
        · kernel_rfl
        · kernel_rfl
        · exact fun _ _ _ h => h
        · refine Or.inl ⟨by rfl, ?_⟩; intro w hSw; (try dsimp only at hSw); go_simp; (try with_reducible rfl)
        · assumption
        try simp only [Act.put, sA, sB, sC]
        refine wpAnyH_done (by kernel_rfl) ?_ _
        go_wp2_with fail
        go_ret
        exact ⟨ret_bool HF.out.symm, HX0.out.trans (HX.out.trans hk2)⟩
    · have hkn : na = k := by have := HK.out; omega
      subst hkn
      have HT := Lib.hid (show A.all (okRowI nc) = true by have := HA.out; rwa [List.take_of_length_le (by rw [HLA.out]; exact Nat.le_refl _)] at this)
      have p1 := tbox1 (HX.out.blk HTB.out)
      have HE2 := Lib.hid (show okLP A B C = (decide (nc ≤ 70) && (decide (na ≤ 8) && (decide (nb = na) && (B.all (inB · (-5000) 5000) && allV C)))) by
        rw [HE.out, HLA.out, HLB.out, HLC.out, HT.out]; cases allV C <;> simp)
      by_cases h1 : nc ≤ 70
      · by_cases h2 : na ≤ 8
        · by_cases h3 : nb = na
          · subst h3
            have hbb : ((nb : Int) == (nb : Int)) = true := by simp
            have hle1 : (nc : Int) ≤ 70 := by omega
            have hle2 : (nb : Int) ≤ 8 := by omega
            have HSM := Lib.hid (s_l5Small (H.out.ext HX.out).b)
            have HAV := Lib.hid (s_AllValid (H.out.ext HX.out).c)
            cases hs : B.all (inB · (-5000) 5000)
            · have HF := Lib.hid (show okLP A B C = false by rw [HE2.out, hs]; simp)
              rw [hs] at HSM
              clear hs
              go_wp2_with fail
              refine HSM.out.mono ?_
              rintro e w3 ⟨rfl, rfl⟩
              go_wp2_with fail
              go_ret
              exact ⟨ret_bool HF.out.symm, HX0.out.trans HX.out⟩
            · have HF := Lib.hid (show okLP A B C = allV C by rw [HE2.out, hs, decide_eq_true h1, decide_eq_true h2, decide_eq_true rfl]; rfl)
              rw [hs] at HSM
              clear hs
              go_wp2_with fail
              refine HSM.out.mono ?_
              rintro e w3 ⟨rfl, rfl⟩
              go_wp2_with fail
              refine HAV.out.mono ?_
              rintro e w3 ⟨rfl, hx⟩
              go_wp2_with fail
              go_ret
              exact ⟨ret_bool HF.out.symm, HX0.out.trans (HX.out.trans hx)⟩
          · have HF := Lib.hid (show okLP A B C = false by rw [HE2.out, decide_eq_false h3]; simp)
            have hbb : ((nb : Int) == (na : Int)) = false := by simp; omega
            have hle1 : (nc : Int) ≤ 70 := by omega
            have hle2 : (na : Int) ≤ 8 := by omega
            go_wp2_with fail
            go_ret
            exact ⟨ret_bool HF.out.symm, HX0.out.trans HX.out⟩
        · have HF := Lib.hid (show okLP A B C = false by rw [HE2.out, decide_eq_false h2]; simp)
          have hle1 : (nc : Int) ≤ 70 := by omega
          have hle2 : ¬ (na : Int) ≤ 8 := by omega
          go_wp2_with fail
          go_ret
          exact ⟨ret_bool HF.out.symm, HX0.out.trans HX.out⟩
      · have HF := Lib.hid (show okLP A B C = false by rw [HE2.out, decide_eq_false h1]; simp)
        have hle1 : ¬ (nc : Int) ≤ 70 := by omega
        go_wp2_with fail
        go_ret
        exact ⟨ret_bool HF.out.symm, HX0.out.trans HX.out⟩
end
end Go.Proofs.YtgohdmnbnhehnaaGreat
namespace Go.Proofs.YtgohdmnbnhehnaaGreat
set_option linter.unusedVariables false
set_option linter.unusedSimpArgs false
set_option maxRecDepth 100000
open Go.RowKit
set_option maxHeartbeats 8000000 in
theorem s_DotRat {w : World} {a b : Option Addr} {n cap n' cap' : Nat} {A B : List (Int × Int)} (h : Rats w a n cap A) (h' : Rats w b n' cap' B) :
    Calls Tryz.prog 182 #[.slice a n cap, .slice b n' cap'] w fun e w' => e = .returned (resR (optR (dotL A B))) ∧ Ext w w' := by
  have HL := Lib.hid h.hlen
  have HL' := Lib.hid h'.hlen
  have hcap := h.hcap
  have hmax := h.hmax
  have hcap' := h'.hcap
  have hmax' := h'.hmax
  have hx0 := Ext.alloc w (.cells #[.int .i64 0, .int .i64 0] 85)
  have HIA := Lib.hid (h.ext hx0)
  have HIB := Lib.hid (h'.ext hx0)
  have HX0 := Lib.hid hx0
  have HRB := Lib.hid (show (w.alloc (.cells #[.int .i64 0, .int .i64 0] 85)).heap[w.heap.size]? = some (.cells #[.int .i64 0, .int .i64 0] 85 (0, 0)) from heapA_new _ _ _ rfl)
  clear h h' hx0
  by_cases hne : n = n'
  · subst hne
    have HD := Lib.hid (show dotL A B = dotN A B n by unfold dotL; rw [HL.out, HL'.out, if_pos rfl])
    have hnn : ((n : Int) != (n : Int)) = false := by simp
    go_enter Tryz.func182, Tryz.ntmps182
    go_wp2_with fail
    refine (s_l3Int 0 _).mono ?_
    rintro e w1 ⟨rfl, hx1⟩
    have HX1 := Lib.hid hx1
    have HB0 := Lib.hid (Boxed.new (Ext.refl w1) 0 1)
    have HRW := Lib.hid (fun (w' : World) (hx : Ext w1 w') => (hx.block _ (by have := lt_of_block HRB.out; have := HX1.out.size; omega)).trans ((HX1.out.block _ (lt_of_block HRB.out)).trans HRB.out))
    have HXW := Lib.hid (HX0.out.trans HX1.out)
    have hsw1 : w.heap.size < w1.heap.size := by have := lt_of_block HRB.out; have := HX1.out.size; omega
    clear hx1
    go_wp2_with fail
    go_loopg [7] n (fun gk ii wr => ∃ (k : Nat) (p q : Int), Hid (gk + k = n) ∧ ii = .int .i64 (k : Int) ∧ Hid (Boxed w1 wr w1.heap.size p q) ∧ Hid (dotN A B k = some (p, q)))
    case atStart => exact ⟨0, 0, 1, Lib.hid (by omega), rfl, HB0, Lib.hid rfl⟩
    case round =>
      obtain ⟨g1, h_g1⟩ : ∃ x, x = gk := ⟨_, rfl⟩
      subst h_g1
      obtain ⟨wr1, h_wr1⟩ : ∃ x, x = wr := ⟨_, rfl⟩
      subst h_wr1
      obtain ⟨k, p, q, HK, rfl, HB, HT⟩ := hrel
      have hb0 := HB.out.c0
      have hb1 := HB.out.c1
      have hbl := HB.out.lt
      have hszb := HB.out.ext.size
      by_cases hlt : k < n
      · obtain ⟨ab, aoff, ax, ay, ha, hax, hac0, hac1⟩ := (HIA.out.ext (HX1.out.trans HB.out.ext)).at hlt
        obtain ⟨bb, boff, bx, by', hb, hbx, hbc0, hbc1⟩ := (HIB.out.ext (HX1.out.trans HB.out.ext)).at hlt
        subst ha hb
        obtain ⟨mx, my, one, hm⟩ : ∃ x y ok, mulR (ax, ay) (bx, by') = ((x, y), ok) := ⟨_, _, _, rfl⟩
        have HM := Lib.hid hm
        obtain ⟨p2, q2, two, hs2⟩ : ∃ u v ok, addR (p, q) (mx, my) = ((u, v), ok) := ⟨_, _, _, rfl⟩
        have HS2 := Lib.hid hs2
        have HST := Lib.hid (show dotN A B (k + 1) = if one = true ∧ two = true then some (p2, q2) else none by rw [dotN_step HT.out, hax, hbx, hm]; simp only; rw [hs2])
        clear hax hbx hm hs2
        go_upto_region 7 with fail
        go_cut [8, 9] (fun sx so wx => ∃ g : Nat, sx = .pointer (some ⟨g, 0, none⟩) ∧ so = .bool one ∧ Hid (Boxed wr1 wx g mx my))
        case first =>
          have hk2 : Ext wr1 wr1.drew := Ext.drew wr1
          have hka : Ext wr1 (wr1.alloc (.cells #[.int .i64 0, .int .i64 0] 85)).drew := (Ext.alloc _ _).trans (Ext.drew _)
          have HKEEP := Lib.hid (fun (w' : World) (h : Ext wr1 w') => (⟨h.cellSome hac0, h.cellSome hac1, h.cellSome hbc0, h.cellSome hbc1, h⟩ : w'.cell? ⟨ab, aoff + k * 2, none⟩ = some (.int .i64 ax) ∧ w'.cell? ⟨ab, aoff + k * 2 + 1, none⟩ = some (.int .i64 ay) ∧ w'.cell? ⟨bb, boff + k * 2, none⟩ = some (.int .i64 bx) ∧ w'.cell? ⟨bb, boff + k * 2 + 1, none⟩ = some (.int .i64 by') ∧ Ext wr1 w'))
          go_region_held3 (fun w' => w'.cell? ⟨ab, aoff + k * 2, none⟩ = some (.int .i64 ax) ∧ w'.cell? ⟨ab, aoff + k * 2 + 1, none⟩ = some (.int .i64 ay) ∧ w'.cell? ⟨bb, boff + k * 2, none⟩ = some (.int .i64 bx) ∧ w'.cell? ⟨bb, boff + k * 2 + 1, none⟩ = some (.int .i64 by') ∧ Ext wr1 w')
            (first
              | with_reducible exact HKEEP.out _ hk2
              | with_reducible exact HKEEP.out _ hka
              | with_reducible exact HKEEP.out _ ((hk2.setCell (by first | (simp; done) | (simp; omega)) _).setCell (by first | (simp; done) | (simp; omega)) _)
              | with_reducible exact HKEEP.out _ (hk2.trans (Ext.alloc _ _))
              | with_reducible exact HKEEP.out _ (hBB.put _ _).ext)
            (first
              | (go_at_call 221
                 (with_reducible refine (s_MulRat ax ay bx by' _).mono ?_)
                 rw [HM.out]
                 rintro e w3 ⟨rfl, hx_w3⟩
                 first | (with_reducible have hBB := Boxed.grow hBB hx_w3) | (with_reducible have hBB := Boxed.firstD hx_w3) | (with_reducible have hBB := Boxed.laterD hk2 hx_w3) | skip
                 first | (have b0_ := hBB.c0; have b1_ := hBB.c1; have fb_ := hBB.free) | skip
                 have hk2 : Ext wr1 w3 := by first | with_reducible exact hk2.trans hx_w3 | with_reducible exact hka.trans hx_w3 | with_reducible exact (hk2.trans (Ext.alloc _ _)).trans hx_w3
                 have hk2s := hk2.size)
              | fail)
          all_goals (go_wp2_with fail; go_meet; first | exact ⟨_, rfl, rfl, Lib.hid (hBB.put _ _)⟩ | exact ⟨_, rfl, rfl, Lib.hid (Boxed.new hk2 _ _)⟩ | exact ⟨_, rfl, rfl, Lib.hid (Boxed.new' hk2 _ _ (by simp))⟩)
        obtain ⟨g, rfl, rfl, HB1⟩ := hcut
        have g0 := HB1.out.c0
        have g1' := HB1.out.c1
        have hB3 := HB.out.grow HB1.out.ext
        have hb0' := hB3.c0
        have hb1' := hB3.c1
        have HB3 := Lib.hid hB3
        clear hb0 hb1 hac0 hac1 hbc0 hbc1 hB3
        go_wp2_with fail
        refine (s_AddRat p q mx my _).mono ?_
        rw [HS2.out]
        rintro e w4 ⟨rfl, hx4⟩
        have HB4 := Lib.hid (HB3.out.grow hx4)
        have HB5 := Lib.hid (HB4.out.grow (Ext.alloc _ (.cells #[.int .i64 p2, .int .i64 q2] 85)))
        have hr := rcell (HRW.out _ HB5.out.ext)
        obtain ⟨hr0, hr1, hrf⟩ := hr
        have HX5 := Lib.hid HB5.out.ext
        have hbf := HB5.out.free
        have hb5l := HB4.out.lt
        have hw4 := HB4.out.ext.size
        have h40 := HB4.out.c0
        have h41 := HB4.out.c1
        have h4f := HB4.out.free
        clear hx4 g0 g1' hb0' hb1'
        cases one
        · have HN := Lib.hid (show dotL A B = none by rw [HD.out]; exact dotN_none (k := k + 1) (by rw [HST.out]; simp) hlt)
          go_wp2_with fail
          refine bodyPost_ret (v := .tuple #[.agg #[.int .i64 0, .int .i64 0], .bool false]) (by simp [results, Tryz.results182, go_sem, hr0, hr1]) rfl ⟨by rw [HN.out]; rfl, (((HXW.out.trans HX5.out).store 0 (Nat.le_refl _) _).store 1 (Nat.le_refl _) _)⟩
        · cases two
          · have HN := Lib.hid (show dotL A B = none by rw [HD.out]; exact dotN_none (k := k + 1) (by rw [HST.out]; simp) hlt)
            go_wp2_with fail
            refine bodyPost_ret (v := .tuple #[.agg #[.int .i64 0, .int .i64 0], .bool false]) (by simp [results, Tryz.results182, go_sem, hr0, hr1]) rfl ⟨by rw [HN.out]; rfl, (((HXW.out.trans HX5.out).store 0 (Nat.le_refl _) _).store 1 (Nat.le_refl _) _)⟩
          · have HT2 := Lib.hid (show dotN A B (k + 1) = some (p2, q2) by rw [HST.out]; simp)
            have HB6 := Lib.hid ((HB4.out.put p2 q2).grow (Ext.alloc _ (.cells #[.int .i64 p2, .int .i64 q2] 85)))
            go_wp2_with fail
            go_roundg (g1 - 1)
            case measure => have := HK.out; omega
            case rel => exact ⟨k + 1, p2, q2, Lib.hid (by have := HK.out; omega), by go_num, HB6, HT2⟩
      · have hkn : n = k := by have := HK.out; omega
        subst hkn
        have HY := Lib.hid (show dotL A B = some (p, q) by rw [HD.out]; exact HT.out)
        have hr := rcell (HRW.out wr1 HB.out.ext)
        obtain ⟨hr0, hr1, hrf⟩ := hr
        go_wp2_with fail
        refine bodyPost_ret (v := .tuple #[.agg #[.int .i64 p, .int .i64 q], .bool true]) (by simp [results, Tryz.results182, go_sem, hr0, hr1]) rfl ⟨by rw [HY.out]; rfl, (((HXW.out.trans HB.out.ext).store 0 (Nat.le_refl _) _).store 1 (Nat.le_refl _) _)⟩
  · have HN := Lib.hid (show dotL A B = none by unfold dotL; rw [HL.out, HL'.out, if_neg hne])
    have hnn : ((n : Int) != (n' : Int)) = true := by simp; omega
    have hr := rcell HRB.out
    obtain ⟨hr0, hr1, hrf⟩ := hr
    go_enter Tryz.func182, Tryz.ntmps182
    go_wp2_with fail
    refine bodyPost_ret (v := .tuple #[.agg #[.int .i64 0, .int .i64 0], .bool false]) (by simp [results, Tryz.results182, go_sem, hr0, hr1]) rfl ⟨by rw [HN.out]; rfl, HX0.out⟩
theorem ret_tup {v : Value} {a b : Bool} (h : a = b) : Ending.returned (.tuple #[v, .bool a]) = .returned (.tuple #[v, .bool b]) := by rw [h]
set_option maxHeartbeats 4000000 in
theorem s_IntsToRats {w : World} {a : Option Addr} {n cap : Nat} {l : List Int} (h : Ints w a n cap l) (hbig : n ≤ 1048576) :
    Calls Tryz.prog 219 #[.slice a n cap] w fun e w' => (∃ v, e = .returned (.tuple #[v, .bool (fitL l)]) ∧ OwnR w' w.heap.size v (ratsL l)) ∧ Ext w w' := by
  have hcap := h.hcap
  have hmax := h.hmax
  have HL := Lib.hid h.hlen
  have HI := Lib.hid h
  have HO := Lib.hid (OwnR.made w w.heap.size (Nat.le_refl _))
  clear h
  go_enter Tryz.func219, Tryz.ntmps219
  go_wp2_with fail
  go_loopg [4, 5] n (fun gk oo ii wr => ∃ (k : Nat) (a1 : Option Addr) (n1 c1 : Nat), Hid (gk + k = n) ∧ ii = .int .i64 (k : Int) ∧ oo = .slice a1 n1 c1 ∧ Hid ((l.take k).all (fun c => inB c (-1000000000) 1000000000) = true) ∧ Hid (OwnR wr w.heap.size (.slice a1 n1 c1) (wholeL (l.take k))) ∧ Hid (Ext w wr))
  case atStart => exact ⟨0, _, _, _, Lib.hid (by omega), rfl, rfl, Lib.hid rfl, HO, Lib.hid (Ext.alloc _ _)⟩
  case round =>
    obtain ⟨g1, h_g1⟩ : ∃ x, x = gk := ⟨_, rfl⟩
    subst h_g1
    obtain ⟨wr1, h_wr1⟩ : ∃ x, x = wr := ⟨_, rfl⟩
    subst h_wr1
    obtain ⟨k, a1, n1, c1, HK, rfl, rfl, HA, HO1, HX⟩ := hrel
    have hsz := HX.out.size
    by_cases hlt : k < n
    · obtain ⟨b, off, rfl, hc0⟩ := (HI.out.ext HX.out).at hlt
      obtain ⟨x, hx⟩ : ∃ x, x = l[k]?.getD 0 := ⟨_, rfl⟩
      rw [← hx] at hc0
      have HC := Lib.hid (s_l1In x (-1000000000) 1000000000 wr1)
      cases hb : inB x (-1000000000) 1000000000
      all_goals
        rw [hb] at HC
      · have HF := Lib.hid (show fitL l = false from all_falseG (d := 0) (by rw [HL.out]; exact hlt) (by rw [← hx]; exact hb))
        have HR := Lib.hid (show ratsL l = [] by unfold ratsL; rw [HF.out]; rfl)
        clear hx hb
        go_wp2_with (first | (go_at_call 56; refine HC.out.mono ?_; rintro e w2 ⟨rfl, rfl⟩))
        go_ret2
        exact ⟨⟨_, ret_tup HF.out.symm, by rw [HR.out]; exact OwnR.made _ _ hsz⟩, HX.out.trans (Ext.alloc _ _)⟩
      · have HT := Lib.hid (show (l.take (k + 1)).all (fun c => inB c (-1000000000) 1000000000) = true by rw [all_takeG (d := 0) (by rw [HL.out]; exact hlt), HA.out, ← hx, hb]; rfl)
        have HSN := Lib.hid (show wholeL (l.take k) ++ [(x, 1)] = wholeL (l.take (k + 1)) by rw [hx]; exact wholeL_snoc (by rw [HL.out]; exact hlt))
        have HLL := Lib.hid (show (wholeL (l.take k)).length = k by rw [wholeL_len, List.length_take, HL.out]; omega)
        clear hx hb
        go_wp2_with (first | (go_at_call 56; refine HC.out.mono ?_; rintro e w2 ⟨rfl, rfl⟩))
        refine (s_l3Int x _).mono ?_
        rintro e w3 ⟨rfl, hx⟩
        have X3 := Lib.hid (HX.out.trans hx)
        have HO3 := Lib.hid (HO1.out.ext hx)
        have hs3 := X3.out.size
        clear hx
        go_wp2_with (first
          | (at_builtin; refine append_rats rfl _ _ rfl w.heap.size (.slice a1 n1 c1) _ rfl (HO3.out.ext (Ext.alloc _ _)) _ 1 _ [(x, 1)] rfl (Rats.one' _ _ _ _ _ (by simp)) (by rw [HLL.out]; omega) (by simp; omega) ?_; intro v5 w5 ho hg hnear; have X5 := Lib.hid (ext_grown (X3.out.trans (Ext.alloc _ _)) hg (fun j hj => (HO3.out.lt j hj).1)); obtain ⟨a5, n5, p5, rfl, HN5⟩ := ho.var; have HO5 := Lib.hid ho; clear ho hg hnear))
        go_roundg (g1 - 1)
        case measure => have := HK.out; omega
        case rel => exact ⟨k + 1, a5, n5, p5, Lib.hid (by have := HK.out; omega), by go_num, rfl, HT, Lib.hid (by rw [← HSN.out]; exact HO5.out), X5⟩
    · have HT := Lib.hid (show l.take k = l from List.take_of_length_le (by rw [HL.out]; have := HK.out; omega))
      have HF := Lib.hid (show fitL l = true by have := HA.out; rw [HT.out] at this; exact this)
      have HR := Lib.hid (show ratsL l = wholeL (l.take k) by unfold ratsL; rw [HF.out, HT.out]; rfl)
      go_wp2_with fail
      go_ret2
      exact ⟨⟨_, ret_tup HF.out.symm, by rw [HR.out]; exact HO1.out⟩, HX.out⟩
end Go.Proofs.YtgohdmnbnhehnaaGreat
