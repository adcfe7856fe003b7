import Derived.Test.YtgohdmnbnhehnaaGreatFnAllG7
import Derived.Test.YtgohdmnbnhehnaaGreatFnAllG9
import Derived.Deep.DeepCutAuto
import Derived.Test.YtgohdmnbnhehnaaGreatFnAllG11
namespace Go.Proofs.YtgohdmnbnhehnaaGreat
set_option linter.unusedVariables false
set_option linter.unusedSimpArgs false
open Go.RowKit
def seqX (k : Int) (n : Nat) : List (Int × Int × Int) := (List.range n).map fun (i : Nat) => (k + 3 * (i : Int), k + 3 * (i : Int) + 1, k + 3 * (i : Int) + 2)
theorem seqX_at (k : Int) (n i : Nat) (h : i < n) : (seqX k n)[i]?.getD (0, 0, 0) = (k + 3 * i, k + 3 * i + 1, k + 3 * i + 2) := by simp [seqX, h]
def markX (k : Int) (l : List (Int × Int × Int)) (i : Nat) : List (Int × Int × Int) := seqX k i ++ l.drop i
theorem markX_len (k : Int) (l : List (Int × Int × Int)) (i : Nat) (h : i ≤ l.length) : (markX k l i).length = l.length := by simp [markX, seqX]; omega
theorem markX_zero (k : Int) (l : List (Int × Int × Int)) : markX k l 0 = l := by simp [markX, seqX]
theorem markX_all (k : Int) (l : List (Int × Int × Int)) : markX k l l.length = seqX k l.length := by simp [markX]
theorem markX_set (k : Int) (l : List (Int × Int × Int)) (i : Nat) (h : i < l.length) : (markX k l i).set i (k + 3 * i, k + 3 * i + 1, k + 3 * i + 2) = markX k l (i + 1) := by
 unfold markX
 rw [List.set_append_right _ _ (by simp [seqX])]
 have : i - (seqX k i).length = 0 := by simp [seqX]
 rw [this, List.drop_eq_getElem_cons h, List.set_cons_zero]
 simp [seqX, List.range_succ]
theorem fixE_set : ∀ (l : List (Int × Int × Int)) (k : Nat) (x y z : Int), k < l.length → (((fixE.all l).set (k * 3) (.int .i64 x)).set (k * 3 + 1) (.int .i64 y)).set (k * 3 + 2) (.int .i64 z) = fixE.all (l.set k (x, y, z))
 | [], k, x, y, z, h => by simp at h
 | f :: l, 0, x, y, z, h => rfl
 | f :: l, k + 1, x, y, z, h => by
   have ih := fixE_set l k x y z (by simpa using h)
   rw [show (k + 1) * 3 = k * 3 + 3 by omega, List.set_cons_succ]
   show (((_ :: _ :: _ :: fixE.all l : List Value).set (k * 3 + 3) _).set (k * 3 + 3 + 1) _).set (k * 3 + 3 + 2) _ = _ :: _ :: _ :: fixE.all (l.set k (x, y, z))
   rw [← ih]; rfl
theorem OwnX.set {w : World} {base g n cap : Nat} {l : List (Int × Int × Int)} (h : OwnG fixE 108 w base (.slice (some ⟨g, 0, none⟩) n cap) l) {k : Nat} (hk : k < l.length) (x y z : Int) :
 OwnG fixE 108 (((w.setCell ⟨g, k * 3, none⟩ (.int .i64 x)).setCell ⟨g, k * 3 + 1, none⟩ (.int .i64 y)).setCell ⟨g, k * 3 + 2, none⟩ (.int .i64 z)) base (.slice (some ⟨g, 0, none⟩) n cap) (l.set k (x, y, z)) := by
 obtain ⟨a', c', he, _⟩ := OwnG.form h
 simp only [Value.slice.injEq] at he
 obtain ⟨_, rfl, _⟩ := he
 have h1 := (World.ownsRow.stored h (k * 3) (.int .i64 x)).1
 have h2 := (World.ownsRow.stored h1 (k * 3 + 1) (.int .i64 y)).1
 have h3 := (World.ownsRow.stored h2 (k * 3 + 2) (.int .i64 z)).1
 unfold OwnG
 rw [List.length_set, ← fixE_set l k x y z hk]
 exact h3
set_option maxHeartbeats 2000000 in
theorem l_markFixX {w : World} {base : Nat} {a : Option Addr} {n cap : Nat} {l : List (Int × Int × Int)} (h : OwnG fixE 108 w base (.slice a n cap) l) (k0 : Int) (h0 : 0 ≤ k0) (h1 : k0 + 3 * n ≤ 4611686018427387904) :
 Calls Tryz.prog 93 #[.slice a n cap, .int .i64 k0] w fun e w' => e = .returned (.int .i64 (k0 + 3 * n)) ∧ OwnG fixE 108 w' base (.slice a n cap) (seqX k0 n) ∧ w.grownBy w' (Value.slice a n cap).ownBlock ∧ w'.heap.size = w.heap.size := by
 have HL := Lib.hid h.slc.hlen
 have hcap := h.slc.hcap
 have hmax := h.slc.hmax
 have H0 := Lib.hid h
 clear h
 go_enter Tryz.func93, Tryz.ntmps93
 go_wp2_with fail
 go_loopg [1, 5] n (fun gk tt ii wr => ∃ (k : Nat), Hid (gk + k = n) ∧ ii = .int .i64 (k : Int) ∧ tt = .int .i64 (k0 + 3 * (k : Int)) ∧ Hid (OwnG fixE 108 wr base (.slice a n cap) (markX k0 l k)) ∧ Hid (w.grownBy wr (Value.slice a n cap).ownBlock) ∧ Hid (wr.heap.size = w.heap.size))
 case atStart => exact ⟨0, Lib.hid (by omega), rfl, by simp, Lib.hid (by rw [markX_zero]; exact H0.out), Lib.hid (World.grownBy.refl _ _), Lib.hid rfl⟩
 case round =>
  obtain ⟨g1, h_g1⟩ : ∃ x, x = gk := ⟨_, rfl⟩
  subst h_g1
  obtain ⟨wr1, h_wr1⟩ : ∃ x, x = wr := ⟨_, rfl⟩
  subst h_wr1
  obtain ⟨k, HK, rfl, rfl, HO, HG, HS⟩ := hrel
  by_cases hlt : k < n
  ·obtain ⟨g, rfl, hb, hfz, hgl⟩ := HO.out.block hlt
   obtain ⟨b, off, he, hc⟩ := HO.out.slc.fixs.cell k hlt
   simp only [Option.some.injEq, Addr.mk.injEq, and_true] at he
   obtain ⟨rfl, rfl⟩ := he
   obtain ⟨e0, e1, e2⟩ := hc k hlt
   rw [Nat.zero_add] at e0 e1 e2
   have f0 := hfz (k * 3)
   have f1 := hfz (k * 3 + 1)
   have f2 := hfz (k * 3 + 2)
   have HMS := Lib.hid (markX_set k0 l k (by have := HL.out; omega))
   clear hfz hc hb
   go_wp2_with fail
   go_roundg (g1 - 1)
   case measure => have := HK.out; omega
   case rel =>
    refine ⟨k + 1, Lib.hid (by have := HK.out; omega), by go_num, by go_num, Lib.hid ?_, Lib.hid ?_, Lib.hid (by simp [HS.out])⟩
    ·rw [← HMS.out]
     have := OwnX.set HO.out (k := k) (by rw [markX_len _ _ _ (by have := HL.out; omega)]; have := HL.out; omega) (k0 + 3 * k) (k0 + 3 * k + 1) (k0 + 3 * k + 2)
     rw [show k0 + 3 * (k : Int) + 2 = k0 + 3 * (k : Int) + 1 + 1 by omega] at this ⊢
     exact this
    ·have hg := HG.out
     refine ⟨hg.os, hg.tape, hg.output, by simpa using hg.size, fun j hj hne => ?_⟩
     have hne' : j ≠ g := by intro e; exact hne (by simp [Value.ownBlock, e])
     rw [heap_setCell_other _ _ j _ hne', heap_setCell_other _ _ j _ hne', heap_setCell_other _ _ j _ hne']
     exact hg.block j hj hne
  ·have hkn : k = n := by have := HK.out; omega
   subst hkn
   have HO2 := Lib.hid (show OwnG fixE 108 wr1 base (.slice a k cap) (seqX k0 k) by
    have h2 := HO.out
    have hl := HL.out
    rw [← hl, markX_all, hl] at h2
    exact h2)
   go_wp2_with fail
   go_ret
   exact ⟨rfl, HO2.out, HG.out, HS.out⟩
set_option maxHeartbeats 1000000 in
theorem l_heldFixX {w : World} {a : Option Addr} {n cap : Nat} (k0 : Int) (h : Fixs w a n cap (seqX k0 n)) (h0 : 0 ≤ k0) (h1 : k0 + 3 * n ≤ 4611686018427387904) :
 Calls Tryz.prog 94 #[.slice a n cap, .int .i64 k0] w fun e w' => e = .returned (.int .i64 (k0 + 3 * n)) ∧ Ext w w' := by
 have hcap := h.hcap
 have hmax := h.hmax
 have HF := Lib.hid h
 clear h
 go_enter Tryz.func94, Tryz.ntmps94
 go_wp2_with fail
 go_loopg [1, 5] n (fun gk tt ii wr => ∃ (k : Nat), Hid (gk + k = n) ∧ ii = .int .i64 (k : Int) ∧ tt = .int .i64 (k0 + 3 * (k : Int)) ∧ Hid (Ext w wr))
 case atStart => exact ⟨0, Lib.hid (by omega), rfl, by simp, Lib.hid (Ext.refl _)⟩
 case round =>
  obtain ⟨g1, h_g1⟩ : ∃ x, x = gk := ⟨_, rfl⟩
  subst h_g1
  obtain ⟨wr1, h_wr1⟩ : ∃ x, x = wr := ⟨_, rfl⟩
  subst h_wr1
  obtain ⟨k, HK, rfl, rfl, HX⟩ := hrel
  by_cases hlt : k < n
  ·obtain ⟨b, off, hea, e0, e1, e2⟩ : ∃ b off, a = some ⟨b, off, none⟩ ∧ wr1.cell? ⟨b, off + k * 3, none⟩ = some (.int .i64 (k0 + 3 * (k : Int))) ∧ wr1.cell? ⟨b, off + k * 3 + 1, none⟩ = some (.int .i64 (k0 + 3 * (k : Int) + 1)) ∧ wr1.cell? ⟨b, off + k * 3 + 2, none⟩ = some (.int .i64 (k0 + 3 * (k : Int) + 2)) := by
    obtain ⟨b, off, e, hc⟩ := (HF.out.ext HX.out).cell k hlt
    have h3 := hc k hlt
    rw [seqX_at _ _ _ hlt] at h3
    exact ⟨b, off, e, h3⟩
   subst hea
   have q0 : ((k0 + 3 * (k : Int)) != (k0 + 3 * (k : Int))) = false := by simp
   have q1 : ((k0 + 3 * (k : Int) + 1) != (k0 + 3 * (k : Int) + 1)) = false := by simp
   have q2 : ((k0 + 3 * (k : Int) + 2) != (k0 + 3 * (k : Int) + 1 + 1)) = false := by simp; omega
   go_wp2_with fail
   go_roundg (g1 - 1)
   case measure => have := HK.out; omega
   case rel => exact ⟨k + 1, Lib.hid (by have := HK.out; omega), by go_num, by go_num, HX⟩
  ·have hkn : k = n := by have := HK.out; omega
   subst hkn
   go_wp2_with fail
   go_ret
   exact ⟨rfl, HX.out⟩
abbrev nuc (o : Bool) (a : Option Addr) (n cap : Nat) (b : Option Addr) (m dap : Nat) (x : Int) : Value := .agg #[.bool o, .slice a n cap, .slice b m dap, .int .i64 x]
def sameN (o : Bool) (l : List (Int × Int)) (r : List (Int × Int × Int)) (x : Int) (o' : Bool) (l' : List (Int × Int)) (r' : List (Int × Int × Int)) (x' : Int) : Bool :=
 decide (o = o') && (decide (l = l') && (decide (r = r') && decide (x = x')))
set_option maxHeartbeats 2000000 in
theorem l_eqNuc {w : World} {o o' : Bool} {x x' : Int} {a a' b b' : Option Addr} {n n' m m' cap cap' dap dap' : Nat} {l l' : List (Int × Int)} {r r' : List (Int × Int × Int)} (h : Rats w a n cap l) (hr : Fixs w b m dap r) (h' : Rats w a' n' cap' l') (hr' : Fixs w b' m' dap' r') :
 Calls Tryz.prog 27 #[nuc o a n cap b m dap x, nuc o' a' n' cap' b' m' dap' x'] w fun e w' => e = .returned (.bool (sameN o l r x o' l' r' x')) ∧ Ext w w' := by
 have hx0 : Ext w ((w.alloc (.cells #[.bool o, .slice a n cap, .slice b m dap, .int .i64 x] 45)).alloc (.cells #[.bool o', .slice a' n' cap', .slice b' m' dap', .int .i64 x'] 45)) := (Ext.alloc _ _).trans (Ext.alloc _ _)
 have HX0 := Lib.hid hx0
 have HE := Lib.hid (l_eqRatS (h.ext hx0) (h'.ext hx0))
 have HR := Lib.hid (hr.ext hx0)
 have HR' := Lib.hid (hr'.ext hx0)
 clear hx0 h h' hr hr'
 by_cases ho : o = o'
 ·subst ho
  have hob : (o != o) = false := by simp
  cases hl : decide (l = l')
  ·have HLL := Lib.hid hl
   rw [hl] at HE
   clear hl
   go_enter Tryz.func27, Tryz.ntmps27
   go_wp2_with fail
   refine HE.out.mono ?_
   rintro e w1 ⟨rfl, hx⟩
   have X1 := Lib.hid (HX0.out.trans hx)
   clear hx
   go_wp2
   go_ret
   exact ⟨ret_bool (by unfold sameN; rw [HLL.out]; simp), X1.out⟩
  ·have HLL := Lib.hid hl
   rw [hl] at HE
   clear hl
   cases hq : decide (r = r')
   all_goals
    cases hxx : (x != x')
    all_goals
     have HXX := Lib.hid hxx
     have HQ := Lib.hid hq
     go_enter Tryz.func27, Tryz.ntmps27
     go_wp2_with fail
     refine HE.out.mono ?_
     rintro e w1 ⟨rfl, hx⟩
     have c2 : w1.cell? ⟨w.heap.size, 2, none⟩ = some (.slice b m dap) := hx.cellSome (by simp)
     have c3 : w1.cell? ⟨w.heap.size, 3, none⟩ = some (.int .i64 x) := hx.cellSome (by simp)
     have d2 : w1.cell? ⟨w.heap.size + 1, 2, none⟩ = some (.slice b' m' dap') := hx.cellSome (by simp)
     have d3 : w1.cell? ⟨w.heap.size + 1, 3, none⟩ = some (.int .i64 x') := hx.cellSome (by simp)
     have X1 := Lib.hid (HX0.out.trans hx)
     have HF := Lib.hid (l_eqFixedS (HR.out.ext hx) (HR'.out.ext hx))
     rw [hq] at HF
     clear hx hq
     go_wp2_with fail
     refine HF.out.mono ?_
     rintro e w2 ⟨rfl, hx⟩
     replace c3 := hx.cellSome c3
     replace d3 := hx.cellSome d3
     have X2 := Lib.hid (X1.out.trans hx)
     clear hx
     go_wp2
     go_ret
     have hxx' := HXX.out
     refine ⟨ret_bool ?_, X2.out⟩
     unfold sameN
     rw [HLL.out, HQ.out]
     simp_all
 ·have HO := Lib.hid ho
  have hob : (o == o') = false := by simpa using ho
  clear ho
  go_enter Tryz.func27, Tryz.ntmps27
  go_wp2_with fail
  go_ret
  exact ⟨ret_bool (by unfold sameN; simp [HO.out]), HX0.out⟩
set_option maxHeartbeats 2000000 in
theorem l_markNuc {w : World} {base : Nat} {o : Bool} {x : Int} {a b : Option Addr} {n cap m dap : Nat} {l : List (Int × Int)} {r : List (Int × Int × Int)} (h : OwnR w base (.slice a n cap) l) (hr : OwnG fixE 108 w base (.slice b m dap) r) (hbs : base ≤ w.heap.size) (k0 : Int) (h0 : 0 ≤ k0) (h1 : k0 + 2 * n + 3 * m ≤ 4611686018427387904) :
 Calls Tryz.prog 30 #[nuc o a n cap b m dap x, .int .i64 k0] w fun e w' => e = .returned (.int .i64 (k0 + 2 * n + 3 * m)) ∧ OwnR w' base (.slice a n cap) (seqR k0 n) ∧ OwnG fixE 108 w' base (.slice b m dap) (seqX (k0 + 2 * n) m) ∧ Below base w w' ∧ ∀ (g : Nat) (c : Array Value), w.heap[g]? = some (.cells c 45 (0, 0)) → w'.heap[g]? = some (.cells c 45 (0, 0)) := by
 have hx0 : Ext w (w.alloc (.cells #[.bool o, .slice a n cap, .slice b m dap, .int .i64 x] 45)) := Ext.alloc _ _
 have HX := Lib.hid hx0
 have HR := Lib.hid (h.ext hx0)
 have HS := Lib.hid (hr.ext hx0)
 have c1 : (w.alloc (.cells #[.bool o, .slice a n cap, .slice b m dap, .int .i64 x] 45)).cell? ⟨w.heap.size, 1, none⟩ = some (.slice a n cap) := by simp
 have c2 : (w.alloc (.cells #[.bool o, .slice a n cap, .slice b m dap, .int .i64 x] 45)).cell? ⟨w.heap.size, 2, none⟩ = some (.slice b m dap) := by simp
 have HM := Lib.hid (l_markRatS HR.out k0 h0 (by omega))
 have HXE := Lib.hid hx0
 have HLT := Lib.hid (fun k hk => (h.lt k hk).2)
 clear hx0 h hr
 go_enter Tryz.func30, Tryz.ntmps30
 go_wp2_with fail
 refine HM.out.mono ?_
 rintro e w1 ⟨rfl, ho1, hg1, hz1⟩
 have d2 : w1.cell? ⟨w.heap.size, 2, none⟩ = some (.slice b m dap) := hg1.cell c2 (fun e => by have := HLT.out w.heap.size e.symm; omega)
 have HS1 := Lib.hid (show OwnG fixE 108 w1 base (.slice b m dap) r from ownsRow_grown HS.out HR.out (by decide) hg1)
 have HG1 := Lib.hid hg1
 have HO1 := Lib.hid ho1
 have HM2 := Lib.hid (l_markFixX HS1.out (k0 + 2 * n) (by omega) (by omega))
 clear c1 c2 hg1 ho1 hz1
 go_wp2_with fail
 refine HM2.out.mono ?_
 rintro e w2 ⟨rfl, ho2, hg2, hz2⟩
 have HO2 := Lib.hid (show OwnR w2 base (.slice a n cap) (seqR k0 n) from ownsRow_grown HO1.out HS1.out (by decide) hg2)
 have HS2 := Lib.hid ho2
 have HB := Lib.hid (show Below base w w2 from
  Below.grown (Below.grown ((Below.refl base w).alloc hbs _) HG1.out (by simp; omega) (fun k hk => (HR.out.lt k hk).1)) hg2 (by have h1 := HG1.out.size; simp at h1; omega) (fun k hk => (HS1.out.lt k hk).1))
 have HBX := Lib.hid (fun (g : Nat) (c : Array Value) (hb : w.heap[g]? = some (.cells c 45 (0, 0))) => show w2.heap[g]? = some (.cells c 45 (0, 0)) by
  have b1 := HXE.out.blk hb
  have b2 := (HG1.out.block g (lt_of_block b1) (ownsRow_ne HR.out b1 (by decide))).trans b1
  exact (hg2.block g (lt_of_block b2) (ownsRow_ne HS1.out b2 (by decide))).trans b2)
 clear ho2 hg2 hz2
 go_wp2_with fail
 go_ret
 exact ⟨rfl, HO2.out, HS2.out, HB.out, HBX.out⟩
set_option maxHeartbeats 2000000 in
theorem l_heldNuc {w : World} {o : Bool} {x : Int} {a b : Option Addr} {n cap m dap : Nat} (k0 : Int) (h : Rats w a n cap (seqR k0 n)) (hr : Fixs w b m dap (seqX (k0 + 2 * n) m)) (h0 : 0 ≤ k0) (h1 : k0 + 2 * n + 3 * m ≤ 4611686018427387904) :
 Calls Tryz.prog 31 #[nuc o a n cap b m dap x, .int .i64 k0] w fun e w' => e = .returned (.int .i64 (k0 + 2 * n + 3 * m)) ∧ Ext w w' := by
 have hx0 : Ext w (w.alloc (.cells #[.bool o, .slice a n cap, .slice b m dap, .int .i64 x] 45)) := Ext.alloc _ _
 have HX := Lib.hid hx0
 have HM := Lib.hid (l_heldRatS k0 (h.ext hx0) h0 (by omega))
 have HF := Lib.hid (hr.ext hx0)
 clear hx0 h hr
 go_enter Tryz.func31, Tryz.ntmps31
 go_wp2_with fail
 refine HM.out.mono ?_
 rintro e w1 ⟨rfl, rfl⟩
 have HM2 := Lib.hid (l_heldFixX (k0 + 2 * n) HF.out (by omega) (by omega))
 go_wp2_with fail
 refine HM2.out.mono ?_
 rintro e w2 ⟨rfl, hx2⟩
 have HX2 := Lib.hid (HX.out.trans hx2)
 clear hx2
 go_wp2_with fail
 go_ret
 exact ⟨rfl, HX2.out⟩
end Go.Proofs.YtgohdmnbnhehnaaGreat
