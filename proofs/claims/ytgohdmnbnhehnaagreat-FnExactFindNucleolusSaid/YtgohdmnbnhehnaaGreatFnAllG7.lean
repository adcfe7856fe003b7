import Derived.Test.YtgohdmnbnhehnaaGreatFnAllG6
import Derived.Test.YtgohdmnbnhehnaaGreatFnAllG2
import Derived.Test.YtgohdmnbnhehnaaGreatFnAllG4
import Derived.Deep.DeepCutAuto
import Derived.Test.YtgohdmnbnhehnaaGreatFnAllG3
import Derived.Test.YtgohdmnbnhehnaaGreatFnAllG1
namespace Go.Proofs.YtgohdmnbnhehnaaGreat
set_option linter.unusedVariables false
theorem raw_val {A : List (List Int)} {B : List Int} {C : List (Int × Int)} (ok : okLP A B C = true) {r : LpR} (h : rawT A B C = some r) (hs : r.status = 1) :
 r.Y.length = B.length ∧ valR r.value = true ∧ (∀ k, k < r.Y.length → valR (r.Y[k]?.getD (0, 0)) = true) := by
 obtain ⟨h1, h2, h3, h4, h5, h6⟩ := okLP_parts ok
 unfold rawT at h
 rw [h3] at h
 cases e1 : phaseT (costs1 C.length A.length) 1000 (startT A B C.length) with
 | none => rw [e1] at h; cases h
 | some p1 =>
   rw [e1] at h
   simp only [Option.bind_some] at h
   split at h
   ·rw [Option.map_eq_some_iff] at h
    obtain ⟨Y, _, rfl⟩ := h
    cases hs
   ·cases e2 : driveN C.length (p1.t, p1.left) A.length with
    | none => rw [e2] at h; cases h
    | some s =>
      rw [e2] at h
      simp only [Option.bind_some] at h
      rw [Option.map_eq_some_iff] at h
      obtain ⟨p2, e3, h⟩ := h
      split at h
      ·subst h; cases hs
      ·have i1 := (phaseT_inv (start_inv ok) e1).1
       have i2 := (driveN_inv (s := (p1.t, p1.left)) i1 e2).1
       obtain ⟨i3, e4, _⟩ := phaseT_inv i2 e3
       obtain ⟨c1, c2⟩ := costT_spec i3 e4
       subst h
       refine ⟨by simp [h3], ?_, fun k hk => ?_⟩
       ·simp only
        rw [valR_negR]
        exact c1.2 _ (by omega)
       ·simp only [List.length_map, List.length_range] at hk
        simp only
        rw [List.getElem?_map, List.getElem?_range hk, Option.map_some, Option.getD_some]
        have hv := c1.2 (C.length + k) (by omega)
        unfold dualO sgnR
        split
        ·rw [valR_negR, valR_negR]; exact hv
        ·rw [valR_negR]; exact hv
theorem solveG_val {bound : List (List Int) → List (Int × Int) → List (Int × Int) → Nat → Bool} {A : List (List Int)} {B : List Int} {C : List (Int × Int)} (h : (solveG bound A B C).status = 1) :
 okLP A B C = true ∧ rawT A B C = some (solveG bound A B C) ∧ checkG bound A B C (solveG bound A B C) = true ∧ (solveG bound A B C).Y.length = B.length ∧ valR (solveG bound A B C).value = true ∧ ∀ k, k < (solveG bound A B C).Y.length → valR ((solveG bound A B C).Y[k]?.getD (0, 0)) = true := by
 cases ok : okLP A B C with
 | false => unfold solveG at h; rw [if_neg (by rw [ok]; simp)] at h; cases h
 | true =>
   cases hr : rawT A B C with
   | none =>
     have e : solveG bound A B C = lpZero 4 := by unfold solveG; rw [if_pos ok, hr]
     rw [e] at h; cases h
   | some r =>
     have e : solveG bound A B C = if checkG bound A B C r = true then r else lpZero 4 := by unfold solveG; rw [if_pos ok, hr]
     by_cases hc : checkG bound A B C r = true
     ·rw [if_pos hc] at e
      rw [e] at h ⊢
      have := raw_val ok hr h
      exact ⟨rfl, rfl, hc, this⟩
     ·rw [if_neg hc] at e
      rw [e] at h
      cases h
set_option linter.unusedSimpArgs false
open Go.RowKit
structure Fixs (w : World) (a : Option Addr) (n cap : Nat) (l : List (Int × Int × Int)) : Prop where
 hlen : l.length = n
 hcap : n ≤ cap
 hmax : cap ≤ 9223372036854775807
 cell : ∀ k, k < n → ∃ b off, a = some ⟨b, off, none⟩ ∧ ∀ k, k < n → w.cell? ⟨b, off + k * 3, none⟩ = some (.int .i64 (l[k]?.getD (0, 0, 0)).1) ∧ w.cell? ⟨b, off + k * 3 + 1, none⟩ = some (.int .i64 (l[k]?.getD (0, 0, 0)).2.1) ∧ w.cell? ⟨b, off + k * 3 + 2, none⟩ = some (.int .i64 (l[k]?.getD (0, 0, 0)).2.2)
theorem Fixs.ext {w w' : World} {a : Option Addr} {n cap : Nat} {l : List (Int × Int × Int)} (h : Fixs w a n cap l) (hx : Ext w w') : Fixs w' a n cap l :=
 ⟨h.hlen, h.hcap, h.hmax, fun k hk => let ⟨b, off, e, hc⟩ := h.cell k hk; ⟨b, off, e, fun k hk => ⟨hx.cellSome (hc k hk).1, hx.cellSome (hc k hk).2.1, hx.cellSome (hc k hk).2.2⟩⟩⟩
theorem Fixs.at {w : World} {a : Option Addr} {n cap : Nat} {l : List (Int × Int × Int)} (h : Fixs w a n cap l) {k : Nat} (hk : k < n) :
 ∃ b off x y z, a = some ⟨b, off, none⟩ ∧ l[k]?.getD (0, 0, 0) = (x, y, z) ∧ w.cell? ⟨b, off + k * 3, none⟩ = some (.int .i64 x) ∧ w.cell? ⟨b, off + k * 3 + 1, none⟩ = some (.int .i64 y) ∧ w.cell? ⟨b, off + k * 3 + 2, none⟩ = some (.int .i64 z) :=
 let ⟨b, off, e, hc⟩ := h.cell k hk; ⟨b, off, _, _, _, e, rfl, (hc k hk).1, (hc k hk).2.1, (hc k hk).2.2⟩
theorem take_snocX {l : List (Int × Int × Int)} {k : Nat} (h : k < l.length) : l.take (k+1) = l.take k ++ [l[k]?.getD (0, 0, 0)] := by
 rw [List.take_succ_eq_append_getElem h]; simp [h]
set_option maxHeartbeats 400000 in
theorem l_eqFixed (x y z x' y' z' : Int) (w : World) :
 Calls Tryz.prog 155 #[.agg #[.int .i64 x, .int .i64 y, .int .i64 z], .agg #[.int .i64 x', .int .i64 y', .int .i64 z']] w fun e w' => e = .returned (.bool (decide (x = x') && (decide (y = y') && decide (z = z')))) ∧ Ext w w' := by
 have hne : (x != x') = !decide (x = x') := by by_cases h : x = x' <;> simp [h]
 have HX := Lib.hid ((Ext.alloc w (.cells #[.int .i64 x, .int .i64 y, .int .i64 z] 108)).trans (Ext.alloc _ (.cells #[.int .i64 x', .int .i64 y', .int .i64 z'] 108)))
 cases hd : decide (x = x')
 ·rw [hd] at hne
  go_enter Tryz.func155, Tryz.ntmps155
  go_wp2_with fail
  go_ret
  exact ⟨rfl, HX.out⟩
 ·rw [hd] at hne
  cases hd2 : (decide (y = y') && decide (z = z'))
  all_goals
   go_enter Tryz.func155, Tryz.ntmps155
   go_wp2_with fail
   refine (l_eqRat _ _ _ _ _).mono ?_
   rw [hd2]
   rintro e w1 ⟨rfl, hx⟩
   go_wp2
   go_ret
   exact ⟨rfl, HX.out.trans hx⟩
set_option maxHeartbeats 1000000 in
theorem l_eqFixedS {w : World} {a a' : Option Addr} {n n' cap cap' : Nat} {l l' : List (Int × Int × Int)} (h : Fixs w a n cap l) (h' : Fixs w a' n' cap' l') :
 Calls Tryz.prog 92 #[.slice a n cap, .slice a' n' cap'] w fun e w' => e = .returned (.bool (decide (l = l'))) ∧ Ext w w' := by
 have hn := h.hcap
 have hm := h.hmax
 have hn' := h'.hcap
 have hm' := h'.hmax
 have HL := Lib.hid h.hlen
 have HL' := Lib.hid h'.hlen
 by_cases hne : n = n'
 ·subst hne
  go_enter Tryz.func92, Tryz.ntmps92
  go_wp2
  go_loopw [5] (fun i wr => ∃ k : Nat, k ≤ n ∧ i = .int .i64 k ∧ l.take k = l'.take k ∧ Ext w wr) (fun i _ => n - (intOf i).toNat)
  case atStart => exact ⟨0, Nat.zero_le _, rfl, rfl, Ext.refl _⟩
  case round =>
   obtain ⟨k, hk, rfl, htk, hx⟩ := hrel
   have HT := Lib.hid htk
   clear htk
   by_cases hlt : k < n
   ·have h1 := h.ext hx
    have h1' := h'.ext hx
    obtain ⟨b, off, x, y, z, rfl, hxy, hc1, hc2, hc3⟩ := h1.at hlt
    obtain ⟨b', off', x', y', z', rfl, hxy', hc1', hc2', hc3'⟩ := h1'.at hlt
    have HXY := Lib.hid hxy
    have HXY' := Lib.hid hxy'
    have HX := Lib.hid hx
    have hk2 : Ext wr wr.drew := Ext.drew wr
    clear hxy hxy' hx h h' h1 h1'
    cases hq : (decide (x = x') && (decide (y = y') && decide (z = z')))
    all_goals
     have HQ := Lib.hid hq
     go_wp2
     go_region_held3 (fun w' => w'.cell? ⟨b, off + k * 3, none⟩ = some (.int .i64 x) ∧ w'.cell? ⟨b, off + k * 3 + 1, none⟩ = some (.int .i64 y) ∧ w'.cell? ⟨b, off + k * 3 + 2, none⟩ = some (.int .i64 z) ∧ w'.cell? ⟨b', off' + k * 3, none⟩ = some (.int .i64 x') ∧ w'.cell? ⟨b', off' + k * 3 + 1, none⟩ = some (.int .i64 y') ∧ w'.cell? ⟨b', off' + k * 3 + 2, none⟩ = some (.int .i64 z') ∧ Ext wr w')
      (exact ⟨hk2.cellSome hc1, hk2.cellSome hc2, hk2.cellSome hc3, hk2.cellSome hc1', hk2.cellSome hc2', hk2.cellSome hc3', hk2⟩)
      (first
        | (go_at_call 155; refine (l_eqFixed _ _ _ _ _ _ _).mono ?_; rw [hq]; rintro e w3 ⟨rfl, hx3⟩; have hk2 := hk2.trans hx3))
     go_wp2
    ·go_ret
     refine ⟨ret_bool ?_, HX.out.trans hk2⟩
     symm
     rw [decide_eq_false_iff_not]
     intro e
     have := HXY.out.symm.trans ((congrArg (fun l => l[k]?.getD (0, 0, 0)) e).trans HXY'.out)
     simp only [Prod.mk.injEq] at this
     have h2 := HQ.out
     rw [this.1, this.2.1, this.2.2] at h2
     simp at h2
    ·go_roundw
     case rel =>
      have hq2 : x = x' ∧ y = y' ∧ z = z' := by have := HQ.out; simpa using this
      obtain ⟨rfl, rfl, rfl⟩ := hq2
      exact ⟨k + 1, by omega, by go_num, by rw [take_snocX (by have := HL.out; omega), take_snocX (by have := HL'.out; omega), HT.out, HXY.out, HXY'.out], HX.out.trans hk2⟩
     case measure => simp [intOf]; omega
   ·go_wp2
    go_ret
    refine ⟨ret_bool ?_, hx⟩
    symm
    rw [decide_eq_true_eq]
    have := HT.out
    rwa [List.take_of_length_le (by have := HL.out; omega), List.take_of_length_le (by have := HL'.out; omega)] at this
 ·have hne' : ((n : Int) != (n' : Int)) = true := by simp; omega
  have HN := Lib.hid hne
  clear hne
  go_enter Tryz.func92, Tryz.ntmps92
  go_wp2
  go_ret
  refine ⟨ret_bool ?_, Ext.refl _⟩
  symm
  rw [decide_eq_false_iff_not]
  intro e
  exact HN.out (by rw [← HL.out, ← HL'.out, e])
def fixC (p : Int × Int × Int) : List Value := [.int .i64 p.1, .int .i64 p.2.1, .int .i64 p.2.2]
def fixCells (l : List (Int × Int × Int)) : Array Value := (l.flatMap fixC).toArray
theorem fixC_at : ∀ (l : List (Int × Int × Int)) (k : Nat), k < l.length → (l.flatMap fixC)[k * 3]? = some (.int .i64 (l[k]?.getD (0, 0, 0)).1) ∧ (l.flatMap fixC)[k * 3 + 1]? = some (.int .i64 (l[k]?.getD (0, 0, 0)).2.1) ∧ (l.flatMap fixC)[k * 3 + 2]? = some (.int .i64 (l[k]?.getD (0, 0, 0)).2.2)
 | [], k, h => absurd h (by simp)
 | p :: l, 0, _ => by simp [fixC]
 | p :: l, k + 1, h => by
   have := fixC_at l k (by simpa using h)
   rw [show (k + 1) * 3 = k * 3 + 1 + 1 + 1 by omega]
   simpa [fixC] using this
theorem fixC_set : ∀ (l : List (Int × Int × Int)) (k : Nat) (x y z : Int), k < l.length → (((l.flatMap fixC).set (k * 3) (.int .i64 x)).set (k * 3 + 1) (.int .i64 y)).set (k * 3 + 2) (.int .i64 z) = (l.set k (x, y, z)).flatMap fixC
 | [], k, _, _, _, h => absurd h (by simp)
 | p :: l, 0, _, _, _, _ => by simp [fixC]
 | p :: l, k + 1, x, y, z, h => by
   have := fixC_set l k x y z (by simpa using h)
   rw [show (k + 1) * 3 = k * 3 + 1 + 1 + 1 by omega]
   simpa [fixC] using this
def FRow (w : World) (b : Nat) (t : TypeId) (l : List (Int × Int × Int)) : Prop := w.heap[b]? = some (.cells (fixCells l) t (0, 0))
theorem FRow.cell {w : World} {b : Nat} {t : TypeId} {l : List (Int × Int × Int)} (h : FRow w b t l) {k : Nat} (hk : k < l.length) : w.cell? ⟨b, k * 3, none⟩ = some (.int .i64 (l[k]?.getD (0, 0, 0)).1) ∧ w.cell? ⟨b, k * 3 + 1, none⟩ = some (.int .i64 (l[k]?.getD (0, 0, 0)).2.1) ∧ w.cell? ⟨b, k * 3 + 2, none⟩ = some (.int .i64 (l[k]?.getD (0, 0, 0)).2.2) := by
 rw [cell_of_row w b _ _ t _ h, cell_of_row w b _ _ t _ h, cell_of_row w b _ _ t _ h]
 simpa [fixCells] using fixC_at l k hk
theorem FRow.free {w : World} {b : Nat} {t : TypeId} {l : List (Int × Int × Int)} (h : FRow w b t l) (k : Nat) : w.frozen? ⟨b, k, none⟩ = false := frozen_of_row w b k _ t h
theorem FRow.lt {w : World} {b : Nat} {t : TypeId} {l : List (Int × Int × Int)} (h : FRow w b t l) : b < w.heap.size := lt_of_block h
theorem FRow.set {w : World} {b : Nat} {t : TypeId} {l : List (Int × Int × Int)} (h : FRow w b t l) {k : Nat} (hk : k < l.length) (x y z : Int) : FRow (((w.setCell ⟨b, k * 3, none⟩ (.int .i64 x)).setCell ⟨b, k * 3 + 1, none⟩ (.int .i64 y)).setCell ⟨b, k * 3 + 2, none⟩ (.int .i64 z)) b t (l.set k (x, y, z)) := by
 have h1 := heap_setCell_same w b (k * 3) _ t (.int .i64 x) h
 have h2 := heap_setCell_same _ b (k * 3 + 1) _ t (.int .i64 y) h1
 have h3 := heap_setCell_same _ b (k * 3 + 2) _ t (.int .i64 z) h2
 unfold FRow
 rw [h3]
 have := fixC_set l k x y z hk
 simp only [fixCells, List.setIfInBounds_toArray, this]
theorem FRow.ext {w w' : World} {b : Nat} {t : TypeId} {l : List (Int × Int × Int)} (h : FRow w b t l) (hx : Ext w w') : FRow w' b t l := (hx.block b h.lt).trans h
theorem FRow.fixs {w : World} {b : Nat} {t : TypeId} {l : List (Int × Int × Int)} (h : FRow w b t l) {n cap : Nat} (hn : l.length = n) (hc : n ≤ cap) (hm : cap ≤ 9223372036854775807) : Fixs w (some ⟨b, 0, none⟩) n cap l :=
 ⟨hn, hc, hm, fun _ _ => ⟨b, 0, rfl, fun k hk => by rw [Nat.zero_add]; exact h.cell (by omega)⟩⟩
def hasX (l : List (Int × Int × Int)) (s : Int) : Bool := l.any fun f => f.1 == s
theorem hasX_snoc {l : List (Int × Int × Int)} {k : Nat} {s : Int} (h : k < l.length) : hasX (l.take (k + 1)) s = (hasX (l.take k) s || (l[k]?.getD (0, 0, 0)).1 == s) := by
 rw [take_snocX h]; simp [hasX]
theorem hasX_at {l : List (Int × Int × Int)} {k : Nat} {s : Int} (h : k < l.length) (e : (l[k]?.getD (0, 0, 0)).1 = s) : hasX l s = true := by
 unfold hasX
 rw [List.any_eq_true]
 exact ⟨l[k], List.getElem_mem h, by rw [List.getElem?_eq_getElem h] at e; simpa using e⟩
set_option maxHeartbeats 2000000 in
theorem s_l16Has {w : World} {a : Option Addr} {n cap : Nat} {l : List (Int × Int × Int)} (h : Fixs w a n cap l) (s : Int) :
 Calls Tryz.prog 148 #[.slice a n cap, .int .i64 s] w fun e w' => e = .returned (.bool (hasX l s)) ∧ w = w' := by
 have hcap := h.hcap
 have hmax := h.hmax
 have HL := Lib.hid h.hlen
 have HF := Lib.hid h
 clear h
 go_enter Tryz.func148, Tryz.ntmps148
 go_wp2_with fail
 go_loop [5] (fun ii => ∃ k : Nat, k ≤ n ∧ ii = .int .i64 (k : Int) ∧ Hid (hasX (l.take k) s = false)) (fun ii => n - (intOf ii).toNat)
 case atStart => exact ⟨0, Nat.zero_le _, rfl, Lib.hid rfl⟩
 case round =>
  obtain ⟨k, hk, rfl, HH⟩ := hrel
  by_cases hlt : k < n
  ·obtain ⟨b, off, x, y, z, rfl, hx, hc, hc1, hc2⟩ := HF.out.at hlt
   by_cases hxs : x = s
   ·have HT := Lib.hid (hasX_at (l := l) (k := k) (s := s) (by rw [HL.out]; exact hlt) (by rw [hx]; exact hxs))
    subst hxs
    clear hx
    go_wp2_with fail
    go_ret
    exact ⟨ret_bool HT.out.symm, rfl⟩
   ·have hxb : (x == s) = false := by simpa using hxs
    have HT := Lib.hid (show hasX (l.take (k + 1)) s = false by rw [hasX_snoc (by rw [HL.out]; exact hlt), HH.out, hx]; simpa using hxs)
    clear hx
    go_wp2_with fail
    go_round
    case rel => exact ⟨k + 1, by omega, by go_num, HT⟩
    case measure => simp [intOf]; omega
  ·have HT := Lib.hid (show l.take k = l from List.take_of_length_le (by rw [HL.out]; omega))
   go_wp2_with fail
   go_ret
   exact ⟨ret_bool (by have := HH.out; rw [HT.out] at this; exact this.symm), rfl⟩
def freeL (L : List (Int × Int × Int)) (m : Nat) : List Int := (seqI 1 m).filter fun s => !hasX L s
theorem freeL_succ (L : List (Int × Int × Int)) (m : Nat) : freeL L (m + 1) = freeL L m ++ (if hasX L ((m : Int) + 1) = true then [] else [(m : Int) + 1]) := by
 unfold freeL seqI
 rw [List.range_succ, List.map_append, List.filter_append]
 congr 1
 rw [List.map_singleton, show (1 : Int) + (m : Int) = (m : Int) + 1 by omega]
 simp only [List.filter_cons, List.filter_nil]
 cases hasX L ((m : Int) + 1) <;> rfl
theorem freeL_len (L : List (Int × Int × Int)) (m : Nat) : (freeL L m).length ≤ m := by
 unfold freeL; exact Nat.le_trans (List.length_filter_le _ _) (by simp [seqI])
theorem freeL_mem {L : List (Int × Int × Int)} {m : Nat} {s : Int} (h : s ∈ freeL L m) : 1 ≤ s ∧ s ≤ m ∧ hasX L s = false := by
 unfold freeL seqI at h
 simp only [List.mem_filter, List.mem_map, List.mem_range, Bool.not_eq_true'] at h
 obtain ⟨⟨i, hi, rfl⟩, h2⟩ := h
 exact ⟨by omega, by omega, h2⟩
set_option maxHeartbeats 4000000 in
theorem s_l16Free {w : World} (x : Int) (a : Option Addr) (n cap : Nat) (hn : n ≤ 1000) {fa : Option Addr} {fn fcap : Nat} {L : List (Int × Int × Int)} (h : Fixs w fa fn fcap L) :
 Calls Tryz.prog 84 #[pair x a n cap, .slice fa fn fcap] w fun e w' => (∃ v, e = .returned v ∧ OwnI w' w.heap.size v (freeL L (n - 2))) ∧ Ext w w' := by
 obtain ⟨m, hm⟩ : ∃ m, m = n - 2 := ⟨_, rfl⟩
 have HM := Lib.hid hm
 have HF := Lib.hid h
 have HX0 := Lib.hid (Ext.alloc w (.cells #[.int .i64 x, .slice a n cap] 47))
 have HO := Lib.hid (OwnI.madeS (w.alloc (.cells #[.int .i64 x, .slice a n cap] 47)) (w.heap.size + 1) (w.heap.size + 1) (by simp) (by simp))
 rw [← hm]
 clear h hm
 go_enter Tryz.func84, Tryz.ntmps84
 go_wp2_with fail
 go_loopg [5, 6] m (fun gk oo ii wr => ∃ (k : Nat) (a1 : Option Addr) (n1 p1 : Nat), Hid (gk + k = m) ∧ ii = .int .i64 ((k : Int) + 1) ∧ oo = .slice a1 n1 p1 ∧ Hid (OwnI wr (w.heap.size + 1) (.slice a1 n1 p1) (freeL L k)) ∧ Hid (Ext (w.alloc (.cells #[.int .i64 x, .slice a n cap] 47)) wr))
 case atStart => exact ⟨0, _, _, _, Lib.hid (by omega), by simp, rfl, HO, Lib.hid (Ext.alloc _ _)⟩
 case round =>
  obtain ⟨g1, h_g1⟩ : ∃ x, x = gk := ⟨_, rfl⟩
  subst h_g1
  obtain ⟨wr1, h_wr1⟩ : ∃ x, x = wr := ⟨_, rfl⟩
  subst h_wr1
  obtain ⟨k, a1, n1, p1, HK, rfl, rfl, HO1, HX⟩ := hrel
  have hsz := HX.out.size
  rw [World.size_alloc] at hsz
  have hc : wr1.cell? ⟨w.heap.size, 1, none⟩ = some (.slice a n cap) := HX.out.cellSome (by simp)
  have hkm : k ≤ m := by have := HK.out; omega
  have hm1000 : m ≤ 1000 := by have := HM.out; omega
  by_cases hlt : k < m
  ·have hn1 : (k : Int) + 1 < (n : Int) - 1 := by have := HM.out; omega
   have HL := Lib.hid (freeL_len L k)
   have HC := Lib.hid (s_l16Has ((HF.out.ext HX0.out).ext HX.out) ((k : Int) + 1))
   have HS := Lib.hid (freeL_succ L k)
   cases hb : hasX L ((k : Int) + 1)
   ·rw [hb] at HC HS
    clear hb
    go_wp2_with (first
     | (go_at_call 148; refine HC.out.mono ?_; rintro e w' ⟨rfl, rfl⟩)
     | (at_builtin; refine append_ints rfl _ _ rfl (w.heap.size + 1) (.slice a1 n1 p1) _ rfl (HO1.out.ext (Ext.alloc _ _)) _ 1 _ [(k : Int) + 1] rfl (Ints.oneS _ _ _ _ (by simp)) (by have := HL.out; omega) (by simp; omega) ?_; intro v5 w5 ho hg hnear; obtain ⟨a5, n5, p5, rfl, HN5⟩ := ho.var; have HO5 := Lib.hid ho; have X5 := Lib.hid (ext_grown (HX.out.trans (Ext.alloc _ _)) hg (fun j hj => by have := (HO1.out.lt j hj); simp; omega)); clear ho hg hnear))
    go_roundg (g1 - 1)
    case measure => have := HK.out; omega
    case rel => exact ⟨k + 1, a5, n5, p5, Lib.hid (by have := HK.out; omega), by go_num, rfl, Lib.hid (by have := HO5.out; rw [HS.out]; exact this), X5⟩
   ·rw [hb] at HC HS
    clear hb
    go_wp2_with (first
     | (go_at_call 148; refine HC.out.mono ?_; rintro e w' ⟨rfl, rfl⟩))
    go_roundg (g1 - 1)
    case measure => have := HK.out; omega
    case rel => exact ⟨k + 1, a1, n1, p1, Lib.hid (by have := HK.out; omega), by go_num, rfl, Lib.hid (by have := HO1.out; rw [HS.out]; simpa using this), HX⟩
  ·have hkn : k = m := by have := HK.out; omega
   have hnlt : ¬ (k : Int) + 1 < (n : Int) - 1 := by have := HM.out; omega
   subst hkn
   go_wp2_with fail
   go_ret
   exact ⟨⟨_, rfl, HO1.out.mono (Nat.le_succ _)⟩, HX0.out.trans HX.out⟩
def pivM (M : List (List Int)) (c d : Nat) : Nat := match (M.drop d).findIdx? (fun r => r[c]?.getD 0 != 0) with | some k => d + k | none => M.length
def swp {α : Type} [Inhabited α] (l : List α) (a b : Nat) : List α := (l.set a (l[b]?.getD default)).set b (l[a]?.getD default)
theorem swp_len {α : Type} [Inhabited α] (l : List α) (a b : Nat) : (swp l a b).length = l.length := by simp [swp]
theorem swp_at {α : Type} [Inhabited α] {l : List α} {a b : Nat} (ha : a < l.length) (hb : b < l.length) (i : Nat) : (swp l a b)[i]?.getD default = if i = b then l[a]?.getD default else if i = a then l[b]?.getD default else l[i]?.getD default := by
 unfold swp
 by_cases h1 : i = b
 ·subst h1; rw [if_pos rfl]; simp [hb]
 ·rw [if_neg h1, List.getElem?_set_ne (Ne.symm h1)]
  by_cases h2 : i = a
  ·subst h2; rw [if_pos rfl]; simp [ha]
  ·rw [if_neg h2, List.getElem?_set_ne (Ne.symm h2)]
theorem swp_comm {α : Type} [Inhabited α] (l : List α) {a b : Nat} (ha : a < l.length) (hb : b < l.length) : swp l a b = swp l b a := by
 apply List.ext_getElem?
 intro i
 by_cases hi : i < l.length
 ·have h1 := swp_at ha hb i
  have h2 := swp_at hb ha i
  have e : (if i = b then l[a]?.getD default else if i = a then l[b]?.getD default else l[i]?.getD default) = (if i = a then l[b]?.getD default else if i = b then l[a]?.getD default else l[i]?.getD default) := by
   by_cases h3 : i = b
   ·subst h3; by_cases h4 : i = a
    ·subst h4; simp
    ·simp [h4]
   ·simp [h3]
  rw [e, ← h2] at h1
  have l1 : i < (swp l a b).length := by rw [swp_len]; exact hi
  have l2 : i < (swp l b a).length := by rw [swp_len]; exact hi
  rw [List.getElem?_eq_getElem l1, List.getElem?_eq_getElem l2] at h1 ⊢
  simpa using h1
 ·rw [List.getElem?_eq_none (by rw [swp_len]; omega), List.getElem?_eq_none (by rw [swp_len]; omega)]
def mixR (c : Nat) (p r : List Int) : List Int := (List.range r.length).map fun j => r[j]?.getD 0 * p[c]?.getD 0 - r[c]?.getD 0 * p[j]?.getD 0
def gcdL (l : List Int) : Int := l.foldl gI 0
def elimI (c : Nat) (p r : List Int) : List Int := if r[c]?.getD 0 = 0 then r else (mixR c p r).map fun x => x.tdiv (max (gcdL (mixR c p r)) 1)
theorem mixR_len (c : Nat) (p r : List Int) : (mixR c p r).length = r.length := by simp [mixR]
theorem elimI_len (c : Nat) (p r : List Int) : (elimI c p r).length = r.length := by unfold elimI; split <;> simp [mixR_len]
theorem mixR_at {c : Nat} {p r : List Int} {j : Nat} (h : j < r.length) : (mixR c p r)[j]?.getD 0 = r[j]?.getD 0 * p[c]?.getD 0 - r[c]?.getD 0 * p[j]?.getD 0 := by simp [mixR, h]
def redM (e : Nat → List Int → List Int → List Int) (c : Nat) (M : List (List Int)) (d t : Nat) : List (List Int) := (List.range M.length).map fun i => if d < i ∧ i < t then e c (M[d]?.getD []) (M[i]?.getD []) else M[i]?.getD []
theorem redM_len (e : Nat → List Int → List Int → List Int) (c : Nat) (M : List (List Int)) (d t : Nat) : (redM e c M d t).length = M.length := by simp [redM]
theorem redM_at (e : Nat → List Int → List Int → List Int) (c : Nat) (M : List (List Int)) (d t : Nat) {i : Nat} (h : i < M.length) : (redM e c M d t)[i]?.getD [] = if d < i ∧ i < t then e c (M[d]?.getD []) (M[i]?.getD []) else M[i]?.getD [] := by simp [redM, h]
theorem list_ext {l l' : List (List Int)} (hl : l.length = l'.length) (h : ∀ i, i < l.length → l[i]?.getD [] = l'[i]?.getD []) : l = l' := by
 apply List.ext_getElem hl
 intro i h1 h2
 have := h i h1
 rw [List.getElem?_eq_getElem h1, List.getElem?_eq_getElem h2] at this
 simpa using this
theorem redM_start (e : Nat → List Int → List Int → List Int) (c : Nat) (M : List (List Int)) (d : Nat) : redM e c M d (d + 1) = M := by
 refine list_ext (redM_len _ _ _ _ _) fun i hi => ?_
 rw [redM_len] at hi
 rw [redM_at _ _ _ _ _ hi, if_neg (by omega)]
theorem redM_step (e : Nat → List Int → List Int → List Int) (c : Nat) (M : List (List Int)) (d t : Nat) (h : d < t) (ht : t < M.length) : (redM e c M d t).set t (e c (M[d]?.getD []) (M[t]?.getD [])) = redM e c M d (t + 1) := by
 refine list_ext (by simp [redM_len]) fun i hi => ?_
 rw [List.length_set, redM_len] at hi
 rw [redM_at _ _ _ _ _ hi]
 by_cases hit : i = t
 ·subst hit
  rw [if_pos ⟨h, by omega⟩, List.getElem?_set_self (by rw [redM_len]; exact ht)]; rfl
 ·rw [List.getElem?_set_ne (Ne.symm hit), redM_at _ _ _ _ _ hi]
  by_cases h2 : d < i ∧ i < t
  ·rw [if_pos h2, if_pos ⟨h2.1, by omega⟩]
  ·rw [if_neg h2, if_neg (by omega)]
theorem redM_lo (e : Nat → List Int → List Int → List Int) (c : Nat) (M : List (List Int)) (d t i : Nat) (h : i < M.length) (hi : t ≤ i ∨ i ≤ d) : (redM e c M d t)[i]?.getD [] = M[i]?.getD [] := by
 rw [redM_at _ _ _ _ _ h, if_neg (by omega)]
theorem redM_skip {e : Nat → List Int → List Int → List Int} {c : Nat} {M : List (List Int)} {d t : Nat} (h : d < t) (ht : t < M.length) (he : e c (M[d]?.getD []) (M[t]?.getD []) = M[t]?.getD []) : redM e c M d t = redM e c M d (t + 1) := by
 rw [← redM_step e c M d t h ht, he]
 refine list_ext (by simp) fun i hi => ?_
 rw [redM_len] at hi
 by_cases hit : i = t
 ·subst hit
  rw [List.getElem?_set_self (by rw [redM_len]; exact hi), redM_lo _ _ _ _ _ _ hi (by omega)]; rfl
 ·rw [List.getElem?_set_ne (Ne.symm hit)]
def midL (m r : List Int) (j : Nat) : List Int := m.take j ++ r.drop j
theorem midL_zero (m r : List Int) : midL m r 0 = r := by simp [midL]
theorem midL_all {m r : List Int} (h : m.length = r.length) : midL m r m.length = m := by unfold midL; rw [List.take_length, h, List.drop_length, List.append_nil]
theorem midL_at {m r : List Int} (h : m.length = r.length) {j : Nat} (hj : j < r.length) : (midL m r j)[j]?.getD 0 = r[j]?.getD 0 := by
 unfold midL
 have hl : (m.take j).length = j := by simp; omega
 rw [List.getElem?_append_right (by omega), hl, List.getElem?_drop]
 simp
theorem midL_set {m r : List Int} (h : m.length = r.length) {j : Nat} (hj : j < r.length) : (midL m r j).set j (m[j]?.getD 0) = midL m r (j + 1) := by
 unfold midL
 have hl : (m.take j).length = j := by simp; omega
 rw [List.set_append_right _ _ (by omega), hl, Nat.sub_self, List.drop_eq_getElem_cons hj, List.set_cons_zero, take_snoc (by omega), List.append_assoc]
 rfl
theorem set_same {M : List (List Int)} {i : Nat} {r : List Int} (hi : i < M.length) (h : M[i]?.getD [] = r) : M.set i r = M := by
 refine list_ext (by simp) fun k hk => ?_
 rw [List.length_set] at hk
 by_cases e : k = i
 ·subst e; rw [List.getElem?_set_self hi, h]; rfl
 ·rw [List.getElem?_set_ne (Ne.symm e)]
theorem set_again {M : List (List Int)} {i j : Nat} {m r : List Int} (hi : i < M.length) (hl : m.length = r.length) (hj : j < r.length) : (M.set i (midL m r j)).set i (((M.set i (midL m r j))[i]?.getD []).set j (m[j]?.getD 0)) = M.set i (midL m r (j + 1)) := by
 rw [List.getElem?_set_self hi, Option.getD_some, List.set_set, midL_set hl hj]
def colM (e : Nat → List Int → List Int → List Int) (c : Nat) (s : List (List Int) × Nat) : List (List Int) × Nat :=
 if pivM s.1 c s.2 < s.1.length then (redM e c (swp s.1 s.2 (pivM s.1 c s.2)) s.2 s.1.length, s.2 + 1) else s
def runM (e : Nat → List Int → List Int → List Int) (M : List (List Int)) : Nat → List (List Int) × Nat
 | 0 => (M, 0)
 | c + 1 => colM e c (runM e M c)
theorem pivM_some {M : List (List Int)} {c d : Nat} (h : pivM M c d < M.length) : d ≤ pivM M c d ∧ (M[pivM M c d]?.getD [])[c]?.getD 0 ≠ 0 ∧ ∀ i, d ≤ i → i < pivM M c d → (M[i]?.getD [])[c]?.getD 0 = 0 := by
 unfold pivM at h ⊢
 cases hf : (M.drop d).findIdx? (fun r => r[c]?.getD 0 != 0) with
 | none => rw [hf] at h; simp at h
 | some k =>
   simp only
   rw [List.findIdx?_eq_some_iff_getElem] at hf
   obtain ⟨h1, h2, h3⟩ := hf
   rw [List.length_drop] at h1
   refine ⟨by omega, ?_, fun i hi hi2 => ?_⟩
   ·rw [List.getElem_drop] at h2
    have : d + k < M.length := by omega
    rw [List.getElem?_eq_getElem this]; simpa using h2
   ·have h4 := h3 (i - d) (by omega)
    rw [List.getElem_drop] at h4
    have : i < M.length := by omega
    rw [List.getElem?_eq_getElem this]
    have e : d + (i - d) = i := by omega
    simp only [e] at h4
    simpa using h4
theorem pivM_none {M : List (List Int)} {c d : Nat} (h : ¬ pivM M c d < M.length) (hd : d ≤ M.length) : pivM M c d = M.length ∧ ∀ i, d ≤ i → i < M.length → (M[i]?.getD [])[c]?.getD 0 = 0 := by
 unfold pivM at h ⊢
 cases hf : (M.drop d).findIdx? (fun r => r[c]?.getD 0 != 0) with
 | none =>
   refine ⟨rfl, fun i hi hi2 => ?_⟩
   rw [List.findIdx?_eq_none_iff] at hf
   have := hf (M[i]) (List.mem_drop_iff_getElem.2 ⟨i - d, by omega, by congr 1; omega⟩)
   rw [List.getElem?_eq_getElem hi2]
   simpa using this
 | some k =>
   rw [hf] at h
   simp only at h
   rw [List.findIdx?_eq_some_iff_getElem] at hf
   obtain ⟨h1, _⟩ := hf
   rw [List.length_drop] at h1
   omega
theorem pivM_is {M : List (List Int)} {c d k : Nat} (hk : d ≤ k) (hkl : k < M.length) (h : (M[k]?.getD [])[c]?.getD 0 ≠ 0) (hz : ∀ i, d ≤ i → i < k → (M[i]?.getD [])[c]?.getD 0 = 0) : pivM M c d = k := by
 by_cases hp : pivM M c d < M.length
 ·obtain ⟨h1, h2, h3⟩ := pivM_some hp
  rcases Nat.lt_trichotomy (pivM M c d) k with h4 | h4 | h4
  ·exact absurd (hz _ h1 h4) h2
  ·exact h4
  ·exact absurd (h3 k hk h4) h
 ·exact absurd ((pivM_none hp (by omega)).2 k hk hkl) h
theorem pivM_end {M : List (List Int)} {c d : Nat} (hd : d ≤ M.length) (hz : ∀ i, d ≤ i → i < M.length → (M[i]?.getD [])[c]?.getD 0 = 0) : pivM M c d = M.length := by
 by_cases hp : pivM M c d < M.length
 ·obtain ⟨h1, h2, h3⟩ := pivM_some hp
  exact absurd (hz _ h1 hp) h2
 ·exact (pivM_none hp hd).1
theorem pivM_bd (M : List (List Int)) (c : Nat) {d : Nat} (hd : d ≤ M.length) : d ≤ pivM M c d ∧ pivM M c d ≤ M.length := by
 by_cases hp : pivM M c d < M.length
 ·exact ⟨(pivM_some hp).1, Nat.le_of_lt hp⟩
 ·rw [(pivM_none hp hd).1]; exact ⟨hd, Nat.le_refl _⟩
theorem pivM_zero {M : List (List Int)} {c d k : Nat} (hd : d ≤ M.length) (h1 : d ≤ k) (h2 : k < pivM M c d) : (M[k]?.getD [])[c]?.getD 0 = 0 := by
 by_cases hp : pivM M c d < M.length
 ·exact (pivM_some hp).2.2 k h1 h2
 ·have := pivM_none hp hd
  exact this.2 k h1 (by omega)
def Good (n : Nat) (B : Int) (M : List (List Int)) : Prop := ∀ i, i < M.length → (M[i]?.getD []).length = n ∧ ∀ j : Nat, -B ≤ (M[i]?.getD [])[j]?.getD 0 ∧ (M[i]?.getD [])[j]?.getD 0 ≤ B
def bdM : Nat → Int
 | 0 => 1
 | d + 1 => 2 * (bdM d * bdM d)
theorem bdM_le : ∀ d, d ≤ 4 → 1 ≤ bdM d ∧ bdM d ≤ 32768 ∧ bdM d ≤ bdM (d + 1) := by
 have : ∀ d : Fin 5, 1 ≤ bdM d.val ∧ bdM d.val ≤ 32768 ∧ bdM d.val ≤ bdM (d.val + 1) := by decide +kernel
 exact fun d hd => this ⟨d, by omega⟩
theorem prod_bd {x y B : Int} (h1 : -B ≤ x) (h2 : x ≤ B) (h3 : -B ≤ y) (h4 : y ≤ B) : -(B * B) ≤ x * y ∧ x * y ≤ B * B := by
 have hx : x.natAbs ≤ B.natAbs := by omega
 have hy : y.natAbs ≤ B.natAbs := by omega
 have h : (x * y).natAbs ≤ B.natAbs * B.natAbs := by rw [Int.natAbs_mul]; exact Nat.mul_le_mul hx hy
 have e : ((B.natAbs * B.natAbs : Nat) : Int) = B * B := by rw [Int.natCast_mul]; have : (B.natAbs : Int) = B := by omega
                                                            rw [this]
 omega
theorem mix_bd {c : Nat} {p r : List Int} {B : Int} (hp : ∀ j : Nat, -B ≤ p[j]?.getD 0 ∧ p[j]?.getD 0 ≤ B) (hr : ∀ j : Nat, -B ≤ r[j]?.getD 0 ∧ r[j]?.getD 0 ≤ B) (j : Nat) :
 -(2 * (B * B)) ≤ (mixR c p r)[j]?.getD 0 ∧ (mixR c p r)[j]?.getD 0 ≤ 2 * (B * B) := by
 by_cases h : j < r.length
 ·rw [mixR_at h]
  have h1 := prod_bd (hr j).1 (hr j).2 (hp c).1 (hp c).2
  have h2 := prod_bd (hr c).1 (hr c).2 (hp j).1 (hp j).2
  omega
 ·rw [List.getElem?_eq_none (by rw [mixR_len]; omega)]
  simp only [Option.getD_none]
  have := prod_bd (hr 0).1 (hr 0).2 (hr 0).1 (hr 0).2
  have h0 : 0 ≤ B * B := by have h1 := hr 0; have : 0 ≤ B := by omega
                            exact Int.mul_nonneg this this
  omega
theorem elim_bd {c : Nat} {p r : List Int} {B : Int} (hB : 1 ≤ B) (hp : ∀ j : Nat, -B ≤ p[j]?.getD 0 ∧ p[j]?.getD 0 ≤ B) (hr : ∀ j : Nat, -B ≤ r[j]?.getD 0 ∧ r[j]?.getD 0 ≤ B) (j : Nat) :
 -(2 * (B * B)) ≤ (elimI c p r)[j]?.getD 0 ∧ (elimI c p r)[j]?.getD 0 ≤ 2 * (B * B) := by
 have hBB : B ≤ B * B := by have := Int.mul_le_mul_of_nonneg_left hB (show 0 ≤ B by omega); omega
 unfold elimI
 split
 ·have := hr j; omega
 ·have h1 := mix_bd (c := c) hp hr j
  by_cases h : j < r.length
  ·have e : ((mixR c p r).map fun x => x.tdiv (max (gcdL (mixR c p r)) 1))[j]?.getD 0 = ((mixR c p r)[j]?.getD 0).tdiv (max (gcdL (mixR c p r)) 1) := by
    simp [mixR_len, h]
   rw [e]
   generalize (mixR c p r)[j]?.getD 0 = x at *
   have h2 : (x.tdiv (max (gcdL (mixR c p r)) 1)).natAbs ≤ x.natAbs := by rw [Int.natAbs_tdiv]; exact Nat.div_le_self _ _
   omega
  ·rw [List.getElem?_eq_none (by simp [mixR_len]; omega)]
   simp only [Option.getD_none]
   omega
theorem good_swp {n : Nat} {B : Int} {M : List (List Int)} (h : Good n B M) {a b : Nat} (ha : a < M.length) (hb : b < M.length) : Good n B (swp M a b) := by
 intro i hi
 rw [swp_len] at hi
 have := swp_at ha hb i
 change (swp M a b)[i]?.getD [] = _ at this
 rw [this]
 split
 ·exact h a ha
 ·split
  ·exact h b hb
  ·exact h i hi
theorem good_red {n : Nat} {B B' : Int} {M : List (List Int)} (h : Good n B M) (hBB : B ≤ B') {e : Nat → List Int → List Int → List Int} {c d t : Nat} (hd : d < M.length)
 (he : ∀ p r : List Int, p.length = n → r.length = n → (∀ j : Nat, -B ≤ p[j]?.getD 0 ∧ p[j]?.getD 0 ≤ B) → (∀ j : Nat, -B ≤ r[j]?.getD 0 ∧ r[j]?.getD 0 ≤ B) → (e c p r).length = n ∧ ∀ j : Nat, -B' ≤ (e c p r)[j]?.getD 0 ∧ (e c p r)[j]?.getD 0 ≤ B') : Good n B' (redM e c M d t) := by
 intro i hi
 rw [redM_len] at hi
 rw [redM_at _ _ _ _ _ hi]
 split
 ·exact he _ _ (h d hd).1 (h i hi).1 (h d hd).2 (h i hi).2
 ·have := h i hi
  exact ⟨this.1, fun j => by have := this.2 j; omega⟩
def Tame (e : Nat → List Int → List Int → List Int) : Prop := ∀ (B : Int) (n c : Nat) (p r : List Int), 1 ≤ B → p.length = n → r.length = n → (∀ j : Nat, -B ≤ p[j]?.getD 0 ∧ p[j]?.getD 0 ≤ B) → (∀ j : Nat, -B ≤ r[j]?.getD 0 ∧ r[j]?.getD 0 ≤ B) → (e c p r).length = n ∧ ∀ j : Nat, -(2 * (B * B)) ≤ (e c p r)[j]?.getD 0 ∧ (e c p r)[j]?.getD 0 ≤ 2 * (B * B)
theorem tame_I : Tame elimI := fun B n c p r hB hp hr h1 h2 => ⟨by rw [elimI_len, hr], fun j => elim_bd hB h1 h2 j⟩
theorem tame_S : Tame mixR := fun B n c p r hB hp hr h1 h2 => ⟨by rw [mixR_len, hr], fun j => mix_bd h1 h2 j⟩
theorem runM_ok {e : Nat → List Int → List Int → List Int} (he : Tame e) {n : Nat} {M : List (List Int)} (h : Good n 1 M) : ∀ c, c ≤ 5 → (runM e M c).2 ≤ c ∧ (runM e M c).1.length = M.length ∧ (runM e M c).2 ≤ M.length ∧ Good n (bdM (runM e M c).2) (runM e M c).1
 | 0, _ => ⟨Nat.le_refl _, rfl, Nat.zero_le _, h⟩
 | c + 1, hc => by
   obtain ⟨h1, h2, h3, h4⟩ := runM_ok he h c (by omega)
   show (colM e c (runM e M c)).2 ≤ c + 1 ∧ (colM e c (runM e M c)).1.length = M.length ∧ (colM e c (runM e M c)).2 ≤ M.length ∧ Good n (bdM (colM e c (runM e M c)).2) (colM e c (runM e M c)).1
   unfold colM
   generalize runM e M c = s at *
   split
   ·next hp =>
    have hb := bdM_le s.2 (by omega)
    have hps := (pivM_some hp).1
    refine ⟨by simp only; omega, by simp only [redM_len, swp_len]; exact h2, by simp only; omega, ?_⟩
    refine good_red (good_swp h4 (by omega) hp) hb.2.2 (by rw [swp_len]; omega) fun p r hpl hrl h5 h6 => he _ n c p r hb.1 hpl hrl h5 h6
   ·exact ⟨by omega, h2, h3, h4⟩
def SimR (n : Nat) (a b : List Int) : Prop := ∃ u v : Int, u ≠ 0 ∧ v ≠ 0 ∧ ∀ j, j < n → u * a[j]?.getD 0 = v * b[j]?.getD 0
theorem SimR.refl (n : Nat) (a : List Int) : SimR n a a := ⟨1, 1, by omega, by omega, fun _ _ => rfl⟩
theorem SimR.zero {n : Nat} {a b : List Int} (h : SimR n a b) {j : Nat} (hj : j < n) : a[j]?.getD 0 = 0 ↔ b[j]?.getD 0 = 0 := by
 obtain ⟨u, v, hu, hv, h⟩ := h
 have := h j hj
 constructor
 ·intro e; rw [e, Int.mul_zero] at this
  rcases Int.mul_eq_zero.1 this.symm with h | h
  ·exact absurd h hv
  ·exact h
 ·intro e; rw [e, Int.mul_zero] at this
  rcases Int.mul_eq_zero.1 this with h | h
  ·exact absurd h hu
  ·exact h
theorem gcdL_dvd (l : List Int) : ∀ (g : Int), (l.foldl gI g) ∣ g ∧ ∀ x ∈ l, (l.foldl gI g) ∣ x := by
 induction l with
 | nil => intro g; exact ⟨Int.dvd_refl _, fun x hx => absurd hx (by simp)⟩
 | cons a l ih =>
   intro g
   obtain ⟨h1, h2⟩ := ih (gI g a)
   refine ⟨Int.dvd_trans h1 (gI_dvdl g a), fun x hx => ?_⟩
   rcases List.mem_cons.1 hx with rfl | hx
   ·exact Int.dvd_trans h1 (gI_dvdr g x)
   ·exact h2 x hx
theorem gcdL_nonneg (l : List Int) : ∀ g : Int, 0 ≤ g → 0 ≤ l.foldl gI g := by
 induction l with
 | nil => exact fun g h => h
 | cons a l ih => exact fun g h => ih _ (gI_nonneg g a)
theorem tdiv_back {l : List Int} {x : Int} (hx : x ∈ l) : x.tdiv (max (gcdL l) 1) * max (gcdL l) 1 = x := by
 have h1 := (gcdL_dvd l 0).2 x hx
 have h0 := gcdL_nonneg l 0 (Int.le_refl _)
 change gcdL l ∣ x at h1
 change 0 ≤ gcdL l at h0
 by_cases hg : gcdL l = 0
 ·rw [hg] at h1 ⊢
  have : x = 0 := Int.zero_dvd.1 h1
  subst this
  simp
 ·rw [show max (gcdL l) 1 = gcdL l by omega]
  exact Int.tdiv_mul_cancel h1
theorem sim_elim {n c : Nat} {p q r s : List Int} (hc : c < n) (hr : r.length = n) (hs : s.length = n) (h : SimR n p q) (k : SimR n r s) (hp : p[c]?.getD 0 ≠ 0) : SimR n (elimI c p r) (mixR c q s) := by
 have hq : q[c]?.getD 0 ≠ 0 := fun e => hp ((h.zero hc).2 e)
 have hz := k.zero hc
 obtain ⟨u', v', hu', hv', h⟩ := h
 obtain ⟨u, v, hu, hv, k⟩ := k
 unfold elimI
 split
 ·next h0 =>
  have s0 := hz.1 h0
  refine ⟨u * q[c]?.getD 0, v, Int.mul_ne_zero hu hq, hv, fun j hj => ?_⟩
  rw [mixR_at (by omega), s0]
  have := k j hj
  grind
 ·refine ⟨u * u' * max (gcdL (mixR c p r)) 1, v * v', Int.mul_ne_zero (Int.mul_ne_zero hu hu') (by omega), Int.mul_ne_zero hv hv', fun j hj => ?_⟩
  have hj' : j < (mixR c p r).length := by rw [mixR_len]; omega
  have e1 : ((mixR c p r).map fun x => x.tdiv (max (gcdL (mixR c p r)) 1))[j]?.getD 0 = ((mixR c p r)[j]?.getD 0).tdiv (max (gcdL (mixR c p r)) 1) := by simp [hj']
  have e2 := tdiv_back (l := mixR c p r) (x := (mixR c p r)[j]?.getD 0) (by rw [List.getElem?_eq_getElem hj']; simp)
  rw [e1, mixR_at (show j < s.length by omega)]
  have e3 := mixR_at (c := c) (p := p) (r := r) (j := j) (by omega)
  generalize ((mixR c p r)[j]?.getD 0).tdiv (max (gcdL (mixR c p r)) 1) = z at *
  generalize max (gcdL (mixR c p r)) 1 = G at *
  have k1 := k j hj
  have k2 := k c hc
  have h1 := h j hj
  have h2 := h c hc
  rw [e3] at e2
  generalize r[j]?.getD 0 = rj at *
  generalize r[c]?.getD 0 = rc at *
  generalize s[j]?.getD 0 = sj at *
  generalize s[c]?.getD 0 = sc at *
  generalize p[j]?.getD 0 = pj at *
  generalize p[c]?.getD 0 = pc at *
  generalize q[j]?.getD 0 = qj at *
  generalize q[c]?.getD 0 = qc at *
  have a1 : u * u' * G * z = u * u' * (rj * pc - rc * pj) := by rw [← e2]; grind
  rw [a1]
  have a2 : u * u' * (rj * pc - rc * pj) = (u * rj) * (u' * pc) - (u * rc) * (u' * pj) := by grind
  rw [a2, k1, k2, h1, h2]
  grind
structure SimM (n : Nat) (M K : List (List Int)) : Prop where
 len : M.length = K.length
 row : ∀ i, i < M.length → SimR n (M[i]?.getD []) (K[i]?.getD [])
theorem sim_piv {n c d : Nat} {M K : List (List Int)} (hc : c < n) (hd : d ≤ M.length) (h : SimM n M K) : pivM M c d = pivM K c d := by
 by_cases hp : pivM M c d < M.length
 ·obtain ⟨h1, h2, h3⟩ := pivM_some hp
  refine (pivM_is h1 (by rw [← h.len]; exact hp) (fun e => h2 (((h.row _ hp).zero hc).2 e)) fun i hi hi2 => ((h.row i (by omega)).zero hc).1 (h3 i hi hi2)).symm
 ·obtain ⟨h1, h2⟩ := pivM_none hp hd
  rw [h1, h.len]
  exact (pivM_end (by rw [← h.len]; exact hd) fun i hi hi2 => ((h.row i (by rw [h.len]; exact hi2)).zero hc).1 (h2 i hi (by rw [h.len]; exact hi2))).symm
theorem sim_run {n : Nat} {M : List (List Int)} (h : Good n 1 M) (hn : n ≤ 5) : ∀ c, c ≤ n → SimM n (runM elimI M c).1 (runM mixR M c).1 ∧ (runM elimI M c).2 = (runM mixR M c).2
 | 0, _ => ⟨⟨rfl, fun i _ => SimR.refl _ _⟩, rfl⟩
 | c + 1, hc => by
   obtain ⟨h1, h2⟩ := sim_run h hn c (by omega)
   obtain ⟨a1, a2, a3, a4⟩ := runM_ok tame_I h c (by omega)
   obtain ⟨b1, b2, b3, b4⟩ := runM_ok tame_S h c (by omega)
   show SimM n (colM elimI c (runM elimI M c)).1 (colM mixR c (runM mixR M c)).1 ∧ (colM elimI c (runM elimI M c)).2 = (colM mixR c (runM mixR M c)).2
   generalize runM elimI M c = s at *
   generalize runM mixR M c = t at *
   obtain ⟨S, d⟩ := s
   obtain ⟨T, d'⟩ := t
   simp only at *
   subst h2
   have hpv := sim_piv (show c < n by omega) (show d ≤ S.length by omega) h1
   unfold colM
   simp only
   rw [← hpv]
   by_cases hp : pivM S c d < S.length
   ·rw [if_pos hp, if_pos (by rw [← h1.len]; exact hp)]
    obtain ⟨p1, p2, p3⟩ := pivM_some hp
    have hlen := h1.len
    have hdS : d < S.length := by omega
    refine ⟨⟨by simp [redM_len, swp_len, hlen], fun i hi => ?_⟩, rfl⟩
    rw [redM_len, swp_len] at hi
    have sw : ∀ i, i < S.length → SimR n ((swp S d (pivM S c d))[i]?.getD []) ((swp T d (pivM S c d))[i]?.getD []) := by
     intro i hi
     have e1 := swp_at hdS hp i
     have e2 := swp_at (l := T) (show d < T.length by omega) (show pivM S c d < T.length by omega) i
     change (swp S d (pivM S c d))[i]?.getD [] = _ at e1
     change (swp T d (pivM S c d))[i]?.getD [] = _ at e2
     rw [e1, e2]
     split
     ·exact h1.row d hdS
     ·split
      ·exact h1.row _ hp
      ·exact h1.row i hi
    rw [redM_at _ _ _ _ _ (by rw [swp_len]; exact hi), redM_at _ _ _ _ _ (by rw [swp_len]; omega), ← hlen]
    split
    ·next hdi =>
     have g1 := good_swp a4 hdS hp
     have g2 := good_swp b4 (show d < T.length by omega) (show pivM S c d < T.length by omega)
     refine sim_elim (by omega) (g1 i (by rw [swp_len]; exact hi)).1 (g2 i (by rw [swp_len]; omega)).1 (sw d hdS) (sw i hi) ?_
     have e1 := swp_at hdS hp d
     change (swp S d (pivM S c d))[d]?.getD [] = _ at e1
     rw [e1]
     by_cases hdp : d = pivM S c d
     ·rw [if_pos hdp]; rw [← hdp] at p2; exact p2
     ·rw [if_neg hdp, if_pos rfl]; exact p2
    ·exact sw i hi
   ·rw [if_neg hp, if_neg (by rw [← h1.len]; exact hp)]
    exact ⟨h1, rfl⟩
def digR (n : Nat) (s : Int) : List Int := (List.range n).map fun (k : Nat) => bitI (hasP s (k : Int))
theorem digR_len (n : Nat) (s : Int) : (digR n s).length = n := by simp [digR]
theorem digR_snoc (n : Nat) (s : Int) : digR n s ++ [bitI (hasP s (n : Int))] = digR (n + 1) s := by simp [digR, List.range_succ]
theorem good_dig (n : Nat) (l : List Int) : Good n 1 (l.map (digR n)) := by
 intro i hi
 have hi' : i < l.length := by simpa using hi
 have e : (l.map (digR n))[i]?.getD [] = digR n (l[i]) := by simp [hi']
 rw [e]
 refine ⟨digR_len _ _, fun j => ?_⟩
 by_cases hj : j < n
 ·simp only [digR, List.getElem?_map, List.getElem?_range hj, Option.map_some, Option.getD_some]
  unfold bitI; split <;> omega
 ·rw [List.getElem?_eq_none (by rw [digR_len]; omega)]; simp
def rankI (n : Int) (l : List Int) : Int := if inB n 1 5 = true then ((runM elimI (l.map (digR n.toNat)) n.toNat).2 : Int) else 0
def rankS (n : Int) (l : List Int) : Int := if inB n 1 5 = true then ((runM mixR (l.map (digR n.toNat)) n.toNat).2 : Int) else 0
theorem rank_same (n : Int) (l : List Int) : rankI n l = rankS n l := by
 unfold rankI rankS
 split
 ·next h =>
  simp only [inB, Bool.and_eq_true, decide_eq_true_eq] at h
  rw [(sim_run (good_dig n.toNat l) (by omega) n.toNat (Nat.le_refl _)).2]
 ·rfl
end Go.Proofs.YtgohdmnbnhehnaaGreat
