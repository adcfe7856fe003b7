import Derived.Test.YtgohdmnbnhehnaaGreatSgAllG10
import Derived.Test.YtgohdmnbnhehnaaGreatSgAllG6
import Derived.Test.YtgohdmnbnhehnaaGreatSgAllG3
import Derived.Deep.DeepCutAuto
namespace Go.Proofs.YtgohdmnbnhehnaaGreat
set_option linter.unusedVariables false
theorem raw_val {A : List (List Int)} {B : List Int} {C : List (Int × Int)} (ok : okLP A B C = true) {r : LpR} (h : rawT A B C = some r) (hs : r.status = 1) :
 r.Y.length = B.length ∧ valR r.value = true ∧ (∀ k, k < r.Y.length → valR (r.Y[k]?.getD (0, 0)) = true) := by
 obtain ⟨h1, h2, h3, h4, h5, h6⟩ := okLP_parts ok
 unfold rawT at h
 rw [h3] at h
 cases e1 : phaseT (costs1 C.length A.length) 1000 (startT A B C.length) with
 | none => rw [e1] at h; cases h
 | some p1 =>
   rw [e1] at h
   simp only [Option.bind_some] at h
   split at h
   ·rw [Option.map_eq_some_iff] at h
    obtain ⟨Y, _, rfl⟩ := h
    cases hs
   ·cases e2 : driveN C.length (p1.t, p1.left) A.length with
    | none => rw [e2] at h; cases h
    | some s =>
      rw [e2] at h
      simp only [Option.bind_some] at h
      rw [Option.map_eq_some_iff] at h
      obtain ⟨p2, e3, h⟩ := h
      split at h
      ·subst h; cases hs
      ·have i1 := (phaseT_inv (start_inv ok) e1).1
       have i2 := (driveN_inv (s := (p1.t, p1.left)) i1 e2).1
       obtain ⟨i3, e4, _⟩ := phaseT_inv i2 e3
       obtain ⟨c1, c2⟩ := costT_spec i3 e4
       subst h
       refine ⟨by simp [h3], ?_, fun k hk => ?_⟩
       ·simp only
        rw [valR_negR]
        exact c1.2 _ (by omega)
       ·simp only [List.length_map, List.length_range] at hk
        simp only
        rw [List.getElem?_map, List.getElem?_range hk, Option.map_some, Option.getD_some]
        have hv := c1.2 (C.length + k) (by omega)
        unfold dualO sgnR
        split
        ·rw [valR_negR, valR_negR]; exact hv
        ·rw [valR_negR]; exact hv
theorem solveG_val {bound : List (List Int) → List (Int × Int) → List (Int × Int) → Nat → Bool} {A : List (List Int)} {B : List Int} {C : List (Int × Int)} (h : (solveG bound A B C).status = 1) :
 okLP A B C = true ∧ rawT A B C = some (solveG bound A B C) ∧ checkG bound A B C (solveG bound A B C) = true ∧ (solveG bound A B C).Y.length = B.length ∧ valR (solveG bound A B C).value = true ∧ ∀ k, k < (solveG bound A B C).Y.length → valR ((solveG bound A B C).Y[k]?.getD (0, 0)) = true := by
 cases ok : okLP A B C with
 | false => unfold solveG at h; rw [if_neg (by rw [ok]; simp)] at h; cases h
 | true =>
   cases hr : rawT A B C with
   | none =>
     have e : solveG bound A B C = lpZero 4 := by unfold solveG; rw [if_pos ok, hr]
     rw [e] at h; cases h
   | some r =>
     have e : solveG bound A B C = if checkG bound A B C r = true then r else lpZero 4 := by unfold solveG; rw [if_pos ok, hr]
     by_cases hc : checkG bound A B C r = true
     ·rw [if_pos hc] at e
      rw [e] at h ⊢
      have := raw_val ok hr h
      exact ⟨rfl, rfl, hc, this⟩
     ·rw [if_neg hc] at e
      rw [e] at h
      cases h
set_option linter.unusedSimpArgs false
open Go.RowKit
structure Fixs (w : World) (a : Option Addr) (n cap : Nat) (l : List (Int × Int × Int)) : Prop where
 hlen : l.length = n
 hcap : n ≤ cap
 hmax : cap ≤ 9223372036854775807
 cell : ∀ k, k < n → ∃ b off, a = some ⟨b, off, none⟩ ∧ ∀ k, k < n → w.cell? ⟨b, off + k * 3, none⟩ = some (.int .i64 (l[k]?.getD (0, 0, 0)).1) ∧ w.cell? ⟨b, off + k * 3 + 1, none⟩ = some (.int .i64 (l[k]?.getD (0, 0, 0)).2.1) ∧ w.cell? ⟨b, off + k * 3 + 2, none⟩ = some (.int .i64 (l[k]?.getD (0, 0, 0)).2.2)
theorem Fixs.ext {w w' : World} {a : Option Addr} {n cap : Nat} {l : List (Int × Int × Int)} (h : Fixs w a n cap l) (hx : Ext w w') : Fixs w' a n cap l :=
 ⟨h.hlen, h.hcap, h.hmax, fun k hk => let ⟨b, off, e, hc⟩ := h.cell k hk; ⟨b, off, e, fun k hk => ⟨hx.cellSome (hc k hk).1, hx.cellSome (hc k hk).2.1, hx.cellSome (hc k hk).2.2⟩⟩⟩
theorem Fixs.at {w : World} {a : Option Addr} {n cap : Nat} {l : List (Int × Int × Int)} (h : Fixs w a n cap l) {k : Nat} (hk : k < n) :
 ∃ b off x y z, a = some ⟨b, off, none⟩ ∧ l[k]?.getD (0, 0, 0) = (x, y, z) ∧ w.cell? ⟨b, off + k * 3, none⟩ = some (.int .i64 x) ∧ w.cell? ⟨b, off + k * 3 + 1, none⟩ = some (.int .i64 y) ∧ w.cell? ⟨b, off + k * 3 + 2, none⟩ = some (.int .i64 z) :=
 let ⟨b, off, e, hc⟩ := h.cell k hk; ⟨b, off, _, _, _, e, rfl, (hc k hk).1, (hc k hk).2.1, (hc k hk).2.2⟩
theorem take_snocX {l : List (Int × Int × Int)} {k : Nat} (h : k < l.length) : l.take (k+1) = l.take k ++ [l[k]?.getD (0, 0, 0)] := by
 rw [List.take_succ_eq_append_getElem h]; simp [h]
set_option maxHeartbeats 1000000 in
theorem equal_fixs {w : World} {a a' : Option Addr} {n n' cap cap' : Nat} {l l' : List (Int × Int × Int)} (h : Fixs w a n cap l) (h' : Fixs w a' n' cap' l') :
 Calls Tryz.prog 119 #[.slice a n cap, .slice a' n' cap'] w fun e w' => e = .returned (.bool (decide (l = l'))) ∧ Drew w w' := by
 have hn := h.hcap
 have hm := h.hmax
 have hn' := h'.hcap
 have hm' := h'.hmax
 have HL := Lib.hid h.hlen
 have HL' := Lib.hid h'.hlen
 by_cases hne : n = n'
 ·subst hne
  go_enter Tryz.func119, Tryz.ntmps119
  go_wp2
  go_loopw [13] (fun i wr => ∃ k : Nat, k ≤ n ∧ i = .int .i64 k ∧ l.take k = l'.take k ∧ Drew w wr) (fun i _ => n - (intOf i).toNat)
  case atStart => exact ⟨0, Nat.zero_le _, rfl, rfl, Drew.refl _⟩
  case round =>
   obtain ⟨k, hk, rfl, htk, hx⟩ := hrel
   have HT := Lib.hid htk
   clear htk
   by_cases hlt : k < n
   ·have h1 := h.ext hx.ext
    have h1' := h'.ext hx.ext
    obtain ⟨b, off, x, y, z, rfl, hxy, hc1, hc2, hc3⟩ := h1.at hlt
    obtain ⟨b', off', x', y', z', rfl, hxy', hc1', hc2', hc3'⟩ := h1'.at hlt
    have HXY := Lib.hid hxy
    have HXY' := Lib.hid hxy'
    clear hxy hxy'
    by_cases hq : x = x' ∧ y = y' ∧ z = z'
    ·obtain ⟨rfl, rfl, rfl⟩ := hq
     go_wp2
     go_quiet (fail)
     go_wp2
     go_roundw
     case rel => exact ⟨k + 1, by omega, by go_num, by rw [take_snocX (by have := HL.out; omega), take_snocX (by have := HL'.out; omega), HT.out, HXY.out, HXY'.out], hx.trans ⟨_, rfl⟩⟩
     case measure => simp [intOf]; omega
    ·have HQ := Lib.hid hq
     cases hx1 : (x == x')
     all_goals
      cases hy1 : (y == y')
      all_goals
       cases hz1 : (z == z')
     case neg.true.true.true => exact absurd ⟨by simpa using hx1, by simpa using hy1, by simpa using hz1⟩ hq
     all_goals
      clear hq
      go_wp2
      go_quiet (fail)
      go_wp2
      go_ret
      refine ⟨ret_bool ?_, hx.trans ⟨_, rfl⟩⟩
      symm
      rw [decide_eq_false_iff_not]
      intro e
      have := HXY.out.symm.trans ((congrArg (fun l => l[k]?.getD (0, 0, 0)) e).trans HXY'.out)
      simp only [Prod.mk.injEq] at this
      exact HQ.out this
   ·go_wp2
    go_ret
    refine ⟨ret_bool ?_, hx⟩
    symm
    rw [decide_eq_true_eq]
    have := HT.out
    rwa [List.take_of_length_le (by have := HL.out; omega), List.take_of_length_le (by have := HL'.out; omega)] at this
 ·have hne' : ((n : Int) != (n' : Int)) = true := by simp; omega
  have HN := Lib.hid hne
  clear hne
  go_enter Tryz.func119, Tryz.ntmps119
  go_wp2
  go_ret
  refine ⟨ret_bool ?_, Drew.refl _⟩
  symm
  rw [decide_eq_false_iff_not]
  intro e
  exact HN.out (by rw [← HL.out, ← HL'.out, e])
def fixC (p : Int × Int × Int) : List Value := [.int .i64 p.1, .int .i64 p.2.1, .int .i64 p.2.2]
def fixCells (l : List (Int × Int × Int)) : Array Value := (l.flatMap fixC).toArray
theorem fixC_at : ∀ (l : List (Int × Int × Int)) (k : Nat), k < l.length → (l.flatMap fixC)[k * 3]? = some (.int .i64 (l[k]?.getD (0, 0, 0)).1) ∧ (l.flatMap fixC)[k * 3 + 1]? = some (.int .i64 (l[k]?.getD (0, 0, 0)).2.1) ∧ (l.flatMap fixC)[k * 3 + 2]? = some (.int .i64 (l[k]?.getD (0, 0, 0)).2.2)
 | [], k, h => absurd h (by simp)
 | p :: l, 0, _ => by simp [fixC]
 | p :: l, k + 1, h => by
   have := fixC_at l k (by simpa using h)
   rw [show (k + 1) * 3 = k * 3 + 1 + 1 + 1 by omega]
   simpa [fixC] using this
theorem fixC_set : ∀ (l : List (Int × Int × Int)) (k : Nat) (x y z : Int), k < l.length → (((l.flatMap fixC).set (k * 3) (.int .i64 x)).set (k * 3 + 1) (.int .i64 y)).set (k * 3 + 2) (.int .i64 z) = (l.set k (x, y, z)).flatMap fixC
 | [], k, _, _, _, h => absurd h (by simp)
 | p :: l, 0, _, _, _, _ => by simp [fixC]
 | p :: l, k + 1, x, y, z, h => by
   have := fixC_set l k x y z (by simpa using h)
   rw [show (k + 1) * 3 = k * 3 + 1 + 1 + 1 by omega]
   simpa [fixC] using this
def FRow (w : World) (b : Nat) (t : TypeId) (l : List (Int × Int × Int)) : Prop := w.heap[b]? = some (.cells (fixCells l) t (0, 0))
def hasX (l : List (Int × Int × Int)) (s : Int) : Bool := l.any fun f => f.1 == s
theorem hasX_snoc {l : List (Int × Int × Int)} {k : Nat} {s : Int} (h : k < l.length) : hasX (l.take (k + 1)) s = (hasX (l.take k) s || (l[k]?.getD (0, 0, 0)).1 == s) := by
 rw [take_snocX h]; simp [hasX]
theorem hasX_at {l : List (Int × Int × Int)} {k : Nat} {s : Int} (h : k < l.length) (e : (l[k]?.getD (0, 0, 0)).1 = s) : hasX l s = true := by
 unfold hasX
 rw [List.any_eq_true]
 exact ⟨l[k], List.getElem_mem h, by rw [List.getElem?_eq_getElem h] at e; simpa using e⟩
set_option maxHeartbeats 2000000 in
theorem s_l16Has {w : World} {a : Option Addr} {n cap : Nat} {l : List (Int × Int × Int)} (h : Fixs w a n cap l) (s : Int) :
 Calls Tryz.prog 148 #[.slice a n cap, .int .i64 s] w fun e w' => e = .returned (.bool (hasX l s)) ∧ w = w' := by
 have hcap := h.hcap
 have hmax := h.hmax
 have HL := Lib.hid h.hlen
 have HF := Lib.hid h
 clear h
 go_enter Tryz.func148, Tryz.ntmps148
 go_wp2_with fail
 go_loop [5] (fun ii => ∃ k : Nat, k ≤ n ∧ ii = .int .i64 (k : Int) ∧ Hid (hasX (l.take k) s = false)) (fun ii => n - (intOf ii).toNat)
 case atStart => exact ⟨0, Nat.zero_le _, rfl, Lib.hid rfl⟩
 case round =>
  obtain ⟨k, hk, rfl, HH⟩ := hrel
  by_cases hlt : k < n
  ·obtain ⟨b, off, x, y, z, rfl, hx, hc, hc1, hc2⟩ := HF.out.at hlt
   by_cases hxs : x = s
   ·have HT := Lib.hid (hasX_at (l := l) (k := k) (s := s) (by rw [HL.out]; exact hlt) (by rw [hx]; exact hxs))
    subst hxs
    clear hx
    go_wp2_with fail
    go_ret
    exact ⟨ret_bool HT.out.symm, rfl⟩
   ·have hxb : (x == s) = false := by simpa using hxs
    have HT := Lib.hid (show hasX (l.take (k + 1)) s = false by rw [hasX_snoc (by rw [HL.out]; exact hlt), HH.out, hx]; simpa using hxs)
    clear hx
    go_wp2_with fail
    go_round
    case rel => exact ⟨k + 1, by omega, by go_num, HT⟩
    case measure => simp [intOf]; omega
  ·have HT := Lib.hid (show l.take k = l from List.take_of_length_le (by rw [HL.out]; omega))
   go_wp2_with fail
   go_ret
   exact ⟨ret_bool (by have := HH.out; rw [HT.out] at this; exact this.symm), rfl⟩
def freeL (L : List (Int × Int × Int)) (m : Nat) : List Int := (seqI 1 m).filter fun s => !hasX L s
theorem freeL_succ (L : List (Int × Int × Int)) (m : Nat) : freeL L (m + 1) = freeL L m ++ (if hasX L ((m : Int) + 1) = true then [] else [(m : Int) + 1]) := by
 unfold freeL seqI
 rw [List.range_succ, List.map_append, List.filter_append]
 congr 1
 rw [List.map_singleton, show (1 : Int) + (m : Int) = (m : Int) + 1 by omega]
 simp only [List.filter_cons, List.filter_nil]
 cases hasX L ((m : Int) + 1) <;> rfl
theorem freeL_len (L : List (Int × Int × Int)) (m : Nat) : (freeL L m).length ≤ m := by
 unfold freeL; exact Nat.le_trans (List.length_filter_le _ _) (by simp [seqI])
theorem freeL_mem {L : List (Int × Int × Int)} {m : Nat} {s : Int} (h : s ∈ freeL L m) : 1 ≤ s ∧ s ≤ m ∧ hasX L s = false := by
 unfold freeL seqI at h
 simp only [List.mem_filter, List.mem_map, List.mem_range, Bool.not_eq_true'] at h
 obtain ⟨⟨i, hi, rfl⟩, h2⟩ := h
 exact ⟨by omega, by omega, h2⟩
set_option maxHeartbeats 4000000 in
theorem s_l16Free {w : World} (x : Int) (a : Option Addr) (n cap : Nat) (hn : n ≤ 1000) {fa : Option Addr} {fn fcap : Nat} {L : List (Int × Int × Int)} (h : Fixs w fa fn fcap L) :
 Calls Tryz.prog 84 #[pair x a n cap, .slice fa fn fcap] w fun e w' => (∃ v, e = .returned v ∧ OwnI w' w.heap.size v (freeL L (n - 2))) ∧ Ext w w' := by
 obtain ⟨m, hm⟩ : ∃ m, m = n - 2 := ⟨_, rfl⟩
 have HM := Lib.hid hm
 have HF := Lib.hid h
 have HX0 := Lib.hid (Ext.alloc w (.cells #[.int .i64 x, .slice a n cap] 47))
 have HO := Lib.hid (OwnI.madeS (w.alloc (.cells #[.int .i64 x, .slice a n cap] 47)) (w.heap.size + 1) (w.heap.size + 1) (by simp) (by simp))
 rw [← hm]
 clear h hm
 go_enter Tryz.func84, Tryz.ntmps84
 go_wp2_with fail
 go_loopg [5, 6] m (fun gk oo ii wr => ∃ (k : Nat) (a1 : Option Addr) (n1 p1 : Nat), Hid (gk + k = m) ∧ ii = .int .i64 ((k : Int) + 1) ∧ oo = .slice a1 n1 p1 ∧ Hid (OwnI wr (w.heap.size + 1) (.slice a1 n1 p1) (freeL L k)) ∧ Hid (Ext (w.alloc (.cells #[.int .i64 x, .slice a n cap] 47)) wr))
 case atStart => exact ⟨0, _, _, _, Lib.hid (by omega), by simp, rfl, HO, Lib.hid (Ext.alloc _ _)⟩
 case round =>
  obtain ⟨g1, h_g1⟩ : ∃ x, x = gk := ⟨_, rfl⟩
  subst h_g1
  obtain ⟨wr1, h_wr1⟩ : ∃ x, x = wr := ⟨_, rfl⟩
  subst h_wr1
  obtain ⟨k, a1, n1, p1, HK, rfl, rfl, HO1, HX⟩ := hrel
  have hsz := HX.out.size
  rw [World.size_alloc] at hsz
  have hc : wr1.cell? ⟨w.heap.size, 1, none⟩ = some (.slice a n cap) := HX.out.cellSome (by simp)
  have hkm : k ≤ m := by have := HK.out; omega
  have hm1000 : m ≤ 1000 := by have := HM.out; omega
  by_cases hlt : k < m
  ·have hn1 : (k : Int) + 1 < (n : Int) - 1 := by have := HM.out; omega
   have HL := Lib.hid (freeL_len L k)
   have HC := Lib.hid (s_l16Has ((HF.out.ext HX0.out).ext HX.out) ((k : Int) + 1))
   have HS := Lib.hid (freeL_succ L k)
   cases hb : hasX L ((k : Int) + 1)
   ·rw [hb] at HC HS
    clear hb
    go_wp2_with (first
     | (go_at_call 148; refine HC.out.mono ?_; rintro e w' ⟨rfl, rfl⟩)
     | (at_builtin; refine append_ints rfl _ _ rfl (w.heap.size + 1) (.slice a1 n1 p1) _ rfl (HO1.out.ext (Ext.alloc _ _)) _ 1 _ [(k : Int) + 1] rfl (Ints.oneS _ _ _ _ (by simp)) (by have := HL.out; omega) (by simp; omega) ?_; intro v5 w5 ho hg hnear; obtain ⟨a5, n5, p5, rfl, HN5⟩ := ho.var; have HO5 := Lib.hid ho; have X5 := Lib.hid (ext_grown (HX.out.trans (Ext.alloc _ _)) hg (fun j hj => by have := (HO1.out.lt j hj); simp; omega)); clear ho hg hnear))
    go_roundg (g1 - 1)
    case measure => have := HK.out; omega
    case rel => exact ⟨k + 1, a5, n5, p5, Lib.hid (by have := HK.out; omega), by go_num, rfl, Lib.hid (by have := HO5.out; rw [HS.out]; exact this), X5⟩
   ·rw [hb] at HC HS
    clear hb
    go_wp2_with (first
     | (go_at_call 148; refine HC.out.mono ?_; rintro e w' ⟨rfl, rfl⟩))
    go_roundg (g1 - 1)
    case measure => have := HK.out; omega
    case rel => exact ⟨k + 1, a1, n1, p1, Lib.hid (by have := HK.out; omega), by go_num, rfl, Lib.hid (by have := HO1.out; rw [HS.out]; simpa using this), HX⟩
  ·have hkn : k = m := by have := HK.out; omega
   have hnlt : ¬ (k : Int) + 1 < (n : Int) - 1 := by have := HM.out; omega
   subst hkn
   go_wp2_with fail
   go_ret
   exact ⟨⟨_, rfl, HO1.out.mono (Nat.le_succ _)⟩, HX0.out.trans HX.out⟩
end Go.Proofs.YtgohdmnbnhehnaaGreat
