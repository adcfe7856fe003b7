import Derived.Test.YtgohdmnbnhehnaaLvAllG0
import Derived.Deep.Slices
import Derived.ProofKit
import Derived.OpenShut
import Derived.ShutString
import Derived.ChangeOld
import Derived.Lib.SmallJoins
import Derived.Deep.SlicePairs
namespace Go.Proofs.Ytgohdmnbnhehnaa
set_option linter.unusedVariables false
open Go.RowKit
structure IntSS (w : World) (a : Option Addr) (n cap : Nat) (L : List (List Int)) : Prop where
 hlen : L.length = n
 hcap : n ≤ cap
 hmax : cap ≤ 9223372036854775807
 cell : ∀ k, k < n → ∃ b off, a = some ⟨b, off, none⟩ ∧ ∀ k, k < n → ∃ a' n' c', w.cell? ⟨b, off + k, none⟩ = some (.slice a' n' c') ∧ Ints w a' n' c' (L[k]?.getD [])
theorem IntSS.ext {w w' : World} {a : Option Addr} {n cap : Nat} {L : List (List Int)} (h : IntSS w a n cap L) (hx : Ext w w') : IntSS w' a n cap L :=
 ⟨h.hlen, h.hcap, h.hmax, fun k hk => let ⟨b, off, e, hc⟩ := h.cell k hk; ⟨b, off, e, fun k hk => let ⟨a', n', c', h1, h2⟩ := hc k hk; ⟨a', n', c', hx.cellSome h1, h2.ext hx⟩⟩⟩
theorem IntSS.at {w : World} {a : Option Addr} {n cap : Nat} {L : List (List Int)} (h : IntSS w a n cap L) {k : Nat} (hk : k < n) :
 ∃ b off a' n' c', a = some ⟨b, off, none⟩ ∧ w.cell? ⟨b, off + k, none⟩ = some (.slice a' n' c') ∧ Ints w a' n' c' (L[k]?.getD []) :=
 let ⟨b, off, e, hc⟩ := h.cell k hk; let ⟨a', n', c', h1, h2⟩ := hc k hk; ⟨b, off, a', n', c', e, h1, h2⟩
theorem IntSS.alloc {w : World} {a : Option Addr} {n cap : Nat} {L : List (List Int)} (h : IntSS w a n cap L) (o : Obj) : IntSS (w.alloc o) a n cap L := h.ext (Ext.alloc w o)
theorem IntSS.drewN {w : World} {a : Option Addr} {n cap : Nat} {L : List (List Int)} (h : IntSS w a n cap L) (m : Nat) : IntSS (w.drewN m) a n cap L := h.ext (Drew.ext ⟨m, rfl⟩)
theorem takeL_snoc {α : Type} {L : List (List α)} {k : Nat} (h : k < L.length) : L.take (k+1) = L.take k ++ [L[k]?.getD []] := by
 rw [List.take_succ_eq_append_getElem h]; simp [h]
theorem Try.infoInts : (Try.prog.info? 24).map (fun i => (i.zero, i.size, i.bytes)) = some (some (.slice none 0 0), 1, 24) := by kernel_rfl
def Filled (w : World) (B : Nat) (vs : List Value) (L : List (List Int)) (k : Nat) : Prop :=
 ∀ j, j < k → ∃ b m, vs[j]? = some (.slice (some ⟨b, 0, none⟩) m m) ∧ B < b ∧ (L[j]?.getD []).length = m ∧ Row w b 3 (L[j]?.getD [])
theorem Filled.ext {w w' : World} {B : Nat} {vs : List Value} {L : List (List Int)} {k : Nat} (h : Filled w B vs L k) (hx : Ext w w') : Filled w' B vs L k :=
 fun j hj => let ⟨b, m, h1, h2, h3, h4⟩ := h j hj; ⟨b, m, h1, h2, h3, h4.ext hx⟩
theorem Filled.snoc {w : World} {B : Nat} {vs : List Value} {L : List (List Int)} {k : Nat} (h : Filled w B vs L k) (hv : k < vs.length) {b m : Nat} (hb : B < b) (hm : (L[k]?.getD []).length = m) (hr : Row w b 3 (L[k]?.getD [])) :
 Filled (w.setCell ⟨B, k, none⟩ (.slice (some ⟨b, 0, none⟩) m m)) B (vs.set k (.slice (some ⟨b, 0, none⟩) m m)) L (k + 1) := by
 intro j hj
 by_cases hjk : j = k
 ·subst hjk
  exact ⟨b, m, by simp [hv], hb, hm, hr.other (by simp; omega) _⟩
 ·obtain ⟨b', m', h1, h2, h3, h4⟩ := h j (by omega)
  exact ⟨b', m', by rw [List.getElem?_set_ne (by omega)]; exact h1, h2, h3, h4.other (by simp; omega) _⟩
set_option maxHeartbeats 400000 in
theorem l_eqIntSS {w : World} {a a' : Option Addr} {n n' cap cap' : Nat} {L L' : List (List Int)} (h : IntSS w a n cap L) (h' : IntSS w a' n' cap' L') :
 Calls Try.prog 49 #[.slice a n cap, .slice a' n' cap'] w fun e w' => e = .returned (.bool (decide (L = L'))) ∧ Drew w w' := by
 have hn := h.hcap
 have hm := h.hmax
 have hn' := h'.hcap
 have hm' := h'.hmax
 have HL := Lib.hid h.hlen
 have HL' := Lib.hid h'.hlen
 by_cases hne : n = n'
 ·subst hne
  go_enter Try.func49, Try.ntmps49
  go_wp2
  go_loopw [5] (fun i wr => ∃ k : Nat, k ≤ n ∧ i = .int .i64 k ∧ Hid (L.take k = L'.take k) ∧ Drew w wr) (fun i _ => n - (intOf i).toNat)
  case atStart => exact ⟨0, Nat.zero_le _, rfl, Lib.hid rfl, Drew.refl _⟩
  case round =>
   obtain ⟨k, hk, rfl, HT, hx⟩ := hrel
   by_cases hlt : k < n
   ·obtain ⟨b, off, a1, n1, c1, rfl, hc, hr⟩ := (h.ext hx.ext).at hlt
    obtain ⟨b', off', a2, n2, c2, rfl, hc', hr'⟩ := (h'.ext hx.ext).at hlt
    have HE := Lib.hid fun m => quiet_drew (l_eqIntS (hr.drewN m) (hr'.drewN m))
    clear hr hr'
    cases hq : decide (L[k]?.getD [] = L'[k]?.getD [])
    ·have HQ := Lib.hid hq
     rw [hq] at HE
     clear hq
     go_wp2
     go_quiet ((go_at_call 116; exact HE.out _))
     go_wp2
     go_ret
     refine ⟨ret_bool ?_, hx.trans ⟨_, rfl⟩⟩
     symm
     rw [decide_eq_false_iff_not]
     intro e
     have := HQ.out
     rw [decide_eq_false_iff_not] at this
     exact this (by rw [e])
    ·have HQ := Lib.hid hq
     rw [hq] at HE
     clear hq
     go_wp2
     go_quiet ((go_at_call 116; exact HE.out _))
     go_wp2
     go_roundw
     case rel => exact ⟨k + 1, by omega, by go_num, Lib.hid (by rw [takeL_snoc (by have := HL.out; omega), takeL_snoc (by have := HL'.out; omega), HT.out, of_decide_eq_true HQ.out]), hx.trans ⟨_, rfl⟩⟩
     case measure => simp [intOf]; omega
   ·go_wp2
    go_ret
    refine ⟨ret_bool ?_, hx⟩
    symm
    rw [decide_eq_true_eq]
    have := HT.out
    rwa [List.take_of_length_le (by have := HL.out; omega), List.take_of_length_le (by have := HL'.out; omega)] at this
 ·have hne' : ((n : Int) != (n' : Int)) = true := by simp; omega
  have HN := Lib.hid hne
  clear hne
  go_enter Try.func49, Try.ntmps49
  go_wp2
  go_ret
  refine ⟨ret_bool ?_, Drew.refl _⟩
  symm
  rw [decide_eq_false_iff_not]
  intro e
  exact HN.out (by rw [← HL.out, ← HL'.out, e])
open Go.ChangeShapes Go.WideShapes Go.ChangeAt Go.RowKit Go.Joins Go.Deep
section
variable {H : Type} {enc : TypeId × Value → H} {P : Program} {w : World} {base : Nat} {spare : Nat → Bool} {held : Bool}
theorem open_Ints {t e : TypeId} {fuel : Nat} {v : Value} {x : DataW H × List MemPlace} (ht : P.underlying t = some (.slice e)) (he : P.underlying e = some (.int .i64)) (hc : P.cellsOf e = 1)
 (h : DataW.trod enc P w base spare held fuel t [v] = some x) : ∃ a n cap l, v = .slice a n cap ∧ Ints w a n cap l := by
 rcases open_ints ht he hc h with ⟨hcs, _⟩ | ⟨a, len, cap, zs, hcs, _, hl, hm, hz, _, hcell, _⟩
 ·simp at hcs
  exact ⟨none, 0, 0, [], hcs, rfl, Nat.le_refl _, by omega, fun k hk => absurd hk (by omega)⟩
 ·simp at hcs
  have hlen : len ≤ zs.length := by rw [hz]; split <;> omega
  refine ⟨some a, len, cap, zs.take len, hcs, by rw [List.length_take]; omega, hl, by simpa [maxLen] using hm, fun k hk => ?_⟩
  obtain ⟨b, off, spot⟩ := a
  have h0 := hcell 0 (by omega)
  have hspot : spot = none := by simpa [Addr.add] using World.cell?_spot h0
  subst hspot
  refine ⟨b, off, rfl, fun k hk => ?_⟩
  have h1 := hcell k (by omega)
  have ha : (⟨b, off, none⟩ : Addr).add k = ⟨b, off + k, none⟩ := by unfold Addr.add; split <;> simp_all
  rw [ha] at h1
  rw [h1]
  simp [hk]
end
end Go.Proofs.Ytgohdmnbnhehnaa
namespace Go.Proofs.Ytgohdmnbnhehnaa
set_option linter.unusedVariables false
set_option linter.unusedSimpArgs false
open Go.RowKit
structure Rats (w : World) (a : Option Addr) (n cap : Nat) (l : List (Int × Int)) : Prop where
 hlen : l.length = n
 hcap : n ≤ cap
 hmax : cap ≤ 9223372036854775807
 cell : ∀ k, k < n → ∃ b off, a = some ⟨b, off, none⟩ ∧ ∀ k, k < n → w.cell? ⟨b, off + k * 2, none⟩ = some (.int .i64 (l[k]?.getD (0, 0)).1) ∧ w.cell? ⟨b, off + k * 2 + 1, none⟩ = some (.int .i64 (l[k]?.getD (0, 0)).2)
theorem Rats.ext {w w' : World} {a : Option Addr} {n cap : Nat} {l : List (Int × Int)} (h : Rats w a n cap l) (hx : Ext w w') : Rats w' a n cap l :=
 ⟨h.hlen, h.hcap, h.hmax, fun k hk => let ⟨b, off, e, hc⟩ := h.cell k hk; ⟨b, off, e, fun k hk => ⟨hx.cellSome (hc k hk).1, hx.cellSome (hc k hk).2⟩⟩⟩
theorem Rats.at {w : World} {a : Option Addr} {n cap : Nat} {l : List (Int × Int)} (h : Rats w a n cap l) {k : Nat} (hk : k < n) :
 ∃ b off x y, a = some ⟨b, off, none⟩ ∧ l[k]?.getD (0, 0) = (x, y) ∧ w.cell? ⟨b, off + k * 2, none⟩ = some (.int .i64 x) ∧ w.cell? ⟨b, off + k * 2 + 1, none⟩ = some (.int .i64 y) :=
 let ⟨b, off, e, hc⟩ := h.cell k hk; ⟨b, off, _, _, e, rfl, (hc k hk).1, (hc k hk).2⟩
theorem take_snocR {l : List (Int × Int)} {k : Nat} (h : k < l.length) : l.take (k+1) = l.take k ++ [l[k]?.getD (0, 0)] := by
 rw [List.take_succ_eq_append_getElem h]; simp [h]
set_option maxHeartbeats 400000 in
theorem l_szRatS (a : Option Addr) (n cap : Nat) (left : Int) (w : World) (h0 : 0 ≤ left) (h1 : left ≤ 1048576) (hm : n ≤ 9223372036854775807) :
 Calls Try.prog 44 #[.slice a n cap, .int .i64 left] w fun e w' => e = .returned (.int .i64 (szF left n)) ∧ w = w' := by
 by_cases hlt : left < n
 ·go_enter Try.func44, Try.ntmps44
  go_wp2
  go_ret
  exact ⟨ret_int (by unfold szF; rw [if_pos hlt]), rfl⟩
 ·go_enter Try.func44, Try.ntmps44
  go_wp2
  go_ret
  exact ⟨ret_int (by unfold szF; rw [if_neg (by omega)]), rfl⟩
set_option maxHeartbeats 400000 in
theorem l_eqRat (x y x' y' : Int) (w : World) :
 Calls Try.prog 117 #[.agg #[.int .i64 x, .int .i64 y], .agg #[.int .i64 x', .int .i64 y']] w fun e w' => e = .returned (.bool (decide (x = x') && decide (y = y'))) ∧ Ext w w' := by
 have hne : (x != x') = !decide (x = x') := by by_cases h : x = x' <;> simp [h]
 have hne2 : (y != y') = !decide (y = y') := by by_cases h : y = y' <;> simp [h]
 cases hd : decide (x = x')
 all_goals
  rw [hd] at hne
  cases hd2 : decide (y = y')
  all_goals
   rw [hd2] at hne2
   go_enter Try.func117, Try.ntmps117
   go_wp2_with fail
   go_ret
   exact ⟨rfl, (Ext.alloc _ _).trans (Ext.alloc _ _)⟩
set_option maxHeartbeats 1000000 in
theorem l_eqRatS {w : World} {a a' : Option Addr} {n n' cap cap' : Nat} {l l' : List (Int × Int)} (h : Rats w a n cap l) (h' : Rats w a' n' cap' l') :
 Calls Try.prog 51 #[.slice a n cap, .slice a' n' cap'] w fun e w' => e = .returned (.bool (decide (l = l'))) ∧ Ext w w' := by
 have hn := h.hcap
 have hm := h.hmax
 have hn' := h'.hcap
 have hm' := h'.hmax
 have HL := Lib.hid h.hlen
 have HL' := Lib.hid h'.hlen
 by_cases hne : n = n'
 ·subst hne
  go_enter Try.func51, Try.ntmps51
  go_wp2
  go_loopw [5] (fun i wr => ∃ k : Nat, k ≤ n ∧ i = .int .i64 k ∧ l.take k = l'.take k ∧ Ext w wr) (fun i _ => n - (intOf i).toNat)
  case atStart => exact ⟨0, Nat.zero_le _, rfl, rfl, Ext.refl _⟩
  case round =>
   obtain ⟨k, hk, rfl, htk, hx⟩ := hrel
   have HT := Lib.hid htk
   clear htk
   by_cases hlt : k < n
   ·have h1 := h.ext hx
    have h1' := h'.ext hx
    obtain ⟨b, off, x, y, rfl, hxy, hc1, hc2⟩ := h1.at hlt
    obtain ⟨b', off', x', y', rfl, hxy', hc1', hc2'⟩ := h1'.at hlt
    have HXY := Lib.hid hxy
    have HXY' := Lib.hid hxy'
    have HX := Lib.hid hx
    have hk2 : Ext wr wr.drew := Ext.drew wr
    clear hxy hxy' hx h h' h1 h1'
    cases hq : (decide (x = x') && decide (y = y'))
    all_goals
     have HQ := Lib.hid hq
     go_wp2
     go_region_held3 (fun w' => w'.cell? ⟨b, off + k * 2, none⟩ = some (.int .i64 x) ∧ w'.cell? ⟨b, off + k * 2 + 1, none⟩ = some (.int .i64 y) ∧ w'.cell? ⟨b', off' + k * 2, none⟩ = some (.int .i64 x') ∧ w'.cell? ⟨b', off' + k * 2 + 1, none⟩ = some (.int .i64 y') ∧ Ext wr w')
      (exact ⟨hk2.cellSome hc1, hk2.cellSome hc2, hk2.cellSome hc1', hk2.cellSome hc2', hk2⟩)
      (first
        | (go_at_call 117; refine (l_eqRat _ _ _ _ _).mono ?_; rw [hq]; rintro e w3 ⟨rfl, hx3⟩; have hk2 := hk2.trans hx3))
     go_wp2
    ·go_ret
     refine ⟨ret_bool ?_, HX.out.trans hk2⟩
     symm
     rw [decide_eq_false_iff_not]
     intro e
     have := HXY.out.symm.trans ((congrArg (fun l => l[k]?.getD (0, 0)) e).trans HXY'.out)
     simp only [Prod.mk.injEq] at this
     have h2 := HQ.out
     rw [this.1, this.2] at h2
     simp at h2
    ·go_roundw
     case rel =>
      have hq2 : x = x' ∧ y = y' := by have := HQ.out; simpa using this
      obtain ⟨rfl, rfl⟩ := hq2
      exact ⟨k + 1, by omega, by go_num, by rw [take_snocR (by have := HL.out; omega), take_snocR (by have := HL'.out; omega), HT.out, HXY.out, HXY'.out], HX.out.trans hk2⟩
     case measure => simp [intOf]; omega
   ·go_wp2
    go_ret
    refine ⟨ret_bool ?_, hx⟩
    symm
    rw [decide_eq_true_eq]
    have := HT.out
    rwa [List.take_of_length_le (by have := HL.out; omega), List.take_of_length_le (by have := HL'.out; omega)] at this
 ·have hne' : ((n : Int) != (n' : Int)) = true := by simp; omega
  have HN := Lib.hid hne
  clear hne
  go_enter Try.func51, Try.ntmps51
  go_wp2
  go_ret
  refine ⟨ret_bool ?_, Ext.refl _⟩
  symm
  rw [decide_eq_false_iff_not]
  intro e
  exact HN.out (by rw [← HL.out, ← HL'.out, e])
def ratCells (l : List (Int × Int)) : Array Value := (l.flatMap fun p => [Value.int .i64 p.1, Value.int .i64 p.2]).toArray
theorem flat_at : ∀ (l : List (Int × Int)) (k : Nat), k < l.length → (l.flatMap fun p => [Value.int .i64 p.1, Value.int .i64 p.2])[k * 2]? = some (.int .i64 (l[k]?.getD (0, 0)).1) ∧ (l.flatMap fun p => [Value.int .i64 p.1, Value.int .i64 p.2])[k * 2 + 1]? = some (.int .i64 (l[k]?.getD (0, 0)).2)
 | [], k, h => absurd h (by simp)
 | p :: l, 0, _ => by simp
 | p :: l, k + 1, h => by
   have := flat_at l k (by simpa using h)
   rw [show (k + 1) * 2 = k * 2 + 1 + 1 by omega]
   simpa using this
theorem flat_set : ∀ (l : List (Int × Int)) (k : Nat) (x y : Int), k < l.length → ((l.flatMap fun p => [Value.int .i64 p.1, Value.int .i64 p.2]).set (k * 2) (.int .i64 x)).set (k * 2 + 1) (.int .i64 y) = (l.set k (x, y)).flatMap fun p => [Value.int .i64 p.1, Value.int .i64 p.2]
 | [], k, _, _, h => absurd h (by simp)
 | p :: l, 0, _, _, _ => by simp
 | p :: l, k + 1, x, y, h => by
   have := flat_set l k x y (by simpa using h)
   rw [show (k + 1) * 2 = k * 2 + 1 + 1 by omega]
   simpa using this
theorem flat_len : ∀ l : List (Int × Int), (l.flatMap fun p => [Value.int .i64 p.1, Value.int .i64 p.2]).length = l.length * 2
 | [] => rfl
 | p :: l => by have := flat_len l; simp at this ⊢; omega
def RRow (w : World) (b : Nat) (t : TypeId) (l : List (Int × Int)) : Prop := w.heap[b]? = some (.cells (ratCells l) t (0, 0))
theorem RRow.cell {w : World} {b : Nat} {t : TypeId} {l : List (Int × Int)} (h : RRow w b t l) {k : Nat} (hk : k < l.length) : w.cell? ⟨b, k * 2, none⟩ = some (.int .i64 (l[k]?.getD (0, 0)).1) ∧ w.cell? ⟨b, k * 2 + 1, none⟩ = some (.int .i64 (l[k]?.getD (0, 0)).2) := by
 rw [cell_of_row w b _ _ t _ h, cell_of_row w b _ _ t _ h]
 simpa [ratCells] using flat_at l k hk
theorem RRow.free {w : World} {b : Nat} {t : TypeId} {l : List (Int × Int)} (h : RRow w b t l) (k : Nat) : w.frozen? ⟨b, k, none⟩ = false := frozen_of_row w b k _ t h
theorem RRow.lt {w : World} {b : Nat} {t : TypeId} {l : List (Int × Int)} (h : RRow w b t l) : b < w.heap.size := lt_of_block h
theorem RRow.set {w : World} {b : Nat} {t : TypeId} {l : List (Int × Int)} (h : RRow w b t l) {k : Nat} (hk : k < l.length) (x y : Int) : RRow ((w.setCell ⟨b, k * 2, none⟩ (.int .i64 x)).setCell ⟨b, k * 2 + 1, none⟩ (.int .i64 y)) b t (l.set k (x, y)) := by
 have h1 := heap_setCell_same w b (k * 2) _ t (.int .i64 x) h
 have h2 := heap_setCell_same _ b (k * 2 + 1) _ t (.int .i64 y) h1
 unfold RRow
 rw [h2]
 have := flat_set l k x y hk
 simp only [ratCells, List.setIfInBounds_toArray, this]
theorem RRow.ext {w w' : World} {b : Nat} {t : TypeId} {l : List (Int × Int)} (h : RRow w b t l) (hx : Ext w w') : RRow w' b t l := (hx.block b h.lt).trans h
theorem RRow.rats {w : World} {b : Nat} {t : TypeId} {l : List (Int × Int)} (h : RRow w b t l) {n cap : Nat} (hn : l.length = n) (hc : n ≤ cap) (hm : cap ≤ 9223372036854775807) : Rats w (some ⟨b, 0, none⟩) n cap l :=
 ⟨hn, hc, hm, fun _ _ => ⟨b, 0, rfl, fun k hk => by rw [Nat.zero_add]; exact h.cell (by omega)⟩⟩
def partR (l : List (Int × Int)) (k : Nat) : List (Int × Int) := l.take k ++ List.replicate (l.length - k) (0, 0)
theorem partR_len (l : List (Int × Int)) (k : Nat) (h : k ≤ l.length) : (partR l k).length = l.length := by simp [partR]; omega
theorem partR_zero (l : List (Int × Int)) : partR l 0 = List.replicate l.length (0, 0) := by simp [partR]
theorem partR_all (l : List (Int × Int)) : partR l l.length = l := by simp [partR]
theorem partR_set (l : List (Int × Int)) (k : Nat) (h : k < l.length) : (partR l k).set k (l[k]?.getD (0, 0)) = partR l (k + 1) := by
 unfold partR
 rw [List.set_append_right _ _ (by simp; omega)]
 rw [take_snocR h]
 obtain ⟨m, hm⟩ : ∃ m, l.length - k = m + 1 := ⟨l.length - k - 1, by omega⟩
 rw [hm, show l.length - (k + 1) = m by omega]
 simp [List.replicate_succ, Nat.min_eq_left (Nat.le_of_lt h)]
theorem Try.infoRat : (Try.prog.info? 34).map (fun i => (i.zero, i.size, i.bytes)) = some (some (.agg #[.int .i64 0, .int .i64 0]), 2, 16) := by kernel_rfl
theorem mk_rats (n : Nat) (hn : n ≤ 1099511627776) (w : World) :
 (Instr.makeSlice 29 (.int .i64 (n : Int)) (.int .i64 (n : Int))).run Try.prog w = .ok (.slice (some ⟨w.heap.size, 0, none⟩) n n) (w.alloc (.cells (ratCells (List.replicate n (0, 0))) 34)) := by
 obtain ⟨i, hi, hz0, hz1, hz2⟩ := info_parts Try.infoRat
 have hr := run_make (P := Try.prog) w 29 34 i (.agg #[.int .i64 0, .int .i64 0]) Try.underlying29 hi hz0 .i64 .i64 n n (by omega) (Int.le_refl _) (by rw [hz2]; omega) (by omega)
 simp only [Int.toNat_natCast] at hr
 rw [hr, hz1]
 have : madeCells (Value.agg #[.int .i64 0, .int .i64 0]).cells (n * 2) = ratCells (List.replicate n (0, 0)) := by
  have h1 : (madeCells (Value.agg #[.int .i64 0, .int .i64 0]).cells (n * 2)).toList = List.replicate (n * 2) (Value.int .i64 0) := by
   refine List.eq_replicate_iff.2 ⟨by simp [size_madeCells], fun b hb => ?_⟩
   unfold madeCells at hb
   simp only [Array.toList_map, List.mem_map] at hb
   obtain ⟨i, _, rfl⟩ := hb
   show (#[Value.int .i64 0, Value.int .i64 0] : Array Value)[i % 2]! = _
   have : i % 2 = 0 ∨ i % 2 = 1 := by omega
   rcases this with h | h <;> rw [h] <;> rfl
  have h2 : (ratCells (List.replicate n (0, 0))).toList = List.replicate (n * 2) (Value.int .i64 0) := by
   unfold ratCells
   refine List.eq_replicate_iff.2 ⟨by rw [flat_len]; simp, fun b hb => ?_⟩
   simp only [List.mem_flatMap, List.mem_replicate] at hb
   obtain ⟨p, ⟨_, rfl⟩, h⟩ := hb
   simpa using h
  exact Array.toList_inj.1 (h1.trans h2.symm)
 rw [this]
set_option maxHeartbeats 400000 in
theorem l_toRat (x y : Int) (w : World) :
 Calls Try.prog 112 #[.agg #[.int .i64 x, .int .i64 y]] w fun e w' => e = .returned (.agg #[.int .i64 x, .int .i64 y]) ∧ Ext w w' := by
 go_enter Try.func112, Try.ntmps112
 go_wp2
 refine bodyPost_ret (v := .agg #[.int .i64 x, .int .i64 y]) (by simp [results, Try.results112, go_sem]) rfl ⟨rfl, ?_⟩
 exact ((Ext.alloc _ _).trans (Ext.alloc _ _)).trans (Ext.alloc _ _)
set_option maxHeartbeats 1000000 in
theorem l_toRatS {w : World} {a : Option Addr} {n cap : Nat} {l : List (Int × Int)} (h : Rats w a n cap l) (hb : n ≤ 1099511627776) :
 Calls Try.prog 47 #[.slice a n cap] w fun e w' => ∃ b, e = .returned (.slice (some ⟨b, 0, none⟩) n n) ∧ RRow w' b 34 l ∧ w.heap.size ≤ b ∧ Ext w w' := by
 have hn := h.hcap
 have hm := h.hmax
 have hmk := mk_rats n hb
 have HL := Lib.hid h.hlen
 go_enter Try.func47, Try.ntmps47
 go_wp2
 go_loopw [4] (fun i wr => ∃ k : Nat, k ≤ n ∧ i = .int .i64 k ∧ Hid (RRow wr w.heap.size 34 (partR l k)) ∧ Hid (Ext w wr)) (fun i _ => n - (intOf i).toNat)
 case atStart => exact ⟨0, Nat.zero_le _, rfl, Lib.hid (by unfold RRow; rw [heap_alloc_new, partR_zero, HL.out]), Lib.hid (Ext.alloc _ _)⟩
 case round =>
  obtain ⟨k, hk, rfl, HR, HX⟩ := hrel
  by_cases hlt : k < n
  ·have h' := h.ext HX.out
   obtain ⟨b, off, x, y, rfl, hxy, hc, hc2⟩ := h'.at hlt
   have HXY := Lib.hid hxy
   have hpl : k < (partR l k).length := by rw [partR_len _ _ (by have := HL.out; omega)]; have := HL.out; omega
   have HPL := Lib.hid hpl
   have HKL := Lib.hid (show k < l.length by have := HL.out; omega)
   clear hxy h' h hpl
   go_wp2_with fail
   refine (l_toRat _ _ _).mono ?_
   rintro e w1 ⟨rfl, hx⟩
   have HR1 := Lib.hid (HR.out.ext hx)
   have HX1 := Lib.hid (HX.out.trans hx)
   have hold := HR1.out.cell HPL.out
   have hold1 := hold.1
   have hold2 := hold.2
   have hf1 := HR1.out.free (k * 2)
   have hf2 := HR1.out.free (k * 2 + 1)
   clear hold hx hc hc2
   go_wp2
   go_roundw
   case rel =>
    refine ⟨k + 1, by omega, by go_num, Lib.hid ?_, Lib.hid ((HX1.out.setCell (Nat.le_refl _) _).setCell (Nat.le_refl _) _)⟩
    rw [← partR_set _ _ HKL.out, HXY.out]
    exact HR1.out.set HPL.out x y
   case measure => simp [intOf]; omega
  ·go_wp2
   go_ret
   refine ⟨_, rfl, ?_, Nat.le_refl _, HX.out⟩
   have hk' : k = l.length := by have := HL.out; omega
   have := HR.out
   rwa [hk', partR_all] at this
open Go.ChangeShapes Go.WideShapes Go.ChangeAt Go.RowKit Go.Joins Go.Deep
section
variable {H : Type} {enc : TypeId × Value → H} {P : Program} {w : World} {base : Nat} {spare : Nat → Bool} {held : Bool}
theorem open_Rats {t e : TypeId} {f0 f1 : Field} {fuel : Nat} {v : Value} {x : DataW H × List MemPlace} (ht : P.underlying t = some (.slice e)) (he : P.underlying e = some (.struct #[f0, f1]))
 (ce : P.cellsOf e = 2) (o0 : f0.offset = 0) (o1 : f1.offset = 1) (c0 : P.cellsOf f0.type = 1) (c1 : P.cellsOf f1.type = 1) (h0 : P.underlying f0.type = some (.int .i64)) (h1 : P.underlying f1.type = some (.int .i64))
 (h : DataW.trod enc P w base spare held fuel t [v] = some x) : ∃ a n cap l, v = .slice a n cap ∧ Rats w a n cap l := by
 rcases open_slice_pairs ht he ce o0 o1 c0 c1 h with ⟨hcs, _⟩ | ⟨a, len, cap, m, n, V0, V1, D0, D1, P0, P1, hcs, _, hl, hm, hmm, _, hx⟩
 ·simp at hcs
  exact ⟨none, 0, 0, [], hcs, rfl, Nat.le_refl _, by omega, fun k hk => absurd hk (by omega)⟩
 ·simp at hcs
  have hlen : len ≤ m := by rw [hmm]; split <;> omega
  obtain ⟨f, hf⟩ := choose_lt (α := Int × Int) (n := len) (p := fun i z => V0 i = .int .i64 z.1 ∧ V1 i = .int .i64 z.2) (fun i hi => by
   obtain ⟨_, _, t0, t1⟩ := hx i (by omega)
   obtain ⟨x0, e0, _⟩ := DataW.trod_int h0 t0
   obtain ⟨x1, e1, _⟩ := DataW.trod_int h1 t1
   exact ⟨(x0, x1), by simpa using e0, by simpa using e1⟩)
  refine ⟨some a, len, cap, (List.range len).map f, hcs, by simp, hl, by simpa [maxLen] using hm, fun k hk => ?_⟩
  obtain ⟨b, off, spot⟩ := a
  have hz := (hx 0 (by omega)).1
  have hspot : spot = none := by simpa [Addr.add] using World.cell?_spot hz
  subst hspot
  refine ⟨b, off, rfl, fun k hk => ?_⟩
  obtain ⟨q0, q1, _, _⟩ := hx k (by omega)
  have ha : ∀ j, (⟨b, off, none⟩ : Addr).add j = ⟨b, off + j, none⟩ := fun j => by unfold Addr.add; split <;> simp_all
  rw [ha] at q0 q1
  have hk' : ((List.range len).map f)[k]?.getD (0, 0) = f k := by simp [hk]
  rw [hk']
  exact ⟨q0.trans (congrArg some (hf k hk).1), q1.trans (congrArg some (hf k hk).2)⟩
end
end Go.Proofs.Ytgohdmnbnhehnaa
