/- Slices of levels (a coalition and a fraction): read, copied, compared. (Printed by genfix.py out of XRat.) -/
import Derived.Test.YtokpmflhgehicaaRat
namespace Go.Proofs.Ytokpmflhgehicaa
set_option linter.unusedVariables false
set_option linter.unusedSimpArgs false
open Go.RowKit

/-- A slice of levels that can be read. -/
structure Fixs (w : World) (a : Option Addr) (n cap : Nat) (l : List (Int × Int × Int)) : Prop where
  hlen : l.length = n
  hcap : n ≤ cap
  hmax : cap ≤ 9223372036854775807
  cell : ∀ k, k < n → ∃ b off, a = some ⟨b, off, none⟩ ∧ ∀ k, k < n → w.cell? ⟨b, off + k * 3, none⟩ = some (.int .i64 (l[k]?.getD (0, 0, 0)).1) ∧ w.cell? ⟨b, off + k * 3 + 1, none⟩ = some (.int .i64 (l[k]?.getD (0, 0, 0)).2.1) ∧ w.cell? ⟨b, off + k * 3 + 2, none⟩ = some (.int .i64 (l[k]?.getD (0, 0, 0)).2.2)
theorem Fixs.ext {w w' : World} {a : Option Addr} {n cap : Nat} {l : List (Int × Int × Int)} (h : Fixs w a n cap l) (hx : Ext w w') : Fixs w' a n cap l :=
  ⟨h.hlen, h.hcap, h.hmax, fun k hk => let ⟨b, off, e, hc⟩ := h.cell k hk; ⟨b, off, e, fun k hk => ⟨hx.cellSome (hc k hk).1, hx.cellSome (hc k hk).2.1, hx.cellSome (hc k hk).2.2⟩⟩⟩
theorem Fixs.at {w : World} {a : Option Addr} {n cap : Nat} {l : List (Int × Int × Int)} (h : Fixs w a n cap l) {k : Nat} (hk : k < n) :
    ∃ b off x y z, a = some ⟨b, off, none⟩ ∧ l[k]?.getD (0, 0, 0) = (x, y, z) ∧ w.cell? ⟨b, off + k * 3, none⟩ = some (.int .i64 x) ∧ w.cell? ⟨b, off + k * 3 + 1, none⟩ = some (.int .i64 y) ∧ w.cell? ⟨b, off + k * 3 + 2, none⟩ = some (.int .i64 z) :=
  let ⟨b, off, e, hc⟩ := h.cell k hk; ⟨b, off, _, _, _, e, rfl, (hc k hk).1, (hc k hk).2.1, (hc k hk).2.2⟩
theorem take_snocX {l : List (Int × Int × Int)} {k : Nat} (h : k < l.length) : l.take (k+1) = l.take k ++ [l[k]?.getD (0, 0, 0)] := by
  rw [List.take_succ_eq_append_getElem h]; simp [h]

set_option maxHeartbeats 400000 in
theorem l_szFixedS (a : Option Addr) (n cap : Nat) (left : Int) (w : World) (h0 : 0 ≤ left) (h1 : left ≤ 1048576) (hm : n ≤ 9223372036854775807) :
    Calls Try.prog 52 #[.slice a n cap, .int .i64 left] w fun e w' => e = .returned (.int .i64 (szF left n)) ∧ w = w' := by
  by_cases hlt : left < n
  · go_enter Try.func52, Try.ntmps52
    go_wp2
    go_ret
    exact ⟨ret_int (by unfold szF; rw [if_pos hlt]), rfl⟩
  · go_enter Try.func52, Try.ntmps52
    go_wp2
    go_ret
    exact ⟨ret_int (by unfold szF; rw [if_neg (by omega)]), rfl⟩

set_option maxHeartbeats 1000000 in
theorem equal_fixs {w : World} {a a' : Option Addr} {n n' cap cap' : Nat} {l l' : List (Int × Int × Int)} (h : Fixs w a n cap l) (h' : Fixs w a' n' cap' l') :
    Calls Try.prog 80 #[.slice a n cap, .slice a' n' cap'] w fun e w' => e = .returned (.bool (decide (l = l'))) ∧ Drew w w' := by
  have hn := h.hcap
  have hm := h.hmax
  have hn' := h'.hcap
  have hm' := h'.hmax
  have HL := Lib.hid h.hlen
  have HL' := Lib.hid h'.hlen
  by_cases hne : n = n'
  · subst hne
    go_enter Try.func80, Try.ntmps80
    go_wp2
    go_loopw [13] (fun i wr => ∃ k : Nat, k ≤ n ∧ i = .int .i64 k ∧ l.take k = l'.take k ∧ Drew w wr) (fun i _ => n - (intOf i).toNat)
    case atStart => exact ⟨0, Nat.zero_le _, rfl, rfl, Drew.refl _⟩
    case round =>
      obtain ⟨k, hk, rfl, htk, hx⟩ := hrel
      have HT := Lib.hid htk
      clear htk
      by_cases hlt : k < n
      · have h1 := h.ext hx.ext
        have h1' := h'.ext hx.ext
        obtain ⟨b, off, x, y, z, rfl, hxy, hc1, hc2, hc3⟩ := h1.at hlt
        obtain ⟨b', off', x', y', z', rfl, hxy', hc1', hc2', hc3'⟩ := h1'.at hlt
        have HXY := Lib.hid hxy
        have HXY' := Lib.hid hxy'
        clear hxy hxy'
        by_cases hq : x = x' ∧ y = y' ∧ z = z'
        · obtain ⟨rfl, rfl, rfl⟩ := hq
          go_wp2
          go_quiet (fail)
          go_wp2
          go_roundw
          case rel => exact ⟨k + 1, by omega, by go_num, by rw [take_snocX (by have := HL.out; omega), take_snocX (by have := HL'.out; omega), HT.out, HXY.out, HXY'.out], hx.trans ⟨_, rfl⟩⟩
          case measure => simp [intOf]; omega
        · have HQ := Lib.hid hq
          cases hx1 : (x == x')
          all_goals
            cases hy1 : (y == y')
            all_goals
              cases hz1 : (z == z')
          case neg.true.true.true => exact absurd ⟨by simpa using hx1, by simpa using hy1, by simpa using hz1⟩ hq
          all_goals
            clear hq
            go_wp2
            go_quiet (fail)
            go_wp2
            go_ret
            refine ⟨ret_bool ?_, hx.trans ⟨_, rfl⟩⟩
            symm
            rw [decide_eq_false_iff_not]
            intro e
            have := HXY.out.symm.trans ((congrArg (fun l => l[k]?.getD (0, 0, 0)) e).trans HXY'.out)
            simp only [Prod.mk.injEq] at this
            exact HQ.out this
      · go_wp2
        go_ret
        refine ⟨ret_bool ?_, hx⟩
        symm
        rw [decide_eq_true_eq]
        have := HT.out
        rwa [List.take_of_length_le (by have := HL.out; omega), List.take_of_length_le (by have := HL'.out; omega)] at this
  · have hne' : ((n : Int) != (n' : Int)) = true := by simp; omega
    have HN := Lib.hid hne
    clear hne
    go_enter Try.func80, Try.ntmps80
    go_wp2
    go_ret
    refine ⟨ret_bool ?_, Drew.refl _⟩
    symm
    rw [decide_eq_false_iff_not]
    intro e
    exact HN.out (by rw [← HL.out, ← HL'.out, e])

set_option maxHeartbeats 400000 in
theorem l_eqFixed (x y z x' y' z' : Int) (w : World) :
    Calls Try.prog 137 #[.agg #[.int .i64 x, .int .i64 y, .int .i64 z], .agg #[.int .i64 x', .int .i64 y', .int .i64 z']] w fun e w' => e = .returned (.bool (decide (x = x') && (decide (y = y') && decide (z = z')))) ∧ Ext w w' := by
  have hne : (x != x') = !decide (x = x') := by by_cases h : x = x' <;> simp [h]
  have HX := Lib.hid ((Ext.alloc w (.cells #[.int .i64 x, .int .i64 y, .int .i64 z] 105)).trans (Ext.alloc _ (.cells #[.int .i64 x', .int .i64 y', .int .i64 z'] 105)))
  cases hd : decide (x = x')
  · rw [hd] at hne
    go_enter Try.func137, Try.ntmps137
    go_wp2_with fail
    go_ret
    exact ⟨rfl, HX.out⟩
  · rw [hd] at hne
    cases hd2 : (decide (y = y') && decide (z = z'))
    all_goals
      go_enter Try.func137, Try.ntmps137
      go_wp2_with fail
      refine (l_eqRat _ _ _ _ _).mono ?_
      rw [hd2]
      rintro e w1 ⟨rfl, hx⟩
      go_wp2
      go_ret
      exact ⟨rfl, HX.out.trans hx⟩

set_option maxHeartbeats 1000000 in
theorem l_toFixed (x y z : Int) (w : World) :
    Calls Try.prog 131 #[.agg #[.int .i64 x, .int .i64 y, .int .i64 z]] w fun e w' => e = .returned (.agg #[.int .i64 x, .int .i64 y, .int .i64 z]) ∧ Ext w w' := by
  go_enter Try.func131, Try.ntmps131
  go_wp2_with fail
  refine (l_toRat _ _ _).mono ?_
  rintro e w1 ⟨rfl, hx⟩
  have hcs := hx.cells
  have hfs := hx.frozens
  have HX := Lib.hid hx
  clear hx
  go_wp2
  refine bodyPost_ret (v := .agg #[.int .i64 x, .int .i64 y, .int .i64 z]) (by simp [results, Try.results131, go_sem, hcs]) rfl ⟨rfl, ?_⟩
  exact (((((((Ext.alloc _ _).trans (Ext.alloc _ _)).trans (Ext.alloc _ _)).trans HX.out).setCell (by simp; omega) _).setCell (by simp; omega) _).setCell (by simp) _).setCell (by simp) _ |>.setCell (by simp) _

set_option maxHeartbeats 1000000 in
theorem l_eqFixedS {w : World} {a a' : Option Addr} {n n' cap cap' : Nat} {l l' : List (Int × Int × Int)} (h : Fixs w a n cap l) (h' : Fixs w a' n' cap' l') :
    Calls Try.prog 57 #[.slice a n cap, .slice a' n' cap'] w fun e w' => e = .returned (.bool (decide (l = l'))) ∧ Ext w w' := by
  have hn := h.hcap
  have hm := h.hmax
  have hn' := h'.hcap
  have hm' := h'.hmax
  have HL := Lib.hid h.hlen
  have HL' := Lib.hid h'.hlen
  by_cases hne : n = n'
  · subst hne
    go_enter Try.func57, Try.ntmps57
    go_wp2
    go_loopw [5] (fun i wr => ∃ k : Nat, k ≤ n ∧ i = .int .i64 k ∧ l.take k = l'.take k ∧ Ext w wr) (fun i _ => n - (intOf i).toNat)
    case atStart => exact ⟨0, Nat.zero_le _, rfl, rfl, Ext.refl _⟩
    case round =>
      obtain ⟨k, hk, rfl, htk, hx⟩ := hrel
      have HT := Lib.hid htk
      clear htk
      by_cases hlt : k < n
      · have h1 := h.ext hx
        have h1' := h'.ext hx
        obtain ⟨b, off, x, y, z, rfl, hxy, hc1, hc2, hc3⟩ := h1.at hlt
        obtain ⟨b', off', x', y', z', rfl, hxy', hc1', hc2', hc3'⟩ := h1'.at hlt
        have HXY := Lib.hid hxy
        have HXY' := Lib.hid hxy'
        have HX := Lib.hid hx
        have hk2 : Ext wr wr.drew := Ext.drew wr
        clear hxy hxy' hx h h' h1 h1'
        cases hq : (decide (x = x') && (decide (y = y') && decide (z = z')))
        all_goals
          have HQ := Lib.hid hq
          go_wp2
          go_region_held3 (fun w' => w'.cell? ⟨b, off + k * 3, none⟩ = some (.int .i64 x) ∧ w'.cell? ⟨b, off + k * 3 + 1, none⟩ = some (.int .i64 y) ∧ w'.cell? ⟨b, off + k * 3 + 2, none⟩ = some (.int .i64 z) ∧ w'.cell? ⟨b', off' + k * 3, none⟩ = some (.int .i64 x') ∧ w'.cell? ⟨b', off' + k * 3 + 1, none⟩ = some (.int .i64 y') ∧ w'.cell? ⟨b', off' + k * 3 + 2, none⟩ = some (.int .i64 z') ∧ Ext wr w')
            (exact ⟨hk2.cellSome hc1, hk2.cellSome hc2, hk2.cellSome hc3, hk2.cellSome hc1', hk2.cellSome hc2', hk2.cellSome hc3', hk2⟩)
            (first
              | (go_at_call 137; refine (l_eqFixed _ _ _ _ _ _ _).mono ?_; rw [hq]; rintro e w3 ⟨rfl, hx3⟩; have hk2 := hk2.trans hx3))
          go_wp2
        · go_ret
          refine ⟨ret_bool ?_, HX.out.trans hk2⟩
          symm
          rw [decide_eq_false_iff_not]
          intro e
          have := HXY.out.symm.trans ((congrArg (fun l => l[k]?.getD (0, 0, 0)) e).trans HXY'.out)
          simp only [Prod.mk.injEq] at this
          have h2 := HQ.out
          rw [this.1, this.2.1, this.2.2] at h2
          simp at h2
        · go_roundw
          case rel =>
            have hq2 : x = x' ∧ y = y' ∧ z = z' := by have := HQ.out; simpa using this
            obtain ⟨rfl, rfl, rfl⟩ := hq2
            exact ⟨k + 1, by omega, by go_num, by rw [take_snocX (by have := HL.out; omega), take_snocX (by have := HL'.out; omega), HT.out, HXY.out, HXY'.out], HX.out.trans hk2⟩
          case measure => simp [intOf]; omega
      · go_wp2
        go_ret
        refine ⟨ret_bool ?_, hx⟩
        symm
        rw [decide_eq_true_eq]
        have := HT.out
        rwa [List.take_of_length_le (by have := HL.out; omega), List.take_of_length_le (by have := HL'.out; omega)] at this
  · have hne' : ((n : Int) != (n' : Int)) = true := by simp; omega
    have HN := Lib.hid hne
    clear hne
    go_enter Try.func57, Try.ntmps57
    go_wp2
    go_ret
    refine ⟨ret_bool ?_, Ext.refl _⟩
    symm
    rw [decide_eq_false_iff_not]
    intro e
    exact HN.out (by rw [← HL.out, ← HL'.out, e])

/-- A level, as cells. -/
def fixC (p : Int × Int × Int) : List Value := [.int .i64 p.1, .int .i64 p.2.1, .int .i64 p.2.2]
def fixCells (l : List (Int × Int × Int)) : Array Value := (l.flatMap fixC).toArray
theorem fixC_at : ∀ (l : List (Int × Int × Int)) (k : Nat), k < l.length → (l.flatMap fixC)[k * 3]? = some (.int .i64 (l[k]?.getD (0, 0, 0)).1) ∧ (l.flatMap fixC)[k * 3 + 1]? = some (.int .i64 (l[k]?.getD (0, 0, 0)).2.1) ∧ (l.flatMap fixC)[k * 3 + 2]? = some (.int .i64 (l[k]?.getD (0, 0, 0)).2.2)
  | [], k, h => absurd h (by simp)
  | p :: l, 0, _ => by simp [fixC]
  | p :: l, k + 1, h => by
    have := fixC_at l k (by simpa using h)
    rw [show (k + 1) * 3 = k * 3 + 1 + 1 + 1 by omega]
    simpa [fixC] using this
theorem fixC_set : ∀ (l : List (Int × Int × Int)) (k : Nat) (x y z : Int), k < l.length → (((l.flatMap fixC).set (k * 3) (.int .i64 x)).set (k * 3 + 1) (.int .i64 y)).set (k * 3 + 2) (.int .i64 z) = (l.set k (x, y, z)).flatMap fixC
  | [], k, _, _, _, h => absurd h (by simp)
  | p :: l, 0, _, _, _, _ => by simp [fixC]
  | p :: l, k + 1, x, y, z, h => by
    have := fixC_set l k x y z (by simpa using h)
    rw [show (k + 1) * 3 = k * 3 + 1 + 1 + 1 by omega]
    simpa [fixC] using this
theorem fixC_len : ∀ l : List (Int × Int × Int), (l.flatMap fixC).length = l.length * 3
  | [] => rfl
  | p :: l => by have := fixC_len l; simp [fixC] at this ⊢; omega
/-- Block b is a row of these levels. -/
def FRow (w : World) (b : Nat) (t : TypeId) (l : List (Int × Int × Int)) : Prop := w.heap[b]? = some (.cells (fixCells l) t (0, 0))
theorem FRow.cell {w : World} {b : Nat} {t : TypeId} {l : List (Int × Int × Int)} (h : FRow w b t l) {k : Nat} (hk : k < l.length) : w.cell? ⟨b, k * 3, none⟩ = some (.int .i64 (l[k]?.getD (0, 0, 0)).1) ∧ w.cell? ⟨b, k * 3 + 1, none⟩ = some (.int .i64 (l[k]?.getD (0, 0, 0)).2.1) ∧ w.cell? ⟨b, k * 3 + 2, none⟩ = some (.int .i64 (l[k]?.getD (0, 0, 0)).2.2) := by
  rw [cell_of_row w b _ _ t _ h, cell_of_row w b _ _ t _ h, cell_of_row w b _ _ t _ h]
  simpa [fixCells] using fixC_at l k hk
theorem FRow.free {w : World} {b : Nat} {t : TypeId} {l : List (Int × Int × Int)} (h : FRow w b t l) (k : Nat) : w.frozen? ⟨b, k, none⟩ = false := frozen_of_row w b k _ t h
theorem FRow.lt {w : World} {b : Nat} {t : TypeId} {l : List (Int × Int × Int)} (h : FRow w b t l) : b < w.heap.size := lt_of_block h
theorem FRow.set {w : World} {b : Nat} {t : TypeId} {l : List (Int × Int × Int)} (h : FRow w b t l) {k : Nat} (hk : k < l.length) (x y z : Int) : FRow (((w.setCell ⟨b, k * 3, none⟩ (.int .i64 x)).setCell ⟨b, k * 3 + 1, none⟩ (.int .i64 y)).setCell ⟨b, k * 3 + 2, none⟩ (.int .i64 z)) b t (l.set k (x, y, z)) := by
  have h1 := heap_setCell_same w b (k * 3) _ t (.int .i64 x) h
  have h2 := heap_setCell_same _ b (k * 3 + 1) _ t (.int .i64 y) h1
  have h3 := heap_setCell_same _ b (k * 3 + 2) _ t (.int .i64 z) h2
  unfold FRow
  rw [h3]
  have := fixC_set l k x y z hk
  simp only [fixCells, List.setIfInBounds_toArray, this]
theorem FRow.ext {w w' : World} {b : Nat} {t : TypeId} {l : List (Int × Int × Int)} (h : FRow w b t l) (hx : Ext w w') : FRow w' b t l := (hx.block b h.lt).trans h
theorem FRow.fixs {w : World} {b : Nat} {t : TypeId} {l : List (Int × Int × Int)} (h : FRow w b t l) {n cap : Nat} (hn : l.length = n) (hc : n ≤ cap) (hm : cap ≤ 9223372036854775807) : Fixs w (some ⟨b, 0, none⟩) n cap l :=
  ⟨hn, hc, hm, fun _ _ => ⟨b, 0, rfl, fun k hk => by rw [Nat.zero_add]; exact h.cell (by omega)⟩⟩
def partX (l : List (Int × Int × Int)) (k : Nat) : List (Int × Int × Int) := l.take k ++ List.replicate (l.length - k) (0, 0, 0)
theorem partX_len (l : List (Int × Int × Int)) (k : Nat) (h : k ≤ l.length) : (partX l k).length = l.length := by simp [partX]; omega
theorem partX_zero (l : List (Int × Int × Int)) : partX l 0 = List.replicate l.length (0, 0, 0) := by simp [partX]
theorem partX_all (l : List (Int × Int × Int)) : partX l l.length = l := by simp [partX]
theorem partX_set (l : List (Int × Int × Int)) (k : Nat) (h : k < l.length) : (partX l k).set k (l[k]?.getD (0, 0, 0)) = partX l (k + 1) := by
  unfold partX
  rw [List.set_append_right _ _ (by simp; omega)]
  rw [take_snocX h]
  obtain ⟨m, hm⟩ : ∃ m, l.length - k = m + 1 := ⟨l.length - k - 1, by omega⟩
  rw [hm, show l.length - (k + 1) = m by omega]
  simp [List.replicate_succ, Nat.min_eq_left (Nat.le_of_lt h)]

theorem Try.infoFixed : (Try.prog.info? 105).map (fun i => (i.zero, i.size, i.bytes)) = some (some (.agg #[.int .i64 0, .int .i64 0, .int .i64 0]), 3, 24) := by kernel_rfl
theorem mk_fixs (n : Nat) (hn : n ≤ 1099511627776) (w : World) :
    (Instr.makeSlice 29 (.int .i64 (n : Int)) (.int .i64 (n : Int))).run Try.prog w = .ok (.slice (some ⟨w.heap.size, 0, none⟩) n n) (w.alloc (.cells (fixCells (List.replicate n (0, 0, 0))) 105)) := by
  obtain ⟨i, hi, hz0, hz1, hz2⟩ := info_parts Try.infoFixed
  have hr := run_make (P := Try.prog) w 29 105 i (.agg #[.int .i64 0, .int .i64 0, .int .i64 0]) Try.underlying29 hi hz0 .i64 .i64 n n (by omega) (Int.le_refl _) (by rw [hz2]; omega) (by omega)
  simp only [Int.toNat_natCast] at hr
  rw [hr, hz1]
  have : madeCells (Value.agg #[.int .i64 0, .int .i64 0, .int .i64 0]).cells (n * 3) = fixCells (List.replicate n (0, 0, 0)) := by
    have h1 : (madeCells (Value.agg #[.int .i64 0, .int .i64 0, .int .i64 0]).cells (n * 3)).toList = List.replicate (n * 3) (Value.int .i64 0) := by
      refine List.eq_replicate_iff.2 ⟨by simp [size_madeCells], fun b hb => ?_⟩
      unfold madeCells at hb
      simp only [Array.toList_map, List.mem_map] at hb
      obtain ⟨i, _, rfl⟩ := hb
      show (#[Value.int .i64 0, Value.int .i64 0, Value.int .i64 0] : Array Value)[i % 3]! = _
      have : i % 3 = 0 ∨ i % 3 = 1 ∨ i % 3 = 2 := by omega
      rcases this with h | h | h <;> rw [h] <;> rfl
    have h2 : (fixCells (List.replicate n (0, 0, 0))).toList = List.replicate (n * 3) (Value.int .i64 0) := by
      unfold fixCells
      refine List.eq_replicate_iff.2 ⟨by rw [fixC_len]; simp, fun b hb => ?_⟩
      simp only [List.mem_flatMap, List.mem_replicate] at hb
      obtain ⟨p, ⟨_, rfl⟩, h⟩ := hb
      simpa [fixC] using h
    exact Array.toList_inj.1 (h1.trans h2.symm)
  rw [this]

set_option maxHeartbeats 1000000 in
theorem l_toFixedS {w : World} {a : Option Addr} {n cap : Nat} {l : List (Int × Int × Int)} (h : Fixs w a n cap l) (hb : n ≤ 1099511627776) :
    Calls Try.prog 54 #[.slice a n cap] w fun e w' => ∃ b, e = .returned (.slice (some ⟨b, 0, none⟩) n n) ∧ FRow w' b 105 l ∧ w.heap.size ≤ b ∧ Ext w w' := by
  have hn := h.hcap
  have hm := h.hmax
  have hmk := mk_fixs n hb
  have HL := Lib.hid h.hlen
  go_enter Try.func54, Try.ntmps54
  go_wp2
  go_loopw [4] (fun i wr => ∃ k : Nat, k ≤ n ∧ i = .int .i64 k ∧ Hid (FRow wr w.heap.size 105 (partX l k)) ∧ Hid (Ext w wr)) (fun i _ => n - (intOf i).toNat)
  case atStart => exact ⟨0, Nat.zero_le _, rfl, Lib.hid (by unfold FRow; rw [heap_alloc_new, partX_zero, HL.out]), Lib.hid (Ext.alloc _ _)⟩
  case round =>
    obtain ⟨k, hk, rfl, HR, HX⟩ := hrel
    by_cases hlt : k < n
    · have h' := h.ext HX.out
      obtain ⟨b, off, x, y, z, rfl, hxy, hc, hc2, hc3⟩ := h'.at hlt
      have HXY := Lib.hid hxy
      have HPL := Lib.hid (show k < (partX l k).length by rw [partX_len _ _ (by have := HL.out; omega)]; have := HL.out; omega)
      have HKL := Lib.hid (show k < l.length by have := HL.out; omega)
      clear hxy h' h
      go_wp2_with fail
      refine (l_toFixed _ _ _ _).mono ?_
      rintro e w1 ⟨rfl, hx⟩
      have HR1 := Lib.hid (HR.out.ext hx)
      have HX1 := Lib.hid (HX.out.trans hx)
      have hold := HR1.out.cell HPL.out
      have hold1 := hold.1
      have hold2 := hold.2.1
      have hold3 := hold.2.2
      have hf1 := HR1.out.free (k * 3)
      have hf2 := HR1.out.free (k * 3 + 1)
      have hf3 := HR1.out.free (k * 3 + 2)
      clear hold hx hc hc2 hc3
      go_wp2
      go_roundw
      case rel =>
        refine ⟨k + 1, by omega, by go_num, Lib.hid ?_, Lib.hid (((HX1.out.setCell (Nat.le_refl _) _).setCell (Nat.le_refl _) _).setCell (Nat.le_refl _) _)⟩
        rw [← partX_set _ _ HKL.out, HXY.out]
        exact HR1.out.set HPL.out x y z
      case measure => simp [intOf]; omega
    · go_wp2
      go_ret
      refine ⟨_, rfl, ?_, Nat.le_refl _, HX.out⟩
      have hk' : k = l.length := by have := HL.out; omega
      have := HR.out
      rwa [hk', partX_all] at this

end Go.Proofs.Ytokpmflhgehicaa
