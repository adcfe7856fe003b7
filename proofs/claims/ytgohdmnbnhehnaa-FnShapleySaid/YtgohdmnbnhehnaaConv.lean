/- The laws' own helpers on integers: sizes, copies, comparisons. -/
import Derived.Test.YtgohdmnbnhehnaaFunc
namespace Go.Proofs.Ytgohdmnbnhehnaa
set_option linter.unusedVariables false
open Go.RowKit

theorem Try.infoInt : (Try.prog.info? 3).map (fun i => (i.zero, i.size, i.bytes)) = some (some (.int .i64 0), 1, 8) := by kernel_rfl

theorem mk_ints (n : Nat) (hn : n ≤ 1099511627776) (w : World) :
    (Instr.makeSlice 24 (.int .i64 (n : Int)) (.int .i64 (n : Int))).run Try.prog w = .ok (.slice (some ⟨w.heap.size, 0, none⟩) n n) (w.alloc (.cells (intCells (List.replicate n 0)) 3)) := by
  obtain ⟨i, hi, hz0, hz1, hz2⟩ := info_parts Try.infoInt
  have hr := run_make (P := Try.prog) w 24 3 i (.int .i64 0) Try.underlying24 hi hz0 .i64 .i64 n n (by omega) (Int.le_refl _) (by rw [hz2]; omega) (by omega)
  simp only [Int.toNat_natCast] at hr
  rw [hr, hz1]
  have : madeCells (Value.int .i64 0).cells (n * 1) = intCells (List.replicate n 0) := by
    apply Array.toList_inj.1
    show (madeCells #[Value.int .i64 0] (n * 1)).toList = _
    rw [toList_madeCells_one]; simp [intCells]
  rw [this]

/-- Part of l copied over zeros. -/
def part (l : List Int) (k : Nat) : List Int := l.take k ++ List.replicate (l.length - k) 0
theorem part_len (l : List Int) (k : Nat) (h : k ≤ l.length) : (part l k).length = l.length := by simp [part]; omega
theorem part_zero (l : List Int) : part l 0 = List.replicate l.length 0 := by simp [part]
theorem part_all (l : List Int) : part l l.length = l := by simp [part]
theorem part_set (l : List Int) (k : Nat) (h : k < l.length) : (part l k).set k (l[k]?.getD 0) = part l (k + 1) := by
  unfold part
  rw [List.set_append_right _ _ (by simp; omega)]
  rw [take_snoc h]
  obtain ⟨m, hm⟩ : ∃ m, l.length - k = m + 1 := ⟨l.length - k - 1, by omega⟩
  have hm' : l.length - (k + 1) = m := by omega
  have : k - (List.take k l).length = 0 := by simp; omega
  rw [hm, hm', this]
  simp [List.replicate_succ]

set_option maxHeartbeats 400000 in
theorem l_toIntS {w : World} {a : Option Addr} {n cap : Nat} {l : List Int} (h : Ints w a n cap l) (hb : n ≤ 1099511627776) :
    Calls Try.prog 111 #[.slice a n cap] w fun e w' => ∃ b, e = .returned (.slice (some ⟨b, 0, none⟩) n n) ∧ Row w' b 3 l ∧ w.heap.size ≤ b ∧ Ext w w' := by
  have hn := h.hcap
  have hm := h.hmax
  have hmk := mk_ints n hb
  have HL := Lib.hid h.hlen
  go_enter Try.func111, Try.ntmps111
  go_wp2
  go_loopw [4] (fun i wr => ∃ k : Nat, k ≤ n ∧ i = .int .i64 k ∧ Row wr w.heap.size 3 (part l k) ∧ Ext w wr) (fun i _ => n - (intOf i).toNat)
  case atStart => exact ⟨0, Nat.zero_le _, rfl, by unfold Row; rw [heap_alloc_new, part_zero, HL.out], Ext.alloc _ _⟩
  case round =>
    obtain ⟨k, hk, rfl, hrow, hx⟩ := hrel
    by_cases hlt : k < n
    · have h' := h.ext hx
      obtain ⟨b, off, rfl, hc⟩ := h'.at hlt
      have hold := hrow.cell (k := k) (by rw [part_len _ _ (by have := HL.out; omega)]; have := HL.out; omega)
      have hfree := hrow.free k
      go_wp2
      go_roundw
      case rel => exact ⟨k + 1, by omega, by go_num, by rw [← part_set _ _ (by have := HL.out; omega)]; exact hrow.set k _, hx.setCell (Nat.le_refl _) _⟩
      case measure => simp [intOf]; omega
    · go_wp2
      go_ret
      refine ⟨_, rfl, ?_, Nat.le_refl _, hx⟩
      have hk' : k = l.length := by have := HL.out; omega
      rw [hk', part_all] at hrow
      exact hrow

/-- What is left of a budget. -/
def szF (left : Int) (n : Nat) : Int := if left < n then -1 else left - n
theorem szF_le (left : Int) (n : Nat) (h0 : 0 ≤ left) (h1 : left ≤ 1048576) : -1 ≤ szF left n ∧ szF left n ≤ 1048576 ∧ (0 ≤ szF left n → (n : Int) ≤ left) := by unfold szF; split <;> omega

set_option maxHeartbeats 400000 in
theorem l_szIntS (w : World) (a : Option Addr) (n cap : Nat) (left : Int) (h0 : 0 ≤ left) (h1 : left ≤ 1048576) (hm : n ≤ 9223372036854775807) :
    Calls Try.prog 108 #[.slice a n cap, .int .i64 left] w fun e w' => e = .returned (.int .i64 (szF left n)) ∧ w = w' := by
  by_cases hlt : left < n
  · have hlt' : left - n < 0 := by omega
    go_enter Try.func108, Try.ntmps108
    go_wp2
    go_ret
    exact ⟨ret_int (by simp only [szF, if_pos hlt]), rfl⟩
  · have hlt' : ¬ left - n < 0 := by omega
    go_enter Try.func108, Try.ntmps108
    go_wp2
    go_ret
    exact ⟨ret_int (by unfold szF; split <;> omega), rfl⟩

set_option maxHeartbeats 400000 in
theorem l_eqIntS {w : World} {a a' : Option Addr} {n n' cap cap' : Nat} {l l' : List Int} (h : Ints w a n cap l) (h' : Ints w a' n' cap' l') :
    Calls Try.prog 116 #[.slice a n cap, .slice a' n' cap'] w fun e w' => e = .returned (.bool (decide (l = l'))) ∧ Drew w w' := by
  have hn := h.hcap
  have hm := h.hmax
  have hn' := h'.hcap
  have hm' := h'.hmax
  have HL := Lib.hid h.hlen
  have HL' := Lib.hid h'.hlen
  by_cases hne : n = n'
  · subst hne
    go_enter Try.func116, Try.ntmps116
    go_wp2
    go_loopw [5] (fun i wr => ∃ k : Nat, k ≤ n ∧ i = .int .i64 k ∧ l.take k = l'.take k ∧ Drew w wr) (fun i _ => n - (intOf i).toNat)
    case atStart => exact ⟨0, Nat.zero_le _, rfl, rfl, Drew.refl _⟩
    case round =>
      obtain ⟨k, hk, rfl, htk, hx⟩ := hrel
      have HT := Lib.hid htk
      clear htk
      by_cases hlt : k < n
      · have h1 := h.ext hx.ext
        have h1' := h'.ext hx.ext
        obtain ⟨b, off, rfl, hc⟩ := h1.at hlt
        obtain ⟨b', off', rfl, hc'⟩ := h1'.at hlt
        by_cases hq : l[k]?.getD 0 = l'[k]?.getD 0
        · have HQ := Lib.hid hq
          have hq1 : (l[k]?.getD 0 != l'[k]?.getD 0) = false := by simp [hq]
          clear hq
          go_wp2
          go_quiet (fail)
          go_wp2
          go_roundw
          case rel => exact ⟨k + 1, by omega, by go_num, by rw [take_snoc (by have := HL.out; omega), take_snoc (by have := HL'.out; omega), HT.out, HQ.out], hx.trans ⟨_, rfl⟩⟩
          case measure => simp [intOf]; omega
        · have HQ := Lib.hid hq
          have hq1 : (l[k]?.getD 0 != l'[k]?.getD 0) = true := by simp [hq]
          clear hq
          go_wp2
          go_quiet (fail)
          go_wp2
          go_ret
          refine ⟨ret_bool ?_, hx.trans ⟨_, rfl⟩⟩
          symm
          rw [decide_eq_false_iff_not]
          intro e
          exact HQ.out (by rw [e])
      · go_wp2
        go_ret
        refine ⟨ret_bool ?_, hx⟩
        symm
        rw [decide_eq_true_eq]
        have := HT.out
        rwa [List.take_of_length_le (by have := HL.out; omega), List.take_of_length_le (by have := HL'.out; omega)] at this
  · have hne' : ((n : Int) != (n' : Int)) = true := by simp; omega
    have HN := Lib.hid hne
    clear hne
    go_enter Try.func116, Try.ntmps116
    go_wp2
    go_ret
    refine ⟨ret_bool ?_, Drew.refl _⟩
    symm
    rw [decide_eq_false_iff_not]
    intro e
    exact HN.out (by rw [← HL.out, ← HL'.out, e])

/-- An int and a slice of ints by value. -/
abbrev pair (x : Int) (a : Option Addr) (n cap : Nat) : Value := .agg #[.int .i64 x, .slice a n cap]

/-- What both sides ask of claims. -/
def validPair (lo x : Int) (l : List Int) : Bool := small l 100 && inB x lo (sumW l)

theorem small_any (l : List Int) (most : Int) : small l most = (!(l.any (fun x => !inB x 0 most)) && inB l.length 1 5) := by
  unfold small
  congr 1
  rw [List.not_any_eq_all_not]
  simp

end Go.Proofs.Ytgohdmnbnhehnaa
