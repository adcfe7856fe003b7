/- Results of the nucleolus: the laws' copies and comparisons, and both sides' comparison. -/
import Derived.Test.YtokpmflhgehicaaFixed
namespace Go.Proofs.Ytokpmflhgehicaa
set_option linter.unusedVariables false
set_option linter.unusedSimpArgs false
open Go.RowKit

/-- A result as a value. -/
abbrev nuc (o : Bool) (a : Option Addr) (n cap : Nat) (b : Option Addr) (m dap : Nat) (x : Int) : Value := .agg #[.bool o, .slice a n cap, .slice b m dap, .int .i64 x]
def sameN (o : Bool) (l : List (Int × Int)) (r : List (Int × Int × Int)) (x : Int) (o' : Bool) (l' : List (Int × Int)) (r' : List (Int × Int × Int)) (x' : Int) : Bool :=
  decide (o = o') && (decide (l = l') && (decide (r = r') && decide (x = x')))

set_option maxHeartbeats 2000000 in
theorem s_EqualNucleolus {w : World} {o o' : Bool} {x x' : Int} {a a' b b' : Option Addr} {n n' m m' cap cap' dap dap' : Nat} {l l' : List (Int × Int)} {r r' : List (Int × Int × Int)} (h : Rats w a n cap l) (hr : Fixs w b m dap r) (h' : Rats w a' n' cap' l') (hr' : Fixs w b' m' dap' r') :
    Calls Try.prog 15 #[nuc o a n cap b m dap x, nuc o' a' n' cap' b' m' dap' x'] w fun e w' => e = .returned (.bool (sameN o l r x o' l' r' x')) ∧ Ext w w' := by
  have hx0 : Ext w ((w.alloc (.cells #[.bool o, .slice a n cap, .slice b m dap, .int .i64 x] 31)).alloc (.cells #[.bool o', .slice a' n' cap', .slice b' m' dap', .int .i64 x'] 31)) := (Ext.alloc _ _).trans (Ext.alloc _ _)
  have HX0 := Lib.hid hx0
  have HE := Lib.hid (s_EqualVector (h.ext hx0) (h'.ext hx0))
  have HR := Lib.hid (hr.ext hx0)
  have HR' := Lib.hid (hr'.ext hx0)
  have hm := hr.hcap
  have hmm := hr.hmax
  have hm' := hr'.hcap
  have hmm' := hr'.hmax
  clear hx0 h h' hr hr'
  by_cases ho : o = o'
  · subst ho
    have hob : (o != o) = false := by simp
    by_cases hx : x = x'
    · subst hx
      cases hl : decide (l = l')
      · have HLL := Lib.hid hl
        rw [hl] at HE
        clear hl
        go_enter Try.func15, Try.ntmps15
        go_wp2_with fail
        refine HE.out.mono ?_
        rintro e w1 ⟨rfl, hx⟩
        have X1 := Lib.hid (HX0.out.trans hx.ext)
        clear hx
        go_wp2
        go_ret
        exact ⟨ret_bool (by unfold sameN; rw [HLL.out]; simp), X1.out⟩
      · have HLL := Lib.hid hl
        rw [hl] at HE
        clear hl
        have HL := Lib.hid HR.out.hlen
        have HL' := Lib.hid HR'.out.hlen
        by_cases hne : m = m'
        · subst hne
          go_enter Try.func15, Try.ntmps15
          go_wp2_with fail
          refine HE.out.mono ?_
          rintro e w1 ⟨rfl, hx⟩
          have hx' := hx.ext
          have c2 : w1.cell? ⟨w.heap.size, 2, none⟩ = some (.slice b m dap) := hx'.cellSome (by simp)
          have d2 : w1.cell? ⟨w.heap.size + 1, 2, none⟩ = some (.slice b' m dap') := hx'.cellSome (by simp)
          have C2 := Lib.hid c2
          have D2 := Lib.hid d2
          have X1 := Lib.hid (HX0.out.trans hx')
          have h1 := Lib.hid (HR.out.ext hx')
          have h1' := Lib.hid (HR'.out.ext hx')
          clear hx hx'
          go_wp2
          go_loopw [5] (fun i wr => ∃ k : Nat, k ≤ m ∧ i = .int .i64 k ∧ r.take k = r'.take k ∧ Drew w1 wr) (fun i _ => m - (intOf i).toNat)
          case atStart => exact ⟨0, Nat.zero_le _, rfl, rfl, Drew.refl _⟩
          case round =>
            obtain ⟨k, hk, rfl, htk, hx⟩ := hrel
            have HT := Lib.hid htk
            have c2 := hx.ext.cellSome C2.out
            have d2 := hx.ext.cellSome D2.out
            clear htk
            by_cases hlt : k < m
            · have q1 := h1.out.ext hx.ext
              have q1' := h1'.out.ext hx.ext
              obtain ⟨g, off, p, q, s, rfl, hxy, hc1, hc2, hc3⟩ := q1.at hlt
              obtain ⟨g', off', p', q', s', rfl, hxy', hc1', hc2', hc3'⟩ := q1'.at hlt
              have HXY := Lib.hid hxy
              have HXY' := Lib.hid hxy'
              clear hxy hxy'
              by_cases hq : p = p' ∧ q = q' ∧ s = s'
              · obtain ⟨rfl, rfl, rfl⟩ := hq
                go_wp2
                go_quiet (fail)
                go_wp2
                go_roundw
                case rel => exact ⟨k + 1, by omega, by go_num, by rw [take_snocX (by have := HL.out; omega), take_snocX (by have := HL'.out; omega), HT.out, HXY.out, HXY'.out], hx.trans ⟨_, rfl⟩⟩
                case measure => simp [intOf]; omega
              · have HQ := Lib.hid hq
                cases hx1 : (p == p')
                all_goals
                  cases hy1 : (q == q')
                  all_goals
                    cases hz1 : (s == s')
                case neg.true.true.true => exact absurd ⟨by simpa using hx1, by simpa using hy1, by simpa using hz1⟩ hq
                all_goals
                  clear hq
                  go_wp2
                  go_quiet (fail)
                  go_wp2
                  go_ret
                  refine ⟨ret_bool ?_, X1.out.trans (hx.trans ⟨_, rfl⟩).ext⟩
                  have : ¬ r = r' := by
                    intro e
                    have := HXY.out.symm.trans ((congrArg (fun l => l[k]?.getD (0, 0, 0)) e).trans HXY'.out)
                    simp only [Prod.mk.injEq] at this
                    exact HQ.out this
                  unfold sameN
                  simp [this]
            · go_wp2
              go_ret
              refine ⟨ret_bool ?_, X1.out.trans hx.ext⟩
              have := HT.out
              rw [List.take_of_length_le (by have := HL.out; omega), List.take_of_length_le (by have := HL'.out; omega)] at this
              unfold sameN
              rw [HLL.out]
              simp [this]
        · have HN := Lib.hid hne
          have hnb : ((m : Int) != (m' : Int)) = true := by simp; omega
          clear hne
          go_enter Try.func15, Try.ntmps15
          go_wp2_with fail
          refine HE.out.mono ?_
          rintro e w1 ⟨rfl, hx⟩
          have hx' := hx.ext
          have c2 : w1.cell? ⟨w.heap.size, 2, none⟩ = some (.slice b m dap) := hx'.cellSome (by simp)
          have d2 : w1.cell? ⟨w.heap.size + 1, 2, none⟩ = some (.slice b' m' dap') := hx'.cellSome (by simp)
          have X1 := Lib.hid (HX0.out.trans hx')
          clear hx hx'
          go_wp2
          go_ret
          refine ⟨ret_bool ?_, X1.out⟩
          have : ¬ r = r' := fun e => HN.out (by rw [← HL.out, ← HL'.out, e])
          unfold sameN
          simp [this]
    · have HO := Lib.hid hx
      have hob : (x != x') = true := by simpa using hx
      clear hx
      go_enter Try.func15, Try.ntmps15
      go_wp2_with fail
      go_ret
      exact ⟨ret_bool (by unfold sameN; simp [HO.out]), HX0.out⟩
  · have HO := Lib.hid ho
    have hob : (o == o') = false := by simpa using ho
    clear ho
    go_enter Try.func15, Try.ntmps15
    go_wp2_with fail
    go_ret
    exact ⟨ret_bool (by unfold sameN; simp [HO.out]), HX0.out⟩

set_option maxHeartbeats 2000000 in
theorem i_EqualNucleolus {w : World} {o o' : Bool} {x x' : Int} {a a' b b' : Option Addr} {n n' m m' cap cap' dap dap' : Nat} {l l' : List (Int × Int)} {r r' : List (Int × Int × Int)} (h : Rats w a n cap l) (hr : Fixs w b m dap r) (h' : Rats w a' n' cap' l') (hr' : Fixs w b' m' dap' r') :
    Calls Try.prog 17 #[nuc o a n cap b m dap x, nuc o' a' n' cap' b' m' dap' x'] w fun e w' => e = .returned (.bool (sameN o l r x o' l' r' x')) ∧ Ext w w' := by
  have hx0 : Ext w ((w.alloc (.cells #[.bool o, .slice a n cap, .slice b m dap, .int .i64 x] 31)).alloc (.cells #[.bool o', .slice a' n' cap', .slice b' m' dap', .int .i64 x'] 31)) := (Ext.alloc _ _).trans (Ext.alloc _ _)
  have HX0 := Lib.hid hx0
  have HE := Lib.hid (equal_rats (h.ext hx0) (h'.ext hx0))
  have HR := Lib.hid (hr.ext hx0)
  have HR' := Lib.hid (hr'.ext hx0)
  clear hx0 h h' hr hr'
  by_cases ho : o = o'
  · subst ho
    cases hl : decide (l = l')
    · have HLL := Lib.hid hl
      rw [hl] at HE
      clear hl
      go_enter Try.func17, Try.ntmps17
      go_wp2_with fail
      refine HE.out.mono ?_
      rintro e w1 ⟨rfl, hx⟩
      have X1 := Lib.hid (HX0.out.trans hx.ext)
      clear hx
      go_wp2
      go_ret
      exact ⟨ret_bool (by unfold sameN; rw [HLL.out]; simp), X1.out⟩
    · have HLL := Lib.hid hl
      rw [hl] at HE
      clear hl
      cases hq : decide (r = r')
      all_goals
        have HQ := Lib.hid hq
        go_enter Try.func17, Try.ntmps17
        go_wp2_with fail
        refine HE.out.mono ?_
        rintro e w1 ⟨rfl, hx⟩
        have hx' := hx.ext
        have c2 : w1.cell? ⟨w.heap.size, 2, none⟩ = some (.slice b m dap) := hx'.cellSome (by simp)
        have c3 : w1.cell? ⟨w.heap.size, 3, none⟩ = some (.int .i64 x) := hx'.cellSome (by simp)
        have d2 : w1.cell? ⟨w.heap.size + 1, 2, none⟩ = some (.slice b' m' dap') := hx'.cellSome (by simp)
        have d3 : w1.cell? ⟨w.heap.size + 1, 3, none⟩ = some (.int .i64 x') := hx'.cellSome (by simp)
        have X1 := Lib.hid (HX0.out.trans hx')
        have HF := Lib.hid (equal_fixs (HR.out.ext hx') (HR'.out.ext hx'))
        rw [hq] at HF
        clear hx hx' hq
        go_wp2_with fail
        refine HF.out.mono ?_
        rintro e w2 ⟨rfl, hx⟩
        have hx' := hx.ext
        replace c3 := hx'.cellSome c3
        replace d3 := hx'.cellSome d3
        have X2 := Lib.hid (X1.out.trans hx')
        clear hx hx'
        go_wp2
        go_ret
      · exact ⟨ret_bool (by unfold sameN; rw [HLL.out, HQ.out]; simp), X2.out⟩
      · exact ⟨ret_bool (by unfold sameN; rw [HLL.out, HQ.out]; by_cases h : x = x' <;> simp [h]), X2.out⟩
  · have HO := Lib.hid ho
    have hob : (o == o') = false := by simpa using ho
    clear ho
    go_enter Try.func17, Try.ntmps17
    go_wp2_with fail
    go_ret
    exact ⟨ret_bool (by unfold sameN; simp [HO.out]), HX0.out⟩

set_option maxHeartbeats 2000000 in
theorem l_eqNuc {w : World} {o o' : Bool} {x x' : Int} {a a' b b' : Option Addr} {n n' m m' cap cap' dap dap' : Nat} {l l' : List (Int × Int)} {r r' : List (Int × Int × Int)} (h : Rats w a n cap l) (hr : Fixs w b m dap r) (h' : Rats w a' n' cap' l') (hr' : Fixs w b' m' dap' r') :
    Calls Try.prog 18 #[nuc o a n cap b m dap x, nuc o' a' n' cap' b' m' dap' x'] w fun e w' => e = .returned (.bool (sameN o l r x o' l' r' x')) ∧ Ext w w' := by
  have hx0 : Ext w ((w.alloc (.cells #[.bool o, .slice a n cap, .slice b m dap, .int .i64 x] 31)).alloc (.cells #[.bool o', .slice a' n' cap', .slice b' m' dap', .int .i64 x'] 31)) := (Ext.alloc _ _).trans (Ext.alloc _ _)
  have HX0 := Lib.hid hx0
  have HE := Lib.hid (l_eqRatS (h.ext hx0) (h'.ext hx0))
  have HR := Lib.hid (hr.ext hx0)
  have HR' := Lib.hid (hr'.ext hx0)
  clear hx0 h h' hr hr'
  by_cases ho : o = o'
  · subst ho
    have hob : (o != o) = false := by simp
    cases hl : decide (l = l')
    · have HLL := Lib.hid hl
      rw [hl] at HE
      clear hl
      go_enter Try.func18, Try.ntmps18
      go_wp2_with fail
      refine HE.out.mono ?_
      rintro e w1 ⟨rfl, hx⟩
      have X1 := Lib.hid (HX0.out.trans hx)
      clear hx
      go_wp2
      go_ret
      exact ⟨ret_bool (by unfold sameN; rw [HLL.out]; simp), X1.out⟩
    · have HLL := Lib.hid hl
      rw [hl] at HE
      clear hl
      cases hq : decide (r = r')
      all_goals
        cases hxx : (x != x')
        all_goals
          have HXX := Lib.hid hxx
          have HQ := Lib.hid hq
          go_enter Try.func18, Try.ntmps18
          go_wp2_with fail
          refine HE.out.mono ?_
          rintro e w1 ⟨rfl, hx⟩
          have c2 : w1.cell? ⟨w.heap.size, 2, none⟩ = some (.slice b m dap) := hx.cellSome (by simp)
          have c3 : w1.cell? ⟨w.heap.size, 3, none⟩ = some (.int .i64 x) := hx.cellSome (by simp)
          have d2 : w1.cell? ⟨w.heap.size + 1, 2, none⟩ = some (.slice b' m' dap') := hx.cellSome (by simp)
          have d3 : w1.cell? ⟨w.heap.size + 1, 3, none⟩ = some (.int .i64 x') := hx.cellSome (by simp)
          have X1 := Lib.hid (HX0.out.trans hx)
          have HF := Lib.hid (l_eqFixedS (HR.out.ext hx) (HR'.out.ext hx))
          rw [hq] at HF
          clear hx hq
          go_wp2_with fail
          refine HF.out.mono ?_
          rintro e w2 ⟨rfl, hx⟩
          replace c3 := hx.cellSome c3
          replace d3 := hx.cellSome d3
          have X2 := Lib.hid (X1.out.trans hx)
          clear hx
          go_wp2
          go_ret
          have hxx' := HXX.out
          refine ⟨ret_bool ?_, X2.out⟩
          unfold sameN
          rw [HLL.out, HQ.out]
          simp_all
  · have HO := Lib.hid ho
    have hob : (o == o') = false := by simpa using ho
    clear ho
    go_enter Try.func18, Try.ntmps18
    go_wp2_with fail
    go_ret
    exact ⟨ret_bool (by unfold sameN; simp [HO.out]), HX0.out⟩

set_option maxHeartbeats 1000000 in
theorem l_szNuc (o : Bool) (a : Option Addr) (n cap : Nat) (b : Option Addr) (m dap : Nat) (x : Int) (left : Int) (w : World) (h0 : 0 ≤ left) (h1 : left ≤ 1048576) (hm : n ≤ 9223372036854775807) (hm' : m ≤ 9223372036854775807) :
    Calls Try.prog 14 #[nuc o a n cap b m dap x, .int .i64 left] w fun e w' => e = .returned (.int .i64 (szF (szF left n) m)) ∧ Ext w w' := by
  have hz := szF_le left n h0 h1
  have HX := Lib.hid (Ext.alloc w (.cells #[.bool o, .slice a n cap, .slice b m dap, .int .i64 x] 25))
  by_cases hlt : szF left n < 0
  · have hs : szF left n = -1 := by omega
    have HF := Lib.hid (show szF (szF left n) m = -1 by rw [hs]; unfold szF; rw [if_pos (by omega)])
    clear hs
    go_enter Try.func14, Try.ntmps14
    go_wp2_with fail
    refine (l_szRatS _ _ _ _ _ h0 h1 hm).mono ?_
    rintro e w1 ⟨rfl, rfl⟩
    go_wp2
    go_ret
    exact ⟨ret_int HF.out.symm, HX.out⟩
  · have hz2 := szF_le (szF left n) m (by omega) (by omega)
    by_cases hlt2 : szF (szF left n) m < 0
    · have HF := Lib.hid (show szF (szF left n) m = -1 by omega)
      go_enter Try.func14, Try.ntmps14
      go_wp2_with fail
      refine (l_szRatS _ _ _ _ _ h0 h1 hm).mono ?_
      rintro e w1 ⟨rfl, rfl⟩
      go_wp2_with fail
      refine (l_szFixedS _ _ _ _ _ (by omega) (by omega) hm').mono ?_
      rintro e w2 ⟨rfl, rfl⟩
      go_wp2
      go_ret
      exact ⟨ret_int HF.out.symm, HX.out⟩
    · go_enter Try.func14, Try.ntmps14
      go_wp2_with fail
      refine (l_szRatS _ _ _ _ _ h0 h1 hm).mono ?_
      rintro e w1 ⟨rfl, rfl⟩
      go_wp2_with fail
      refine (l_szFixedS _ _ _ _ _ (by omega) (by omega) hm').mono ?_
      rintro e w2 ⟨rfl, rfl⟩
      go_wp2
      go_ret
      exact ⟨rfl, HX.out⟩

set_option maxHeartbeats 2000000 in
theorem l_toNuc {w : World} {o : Bool} {x : Int} {a b : Option Addr} {n cap m dap : Nat} {l : List (Int × Int)} {r : List (Int × Int × Int)} (h : Rats w a n cap l) (hr : Fixs w b m dap r) (hb : n ≤ 1099511627776) (hb' : m ≤ 1099511627776) :
    Calls Try.prog 16 #[nuc o a n cap b m dap x] w fun e w' => ∃ g k, e = .returned (nuc o (some ⟨g, 0, none⟩) n n (some ⟨k, 0, none⟩) m m x) ∧ RRow w' g 76 l ∧ FRow w' k 105 r ∧ w.heap.size ≤ g ∧ w.heap.size ≤ k ∧ Ext w w' := by
  have hx0 : Ext w (((w.alloc (.cells #[.bool o, .slice a n cap, .slice b m dap, .int .i64 x] 25)).alloc (.cells #[.bool false, .slice none 0 0, .slice none 0 0, .int .i64 0] 31)).alloc (.cells #[.bool o, .slice none 0 0, .slice none 0 0, .int .i64 0] 31)) :=
    ((Ext.alloc _ _).trans (Ext.alloc _ _)).trans (Ext.alloc _ _)
  have HA := Lib.hid (h.ext hx0)
  have HX0 := Lib.hid hx0
  have HBW := Lib.hid hr
  clear hx0 h hr
  go_enter Try.func16, Try.ntmps16
  go_wp2_with fail
  refine (l_toRatS HA.out hb).mono ?_
  rintro e w1 ⟨g, rfl, hrow, hgg, hx⟩
  have hT : w1.heap[w.heap.size]? = some (.cells #[.bool o, .slice a n cap, .slice b m dap, .int .i64 x] 25 (0, 0)) := (hx.block _ (by simp; omega)).trans (by rw [heapA_old _ _ _ (by simp; omega), heapA_old _ _ _ (by simp)]; exact heapA_new _ _ _ rfl)
  have hR : w1.heap[w.heap.size + 1]? = some (.cells #[.bool false, .slice none 0 0, .slice none 0 0, .int .i64 0] 31 (0, 0)) := (hx.block _ (by simp)).trans (by rw [heapA_old _ _ _ (by simp)]; exact heapA_new _ _ _ (by simp))
  have hS : w1.heap[w.heap.size + 1 + 1]? = some (.cells #[.bool o, .slice none 0 0, .slice none 0 0, .int .i64 0] 31 (0, 0)) := (hx.block _ (by simp)).trans (heapA_new _ _ _ (by simp))
  have t2 : w1.cell? ⟨w.heap.size, 2, none⟩ = some (.slice b m dap) := by rw [cell_of_row _ _ _ _ _ _ hT]; rfl
  have s1 : w1.cell? ⟨w.heap.size + 1 + 1, 1, none⟩ = some (.slice none 0 0) := by rw [cell_of_row _ _ _ _ _ _ hS]; rfl
  have fs : ∀ o, w1.frozen? ⟨w.heap.size + 1 + 1, o, none⟩ = false := fun o => frozen_of_row _ _ _ _ _ hS
  have lt1 : w.heap.size + 1 + 1 < w1.heap.size := World.block_lt_of_cell? _ _ s1
  have HT1 := Lib.hid hT
  have HR1 := Lib.hid hR
  have HS1 := Lib.hid hS
  clear hT hR hS
  have HX1 := Lib.hid (HX0.out.trans hx)
  have hgg' : w.heap.size + 1 + 1 < g := by simp at hgg; omega
  have HGG := Lib.hid hgg'
  have HROW := Lib.hid hrow
  have hx1' : Ext w (w1.setCell ⟨w.heap.size + 1 + 1, 1, none⟩ (.slice (some ⟨g, 0, none⟩) n n)) := HX1.out.setCell (by simp; omega) _
  have HX1' := Lib.hid hx1'
  have HB1 := Lib.hid (HBW.out.ext hx1')
  have LT1 := Lib.hid lt1
  clear hx hgg hgg' hrow hx1' lt1
  go_wp2_with fail
  refine (l_toFixedS HB1.out hb').mono ?_
  rintro e w2 ⟨k, rfl, hrow, hkk, hx⟩
  have lt1 := LT1.out
  have hT : w2.heap[w.heap.size]? = some (.cells #[.bool o, .slice a n cap, .slice b m dap, .int .i64 x] 25 (0, 0)) := by
    rw [hx.block _ (by simp; omega), heap_setCell_other _ _ _ _ (by simp; omega)]
    exact HT1.out
  have hR : w2.heap[w.heap.size + 1]? = some (.cells #[.bool false, .slice none 0 0, .slice none 0 0, .int .i64 0] 31 (0, 0)) := by
    rw [hx.block _ (by simp; omega), heap_setCell_other _ _ _ _ (by simp)]
    exact HR1.out
  have hS : w2.heap[w.heap.size + 1 + 1]? = some (.cells #[.bool o, .slice (some ⟨g, 0, none⟩) n n, .slice none 0 0, .int .i64 0] 31 (0, 0)) := by
    rw [hx.block _ (by simp; omega), heap_setCell_same _ _ _ _ _ _ HS1.out]
    rfl
  have t3 : w2.cell? ⟨w.heap.size, 3, none⟩ = some (.int .i64 x) := by rw [cell_of_row _ _ _ _ _ _ hT]; rfl
  have q0 : w2.cell? ⟨w.heap.size + 1, 0, none⟩ = some (.bool false) := by rw [cell_of_row _ _ _ _ _ _ hR]; rfl
  have q1 : w2.cell? ⟨w.heap.size + 1, 1, none⟩ = some (.slice none 0 0) := by rw [cell_of_row _ _ _ _ _ _ hR]; rfl
  have q2 : w2.cell? ⟨w.heap.size + 1, 2, none⟩ = some (.slice none 0 0) := by rw [cell_of_row _ _ _ _ _ _ hR]; rfl
  have q3 : w2.cell? ⟨w.heap.size + 1, 3, none⟩ = some (.int .i64 0) := by rw [cell_of_row _ _ _ _ _ _ hR]; rfl
  have u0 : w2.cell? ⟨w.heap.size + 1 + 1, 0, none⟩ = some (.bool o) := by rw [cell_of_row _ _ _ _ _ _ hS]; rfl
  have u1 : w2.cell? ⟨w.heap.size + 1 + 1, 1, none⟩ = some (.slice (some ⟨g, 0, none⟩) n n) := by rw [cell_of_row _ _ _ _ _ _ hS]; rfl
  have u2 : w2.cell? ⟨w.heap.size + 1 + 1, 2, none⟩ = some (.slice none 0 0) := by rw [cell_of_row _ _ _ _ _ _ hS]; rfl
  have u3 : w2.cell? ⟨w.heap.size + 1 + 1, 3, none⟩ = some (.int .i64 0) := by rw [cell_of_row _ _ _ _ _ _ hS]; rfl
  have gr : ∀ o, w2.frozen? ⟨w.heap.size + 1, o, none⟩ = false := fun o => frozen_of_row _ _ _ _ _ hR
  have gs : ∀ o, w2.frozen? ⟨w.heap.size + 1 + 1, o, none⟩ = false := fun o => frozen_of_row _ _ _ _ _ hS
  clear hT hR hS
  have HX2 := Lib.hid (HX1'.out.trans hx)
  have HG2 := Lib.hid (show w2.heap[g]? = some (.cells (ratCells l) 76 (0, 0)) by
    have := HGG.out
    rw [hx.block _ (by simp; exact HROW.out.lt), heap_setCell_other _ _ _ _ (by simp; omega)]
    exact HROW.out)
  have hkk' : w.heap.size + 1 + 1 < k := by simp at hkk; omega
  have HKK := Lib.hid hkk'
  have HK2 := Lib.hid hrow
  clear hx hrow hkk hkk' lt1
  go_wp2
  refine bodyPost_ret (v := nuc o (some ⟨g, 0, none⟩) n n (some ⟨k, 0, none⟩) m m x) (by simp [results, Try.results16, go_sem, q0, q1, q2, q3]) rfl ⟨g, k, rfl, ?_, ?_, ?_, ?_, ?_⟩
  · have := HGG.out
    unfold RRow
    rw [heap_setCell_other _ _ _ _ (by simp; omega), heap_setCell_other _ _ _ _ (by simp; omega), heap_setCell_other _ _ _ _ (by simp; omega), heap_setCell_other _ _ _ _ (by simp; omega), heap_setCell_other _ _ _ _ (by simp; omega), heap_setCell_other _ _ _ _ (by simp; omega)]
    exact HG2.out
  · have := HKK.out
    unfold FRow
    rw [heap_setCell_other _ _ _ _ (by simp; omega), heap_setCell_other _ _ _ _ (by simp; omega), heap_setCell_other _ _ _ _ (by simp; omega), heap_setCell_other _ _ _ _ (by simp; omega), heap_setCell_other _ _ _ _ (by simp; omega), heap_setCell_other _ _ _ _ (by simp; omega)]
    exact HK2.out
  · have := HGG.out; omega
  · have := HKK.out; omega
  · exact (((((HX2.out.setCell (by simp; omega) _).setCell (by simp; omega) _).setCell (by simp) _).setCell (by simp) _).setCell (by simp) _).setCell (by simp) _

end Go.Proofs.Ytokpmflhgehicaa
