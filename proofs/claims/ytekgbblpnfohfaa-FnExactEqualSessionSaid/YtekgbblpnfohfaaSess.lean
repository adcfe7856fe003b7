/- Sessions: the laws' copies and comparisons, and both sides' comparison. -/
import Derived.Test.YtekgbblpnfohfaaSame
import Derived.Test.YtekgbblpnfohfaaRat
namespace Go.Proofs.Ytekgbblpnfohfaa
set_option linter.unusedVariables false
set_option linter.unusedSimpArgs false
open Go.RowKit

/-- A session as a value. -/
abbrev sess (p : Int) (a : Option Addr) (n cap : Nat) (b : Option Addr) (m dap : Nat) : Value := .agg #[.int .i64 p, .slice a n cap, .slice b m dap]
def sameS (p : Int) (V : List Int) (l : List (Int × Int)) (q : Int) (V' : List Int) (l' : List (Int × Int)) : Bool := (decide (p = q) && decide (V = V')) && decide (l = l')

set_option maxHeartbeats 1000000 in
theorem i_EqualGame {w : World} {x x' : Int} {a a' : Option Addr} {n n' cap cap' : Nat} {l l' : List Int} (h : Ints w a n cap l) (h' : Ints w a' n' cap' l') :
    Calls Try.prog 85 #[pair x a n cap, pair x' a' n' cap'] w fun e w' => e = .returned (.bool (decide (x = x') && decide (l = l'))) ∧ Ext w w' := by
  have he : (x == x') = decide (x = x') := by by_cases h : x = x' <;> simp [h]
  cases hd : decide (x = x')
  · rw [hd] at he
    go_enter Try.func85, Try.ntmps85
    go_wp2_with fail
    go_ret
    exact ⟨ret_bool (by simp), (Ext.alloc _ _).trans (Ext.alloc _ _)⟩
  · rw [hd] at he
    have hx0 : Ext w ((w.alloc (.cells #[.int .i64 x, .slice a n cap] 40)).alloc (.cells #[.int .i64 x', .slice a' n' cap'] 40)) := (Ext.alloc _ _).trans (Ext.alloc _ _)
    have HE := Lib.hid (equal_ints (h.ext hx0) (h'.ext hx0))
    have HX0 := Lib.hid hx0
    clear hx0 h h'
    go_enter Try.func85, Try.ntmps85
    go_wp2_with fail
    refine HE.out.mono ?_
    rintro e w1 ⟨rfl, hx⟩
    go_wp2
    go_ret
    exact ⟨ret_bool (by simp), HX0.out.trans hx.ext⟩

set_option maxHeartbeats 1000000 in
theorem s_EqualSession {w : World} {p q : Int} {a a' b b' : Option Addr} {n n' m m' cap cap' dap dap' : Nat} {V V' : List Int} {l l' : List (Int × Int)} (h : Ints w a n cap V) (hr : Rats w b m dap l) (h' : Ints w a' n' cap' V') (hr' : Rats w b' m' dap' l') :
    Calls Try.prog 31 #[sess p a n cap b m dap, sess q a' n' cap' b' m' dap'] w fun e w' => e = .returned (.bool (sameS p V l q V' l')) ∧ Ext w w' := by
  have hx0 : Ext w ((w.alloc (.cells #[.int .i64 p, .slice a n cap, .slice b m dap] 53)).alloc (.cells #[.int .i64 q, .slice a' n' cap', .slice b' m' dap'] 53)) := (Ext.alloc _ _).trans (Ext.alloc _ _)
  have HX0 := Lib.hid hx0
  have HG := Lib.hid (s_EqualGame (x := p) (x' := q) (h.ext hx0) (h'.ext hx0))
  have HR := Lib.hid (hr.ext hx0)
  have HR' := Lib.hid (hr'.ext hx0)
  clear hx0 h h' hr hr'
  cases hd : (decide (p = q) && decide (V = V'))
  all_goals
    have HD := Lib.hid hd
    rw [hd] at HG
    clear hd
    go_enter Try.func31, Try.ntmps31
    go_wp2_with fail
    refine HG.out.mono ?_
    rintro e w1 ⟨rfl, hx⟩
    have c2 : w1.cell? ⟨w.heap.size, 2, none⟩ = some (.slice b m dap) := hx.cellSome (by simp)
    have d2 : w1.cell? ⟨w.heap.size + 1, 2, none⟩ = some (.slice b' m' dap') := hx.cellSome (by simp)
    have X1 := Lib.hid (HX0.out.trans hx)
    have HE := Lib.hid (s_EqualVector (HR.out.ext hx) (HR'.out.ext hx))
    clear hx
    go_wp2_with fail
  · go_ret
    exact ⟨ret_bool (by unfold sameS; rw [HD.out]; rfl), X1.out⟩
  · refine HE.out.mono ?_
    rintro e w2 ⟨rfl, hx⟩
    go_wp2
    go_ret
    exact ⟨ret_bool (by unfold sameS; rw [HD.out]; rfl), X1.out.trans hx.ext⟩

set_option maxHeartbeats 1000000 in
theorem i_EqualSession {w : World} {p q : Int} {a a' b b' : Option Addr} {n n' m m' cap cap' dap dap' : Nat} {V V' : List Int} {l l' : List (Int × Int)} (h : Ints w a n cap V) (hr : Rats w b m dap l) (h' : Ints w a' n' cap' V') (hr' : Rats w b' m' dap' l') :
    Calls Try.prog 33 #[sess p a n cap b m dap, sess q a' n' cap' b' m' dap'] w fun e w' => e = .returned (.bool (sameS p V l q V' l')) ∧ Ext w w' := by
  have hx0 : Ext w ((w.alloc (.cells #[.int .i64 p, .slice a n cap, .slice b m dap] 53)).alloc (.cells #[.int .i64 q, .slice a' n' cap', .slice b' m' dap'] 53)) := (Ext.alloc _ _).trans (Ext.alloc _ _)
  have HX0 := Lib.hid hx0
  have HG := Lib.hid (i_EqualGame (x := p) (x' := q) (h.ext hx0) (h'.ext hx0))
  have HR := Lib.hid (hr.ext hx0)
  have HR' := Lib.hid (hr'.ext hx0)
  clear hx0 h h' hr hr'
  cases hd : (decide (p = q) && decide (V = V'))
  all_goals
    have HD := Lib.hid hd
    rw [hd] at HG
    clear hd
    go_enter Try.func33, Try.ntmps33
    go_wp2_with fail
    refine HG.out.mono ?_
    rintro e w1 ⟨rfl, hx⟩
    have c2 : w1.cell? ⟨w.heap.size, 2, none⟩ = some (.slice b m dap) := hx.cellSome (by simp)
    have d2 : w1.cell? ⟨w.heap.size + 1, 2, none⟩ = some (.slice b' m' dap') := hx.cellSome (by simp)
    have X1 := Lib.hid (HX0.out.trans hx)
    have HE := Lib.hid (equal_rats (HR.out.ext hx) (HR'.out.ext hx))
    clear hx
    go_wp2_with fail
  · go_ret
    exact ⟨ret_bool (by unfold sameS; rw [HD.out]; rfl), X1.out⟩
  · refine HE.out.mono ?_
    rintro e w2 ⟨rfl, hx⟩
    go_wp2
    go_ret
    exact ⟨ret_bool (by unfold sameS; rw [HD.out]; rfl), X1.out.trans hx.ext⟩

set_option maxHeartbeats 1000000 in
theorem l_eqSession {w : World} {p q : Int} {a a' b b' : Option Addr} {n n' m m' cap cap' dap dap' : Nat} {V V' : List Int} {l l' : List (Int × Int)} (h : Ints w a n cap V) (hr : Rats w b m dap l) (h' : Ints w a' n' cap' V') (hr' : Rats w b' m' dap' l') :
    Calls Try.prog 34 #[sess p a n cap b m dap, sess q a' n' cap' b' m' dap'] w fun e w' => e = .returned (.bool (sameS p V l q V' l')) ∧ Ext w w' := by
  have hx0 : Ext w ((w.alloc (.cells #[.int .i64 p, .slice a n cap, .slice b m dap] 53)).alloc (.cells #[.int .i64 q, .slice a' n' cap', .slice b' m' dap'] 53)) := (Ext.alloc _ _).trans (Ext.alloc _ _)
  have HX0 := Lib.hid hx0
  have HG := Lib.hid (l_eqGame (x := p) (x' := q) (h.ext hx0) (h'.ext hx0))
  have HR := Lib.hid (hr.ext hx0)
  have HR' := Lib.hid (hr'.ext hx0)
  clear hx0 h h' hr hr'
  cases hd : (decide (p = q) && decide (V = V'))
  all_goals
    cases hl : decide (l = l')
    all_goals
      have HD := Lib.hid hd
      have HLL := Lib.hid hl
      rw [hd] at HG
      clear hd hl
      go_enter Try.func34, Try.ntmps34
      go_wp2_with fail
      refine HG.out.mono ?_
      rintro e w1 ⟨rfl, hx⟩
      have c2 : w1.cell? ⟨w.heap.size, 2, none⟩ = some (.slice b m dap) := hx.cellSome (by simp)
      have d2 : w1.cell? ⟨w.heap.size + 1, 2, none⟩ = some (.slice b' m' dap') := hx.cellSome (by simp)
      have X1 := Lib.hid (HX0.out.trans hx)
      have HE := Lib.hid (l_eqRatS (HR.out.ext hx) (HR'.out.ext hx))
      rw [HLL.out] at HE
      clear hx
      go_wp2_with fail
  · go_ret
    exact ⟨ret_bool (by unfold sameS; rw [HD.out]; rfl), X1.out⟩
  · go_ret
    exact ⟨ret_bool (by unfold sameS; rw [HD.out]; rfl), X1.out⟩
  · refine HE.out.mono ?_
    rintro e w2 ⟨rfl, hx⟩
    go_wp2
    go_ret
    exact ⟨ret_bool (by unfold sameS; rw [HD.out, HLL.out]; rfl), X1.out.trans hx⟩
  · refine HE.out.mono ?_
    rintro e w2 ⟨rfl, hx⟩
    go_wp2
    go_ret
    exact ⟨ret_bool (by unfold sameS; rw [HD.out, HLL.out]; rfl), X1.out.trans hx⟩

set_option maxHeartbeats 1000000 in
theorem l_szSession (p : Int) (a : Option Addr) (n cap : Nat) (b : Option Addr) (m dap : Nat) (left : Int) (w : World) (h0 : 0 ≤ left) (h1 : left ≤ 1048576) (hm : n ≤ 9223372036854775807) (hm' : m ≤ 9223372036854775807) :
    Calls Try.prog 30 #[sess p a n cap b m dap, .int .i64 left] w fun e w' => e = .returned (.int .i64 (szF (szF left n) m)) ∧ Ext w w' := by
  have hz := szF_le left n h0 h1
  have HX := Lib.hid (Ext.alloc w (.cells #[.int .i64 p, .slice a n cap, .slice b m dap] 49))
  by_cases hlt : szF left n < 0
  · have hs : szF left n = -1 := by omega
    have HF := Lib.hid (show szF (szF left n) m = -1 by rw [hs]; unfold szF; rw [if_pos (by omega)])
    clear hs
    go_enter Try.func30, Try.ntmps30
    go_wp2_with fail
    refine (l_szGame _ _ _ _ _ _ h0 h1 hm).mono ?_
    rintro e w1 ⟨rfl, hx⟩
    go_wp2
    go_ret
    exact ⟨ret_int HF.out.symm, HX.out.trans hx⟩
  · have hz2 := szF_le (szF left n) m (by omega) (by omega)
    by_cases hlt2 : szF (szF left n) m < 0
    · have HF := Lib.hid (show szF (szF left n) m = -1 by omega)
      go_enter Try.func30, Try.ntmps30
      go_wp2_with fail
      refine (l_szGame _ _ _ _ _ _ h0 h1 hm).mono ?_
      rintro e w1 ⟨rfl, hx⟩
      have c2 : w1.cell? ⟨w.heap.size, 2, none⟩ = some (.slice b m dap) := hx.cellSome (by simp)
      have X1 := Lib.hid (HX.out.trans hx)
      clear hx
      go_wp2_with fail
      refine (l_szRatS _ _ _ _ _ (by omega) (by omega) hm').mono ?_
      rintro e w2 ⟨rfl, rfl⟩
      go_wp2
      go_ret
      exact ⟨ret_int HF.out.symm, X1.out⟩
    · go_enter Try.func30, Try.ntmps30
      go_wp2_with fail
      refine (l_szGame _ _ _ _ _ _ h0 h1 hm).mono ?_
      rintro e w1 ⟨rfl, hx⟩
      have c2 : w1.cell? ⟨w.heap.size, 2, none⟩ = some (.slice b m dap) := hx.cellSome (by simp)
      have X1 := Lib.hid (HX.out.trans hx)
      clear hx
      go_wp2_with fail
      refine (l_szRatS _ _ _ _ _ (by omega) (by omega) hm').mono ?_
      rintro e w2 ⟨rfl, rfl⟩
      go_wp2
      go_ret
      exact ⟨rfl, X1.out⟩

set_option maxHeartbeats 2000000 in
theorem l_toSession {w : World} {p : Int} {a b : Option Addr} {n cap m dap : Nat} {V : List Int} {l : List (Int × Int)} (h : Ints w a n cap V) (hr : Rats w b m dap l) (hb : n ≤ 1099511627776) (hb' : m ≤ 1099511627776) :
    Calls Try.prog 32 #[sess p a n cap b m dap] w fun e w' => ∃ g k, e = .returned (sess p (some ⟨g, 0, none⟩) n n (some ⟨k, 0, none⟩) m m) ∧ Row w' g 3 V ∧ RRow w' k 97 l ∧ w.heap.size ≤ g ∧ w.heap.size ≤ k ∧ Ext w w' := by
  have hx0 : Ext w (((w.alloc (.cells #[.int .i64 p, .slice a n cap, .slice b m dap] 49)).alloc (.cells #[.int .i64 0, .slice none 0 0, .slice none 0 0] 53)).alloc (.cells #[.int .i64 0, .slice none 0 0, .slice none 0 0] 53)) := ((Ext.alloc _ _).trans (Ext.alloc _ _)).trans (Ext.alloc _ _)
  have HX0 := Lib.hid hx0
  have HA := Lib.hid (h.ext hx0)
  have HB := Lib.hid (hr.ext hx0)
  have HBW := Lib.hid hr
  clear hx0 h hr
  go_enter Try.func32, Try.ntmps32
  go_wp2_with fail
  refine (l_toGame HA.out hb).mono ?_
  rintro e w1 ⟨g, rfl, hrow, hgg, hx⟩
  have hT : w1.heap[w.heap.size]? = some (.cells #[.int .i64 p, .slice a n cap, .slice b m dap] 49 (0, 0)) := (hx.block _ (by simp; omega)).trans (by rw [heapA_old _ _ _ (by simp; omega), heapA_old _ _ _ (by simp)]; exact heapA_new _ _ _ rfl)
  have hR : w1.heap[w.heap.size + 1]? = some (.cells #[.int .i64 0, .slice none 0 0, .slice none 0 0] 53 (0, 0)) := (hx.block _ (by simp)).trans (by rw [heapA_old _ _ _ (by simp)]; exact heapA_new _ _ _ (by simp))
  have hS : w1.heap[w.heap.size + 1 + 1]? = some (.cells #[.int .i64 0, .slice none 0 0, .slice none 0 0] 53 (0, 0)) := (hx.block _ (by simp)).trans (heapA_new _ _ _ (by simp))
  have t2 : w1.cell? ⟨w.heap.size, 2, none⟩ = some (.slice b m dap) := by rw [cell_of_row _ _ _ _ _ _ hT]; rfl
  have s0 : w1.cell? ⟨w.heap.size + 1 + 1, 0, none⟩ = some (.int .i64 0) := by rw [cell_of_row _ _ _ _ _ _ hS]; rfl
  have s1 : w1.cell? ⟨w.heap.size + 1 + 1, 1, none⟩ = some (.slice none 0 0) := by rw [cell_of_row _ _ _ _ _ _ hS]; rfl
  have s2 : w1.cell? ⟨w.heap.size + 1 + 1, 2, none⟩ = some (.slice none 0 0) := by rw [cell_of_row _ _ _ _ _ _ hS]; rfl
  have fs : ∀ o, w1.frozen? ⟨w.heap.size + 1 + 1, o, none⟩ = false := fun o => frozen_of_row _ _ _ _ _ hS
  have HR1 := Lib.hid hR
  have HS1 := Lib.hid hS
  clear hT hR hS
  have HX1 := Lib.hid (HX0.out.trans hx)
  have hgg' : w.heap.size + 1 + 1 + 1 ≤ g := by simpa using hgg
  have HGG := Lib.hid hgg'
  have HROW := Lib.hid hrow
  have hx1' : Ext w ((w1.setCell ⟨w.heap.size + 1 + 1, 0, none⟩ (.int .i64 p)).setCell ⟨w.heap.size + 1 + 1, 1, none⟩ (.slice (some ⟨g, 0, none⟩) n n)) := (HX1.out.setCell (by simp; omega) _).setCell (by simp; omega) _
  have HB1 := Lib.hid ((HB.out.ext hx))
  have HX1' := Lib.hid hx1'
  have hrat : Rats ((w1.setCell ⟨w.heap.size + 1 + 1, 0, none⟩ (.int .i64 p)).setCell ⟨w.heap.size + 1 + 1, 1, none⟩ (.slice (some ⟨g, 0, none⟩) n n)) b m dap l := by
    have hr1 := HB1.out
    refine ⟨hr1.hlen, hr1.hcap, hr1.hmax, fun i hi => ?_⟩
    obtain ⟨bb, off, e, hc⟩ := HBW.out.cell i hi
    refine ⟨bb, off, e, fun i hi => ?_⟩
    have hc1 := hc i hi
    have hlt := World.block_lt_of_cell? _ _ hc1.1
    have hne : ∀ o, (⟨w.heap.size + 1 + 1, 0, none⟩ : Addr) ≠ ⟨bb, o, none⟩ := fun o e => by have := congrArg Addr.block e; simp at this hlt; omega
    have hne1 : ∀ o, (⟨w.heap.size + 1 + 1, 1, none⟩ : Addr) ≠ ⟨bb, o, none⟩ := fun o e => by have := congrArg Addr.block e; simp at this hlt; omega
    rw [World.cell?_setCell_other _ _ _ _ (hne1 _), World.cell?_setCell_other _ _ _ _ (hne _), World.cell?_setCell_other _ _ _ _ (hne1 _), World.cell?_setCell_other _ _ _ _ (hne _)]
    exact ⟨HX1.out.cellSome hc1.1, HX1.out.cellSome hc1.2⟩
  have HRAT := Lib.hid hrat
  clear hx hgg hgg' hrow hx1' hrat
  go_wp2_with fail
  refine (l_toRatS HRAT.out hb').mono ?_
  rintro e w2 ⟨k, rfl, hrow, hkk, hx⟩
  have lt1 : w.heap.size + 1 + 1 < w1.heap.size := World.block_lt_of_cell? _ _ s0
  have hR : w2.heap[w.heap.size + 1]? = some (.cells #[.int .i64 0, .slice none 0 0, .slice none 0 0] 53 (0, 0)) := by
    rw [hx.block _ (by simp; omega), heap_setCell_other _ _ _ _ (by simp), heap_setCell_other _ _ _ _ (by simp)]
    exact HR1.out
  have hS : w2.heap[w.heap.size + 1 + 1]? = some (.cells #[.int .i64 p, .slice (some ⟨g, 0, none⟩) n n, .slice none 0 0] 53 (0, 0)) := by
    rw [hx.block _ (by simp; omega), heap_setCell_same _ _ _ _ _ _ (heap_setCell_same _ _ _ _ _ _ HS1.out)]
    rfl
  have q0 : w2.cell? ⟨w.heap.size + 1, 0, none⟩ = some (.int .i64 0) := by rw [cell_of_row _ _ _ _ _ _ hR]; rfl
  have q1 : w2.cell? ⟨w.heap.size + 1, 1, none⟩ = some (.slice none 0 0) := by rw [cell_of_row _ _ _ _ _ _ hR]; rfl
  have q2 : w2.cell? ⟨w.heap.size + 1, 2, none⟩ = some (.slice none 0 0) := by rw [cell_of_row _ _ _ _ _ _ hR]; rfl
  have u0 : w2.cell? ⟨w.heap.size + 1 + 1, 0, none⟩ = some (.int .i64 p) := by rw [cell_of_row _ _ _ _ _ _ hS]; rfl
  have u1 : w2.cell? ⟨w.heap.size + 1 + 1, 1, none⟩ = some (.slice (some ⟨g, 0, none⟩) n n) := by rw [cell_of_row _ _ _ _ _ _ hS]; rfl
  have u2 : w2.cell? ⟨w.heap.size + 1 + 1, 2, none⟩ = some (.slice none 0 0) := by rw [cell_of_row _ _ _ _ _ _ hS]; rfl
  have gr : ∀ o, w2.frozen? ⟨w.heap.size + 1, o, none⟩ = false := fun o => frozen_of_row _ _ _ _ _ hR
  have gs : ∀ o, w2.frozen? ⟨w.heap.size + 1 + 1, o, none⟩ = false := fun o => frozen_of_row _ _ _ _ _ hS
  clear hR hS
  have HX2 := Lib.hid (HX1'.out.trans hx)
  have HG2 := Lib.hid (((HROW.out.other (by simp; have := HGG.out; omega) _).other (by simp; have := HGG.out; omega) _).ext hx)
  have hkk' : w.heap.size + 1 + 1 < k := by simp at hkk; omega
  have HKK := Lib.hid hkk'
  have HK2 := Lib.hid hrow
  clear hx hrow hkk hkk'
  go_wp2
  refine bodyPost_ret (v := sess p (some ⟨g, 0, none⟩) n n (some ⟨k, 0, none⟩) m m) (by simp [results, Try.results32, go_sem, q0, q1, q2]) rfl ⟨g, k, rfl, ?_, ?_, ?_, ?_, ?_⟩
  · have := HGG.out
    exact (((HG2.out.other (by simp; omega) _).other (by simp; omega) _).other (by simp; omega) _).other (by simp; omega) _
  · have := HKK.out
    unfold RRow
    rw [heap_setCell_other _ _ _ _ (by simp; omega), heap_setCell_other _ _ _ _ (by simp; omega), heap_setCell_other _ _ _ _ (by simp; omega), heap_setCell_other _ _ _ _ (by simp; omega)]
    exact HK2.out
  · have := HGG.out; omega
  · have := HKK.out; omega
  · exact (((HX2.out.setCell (by simp; omega) _).setCell (by simp) _).setCell (by simp) _).setCell (by simp) _

end Go.Proofs.Ytekgbblpnfohfaa
