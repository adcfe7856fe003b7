/- IsDictator on both sides. -/
import Derived.Test.YtdlkeeimhkgggaaWins
namespace Go.Proofs.Ytdlkeeimhkgggaa
set_option linter.unusedVariables false
open Go.RowKit

/-- Of the first m coalitions just those with player k win. -/
def dictTo (q : Int) (l : List Int) (k m : Nat) : Bool := (List.range m).all fun (s : Nat) => winsB q l (s : Int) == bit (s : Int) k
theorem dictTo_succ (q : Int) (l : List Int) (k m : Nat) : dictTo q l k (m + 1) = (dictTo q l k m && (winsB q l (m : Int) == bit (m : Int) k)) := by simp [dictTo, List.range_succ]
theorem dictTo_false {q : Int} {l : List Int} {k m N : Nat} (h : (winsB q l (m : Int) == bit (m : Int) k) = false) (hm : m < N) : dictTo q l k N = false := by
  unfold dictTo
  rw [List.all_eq_false]
  exact ⟨m, List.mem_range.2 hm, by simp [h]⟩
def dictB (q : Int) (l : List Int) (k : Int) : Bool := validPair 1 q l && (inB k 0 ((l.length : Int) - 1) && dictTo q l k.toNat (cN l.length))

set_option maxHeartbeats 1000000 in
theorem s_IsDictator {w : World} {q k : Int} {a : Option Addr} {n cap : Nat} {l : List Int} (h : Ints w a n cap l) :
    Calls Try.prog 33 #[pair q a n cap, .int .i64 k] w fun e w' => e = .returned (.bool (dictB q l k)) ∧ Ext w w' := by
  have hi := h.alloc (.cells #[.int .i64 q, .slice a n cap] 35)
  have HX := Lib.hid (Ext.alloc w (.cells #[.int .i64 q, .slice a n cap] 35))
  have HL := Lib.hid h.hlen
  have HV := Lib.hid (s_IsValidVoting (x := q) hi)
  have hmax := h.hmax
  have hcap := h.hcap
  cases hv : validPair 1 q l
  · rw [hv] at HV
    have HVV := Lib.hid hv
    go_enter Try.func33, Try.ntmps33
    go_wp2_with fail
    refine HV.out.mono ?_
    rintro e w1 ⟨rfl, hx⟩
    go_wp2
    go_ret
    exact ⟨ret_bool (by unfold dictB; rw [HVV.out]; rfl), HX.out.trans hx⟩
  rw [hv] at HV
  have HVV := Lib.hid hv
  have hn5 : 1 ≤ n ∧ n ≤ 5 := by have := valid_len hv; have := HL.out; omega
  obtain ⟨hn1, hn5⟩ := hn5
  clear hv h
  cases hk : inB k 0 ((n : Int) - 1)
  · have HK := Lib.hid hk
    go_enter Try.func33, Try.ntmps33
    go_wp2_with fail
    refine HV.out.mono ?_
    rintro e w1 ⟨rfl, hx⟩
    have c1 : w1.cell? ⟨w.heap.size, 1, none⟩ = some (.slice a n cap) := hx.cellSome (by simp)
    go_wp2_with (first | (go_at_call 37; refine (s_l1In _ _ _ _).mono ?_; rintro e w' ⟨rfl, rfl⟩))
    go_ret
    exact ⟨ret_bool (by unfold dictB; rw [HL.out, HK.out]; simp), HX.out.trans hx⟩
  obtain ⟨m, rfl⟩ : ∃ m : Nat, k = m := ⟨k.toNat, by unfold inB at hk; simp at hk; omega⟩
  have hm : m ≤ 4 := by unfold inB at hk; simp at hk; omega
  have hN := cN_le n hn5
  obtain ⟨hN1, hN2⟩ := hN
  have HK := Lib.hid hk
  go_enter Try.func33, Try.ntmps33
  go_wp2_with fail
  refine HV.out.mono ?_
  rintro e w1 ⟨rfl, hx⟩
  have c1 : w1.cell? ⟨w.heap.size, 1, none⟩ = some (.slice a n cap) := hx.cellSome (by simp)
  have HX1 := Lib.hid hx
  clear hx
  go_wp2_with (first | (go_at_call 37; refine (s_l1In _ _ _ _).mono ?_; rintro e w' ⟨rfl, rfl⟩))
  clear hk
  go_loopw [5] (fun i wr => ∃ j : Nat, j ≤ cN n ∧ i = .int .i64 j ∧ Hid (dictTo q l m j = true) ∧ Ext (w.alloc (.cells #[.int .i64 q, .slice a n cap] 35)) wr) (fun i _ => cN n - (intOf i).toNat)
  case atStart => exact ⟨0, Nat.zero_le _, rfl, Lib.hid rfl, HX1.out⟩
  case round =>
    obtain ⟨j, hj, rfl, HA, hx⟩ := hrel
    have c0 : wr.cell? ⟨w.heap.size, 0, none⟩ = some (.int .i64 q) := hx.cellSome (by simp)
    have c1 : wr.cell? ⟨w.heap.size, 1, none⟩ = some (.slice a n cap) := hx.cellSome (by simp)
    have HX2 := Lib.hid hx
    have HI := Lib.hid (hi.ext hx)
    clear hx
    by_cases hlt : j < cN n
    · have HP := Lib.hid (hasP_bit (j : Int) m (by omega) hm)
      cases hb : (winsB q l (j : Int) == bit (j : Int) m)
      all_goals
        have HB := Lib.hid hb
        go_wp2_with (first
          | (go_at_call 62; refine (s_CountC n hn5 _).mono ?_; rintro e w' ⟨rfl, rfl⟩)
          | (go_at_call 63; refine (s_l20Wins _ HI.out (by omega) (by omega) hn5).mono ?_; rintro e w2 ⟨rfl, hx2⟩)
          | (go_at_call 56; refine (s_HasPlayer _ _ _ (by omega)).mono ?_; rw [HP.out]; rintro e w' ⟨rfl, rfl⟩))
      · go_ret
        exact ⟨ret_bool (by unfold dictB; rw [HVV.out, HL.out, HK.out]; simp [dictTo_false HB.out hlt]), (HX.out.trans HX2.out).trans (by assumption)⟩
      · go_roundw
        case rel => exact ⟨j + 1, by omega, by go_num, Lib.hid (by rw [dictTo_succ, HA.out, HB.out]; rfl), HX2.out.trans (by assumption)⟩
        case measure => simp [intOf]; omega
    · go_wp2_with (first
        | (go_at_call 62; refine (s_CountC n hn5 _).mono ?_; rintro e w' ⟨rfl, rfl⟩))
      go_ret
      have hjn : j = cN n := by omega
      subst hjn
      exact ⟨ret_bool (by unfold dictB; rw [HVV.out, HL.out, HK.out]; simpa using HA.out.symm), HX.out.trans HX2.out⟩

set_option maxHeartbeats 1000000 in
theorem i_IsDictator {w : World} {q k : Int} {a : Option Addr} {n cap : Nat} {l : List Int} (h : Ints w a n cap l) :
    Calls Try.prog 34 #[pair q a n cap, .int .i64 k] w fun e w' => e = .returned (.bool (dictB q l k)) ∧ Ext w w' := by
  have hi := h.alloc (.cells #[.int .i64 q, .slice a n cap] 35)
  have HX := Lib.hid (Ext.alloc w (.cells #[.int .i64 q, .slice a n cap] 35))
  have HL := Lib.hid h.hlen
  have HV := Lib.hid (i_IsValidVoting (x := q) hi)
  have hmax := h.hmax
  have hcap := h.hcap
  cases hv : validPair 1 q l
  · rw [hv] at HV
    have HVV := Lib.hid hv
    go_enter Try.func34, Try.ntmps34
    go_wp2_with fail
    refine HV.out.mono ?_
    rintro e w1 ⟨rfl, hx⟩
    go_wp2
    go_ret
    exact ⟨ret_bool (by unfold dictB; rw [HVV.out]; rfl), HX.out.trans hx⟩
  rw [hv] at HV
  have HVV := Lib.hid hv
  have hn5 : 1 ≤ n ∧ n ≤ 5 := by have := valid_len hv; have := HL.out; omega
  obtain ⟨hn1, hn5⟩ := hn5
  clear hv h
  cases hk : inB k 0 ((n : Int) - 1)
  · have HK := Lib.hid hk
    go_enter Try.func34, Try.ntmps34
    go_wp2_with fail
    refine HV.out.mono ?_
    rintro e w1 ⟨rfl, hx⟩
    have c1 : w1.cell? ⟨w.heap.size, 1, none⟩ = some (.slice a n cap) := hx.cellSome (by simp)
    go_wp2_with (first | (go_at_call 39; refine (i_within _ _ _ _).mono ?_; rintro e w' ⟨rfl, rfl⟩))
    go_ret
    exact ⟨ret_bool (by unfold dictB; rw [HL.out, HK.out]; simp), HX.out.trans hx⟩
  obtain ⟨m, rfl⟩ : ∃ m : Nat, k = m := ⟨k.toNat, by unfold inB at hk; simp at hk; omega⟩
  have hm : m ≤ 4 := by unfold inB at hk; simp at hk; omega
  have hN := cN_le n hn5
  obtain ⟨hN1, hN2⟩ := hN
  have HK := Lib.hid hk
  go_enter Try.func34, Try.ntmps34
  go_wp2_with fail
  refine HV.out.mono ?_
  rintro e w1 ⟨rfl, hx⟩
  have c1 : w1.cell? ⟨w.heap.size, 1, none⟩ = some (.slice a n cap) := hx.cellSome (by simp)
  have c0 : w1.cell? ⟨w.heap.size, 0, none⟩ = some (.int .i64 q) := hx.cellSome (by simp)
  have HX1 := Lib.hid hx
  clear hx
  go_wp2_with (first | (go_at_call 39; refine (i_within _ _ _ _).mono ?_; rintro e w' ⟨rfl, rfl⟩))
  refine (i_all hn5).mono ?_
  rintro e w2 ⟨rfl, hx⟩
  have HX2 := Lib.hid (HX1.out.trans hx)
  clear hk hx
  go_wp2
  go_loopw [20] (fun i wr => ∃ j : Nat, j ≤ cN n ∧ i = .int .i64 j ∧ Hid (dictTo q l m j = true) ∧ Ext (w.alloc (.cells #[.int .i64 q, .slice a n cap] 35)) wr) (fun i _ => cN n - (intOf i).toNat)
  case atStart => exact ⟨0, Nat.zero_le _, rfl, Lib.hid rfl, HX2.out⟩
  case round =>
    obtain ⟨j, hj, rfl, HA, hx⟩ := hrel
    have c0 : wr.cell? ⟨w.heap.size, 0, none⟩ = some (.int .i64 q) := hx.cellSome (by simp)
    have c1 : wr.cell? ⟨w.heap.size, 1, none⟩ = some (.slice a n cap) := hx.cellSome (by simp)
    have HX2 := Lib.hid hx
    have HI := Lib.hid ((hi.ext hx).ext (Ext.drew wr))
    clear hx
    by_cases hlt : j < cN n
    · have hbt := bit_test (j : Int) m (by omega) (by omega)
      have hk : Ext wr wr.drew := Ext.drew wr
      cases hb : (winsB q l (j : Int) == bit (j : Int) m)
      all_goals
        have HB := Lib.hid hb
        go_wp2
        go_region_held3 (fun w' => w'.cell? ⟨w.heap.size, 0, none⟩ = some (.int .i64 q) ∧ w'.cell? ⟨w.heap.size, 1, none⟩ = some (.slice a n cap) ∧ Ext wr w')
          (exact ⟨hk.cellSome c0, hk.cellSome c1, hk⟩)
          (first | (go_at_call 65; refine (i_wins _ HI.out (by omega) (by omega) (by omega)).mono ?_; rintro e w3 ⟨rfl, hx3⟩; have hk := hk.trans hx3))
        go_wp2
      · go_ret
        exact ⟨ret_bool (by unfold dictB; rw [HVV.out, HL.out, HK.out]; simp [dictTo_false HB.out hlt]), (HX.out.trans HX2.out).trans hk⟩
      · go_roundw
        case rel => exact ⟨j + 1, by omega, by go_num, Lib.hid (by rw [dictTo_succ, HA.out, HB.out]; rfl), HX2.out.trans hk⟩
        case measure => simp [intOf]; omega
    · go_wp2
      go_ret
      have hjn : j = cN n := by omega
      subst hjn
      exact ⟨ret_bool (by unfold dictB; rw [HVV.out, HL.out, HK.out]; simpa using HA.out.symm), HX.out.trans HX2.out⟩

end Go.Proofs.Ytdlkeeimhkgggaa
