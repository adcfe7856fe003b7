/- SameVoting on both sides. -/
import Derived.Test.YtekgbblpnfohfaaVGame
namespace Go.Proofs.Ytekgbblpnfohfaa
set_option linter.unusedVariables false
set_option linter.unusedSimpArgs false
open Go.RowKit

set_option maxHeartbeats 1000000 in
theorem s_EqualGame {w : World} {x x' : Int} {a a' : Option Addr} {n n' cap cap' : Nat} {l l' : List Int} (h : Ints w a n cap l) (h' : Ints w a' n' cap' l') :
    Calls Try.prog 84 #[pair x a n cap, pair x' a' n' cap'] w fun e w' => e = .returned (.bool (decide (x = x') && decide (l = l'))) ∧ Ext w w' := by
  have he : (x == x') = decide (x = x') := by by_cases h : x = x' <;> simp [h]
  cases hd : decide (x = x')
  · rw [hd] at he
    go_enter Try.func84, Try.ntmps84
    go_wp2_with fail
    go_ret
    exact ⟨ret_bool (by simp), (Ext.alloc _ _).trans (Ext.alloc _ _)⟩
  · rw [hd] at he
    have hx0 : Ext w ((w.alloc (.cells #[.int .i64 x, .slice a n cap] 40)).alloc (.cells #[.int .i64 x', .slice a' n' cap'] 40)) := (Ext.alloc _ _).trans (Ext.alloc _ _)
    have HE := Lib.hid (s_l8Ints (h.ext hx0) (h'.ext hx0))
    have HX0 := Lib.hid hx0
    clear hx0 h h'
    go_enter Try.func84, Try.ntmps84
    go_wp2_with fail
    refine HE.out.mono ?_
    rintro e w1 ⟨rfl, hx⟩
    go_wp2
    go_ret
    exact ⟨ret_bool (by simp), HX0.out.trans hx.ext⟩

/-- The same coalitions win. -/
def sameV (q : Int) (l : List Int) (q' : Int) (l' : List Int) : Bool := validPair 1 q l && (validPair 1 q' l' && (decide ((voteP q l : Int) = (voteP q' l' : Int)) && decide (voteL q l = voteL q' l')))
def sameTo (q : Int) (l : List Int) (q' : Int) (l' : List Int) (m : Nat) : Bool := (List.range m).all fun (s : Nat) => winsB q l (s : Int) == winsB q' l' (s : Int)
theorem sameTo_succ (q : Int) (l : List Int) (q' : Int) (l' : List Int) (m : Nat) : sameTo q l q' l' (m + 1) = (sameTo q l q' l' m && (winsB q l (m : Int) == winsB q' l' (m : Int))) := by simp [sameTo, List.range_succ]
theorem sameTo_false {q : Int} {l : List Int} {q' : Int} {l' : List Int} {m N : Nat} (h : (winsB q l (m : Int) == winsB q' l' (m : Int)) = false) (hm : m < N) : sameTo q l q' l' N = false := by
  unfold sameTo
  rw [List.all_eq_false]
  exact ⟨m, List.mem_range.2 hm, by simp [h]⟩
theorem bitI_inj {a b : Bool} (h : bitI a = bitI b) : a = b := by cases a <;> cases b <;> simp [bitI] at h ⊢
theorem sameV_not1 {q : Int} {l : List Int} (q' : Int) (l' : List Int) (h : validPair 1 q l = false) : sameV q l q' l' = false := by unfold sameV; rw [h]; rfl
theorem sameV_not2 (q : Int) (l : List Int) {q' : Int} {l' : List Int} (h : validPair 1 q' l' = false) : sameV q l q' l' = false := by unfold sameV; rw [h]; simp
theorem sameV_len {q : Int} {l : List Int} {q' : Int} {l' : List Int} (h : validPair 1 q l = true) (h' : validPair 1 q' l' = true) (hn : l.length ≠ l'.length) : sameV q l q' l' = false := by
  unfold sameV voteP
  rw [h, h', if_pos rfl, if_pos rfl, decide_eq_false (by omega)]
  rfl
theorem sameV_eq {q : Int} {l : List Int} {q' : Int} {l' : List Int} (h : validPair 1 q l = true) (h' : validPair 1 q' l' = true) (hn : l.length = l'.length) : sameV q l q' l' = sameTo q l q' l' (cN l.length) := by
  unfold sameV voteP voteL
  rw [h, h', if_pos rfl, if_pos rfl, if_pos rfl, if_pos rfl, hn, decide_eq_true rfl]
  simp only [Bool.true_and]
  rw [Bool.eq_iff_iff, decide_eq_true_eq]
  unfold sameTo rowF voteF
  rw [List.all_eq_true, List.map_inj_left]
  exact ⟨fun h s hs => by simpa using bitI_inj (h s hs), fun h s hs => by rw [show winsB q l (s : Int) = winsB q' l' (s : Int) by simpa using h s hs]⟩

set_option maxHeartbeats 2000000 in
theorem s_SameVoting {w : World} {q q' : Int} {a a' : Option Addr} {n n' cap cap' : Nat} {l l' : List Int} (h : Ints w a n cap l) (h' : Ints w a' n' cap' l') :
    Calls Try.prog 41 #[pair q a n cap, pair q' a' n' cap'] w fun e w' => e = .returned (.bool (sameV q l q' l')) ∧ Ext w w' := by
  have hx0 : Ext w ((w.alloc (.cells #[.int .i64 q, .slice a n cap] 60)).alloc (.cells #[.int .i64 q', .slice a' n' cap'] 60)) := (Ext.alloc _ _).trans (Ext.alloc _ _)
  have HX0 := Lib.hid hx0
  have HI := Lib.hid (h.ext hx0)
  have HI' := Lib.hid (h'.ext hx0)
  clear h h' hx0
  cases hv : validPair 1 q l
  all_goals
    cases hv' : validPair 1 q' l'
    all_goals
      have HV := Lib.hid hv
      have HV' := Lib.hid hv'
      have HA := Lib.hid (s_VotingGame (q := q) HI.out)
      rw [hv] at HA
      clear hv hv'
      go_enter Try.func41, Try.ntmps41
      go_wp2_with fail
      refine HA.out.mono ?_
      rintro e w1 ⟨⟨v1, rfl, ho⟩, hx⟩
      obtain ⟨a1, n1, c1, rfl, N1⟩ := ho.var
      have X1 := Lib.hid hx
      have hxb := Ext.alloc w1 (.cells #[.int .i64 (voteP q l : Int), .slice a1 n1 c1] 40)
      have d0 : w1.cell? ⟨w.heap.size + 1, 0, none⟩ = some (.int .i64 q') := hx.cellSome (by simp)
      have d1 : w1.cell? ⟨w.heap.size + 1, 1, none⟩ = some (.slice a' n' cap') := hx.cellSome (by simp)
      have hlt1 : w.heap.size + 1 < w1.heap.size := World.block_lt_of_cell? _ _ d0
      have O1 := Lib.hid (ho.ext hxb)
      have HB := Lib.hid (s_VotingGame (q := q') ((HI'.out.ext hx).ext hxb))
      rw [HV'.out] at HB
      clear ho hx hxb
      go_wp2_with fail
      refine HB.out.mono ?_
      rintro e w2 ⟨⟨v2, rfl, ho⟩, hx⟩
      obtain ⟨a2, n2, c2, rfl, N2⟩ := ho.var
      have e0 : w2.cell? ⟨w1.heap.size, 0, none⟩ = some (.int .i64 (voteP q l : Int)) := hx.cellSome (by simp)
      have e1 : w2.cell? ⟨w1.heap.size, 1, none⟩ = some (.slice a1 n1 c1) := hx.cellSome (by simp)
      have hlt2 : w1.heap.size < w2.heap.size := World.block_lt_of_cell? _ _ e0
      have hxb := Ext.alloc w2 (.cells #[.int .i64 (voteP q' l' : Int), .slice a2 n2 c2] 40)
      have X2 := Lib.hid (((X1.out.trans (Ext.alloc _ (.cells #[.int .i64 (voteP q l : Int), .slice a1 n1 c1] 40))).trans hx).trans hxb)
      have O2 := Lib.hid (ho.ext hxb)
      have O1' := Lib.hid ((O1.out.ext hx).ext hxb)
      have HE := Lib.hid (s_EqualGame (x := (voteP q l : Int)) (x' := (voteP q' l' : Int)) O1'.out.ints O2.out.ints)
      clear ho hx hxb
      go_wp2_with fail
  · go_ret
    exact ⟨ret_bool (by rw [sameV_not1 _ _ HV.out]), HX0.out.trans X2.out⟩
  · go_ret
    exact ⟨ret_bool (by rw [sameV_not1 _ _ HV.out]), HX0.out.trans X2.out⟩
  · go_ret
    exact ⟨ret_bool (by rw [sameV_not2 _ _ HV'.out]), HX0.out.trans X2.out⟩
  · refine HE.out.mono ?_
    rintro e w3 ⟨rfl, hx⟩
    have X3 := Lib.hid (X2.out.trans hx)
    clear hx
    go_wp2
    go_ret
    exact ⟨ret_bool (by unfold sameV; rw [HV.out, HV'.out]; simp), HX0.out.trans X3.out⟩

set_option maxRecDepth 100000 in
set_option maxHeartbeats 4000000 in
theorem i_SameVoting {w : World} {q q' : Int} {a a' : Option Addr} {n n' cap cap' : Nat} {l l' : List Int} (h : Ints w a n cap l) (h' : Ints w a' n' cap' l') :
    Calls Try.prog 42 #[pair q a n cap, pair q' a' n' cap'] w fun e w' => e = .returned (.bool (sameV q l q' l')) ∧ Ext w w' := by
  have hx0 : Ext w ((w.alloc (.cells #[.int .i64 q, .slice a n cap] 60)).alloc (.cells #[.int .i64 q', .slice a' n' cap'] 60)) := (Ext.alloc _ _).trans (Ext.alloc _ _)
  have HX0 := Lib.hid hx0
  have HL := Lib.hid h.hlen
  have HL' := Lib.hid h'.hlen
  have HI := Lib.hid (h.ext hx0)
  have HI' := Lib.hid (h'.ext hx0)
  have hm := h.hmax
  have hm' := h'.hmax
  have hc := h.hcap
  have hc' := h'.hcap
  have HA := Lib.hid (i_IsValidVoting (x := q) HI.out)
  clear h h' hx0
  cases hv : validPair 1 q l
  · rw [hv] at HA
    have HV := Lib.hid hv
    clear hv
    go_enter Try.func42, Try.ntmps42
    go_wp2_with fail
    refine HA.out.mono ?_
    rintro e w1 ⟨rfl, hx⟩
    go_wp2
    go_ret
    exact ⟨ret_bool (by rw [sameV_not1 _ _ HV.out]), HX0.out.trans hx⟩
  · rw [hv] at HA
    have HV := Lib.hid hv
    have hn5 : n ≤ 5 := by have := valid_len hv; have := HL.out; omega
    have hN := cN_le n hn5
    clear hv
    cases hv' : validPair 1 q' l'
    · have HV' := Lib.hid hv'
      clear hv'
      go_enter Try.func42, Try.ntmps42
      go_wp2_with fail
      refine HA.out.mono ?_
      rintro e w1 ⟨rfl, hx⟩
      have d0 : w1.cell? ⟨w.heap.size + 1, 0, none⟩ = some (.int .i64 q') := hx.cellSome (by simp)
      have d1 : w1.cell? ⟨w.heap.size + 1, 1, none⟩ = some (.slice a' n' cap') := hx.cellSome (by simp)
      have X1 := Lib.hid hx
      have HB := Lib.hid (i_IsValidVoting (x := q') (HI'.out.ext hx))
      rw [HV'.out] at HB
      clear hx
      go_wp2_with fail
      refine HB.out.mono ?_
      rintro e w2 ⟨rfl, hx⟩
      have X2 := Lib.hid (X1.out.trans hx)
      clear hx
      go_wp2
      go_ret
      exact ⟨ret_bool (by rw [sameV_not2 _ _ HV'.out]), HX0.out.trans X2.out⟩
    · have HV' := Lib.hid hv'
      have hn5' : n' ≤ 5 := by have := valid_len hv'; have := HL'.out; omega
      clear hv'
      by_cases hne : n = n'
      · subst hne
        go_enter Try.func42, Try.ntmps42
        go_wp2_with fail
        refine HA.out.mono ?_
        rintro e w1 ⟨rfl, hx⟩
        have d0 : w1.cell? ⟨w.heap.size + 1, 0, none⟩ = some (.int .i64 q') := hx.cellSome (by simp)
        have d1 : w1.cell? ⟨w.heap.size + 1, 1, none⟩ = some (.slice a' n cap') := hx.cellSome (by simp)
        have X1 := Lib.hid hx
        have HB := Lib.hid (i_IsValidVoting (x := q') (HI'.out.ext hx))
        rw [HV'.out] at HB
        clear hx
        go_wp2_with fail
        refine HB.out.mono ?_
        rintro e w2 ⟨rfl, hx⟩
        have c0 : w2.cell? ⟨w.heap.size, 0, none⟩ = some (.int .i64 q) := (X1.out.trans hx).cellSome (by simp)
        have c1 : w2.cell? ⟨w.heap.size, 1, none⟩ = some (.slice a n cap) := (X1.out.trans hx).cellSome (by simp)
        have d0' := hx.cellSome d0
        have d1' := hx.cellSome d1
        have X2 := Lib.hid (X1.out.trans hx)
        clear hx d0 d1
        go_wp2_with fail
        refine (i_all hn5).mono ?_
        rintro e w3 ⟨rfl, hx⟩
        have X3 := Lib.hid (X2.out.trans hx)
        clear hx c0 c1 d0' d1'
        go_wp2
        go_loopw [25] (fun i wr => ∃ j : Nat, j ≤ cN n ∧ i = .int .i64 (j : Int) ∧ Hid (sameTo q l q' l' j = true) ∧ Hid (Ext ((w.alloc (.cells #[.int .i64 q, .slice a n cap] 60)).alloc (.cells #[.int .i64 q', .slice a' n cap'] 60)) wr)) (fun i _ => cN n - (intOf i).toNat)
        case atStart => exact ⟨0, Nat.zero_le _, rfl, Lib.hid (by simp [sameTo]), X3⟩
        case round =>
          obtain ⟨j, hj, rfl, HS, HX⟩ := hrel
          have c0 : wr.cell? ⟨w.heap.size, 0, none⟩ = some (.int .i64 q) := HX.out.cellSome (by simp)
          have c1 : wr.cell? ⟨w.heap.size, 1, none⟩ = some (.slice a n cap) := HX.out.cellSome (by simp)
          have d0 : wr.cell? ⟨w.heap.size + 1, 0, none⟩ = some (.int .i64 q') := HX.out.cellSome (by simp)
          have d1 : wr.cell? ⟨w.heap.size + 1, 1, none⟩ = some (.slice a' n cap') := HX.out.cellSome (by simp)
          have HI1 := Lib.hid (HI.out.ext HX.out)
          have HI1' := Lib.hid (HI'.out.ext HX.out)
          by_cases hlt : j < cN n
          · have hk : Ext wr wr.drew := Ext.drew wr
            cases hb : (winsB q l (j : Int) == winsB q' l' (j : Int))
            all_goals
              have HB2 := Lib.hid hb
              go_wp2
              go_region_held3 (fun w' => w'.cell? ⟨w.heap.size, 0, none⟩ = some (.int .i64 q) ∧ w'.cell? ⟨w.heap.size, 1, none⟩ = some (.slice a n cap) ∧ w'.cell? ⟨w.heap.size + 1, 0, none⟩ = some (.int .i64 q') ∧ w'.cell? ⟨w.heap.size + 1, 1, none⟩ = some (.slice a' n cap') ∧ Ext wr w')
                (exact ⟨hk.cellSome c0, hk.cellSome c1, hk.cellSome d0, hk.cellSome d1, hk⟩)
                (first
                  | (go_at_call_of 90 (Value.slice a n cap); refine (i_wins (q := q) (l := l) _ (HI1.out.ext hk) (by omega) (by omega) (by omega)).mono ?_; rintro e w4 ⟨rfl, hx3⟩; have hk := hk.trans hx3)
                  | (go_at_call_of 90 (Value.slice a' n cap'); refine (i_wins (q := q') (l := l') _ (HI1'.out.ext hk) (by omega) (by omega) (by omega)).mono ?_; rintro e w4 ⟨rfl, hx3⟩; have hk := hk.trans hx3))
              go_wp2
            · go_ret
              exact ⟨ret_bool (by rw [sameV_eq HV.out HV'.out (by rw [HL.out, HL'.out]), HL.out, sameTo_false HB2.out hlt]), (HX0.out.trans HX.out).trans hk⟩
            · go_roundw
              case rel => exact ⟨j + 1, by omega, by go_num, Lib.hid (by rw [sameTo_succ, HS.out, HB2.out]; rfl), Lib.hid (HX.out.trans hk)⟩
              case measure => simp [intOf]; omega
          · have hje : j = cN n := by omega
            subst hje
            go_wp2
            go_ret
            exact ⟨ret_bool (by rw [sameV_eq HV.out HV'.out (by rw [HL.out, HL'.out]), HL.out, HS.out]), HX0.out.trans HX.out⟩
      · have HNE := Lib.hid hne
        have hne2 : ((n : Int) != (n' : Int)) = true := by simp; omega
        clear hne
        go_enter Try.func42, Try.ntmps42
        go_wp2_with fail
        refine HA.out.mono ?_
        rintro e w1 ⟨rfl, hx⟩
        have d0 : w1.cell? ⟨w.heap.size + 1, 0, none⟩ = some (.int .i64 q') := hx.cellSome (by simp)
        have d1 : w1.cell? ⟨w.heap.size + 1, 1, none⟩ = some (.slice a' n' cap') := hx.cellSome (by simp)
        have X1 := Lib.hid hx
        have HB := Lib.hid (i_IsValidVoting (x := q') (HI'.out.ext hx))
        rw [HV'.out] at HB
        clear hx
        go_wp2_with fail
        refine HB.out.mono ?_
        rintro e w2 ⟨rfl, hx⟩
        have c0 : w2.cell? ⟨w.heap.size, 0, none⟩ = some (.int .i64 q) := (X1.out.trans hx).cellSome (by simp)
        have c1 : w2.cell? ⟨w.heap.size, 1, none⟩ = some (.slice a n cap) := (X1.out.trans hx).cellSome (by simp)
        have d0' := hx.cellSome d0
        have d1' := hx.cellSome d1
        have X2 := Lib.hid (X1.out.trans hx)
        clear hx d0 d1
        go_wp2
        go_ret
        exact ⟨ret_bool (by rw [sameV_len HV.out HV'.out (by rw [HL.out, HL'.out]; exact HNE.out)]), HX0.out.trans X2.out⟩

end Go.Proofs.Ytekgbblpnfohfaa
