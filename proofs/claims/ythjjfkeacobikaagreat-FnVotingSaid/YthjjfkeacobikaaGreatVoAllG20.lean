import Derived.Test.YthjjfkeacobikaaGreatVoAllG11
import Derived.Test.YthjjfkeacobikaaGreatVoAllG19
import Derived.Test.YthjjfkeacobikaaGreatVoAllG0
import Derived.Test.YthjjfkeacobikaaGreatVoAllG2
import Derived.Test.YthjjfkeacobikaaGreatVoAllG6
namespace Go.Proofs.YthjjfkeacobikaaGreat
set_option linter.unusedVariables false
open Go.RowKit
theorem ent_core {n N i j : Nat} (hi : i < n) (hi5 : i < 5) (hj : j < N - 1) : ent (coreA n N) i j = bitI (bit ((1 + j : Nat) : Int) i) := by
 unfold ent coreA memM
 rw [List.getElem?_map, List.getElem?_range hi, Option.map_some, Option.getD_some]
 unfold memR seqI
 rw [List.getElem?_map, List.getElem?_map, List.getElem?_range hj]
 simp only [Option.map_some, Option.getD_some]
 rw [hasP_bit _ _ (by omega) (by omega)]
 norm_cast
theorem vote_code {g : Int} {r : LpR} {c : Int} (h : codeS true g r = c) (h12 : c = 1 ∨ c = 2) : r.status = 1 ∧ (slackR g r).2 = true ∧ (c = 2 ↔ (slackR g r).1.1 < 0) := by
 unfold codeS at h
 rw [if_neg (by simp)] at h
 split at h
 ·omega
 ·next h1 =>
  split at h
  ·omega
  ·next h2 =>
   have h1 : r.status = 1 := Decidable.not_not.1 h1
   have h2 : (slackR g r).2 = true := by cases hh : (slackR g r).2 with
    | true => rfl
    | false => exact absurd hh h2
   split at h
   ·next h3 => exact ⟨h1, h2, by omega⟩
   ·next h3 =>
    refine ⟨h1, h2, ?_⟩
    split at h <;> omega
set_option maxHeartbeats 400000 in
theorem s_IsValidVoting {w : World} {x : Int} {a : Option Addr} {n cap : Nat} {l : List Int} (h : Ints w a n cap l) :
 Calls Tryz.prog 72 #[pair x a n cap] w fun e w' => e = .returned (.bool (validPair 1 x l)) ∧ Ext w w' := by
 have h1 := h.alloc (.cells #[.int .i64 x, .slice a n cap] 26)
 have hq := fun m => quiet_same (s_l18Small 100 (h1.drewN m))
 cases hs : small l 100
 all_goals
  have HS := Lib.hid hs
  rw [hs] at hq
  have HQ := Lib.hid hq
  clear hq hs
  go_enter Tryz.func72, Tryz.ntmps72
  go_wp2
  go_quiet ((first | (go_at_call 157; exact HQ.out _) | (go_at_call 116; exact quiet_same (s_l18Sum (h1.drewN _))) | (go_at_call 95; exact quiet_same (s_l1In _ _ _ _))))
  go_wp2
  go_ret
  refine ⟨ret_bool ?_, below_drewN (Ext.alloc _ _) _⟩
  simp only [validPair, HS.out, Bool.true_and, Bool.false_and]
theorem go_IsValidVoting1 : IsGo Tryz.prog 82 := isGo Tryz.func82 (by kernel_rfl) (by kernel_rfl)
set_option maxHeartbeats 400000 in
theorem i_IsValidVoting1 (x : Int) (w : World) : Calls Tryz.prog 82 #[.int .i64 x] w fun e w' => e = .returned (.bool (!inB x 0 100)) ∧ w = w' := by
 go_enter Tryz.func82, Tryz.ntmps82
 go_wp2_with (first | (go_at_call 80; refine (i_within _ _ _ _).mono ?_; rintro e w' ⟨rfl, rfl⟩))
 go_ret
 exact ⟨rfl, rfl⟩
theorem asks_IsValidVoting1 (w : World) : Asks Tryz.prog w 82 #[] (fun x => !inB x 0 100) :=
 fun x w1 _ => (i_IsValidVoting1 x w1).mono fun e w' ⟨he, hw⟩ => ⟨he, hw ▸ Ext.refl _⟩
set_option maxHeartbeats 400000 in
theorem i_IsValidVoting {w : World} {x : Int} {a : Option Addr} {n cap : Nat} {l : List Int} (h : Ints w a n cap l) :
 Calls Tryz.prog 19 #[pair x a n cap] w fun e w' => e = .returned (.bool (validPair 1 x l)) ∧ Ext w w' := by
 have h1 := h.alloc (.cells #[.int .i64 x, .slice a n cap] 26)
 have HX := Lib.hid (Ext.alloc w (.cells #[.int .i64 x, .slice a n cap] 26))
 have HC := Lib.hid (containsFunc_ints h1 go_IsValidVoting1 (asks_IsValidVoting1 _))
 have HL := Lib.hid h.hlen
 cases hin : inB n 1 5
 ·have HI := Lib.hid hin
  go_enter Tryz.func19, Tryz.ntmps19
  go_wp2_with (first | (go_at_call 80; refine (i_within _ _ _ _).mono ?_; rintro e w' ⟨rfl, rfl⟩))
  go_ret
  refine ⟨ret_bool ?_, HX.out⟩
  simp only [validPair, small, HL.out, HI.out, Bool.and_false, Bool.false_and]
 ·have HI := Lib.hid hin
  cases hany : l.any (fun x => !inB x 0 100)
  all_goals
   have HA := Lib.hid hany
   rw [hany] at HC
   clear hany
   go_enter Tryz.func19, Tryz.ntmps19
   go_wp2_with (first | (go_at_call 80; refine (i_within _ _ _ _).mono ?_; rintro e w' ⟨rfl, rfl⟩))
  ·refine HC.out.mono ?_
   rintro e w1 ⟨rfl, hx⟩
   have hcs := hx.cells
   have HX1 := Lib.hid (HX.out.trans hx)
   have h2 := h1.ext hx
   clear hx
   go_wp2
   go_quiet ((first | (go_at_call 83; exact quiet_same (i_total (h2.drewN _))) | (go_at_call 80; exact quiet_same (i_within _ _ _ _))))
   go_wp2
   go_ret
   refine ⟨ret_bool ?_, below_drewN HX1.out _⟩
   simp only [validPair, small_any, HL.out, HI.out, HA.out, Bool.not_false, Bool.true_and]
  ·refine HC.out.mono ?_
   rintro e w1 ⟨rfl, hx⟩
   have HX1 := Lib.hid (HX.out.trans hx)
   clear hx
   go_wp2
   go_ret
   refine ⟨ret_bool ?_, HX1.out⟩
   simp only [validPair, small_any, HA.out, Bool.not_true, Bool.false_and]
def winsB (q : Int) (l : List Int) (s : Int) : Bool := decide (q ≤ sumTo s l l.length)
set_option maxHeartbeats 400000 in
theorem i_wins {w : World} {q : Int} {a : Option Addr} {n cap : Nat} {l : List Int} (s : Int) (h : Ints w a n cap l) (h0 : 0 ≤ s) (h1 : s ≤ 9223372036854775807) (h5 : n ≤ 60) :
 Calls Tryz.prog 71 #[pair q a n cap, .int .i64 s] w fun e w' => e = .returned (.bool (winsB q l s)) ∧ Ext w w' := by
 have hi := h.alloc (.cells #[.int .i64 q, .slice a n cap] 26)
 have HL := Lib.hid h.hlen
 go_enter Tryz.func71, Tryz.ntmps71
 go_wp2
 go_quiet ((go_at_call 121; exact quiet_same (i_sumOver s (hi.drewN _) h0 h1 h5)))
 go_wp2
 go_ret
 exact ⟨ret_bool (by unfold winsB; rw [HL.out]), below_drewN (Ext.alloc _ _) _⟩
set_option maxHeartbeats 400000 in
theorem i_all {w : World} {q : Int} {a : Option Addr} {n cap : Nat} (hn : n ≤ 5) :
 Calls Tryz.prog 76 #[pair q a n cap] w fun e w' => e = .returned (.int .i64 (cN n : Int)) ∧ Ext w w' := by
 have HW := Lib.hid ((wrap_pow n hn).trans (cN_pow n).symm)
 go_enter Tryz.func76, Tryz.ntmps76
 go_wp2
 go_ret
 exact ⟨ret_int HW.out, Ext.alloc _ _⟩
set_option maxHeartbeats 400000 in
theorem s_l20Wins {w : World} {q : Int} {a : Option Addr} {n cap : Nat} {l : List Int} (s : Int) (h : Ints w a n cap l) (h0 : 0 ≤ s) (h1 : s ≤ 9223372036854775807) (h5 : n ≤ 5) :
 Calls Tryz.prog 75 #[pair q a n cap, .int .i64 s] w fun e w' => e = .returned (.bool (winsB q l s)) ∧ Ext w w' := by
 have hi := h.alloc (.cells #[.int .i64 q, .slice a n cap] 26)
 have HL := Lib.hid h.hlen
 go_enter Tryz.func75, Tryz.ntmps75
 go_wp2
 go_loop [5, 6] (fun t i => ∃ k : Nat, k ≤ n ∧ i = .int .i64 k ∧ t = .int .i64 (sumTo s l k)) (fun _ i => n - (intOf i).toNat)
 case atStart => exact ⟨0, Nat.zero_le _, rfl, rfl⟩
 case round =>
  obtain ⟨k, hk, rfl, rfl⟩ := hrel
  by_cases hlt : k < n
  ·obtain ⟨b, off, rfl, hc⟩ := hi.at hlt
   have hp := hasP_bit s k h0 (by omega)
   cases hbit : bit s k
   all_goals
    rw [hbit] at hp
    have HB := Lib.hid hbit
    clear hbit
    go_wp2_with (first | (go_at_call 79; refine (s_HasPlayer _ _ _ h1).mono ?_; rintro e w' ⟨rfl, rfl⟩))
    go_round
    case rel => exact ⟨k + 1, by omega, by go_num, by simp only [sumTo, HB.out]; rfl⟩
    case measure => simp [intOf]; omega
  ·go_wp2
   go_ret
   have hkn : k = n := by omega
   subst hkn
   exact ⟨ret_bool (by unfold winsB; rw [HL.out]), Ext.alloc _ _⟩
theorem valid_len {lo x : Int} {l : List Int} (h : validPair lo x l = true) : 1 ≤ l.length ∧ l.length ≤ 5 := by
 unfold validPair small inB at h
 simp only [Bool.and_eq_true, decide_eq_true_eq] at h
 omega
set_option linter.unusedSimpArgs false
def voteF (q : Int) (l : List Int) (s : Nat) : Int := bitI (winsB q l (s : Int))
def voteP (q : Int) (l : List Int) : Nat := if validPair 1 q l then l.length else 0
def voteL (q : Int) (l : List Int) : List Int := if validPair 1 q l then rowF (voteF q l) (cN l.length) else []
theorem bitI_le (b : Bool) : -500 ≤ bitI b ∧ bitI b ≤ 500 := by cases b <;> simp [bitI]
theorem winsB_zero {q : Int} {l : List Int} (h : validPair 1 q l = true) : winsB q l 0 = false := by
 have hq : 1 ≤ q := by unfold validPair inB at h; simp at h; omega
 have hz : ∀ k, sumTo 0 l k = 0 := by
  intro k
  induction k with
  | zero => rfl
  | succ k ih => simp [sumTo, bit, ih]
 unfold winsB
 rw [hz]
 simp; omega
theorem go_VotingGame1 : IsGo Tryz.prog 70 := isGo Tryz.func70 (by kernel_rfl) (by kernel_rfl)
set_option maxHeartbeats 1000000 in
theorem i_VotingGame1 {w : World} {q : Int} {a : Option Addr} {n cap b : Nat} {l : List Int} (s : Nat) (h : Ints w a n cap l) (hb : w.heap[b]? = some (.cells #[.int .i64 q, .slice a n cap] 26 (0, 0))) (hs : s < 32) (h5 : n ≤ 5) :
 Calls Tryz.prog 70 #[.int .i64 (s : Int), .pointer (some ⟨b, 0, none⟩)] w fun e w' => e = .returned (.int .i64 (voteF q l s)) ∧ Ext w w' := by
 have c0 := two_cell0 hb
 have c1 := two_cell1 hb
 have HI := Lib.hid h
 clear h hb
 cases hw : winsB q l (s : Int)
 all_goals
  have HW := Lib.hid hw
  go_enter Tryz.func70, Tryz.ntmps70
  go_wp2_with fail
  refine (i_wins _ HI.out (by omega) (by omega) (by omega)).mono ?_
  rw [hw]
  rintro e w1 ⟨rfl, hx⟩
  go_wp2
  go_ret
  exact ⟨ret_int (by unfold voteF; rw [HW.out]; rfl), hx⟩
set_option maxHeartbeats 4000000 in
theorem i_VotingGame {w : World} {q : Int} {a : Option Addr} {n cap : Nat} {l : List Int} (h : Ints w a n cap l) :
 Calls Tryz.prog 11 #[pair q a n cap] w fun e w' => GameV w' w.heap.size e (voteP q l) (voteL q l) (validPair 1 q l) ∧ Ext w w' := by
 have hi := h.alloc (.cells #[.int .i64 q, .slice a n cap] 26)
 have HL := Lib.hid h.hlen
 have HV := Lib.hid (i_IsValidVoting (x := q) (hi.ext (Ext.alloc _ (.cells #[.int .i64 0, .slice none 0 0] 29))))
 have HX := Lib.hid ((Ext.alloc w (.cells #[.int .i64 q, .slice a n cap] 26)).trans (Ext.alloc _ (.cells #[.int .i64 0, .slice none 0 0] 29)))
 have hmax := h.hmax
 have hcap := h.hcap
 cases hv : validPair 1 q l
 ·rw [hv] at HV
  have HVV := Lib.hid hv
  clear hv
  go_enter Tryz.func11, Tryz.ntmps11
  go_wp2_with fail
  refine HV.out.mono ?_
  rintro e w1 ⟨rfl, hx⟩
  have r0 : w1.cell? ⟨w.heap.size + 1, 0, none⟩ = some (.int .i64 0) := hx.cellSome (by simp)
  have r1 : w1.cell? ⟨w.heap.size + 1, 1, none⟩ = some (.slice none 0 0) := hx.cellSome (by simp)
  have f0 : w1.frozen? ⟨w.heap.size + 1, 0, none⟩ = false := (hx.frozens _ _ (by simp)).trans (by simp)
  have f1 : w1.frozen? ⟨w.heap.size + 1, 1, none⟩ = false := (hx.frozens _ _ (by simp)).trans (by simp)
  have HX1 := Lib.hid (HX.out.trans hx)
  clear hx
  go_wp2
  refine bodyPost_ret (v := .tuple #[.agg #[.int .i64 0, .slice none 0 0], .bool false]) (by simp [results, Tryz.results11, go_sem, r0, r1]) rfl ⟨⟨.slice none 0 0, ?_, ?_⟩, ?_⟩
  ·unfold voteP; rw [HVV.out]; rfl
  ·unfold voteL; rw [HVV.out]; exact ⟨rfl, .inl ⟨rfl, rfl⟩⟩
  ·exact (HX1.out.setCell (by simp) _).setCell (by simp) _
 ·rw [hv] at HV
  have HVV := Lib.hid hv
  have hn5 : 1 ≤ n ∧ n ≤ 5 := by have := valid_len hv; have := HL.out; omega
  obtain ⟨hn1, hn5⟩ := hn5
  have hN := cN_le n hn5
  have HI := Lib.hid hi
  have HZ := Lib.hid (winsB_zero hv)
  clear hv
  go_enter Tryz.func11, Tryz.ntmps11
  go_wp2_with fail
  refine HV.out.mono ?_
  rintro e w1 ⟨rfl, hx⟩
  have c1 : w1.cell? ⟨w.heap.size, 1, none⟩ = some (.slice a n cap) := hx.cellSome (by simp)
  have HB := Lib.hid (show w1.heap[w.heap.size]? = some (.cells #[.int .i64 q, .slice a n cap] 26 (0, 0)) from (hx.block _ (by simp; omega)).trans (by rw [heapA_old _ _ _ (by simp)]; exact heapA_new _ _ _ rfl))
  have HX1 := Lib.hid hx
  have HI1 := Lib.hid ((HI.out.ext (Ext.alloc _ _)).ext hx)
  clear hx
  have HT : Hid (Tells Tryz.prog w1 70 #[.pointer (some ⟨w.heap.size, 0, none⟩)] (cN n) (voteF q l)) := Lib.hid fun s w2 hs k => i_VotingGame1 s (HI1.out.ext k) ((k.block _ (lt_of_block HB.out)).trans HB.out) (by omega) hn5
  have HM := Lib.hid (i_made hn1 hn5 go_VotingGame1 HT.out (by unfold voteF; rw [show ((0 : Nat) : Int) = 0 from rfl, HZ.out]; rfl) (fun s _ => bitI_le _))
  go_wp2_with fail
  refine HM.out.mono ?_
  rintro e w2 ⟨⟨v, rfl, ho⟩, hx⟩
  obtain ⟨a2, n2, c2, rfl, HN2⟩ := ho.var
  have HX2 := Lib.hid (HX1.out.trans hx)
  have r0 : w2.cell? ⟨w.heap.size + 1, 0, none⟩ = some (.int .i64 0) := HX2.out.cellSome (by simp)
  have r1 : w2.cell? ⟨w.heap.size + 1, 1, none⟩ = some (.slice none 0 0) := HX2.out.cellSome (by simp)
  have f0 : w2.frozen? ⟨w.heap.size + 1, 0, none⟩ = false := (HX2.out.frozens _ _ (by simp)).trans (by simp)
  have f1 : w2.frozen? ⟨w.heap.size + 1, 1, none⟩ = false := (HX2.out.frozens _ _ (by simp)).trans (by simp)
  have HO := Lib.hid ho
  have hsz1 := HX1.out.size
  simp at hsz1
  clear ho hx
  go_wp2
  refine bodyPost_ret (v := .tuple #[.agg #[.int .i64 (n : Int), .slice a2 n2 c2], .bool true]) (by simp [results, Tryz.results11, go_sem, r0, r1]) rfl ⟨⟨.slice a2 n2 c2, ?_, ?_⟩, ?_⟩
  ·unfold voteP; rw [HVV.out, if_pos rfl, HL.out]
  ·unfold voteL; rw [HVV.out, if_pos rfl, HL.out]
   refine HO.out.mono (by omega) |>.keep fun j hj => ?_
   have := (HO.out.lt j hj).1
   rw [heap_setCell_other _ _ _ _ (by simp; omega), heap_setCell_other _ _ _ _ (by simp; omega)]
  ·exact ((HX.out.trans HX2.out).setCell (by simp) _).setCell (by simp) _
set_option maxRecDepth 100000 in
set_option maxHeartbeats 8000000 in
theorem s_VotingGame {w : World} {q : Int} {a : Option Addr} {n cap : Nat} {l : List Int} (h : Ints w a n cap l) :
 Calls Tryz.prog 12 #[pair q a n cap] w fun e w' => GameV w' w.heap.size e (voteP q l) (voteL q l) (validPair 1 q l) ∧ Ext w w' := by
 have hi := h.alloc (.cells #[.int .i64 q, .slice a n cap] 26)
 have HL := Lib.hid h.hlen
 have HV := Lib.hid (s_IsValidVoting (x := q) (hi.ext (Ext.alloc _ (.cells #[.int .i64 0, .slice none 0 0] 29))))
 have HX := Lib.hid ((Ext.alloc w (.cells #[.int .i64 q, .slice a n cap] 26)).trans (Ext.alloc _ (.cells #[.int .i64 0, .slice none 0 0] 29)))
 have hmax := h.hmax
 have hcap := h.hcap
 cases hv : validPair 1 q l
 ·rw [hv] at HV
  have HVV := Lib.hid hv
  clear hv
  go_enter Tryz.func12, Tryz.ntmps12
  go_wp2_with fail
  refine HV.out.mono ?_
  rintro e w1 ⟨rfl, hx⟩
  have r0 : w1.cell? ⟨w.heap.size + 1, 0, none⟩ = some (.int .i64 0) := hx.cellSome (by simp)
  have r1 : w1.cell? ⟨w.heap.size + 1, 1, none⟩ = some (.slice none 0 0) := hx.cellSome (by simp)
  have f0 : w1.frozen? ⟨w.heap.size + 1, 0, none⟩ = false := (hx.frozens _ _ (by simp)).trans (by simp)
  have f1 : w1.frozen? ⟨w.heap.size + 1, 1, none⟩ = false := (hx.frozens _ _ (by simp)).trans (by simp)
  have HX1 := Lib.hid (HX.out.trans hx)
  clear hx
  go_wp2
  refine bodyPost_ret (v := .tuple #[.agg #[.int .i64 0, .slice none 0 0], .bool false]) (by simp [results, Tryz.results12, go_sem, r0, r1]) rfl ⟨⟨.slice none 0 0, ?_, ?_⟩, ?_⟩
  ·unfold voteP; rw [HVV.out]; rfl
  ·unfold voteL; rw [HVV.out]; exact ⟨rfl, .inl ⟨rfl, rfl⟩⟩
  ·exact (HX1.out.setCell (by simp) _).setCell (by simp) _
 ·rw [hv] at HV
  have HVV := Lib.hid hv
  have hn5 : 1 ≤ n ∧ n ≤ 5 := by have := valid_len hv; have := HL.out; omega
  obtain ⟨hn1, hn5⟩ := hn5
  have hN := cN_le n hn5
  have HI := Lib.hid hi
  clear hv h hi
  go_enter Tryz.func12, Tryz.ntmps12
  go_wp2_with fail
  refine HV.out.mono ?_
  rintro e w1 ⟨rfl, hx⟩
  have c1 : w1.cell? ⟨w.heap.size, 1, none⟩ = some (.slice a n cap) := hx.cellSome (by simp)
  have hs1 : w.heap.size < w1.heap.size := World.block_lt_of_cell? _ _ c1
  have hs2 : w.heap.size + 1 < w1.heap.size := by have := hx.size; simp at this; omega
  have HX1 := Lib.hid hx
  have HI1 := Lib.hid ((HI.out.ext (Ext.alloc _ _)).ext hx)
  clear hx
  go_wp2_with (first | (go_at_call 73; refine (s_CountC n hn5 _).mono ?_; rintro e w' ⟨rfl, rfl⟩))
  go_loopw [6] (fun i wr => ∃ (k : Nat) (a1 : Option Addr) (n1 c1 : Nat), k ≤ cN n ∧ i = .int .i64 (k : Int) ∧ Hid (OwnI wr (w1.heap.size + 1) (.slice a1 n1 c1) (rowF (voteF q l) k)) ∧ Hid (wr.heap[w1.heap.size]? = some (.cells #[.int .i64 (n : Int), .slice a1 n1 c1] 29 (0, 0))) ∧ Hid (Ext w1 wr)) (fun i _ => cN n - (intOf i).toNat)
  case atStart =>
   refine ⟨0, none, 0, 0, Nat.zero_le _, rfl, Lib.hid (by unfold rowF; exact ⟨rfl, .inl ⟨rfl, rfl⟩⟩), Lib.hid ?_, Lib.hid ?_⟩
   ·exact heapA_new _ _ _ (by simp)
   ·exact Ext.alloc _ _
  case round =>
   obtain ⟨k, a1, n1, c1, hk, rfl, HO, HB, HX2⟩ := hrel
   have hg0 := two_cell0 HB.out
   have hg1 := two_cell1 HB.out
   have hsz := lt_of_block HB.out
   have c0 : wr.cell? ⟨w.heap.size, 0, none⟩ = some (.int .i64 q) := (HX1.out.trans HX2.out).cellSome (by simp)
   have c1' : wr.cell? ⟨w.heap.size, 1, none⟩ = some (.slice a n cap) := (HX1.out.trans HX2.out).cellSome (by simp)
   by_cases hlt : k < cN n
   ·go_wp2_with fail
    go_region_law (first
     | (refine step_of_wp _ rfl (wp_append_ints _ _ rfl (w1.heap.size + 1) _ _ rfl (HO1.out.ext (Ext.alloc _ _)) _ 1 _ [voteF q l k] rfl (Ints.one _ _ _) (by rw [rowF_len]; omega) (by simp; omega) ?_); intro v3 w3 ho3 hg3 hn3; obtain ⟨a3, n3, c3, rfl, HN3⟩ := ho3.var; have HO3 := Lib.hid ho3; have HX3 := Lib.hid (ext_grown (X1.out.trans (Ext.alloc _ _)) hg3 (fun j hj => by have := (HO1.out.lt j hj).1; omega)); have HB3 := Lib.hid ((hg3.block _ (by simp; omega) (fun e => by have := (HO1.out.lt _ e.symm).1; omega)).trans (((Ext.alloc w4 _).block _ hsz1).trans HB1.out)); have cg3 := two_cell1 HB3.out; have fg3 := frozen_of_row w3 w1.heap.size 1 _ _ HB3.out; clear ho3 hg3 hn3)
     | (go_simp; go_at_call 75; refine (s_l20Wins _ ((HI1.out.ext HX2.out).ext (Ext.drew wr)) (by omega) (by omega) hn5).mono ?_; rintro e w4 ⟨rfl, hx⟩; have X1 := Lib.hid (HX2.out.trans ((Ext.drew wr).trans hx)); have HO1 := Lib.hid ((HO.out.ext (Ext.drew wr)).ext hx); have HB1 := Lib.hid (((Ext.drew wr).trans hx).block _ hsz |>.trans HB.out); have b1 := two_cell1 HB1.out; have hsz1 := lt_of_block HB1.out; clear hx)
     | (go_simp; go_at_call 74; refine (s_l1Bit _ _).mono ?_; rintro e w' ⟨rfl, rfl⟩))
    all_goals
     go_wp2
     go_roundw
     case rel =>
      refine ⟨k + 1, a3, n3, c3, by omega, by go_num, Lib.hid ?_, Lib.hid (two_set HB3.out), Lib.hid (HX3.out.setCell (by simp) _)⟩
      rw [rowF_succ]
      exact HO3.out.keep fun j hj => heap_setCell_other _ _ _ _ (by have := (HO3.out.lt j hj).1; simp; omega)
     case measure => simp [intOf]; omega
   ·have hkn : k = cN n := by omega
    subst hkn
    have r0 : wr.cell? ⟨w.heap.size + 1, 0, none⟩ = some (.int .i64 0) := (HX1.out.trans HX2.out).cellSome (by simp)
    have r1 : wr.cell? ⟨w.heap.size + 1, 1, none⟩ = some (.slice none 0 0) := (HX1.out.trans HX2.out).cellSome (by simp)
    have f0 : wr.frozen? ⟨w.heap.size + 1, 0, none⟩ = false := ((HX1.out.trans HX2.out).frozens _ _ (by simp)).trans (by simp)
    have f1 : wr.frozen? ⟨w.heap.size + 1, 1, none⟩ = false := ((HX1.out.trans HX2.out).frozens _ _ (by simp)).trans (by simp)
    go_wp2
    refine bodyPost_ret (v := .tuple #[.agg #[.int .i64 (n : Int), .slice a1 n1 c1], .bool true]) (by simp [results, Tryz.results12, go_sem, r0, r1]) rfl ⟨⟨.slice a1 n1 c1, ?_, ?_⟩, ?_⟩
    ·unfold voteP; rw [HVV.out, if_pos rfl, HL.out]
    ·unfold voteL; rw [HVV.out, if_pos rfl, HL.out]
     refine HO.out.mono (by omega) |>.keep fun j hj => ?_
     have := (HO.out.lt j hj).1
     rw [heap_setCell_other _ _ _ _ (by simp; omega), heap_setCell_other _ _ _ _ (by simp; omega)]
    ·exact ((HX.out.trans (HX1.out.trans HX2.out)).setCell (by simp) _).setCell (by simp) _
end Go.Proofs.YthjjfkeacobikaaGreat
