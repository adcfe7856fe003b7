/- VotingGame on both sides. -/
import Derived.Test.YtekgbblpnfohfaaWins
import Derived.Test.YtekgbblpnfohfaaOrders
import Derived.Test.YtekgbblpnfohfaaGame
namespace Go.Proofs.Ytekgbblpnfohfaa
set_option linter.unusedVariables false
set_option linter.unusedSimpArgs false
open Go.RowKit

/-- A closure that answers f of a number, in every world that has grown from w; numbers below m alone. -/
def Tells (P : Program) (w : World) (fid : FuncId) (ca : Array Value) (m : Nat) (f : Nat → Int) : Prop :=
  ∀ (s : Nat) (w1 : World), s < m → Ext w w1 → Calls P fid (#[.int .i64 (s : Int)] ++ ca) w1 fun e w2 => e = .returned (.int .i64 (f s)) ∧ Ext w1 w2
theorem Tells.ext {P : Program} {w w' : World} {fid : FuncId} {ca : Array Value} {m : Nat} {f : Nat → Int} (h : Tells P w fid ca m f) (hx : Ext w w') : Tells P w' fid ca m f :=
  fun s w1 hs k => h s w1 hs (hx.trans k)

/-- f 0, f 1, .. -/
def rowF (f : Nat → Int) (m : Nat) : List Int := (List.range m).map f
theorem rowF_succ (f : Nat → Int) (m : Nat) : rowF f (m + 1) = rowF f m ++ [f m] := by simp [rowF, List.range_succ]
theorem rowF_len (f : Nat → Int) (m : Nat) : (rowF f m).length = m := by simp [rowF]
theorem rowF_ok {f : Nat → Int} {n : Nat} (h1 : 1 ≤ n) (h5 : n ≤ 5) (h0 : f 0 = 0) (hb : ∀ s, s < cN n → -500 ≤ f s ∧ f s ≤ 500) : gameOk (n : Int) (rowF f (cN n)) = true := by
  have hN := cN_le n h5
  unfold gameOk
  rw [rowF_len, cntC_nat n h5]
  simp only [Bool.and_eq_true, decide_eq_true_eq]
  refine ⟨?_, ?_, trivial, ?_⟩
  · rw [List.all_eq_true]
    intro x hx
    obtain ⟨s, hs, rfl⟩ := List.mem_map.1 hx
    have := hb s (List.mem_range.1 hs)
    unfold inB; simp; omega
  · unfold inB; simp; omega
  · have : 0 < cN n := by omega
    simp [rowF, this, h0]

theorem two_cell0 {w : World} {g : Nat} {x y : Value} {t : TypeId} (h : w.heap[g]? = some (.cells #[x, y] t (0, 0))) : w.cell? ⟨g, 0, none⟩ = some x := by rw [cell_of_row w g 0 _ t _ h]; rfl
theorem two_cell1 {w : World} {g : Nat} {x y : Value} {t : TypeId} (h : w.heap[g]? = some (.cells #[x, y] t (0, 0))) : w.cell? ⟨g, 1, none⟩ = some y := by rw [cell_of_row w g 1 _ t _ h]; rfl
theorem two_set {w : World} {g : Nat} {x y z : Value} {t : TypeId} (h : w.heap[g]? = some (.cells #[x, y] t (0, 0))) : (w.setCell ⟨g, 1, none⟩ z).heap[g]? = some (.cells #[x, z] t (0, 0)) := by
  rw [heap_setCell_same w g 1 _ t z h]; rfl

/-- A game in variables: what both sides return. -/
def GameV (w : World) (base : Nat) (e : Ending) (n : Nat) (l : List Int) (b : Bool) : Prop := ∃ v, e = .returned (.tuple #[.agg #[.int .i64 (n : Int), v], .bool b]) ∧ OwnI w base v l

set_option maxRecDepth 100000 in
set_option maxHeartbeats 4000000 in
theorem i_made {w : World} {n : Nat} {fid : FuncId} {ca : Array Value} {f : Nat → Int} (h1 : 1 ≤ n) (h5 : n ≤ 5) (hg : IsGo Try.prog fid) (hf : Tells Try.prog w fid ca (cN n) f)
    (h0 : f 0 = 0) (hb : ∀ s, s < cN n → -500 ≤ f s ∧ f s ≤ 500) :
    Calls Try.prog 96 #[.int .i64 (n : Int), .func (.func fid) #[] ca] w fun e w' => GameV w' w.heap.size e n (rowF f (cN n)) true ∧ Ext w w' := by
  have hN := cN_le n h5
  have hcf : ∀ (args : Array Value) (w : World), (callFunc fid args).run Try.prog w = .ok (.enter fid args) w := hg
  have HF := Lib.hid hf
  have HOK := Lib.hid (rowF_ok h1 h5 h0 hb)
  clear hf h0 hb hg
  go_enter Try.func96, Try.ntmps96
  go_wp2_with (first | (go_at_call 101; refine (i_CountC n h5 _).mono ?_; rintro e w' ⟨rfl, rfl⟩))
  go_loopw [12] (fun i wr => ∃ (k : Nat) (a1 : Option Addr) (n1 c1 : Nat), k ≤ cN n ∧ i = .int .i64 (k : Int) ∧ Hid (OwnI wr (w.heap.size + 1 + 1) (.slice a1 n1 c1) (rowF f k)) ∧ Hid (wr.heap[w.heap.size + 1]? = some (.cells #[.int .i64 (n : Int), .slice a1 n1 c1] 40 (0, 0))) ∧ Hid (Ext (w.alloc (.cells #[.int .i64 0, .slice none 0 0] 40)) wr)) (fun i _ => cN n - (intOf i).toNat)
  case atStart =>
    refine ⟨0, none, 0, 0, Nat.zero_le _, rfl, Lib.hid (by unfold rowF; exact ⟨rfl, .inl ⟨rfl, rfl⟩⟩), Lib.hid ?_, Lib.hid ?_⟩
    · exact heapA_new _ _ _ (by simp)
    · exact Ext.alloc _ _
  case round =>
    obtain ⟨k, a1, n1, c1, hk, rfl, HO, HB, HX⟩ := hrel
    have hg0 := two_cell0 HB.out
    have hg1 := two_cell1 HB.out
    have hsz := lt_of_block HB.out
    by_cases hlt : k < cN n
    · go_wp2_with fail
      go_region_law (first
        | (refine step_of_wp _ rfl (wp_append_ints _ _ rfl (w.heap.size + 1 + 1) _ _ rfl (HO1.out.ext (Ext.alloc _ _)) _ 1 _ [f k] rfl (Ints.one _ _ _) (by rw [rowF_len]; omega) (by simp; omega) ?_); intro v3 w3 ho3 hg3 hn3; obtain ⟨a3, n3, c3, rfl, HN3⟩ := ho3.var; have HO3 := Lib.hid ho3; have HX3 := Lib.hid (ext_grown ((HX.out.trans HX1.out).trans (Ext.alloc _ _)) hg3 (fun j hj => by have := (HO1.out.lt j hj).1; simp; omega)); have HB3 := Lib.hid ((hg3.block _ (by simp; omega) (fun e => by have := (HO1.out.lt _ e.symm).1; omega)).trans (((Ext.alloc w1 _).block _ hsz1).trans HB1.out)); have cg3 := two_cell1 HB3.out; have fg3 := frozen_of_row w3 (w.heap.size + 1) 1 _ _ HB3.out; clear ho3 hg3 hn3)
        | (go_simp; refine (HF.out k _ hlt (((Ext.alloc _ _).trans HX.out).trans (Ext.drew wr))).mono ?_; rintro e w1 ⟨rfl, hx⟩; have HX1 := Lib.hid ((Ext.drew wr).trans hx); have HO1 := Lib.hid (HO.out.ext HX1.out); have HB1 := Lib.hid ((HX1.out.block _ hsz).trans HB.out); have b1 := two_cell1 HB1.out; have hsz1 := lt_of_block HB1.out; clear hx))
      all_goals
        go_wp2
        go_roundw
        case rel =>
          refine ⟨k + 1, a3, n3, c3, by omega, by go_num, Lib.hid ?_, Lib.hid (two_set HB3.out), Lib.hid (HX3.out.setCell (by simp) _)⟩
          rw [rowF_succ]
          exact HO3.out.keep fun j hj => heap_setCell_other _ _ _ _ (by have := (HO3.out.lt j hj).1; simp; omega)
        case measure => simp [intOf]; omega
    · have hkn : k = cN n := by omega
      subst hkn
      have HV := Lib.hid (i_IsValidGame (p := (n : Int)) HO.out.ints)
      rw [HOK.out] at HV
      go_wp2_with fail
      refine HV.out.mono ?_
      rintro e w1 ⟨rfl, hx⟩
      have HO1 := Lib.hid (HO.out.ext hx)
      have hg0' := hx.cellSome hg0
      have hg1' := hx.cellSome hg1
      have HX1 := Lib.hid (HX.out.trans hx)
      have r0 : w1.cell? ⟨w.heap.size, 0, none⟩ = some (.int .i64 0) := HX1.out.cellSome (by simp)
      have r1 : w1.cell? ⟨w.heap.size, 1, none⟩ = some (.slice none 0 0) := HX1.out.cellSome (by simp)
      have f0 : w1.frozen? ⟨w.heap.size, 0, none⟩ = false := (HX1.out.frozens _ _ (by simp)).trans (by simp)
      have f1 : w1.frozen? ⟨w.heap.size, 1, none⟩ = false := (HX1.out.frozens _ _ (by simp)).trans (by simp)
      clear hx hg0 hg1
      go_wp2
      refine bodyPost_ret (v := .tuple #[.agg #[.int .i64 (n : Int), .slice a1 n1 c1], .bool true]) (by simp [results, Try.results96, go_sem, r0, r1]) rfl ⟨⟨_, rfl, ?_⟩, ?_⟩
      · refine HO1.out.mono (by omega) |>.keep fun j hj => ?_
        have := (HO1.out.lt j hj).1
        rw [heap_setCell_other _ _ _ _ (by simp; omega), heap_setCell_other _ _ _ _ (by simp; omega)]
      · exact ((((Ext.alloc _ _).trans HX1.out).setCell (by simp) _).setCell (by simp) _)

/-- The values of the game of a voting. -/
def voteF (q : Int) (l : List Int) (s : Nat) : Int := bitI (winsB q l (s : Int))
/-- What VotingGame answers. -/
def voteP (q : Int) (l : List Int) : Nat := if validPair 1 q l then l.length else 0
def voteL (q : Int) (l : List Int) : List Int := if validPair 1 q l then rowF (voteF q l) (cN l.length) else []
theorem voteL_len (q : Int) (l : List Int) : (voteL q l).length ≤ 1048576 := by
  unfold voteL
  split
  · rename_i h
    have := cN_le l.length (valid_len h).2
    rw [rowF_len]; omega
  · simp
theorem bitI_le (b : Bool) : -500 ≤ bitI b ∧ bitI b ≤ 500 := by cases b <;> simp [bitI]
theorem winsB_zero {q : Int} {l : List Int} (h : validPair 1 q l = true) : winsB q l 0 = false := by
  have hq : 1 ≤ q := by unfold validPair inB at h; simp at h; omega
  have hz : ∀ k, sumTo 0 l k = 0 := by
    intro k
    induction k with
    | zero => rfl
    | succ k ih => simp [sumTo, bit, ih]
  unfold winsB
  rw [hz]
  simp; omega

theorem go_VotingGame1 : IsGo Try.prog 97 := isGo Try.func97 (by kernel_rfl) (by kernel_rfl)
set_option maxHeartbeats 1000000 in
theorem i_VotingGame1 {w : World} {q : Int} {a : Option Addr} {n cap b : Nat} {l : List Int} (s : Nat) (h : Ints w a n cap l) (hb : w.heap[b]? = some (.cells #[.int .i64 q, .slice a n cap] 60 (0, 0))) (hs : s < 32) (h5 : n ≤ 5) :
    Calls Try.prog 97 #[.int .i64 (s : Int), .pointer (some ⟨b, 0, none⟩)] w fun e w' => e = .returned (.int .i64 (voteF q l s)) ∧ Ext w w' := by
  have c0 := two_cell0 hb
  have c1 := two_cell1 hb
  have HI := Lib.hid h
  clear h hb
  cases hw : winsB q l (s : Int)
  all_goals
    have HW := Lib.hid hw
    go_enter Try.func97, Try.ntmps97
    go_wp2_with fail
    refine (i_wins _ HI.out (by omega) (by omega) (by omega)).mono ?_
    rw [hw]
    rintro e w1 ⟨rfl, hx⟩
    go_wp2
    go_ret
    exact ⟨ret_int (by unfold voteF; rw [HW.out]; rfl), hx⟩

set_option maxHeartbeats 4000000 in
theorem i_VotingGame {w : World} {q : Int} {a : Option Addr} {n cap : Nat} {l : List Int} (h : Ints w a n cap l) :
    Calls Try.prog 48 #[pair q a n cap] w fun e w' => GameV w' w.heap.size e (voteP q l) (voteL q l) (validPair 1 q l) ∧ Ext w w' := by
  have hi := h.alloc (.cells #[.int .i64 q, .slice a n cap] 60)
  have HL := Lib.hid h.hlen
  have HV := Lib.hid (i_IsValidVoting (x := q) (hi.ext (Ext.alloc _ (.cells #[.int .i64 0, .slice none 0 0] 40))))
  have HX := Lib.hid ((Ext.alloc w (.cells #[.int .i64 q, .slice a n cap] 60)).trans (Ext.alloc _ (.cells #[.int .i64 0, .slice none 0 0] 40)))
  have hmax := h.hmax
  have hcap := h.hcap
  cases hv : validPair 1 q l
  · rw [hv] at HV
    have HVV := Lib.hid hv
    clear hv
    go_enter Try.func48, Try.ntmps48
    go_wp2_with fail
    refine HV.out.mono ?_
    rintro e w1 ⟨rfl, hx⟩
    have r0 : w1.cell? ⟨w.heap.size + 1, 0, none⟩ = some (.int .i64 0) := hx.cellSome (by simp)
    have r1 : w1.cell? ⟨w.heap.size + 1, 1, none⟩ = some (.slice none 0 0) := hx.cellSome (by simp)
    have f0 : w1.frozen? ⟨w.heap.size + 1, 0, none⟩ = false := (hx.frozens _ _ (by simp)).trans (by simp)
    have f1 : w1.frozen? ⟨w.heap.size + 1, 1, none⟩ = false := (hx.frozens _ _ (by simp)).trans (by simp)
    have HX1 := Lib.hid (HX.out.trans hx)
    clear hx
    go_wp2
    refine bodyPost_ret (v := .tuple #[.agg #[.int .i64 0, .slice none 0 0], .bool false]) (by simp [results, Try.results48, go_sem, r0, r1]) rfl ⟨⟨.slice none 0 0, ?_, ?_⟩, ?_⟩
    · unfold voteP; rw [HVV.out]; rfl
    · unfold voteL; rw [HVV.out]; exact ⟨rfl, .inl ⟨rfl, rfl⟩⟩
    · exact (HX1.out.setCell (by simp) _).setCell (by simp) _
  · rw [hv] at HV
    have HVV := Lib.hid hv
    have hn5 : 1 ≤ n ∧ n ≤ 5 := by have := valid_len hv; have := HL.out; omega
    obtain ⟨hn1, hn5⟩ := hn5
    have hN := cN_le n hn5
    have HI := Lib.hid hi
    have HZ := Lib.hid (winsB_zero hv)
    clear hv
    go_enter Try.func48, Try.ntmps48
    go_wp2_with fail
    refine HV.out.mono ?_
    rintro e w1 ⟨rfl, hx⟩
    have c1 : w1.cell? ⟨w.heap.size, 1, none⟩ = some (.slice a n cap) := hx.cellSome (by simp)
    have HB := Lib.hid (show w1.heap[w.heap.size]? = some (.cells #[.int .i64 q, .slice a n cap] 60 (0, 0)) from (hx.block _ (by simp; omega)).trans (by rw [heapA_old _ _ _ (by simp)]; exact heapA_new _ _ _ rfl))
    have HX1 := Lib.hid hx
    have HI1 := Lib.hid ((HI.out.ext (Ext.alloc _ _)).ext hx)
    clear hx
    have HT : Hid (Tells Try.prog w1 97 #[.pointer (some ⟨w.heap.size, 0, none⟩)] (cN n) (voteF q l)) := Lib.hid fun s w2 hs k => i_VotingGame1 s (HI1.out.ext k) ((k.block _ (lt_of_block HB.out)).trans HB.out) (by omega) hn5
    have HM := Lib.hid (i_made hn1 hn5 go_VotingGame1 HT.out (by unfold voteF; rw [show ((0 : Nat) : Int) = 0 from rfl, HZ.out]; rfl) (fun s _ => bitI_le _))
    go_wp2_with fail
    refine HM.out.mono ?_
    rintro e w2 ⟨⟨v, rfl, ho⟩, hx⟩
    obtain ⟨a2, n2, c2, rfl, HN2⟩ := ho.var
    have HX2 := Lib.hid (HX1.out.trans hx)
    have r0 : w2.cell? ⟨w.heap.size + 1, 0, none⟩ = some (.int .i64 0) := HX2.out.cellSome (by simp)
    have r1 : w2.cell? ⟨w.heap.size + 1, 1, none⟩ = some (.slice none 0 0) := HX2.out.cellSome (by simp)
    have f0 : w2.frozen? ⟨w.heap.size + 1, 0, none⟩ = false := (HX2.out.frozens _ _ (by simp)).trans (by simp)
    have f1 : w2.frozen? ⟨w.heap.size + 1, 1, none⟩ = false := (HX2.out.frozens _ _ (by simp)).trans (by simp)
    have HO := Lib.hid ho
    have hsz1 := HX1.out.size
    simp at hsz1
    clear ho hx
    go_wp2
    refine bodyPost_ret (v := .tuple #[.agg #[.int .i64 (n : Int), .slice a2 n2 c2], .bool true]) (by simp [results, Try.results48, go_sem, r0, r1]) rfl ⟨⟨.slice a2 n2 c2, ?_, ?_⟩, ?_⟩
    · unfold voteP; rw [HVV.out, if_pos rfl, HL.out]
    · unfold voteL; rw [HVV.out, if_pos rfl, HL.out]
      refine HO.out.mono (by omega) |>.keep fun j hj => ?_
      have := (HO.out.lt j hj).1
      rw [heap_setCell_other _ _ _ _ (by simp; omega), heap_setCell_other _ _ _ _ (by simp; omega)]
    · exact ((HX.out.trans HX2.out).setCell (by simp) _).setCell (by simp) _

set_option maxRecDepth 100000 in
set_option maxHeartbeats 8000000 in
theorem s_VotingGame {w : World} {q : Int} {a : Option Addr} {n cap : Nat} {l : List Int} (h : Ints w a n cap l) :
    Calls Try.prog 47 #[pair q a n cap] w fun e w' => GameV w' w.heap.size e (voteP q l) (voteL q l) (validPair 1 q l) ∧ Ext w w' := by
  have hi := h.alloc (.cells #[.int .i64 q, .slice a n cap] 60)
  have HL := Lib.hid h.hlen
  have HV := Lib.hid (s_IsValidVoting (x := q) (hi.ext (Ext.alloc _ (.cells #[.int .i64 0, .slice none 0 0] 40))))
  have HX := Lib.hid ((Ext.alloc w (.cells #[.int .i64 q, .slice a n cap] 60)).trans (Ext.alloc _ (.cells #[.int .i64 0, .slice none 0 0] 40)))
  have hmax := h.hmax
  have hcap := h.hcap
  cases hv : validPair 1 q l
  · rw [hv] at HV
    have HVV := Lib.hid hv
    clear hv
    go_enter Try.func47, Try.ntmps47
    go_wp2_with fail
    refine HV.out.mono ?_
    rintro e w1 ⟨rfl, hx⟩
    have r0 : w1.cell? ⟨w.heap.size + 1, 0, none⟩ = some (.int .i64 0) := hx.cellSome (by simp)
    have r1 : w1.cell? ⟨w.heap.size + 1, 1, none⟩ = some (.slice none 0 0) := hx.cellSome (by simp)
    have f0 : w1.frozen? ⟨w.heap.size + 1, 0, none⟩ = false := (hx.frozens _ _ (by simp)).trans (by simp)
    have f1 : w1.frozen? ⟨w.heap.size + 1, 1, none⟩ = false := (hx.frozens _ _ (by simp)).trans (by simp)
    have HX1 := Lib.hid (HX.out.trans hx)
    clear hx
    go_wp2
    refine bodyPost_ret (v := .tuple #[.agg #[.int .i64 0, .slice none 0 0], .bool false]) (by simp [results, Try.results47, go_sem, r0, r1]) rfl ⟨⟨.slice none 0 0, ?_, ?_⟩, ?_⟩
    · unfold voteP; rw [HVV.out]; rfl
    · unfold voteL; rw [HVV.out]; exact ⟨rfl, .inl ⟨rfl, rfl⟩⟩
    · exact (HX1.out.setCell (by simp) _).setCell (by simp) _
  · rw [hv] at HV
    have HVV := Lib.hid hv
    have hn5 : 1 ≤ n ∧ n ≤ 5 := by have := valid_len hv; have := HL.out; omega
    obtain ⟨hn1, hn5⟩ := hn5
    have hN := cN_le n hn5
    have HI := Lib.hid hi
    clear hv h hi
    go_enter Try.func47, Try.ntmps47
    go_wp2_with fail
    refine HV.out.mono ?_
    rintro e w1 ⟨rfl, hx⟩
    have c1 : w1.cell? ⟨w.heap.size, 1, none⟩ = some (.slice a n cap) := hx.cellSome (by simp)
    have hs1 : w.heap.size < w1.heap.size := World.block_lt_of_cell? _ _ c1
    have hs2 : w.heap.size + 1 < w1.heap.size := by have := hx.size; simp at this; omega
    have HX1 := Lib.hid hx
    have HI1 := Lib.hid ((HI.out.ext (Ext.alloc _ _)).ext hx)
    clear hx
    go_wp2_with (first | (go_at_call 88; refine (s_CountC n hn5 _).mono ?_; rintro e w' ⟨rfl, rfl⟩))
    go_loopw [6] (fun i wr => ∃ (k : Nat) (a1 : Option Addr) (n1 c1 : Nat), k ≤ cN n ∧ i = .int .i64 (k : Int) ∧ Hid (OwnI wr (w1.heap.size + 1) (.slice a1 n1 c1) (rowF (voteF q l) k)) ∧ Hid (wr.heap[w1.heap.size]? = some (.cells #[.int .i64 (n : Int), .slice a1 n1 c1] 40 (0, 0))) ∧ Hid (Ext w1 wr)) (fun i _ => cN n - (intOf i).toNat)
    case atStart =>
      refine ⟨0, none, 0, 0, Nat.zero_le _, rfl, Lib.hid (by unfold rowF; exact ⟨rfl, .inl ⟨rfl, rfl⟩⟩), Lib.hid ?_, Lib.hid ?_⟩
      · exact heapA_new _ _ _ (by simp)
      · exact Ext.alloc _ _
    case round =>
      obtain ⟨k, a1, n1, c1, hk, rfl, HO, HB, HX2⟩ := hrel
      have hg0 := two_cell0 HB.out
      have hg1 := two_cell1 HB.out
      have hsz := lt_of_block HB.out
      have c0 : wr.cell? ⟨w.heap.size, 0, none⟩ = some (.int .i64 q) := (HX1.out.trans HX2.out).cellSome (by simp)
      have c1' : wr.cell? ⟨w.heap.size, 1, none⟩ = some (.slice a n cap) := (HX1.out.trans HX2.out).cellSome (by simp)
      by_cases hlt : k < cN n
      · go_wp2_with fail
        go_region_law (first
          | (refine step_of_wp _ rfl (wp_append_ints _ _ rfl (w1.heap.size + 1) _ _ rfl (HO1.out.ext (Ext.alloc _ _)) _ 1 _ [voteF q l k] rfl (Ints.one _ _ _) (by rw [rowF_len]; omega) (by simp; omega) ?_); intro v3 w3 ho3 hg3 hn3; obtain ⟨a3, n3, c3, rfl, HN3⟩ := ho3.var; have HO3 := Lib.hid ho3; have HX3 := Lib.hid (ext_grown (X1.out.trans (Ext.alloc _ _)) hg3 (fun j hj => by have := (HO1.out.lt j hj).1; omega)); have HB3 := Lib.hid ((hg3.block _ (by simp; omega) (fun e => by have := (HO1.out.lt _ e.symm).1; omega)).trans (((Ext.alloc w4 _).block _ hsz1).trans HB1.out)); have cg3 := two_cell1 HB3.out; have fg3 := frozen_of_row w3 w1.heap.size 1 _ _ HB3.out; clear ho3 hg3 hn3)
          | (go_simp; go_at_call 87; refine (s_l20Wins _ ((HI1.out.ext HX2.out).ext (Ext.drew wr)) (by omega) (by omega) hn5).mono ?_; rintro e w4 ⟨rfl, hx⟩; have X1 := Lib.hid (HX2.out.trans ((Ext.drew wr).trans hx)); have HO1 := Lib.hid ((HO.out.ext (Ext.drew wr)).ext hx); have HB1 := Lib.hid (((Ext.drew wr).trans hx).block _ hsz |>.trans HB.out); have b1 := two_cell1 HB1.out; have hsz1 := lt_of_block HB1.out; clear hx)
          | (go_simp; go_at_call 92; refine (s_l1Bit _ _).mono ?_; rintro e w' ⟨rfl, rfl⟩))
        all_goals
          go_wp2
          go_roundw
          case rel =>
            refine ⟨k + 1, a3, n3, c3, by omega, by go_num, Lib.hid ?_, Lib.hid (two_set HB3.out), Lib.hid (HX3.out.setCell (by simp) _)⟩
            rw [rowF_succ]
            exact HO3.out.keep fun j hj => heap_setCell_other _ _ _ _ (by have := (HO3.out.lt j hj).1; simp; omega)
          case measure => simp [intOf]; omega
      · have hkn : k = cN n := by omega
        subst hkn
        have r0 : wr.cell? ⟨w.heap.size + 1, 0, none⟩ = some (.int .i64 0) := (HX1.out.trans HX2.out).cellSome (by simp)
        have r1 : wr.cell? ⟨w.heap.size + 1, 1, none⟩ = some (.slice none 0 0) := (HX1.out.trans HX2.out).cellSome (by simp)
        have f0 : wr.frozen? ⟨w.heap.size + 1, 0, none⟩ = false := ((HX1.out.trans HX2.out).frozens _ _ (by simp)).trans (by simp)
        have f1 : wr.frozen? ⟨w.heap.size + 1, 1, none⟩ = false := ((HX1.out.trans HX2.out).frozens _ _ (by simp)).trans (by simp)
        go_wp2
        refine bodyPost_ret (v := .tuple #[.agg #[.int .i64 (n : Int), .slice a1 n1 c1], .bool true]) (by simp [results, Try.results47, go_sem, r0, r1]) rfl ⟨⟨.slice a1 n1 c1, ?_, ?_⟩, ?_⟩
        · unfold voteP; rw [HVV.out, if_pos rfl, HL.out]
        · unfold voteL; rw [HVV.out, if_pos rfl, HL.out]
          refine HO.out.mono (by omega) |>.keep fun j hj => ?_
          have := (HO.out.lt j hj).1
          rw [heap_setCell_other _ _ _ _ (by simp; omega), heap_setCell_other _ _ _ _ (by simp; omega)]
        · exact ((HX.out.trans (HX1.out.trans HX2.out)).setCell (by simp) _).setCell (by simp) _

end Go.Proofs.Ytekgbblpnfohfaa
