/- The claimants by their claims: the program's stable sort and the reference's insertions make the same list. -/
import Derived.Test.YtgohdmnbnhehnaaOrders
import Derived.Deep.RegionHeld3
import Derived.Deep.RegionLaw
import Derived.StillTailTactics
namespace Go.Proofs.Ytgohdmnbnhehnaa
set_option linter.unusedVariables false
set_option linter.unusedSimpArgs false
set_option maxRecDepth 100000
open Go.RowKit

section
variable (C : List Int)
def keyC (z : Int) : Int := C[z.toNat]?.getD 0
/-- Where x comes to stand in a sorted list, from place m down. -/
def posR (x : Int) (l : List Int) : Nat → Nat
  | 0 => 0
  | m + 1 => if keyC C x < keyC C (l[m]?.getD 0) then posR x l m else m + 1
def insR (x : Int) (l : List Int) : List Int := l.take (posR C x l l.length) ++ x :: l.drop (posR C x l l.length)
def srt : Nat → List Int
  | 0 => []
  | k + 1 => insR C (k : Int) (srt k)
theorem posR_le (x : Int) (l : List Int) : ∀ m, posR C x l m ≤ m
  | 0 => Nat.le_refl _
  | m + 1 => by unfold posR; split; · have := posR_le x l m; omega
                · omega
theorem srt_len : ∀ k, (srt C k).length = k
  | 0 => rfl
  | k + 1 => by
    have h1 := srt_len k
    have h2 := posR_le C (k : Int) (srt C k) (srt C k).length
    simp only [srt, insR, List.length_append, List.length_cons, List.length_take, List.length_drop]
    omega
theorem srt_mem : ∀ k, ∀ z ∈ srt C k, 0 ≤ z ∧ z < k
  | 0, z, h => by simp [srt] at h
  | k + 1, z, h => by
    have ih := srt_mem k
    simp only [srt, insR, List.mem_append, List.mem_cons] at h
    rcases h with h | h | h
    · have := ih z (List.mem_of_mem_take h); omega
    · omega
    · have := ih z (List.mem_of_mem_drop h); omega
theorem srt_at {k j : Nat} (h : j < k) : ∃ m : Nat, (srt C k)[j]?.getD 0 = (m : Int) ∧ m < k := by
  have hl := srt_len C k
  have hj : j < (srt C k).length := by omega
  have := srt_mem C k _ (List.getElem_mem hj)
  refine ⟨((srt C k)[j]?.getD 0).toNat, ?_, ?_⟩
  · simp [hj]; omega
  · simp [hj]; omega
/-- The row while claimant i moves down to place j. -/
def movR (n i j : Nat) : List Int := (srt C i).take j ++ (i : Int) :: ((srt C i).drop j ++ seqI ((i : Int) + 1) (n - (i + 1)))
theorem movR_len {n i j : Nat} (hj : j ≤ i) (hi : i < n) : (movR C n i j).length = n := by
  have := srt_len C i
  simp only [movR, List.length_append, List.length_cons, List.length_take, List.length_drop, seqI_len]
  omega
theorem seqI_cons (k : Int) (m : Nat) : k :: seqI (k + 1) m = seqI k (m + 1) := by
  unfold seqI
  rw [List.range_succ_eq_map]
  simp only [List.map_cons, List.map_map]
  congr 1
  · omega
  · apply List.map_congr_left; intro a _; simp only [Function.comp]; omega
theorem movR_top {n i : Nat} (hi : i < n) : movR C n i i = srt C i ++ seqI (i : Int) (n - i) := by
  have hl := srt_len C i
  have e : n - i = (n - (i + 1)) + 1 := by omega
  unfold movR
  rw [List.take_of_length_le (by omega), List.drop_of_length_le (by omega), e]
  rw [List.nil_append, seqI_cons]
theorem movR_at {n i j : Nat} (hj : j ≤ i) : (movR C n i j)[j]?.getD 0 = (i : Int) := by
  have hl := srt_len C i
  unfold movR
  rw [List.getElem?_append_right (by simp; omega)]
  have : j - ((srt C i).take j).length = 0 := by simp; omega
  rw [this]; rfl
theorem movR_below {n i j : Nat} (hj : j < i) : (movR C n i (j + 1))[j]?.getD 0 = (srt C i)[j]?.getD 0 := by
  have hl := srt_len C i
  unfold movR
  rw [List.getElem?_append_left (by simp; omega), List.getElem?_take, if_pos (by omega)]
theorem movR_swap {n i j : Nat} (hj : j < i) (hi : i < n) : ((movR C n i (j + 1)).set (j + 1) ((srt C i)[j]?.getD 0)).set j (i : Int) = movR C n i j := by
  have hl := srt_len C i
  unfold movR
  rw [List.set_append_right _ _ (by simp; omega)]
  have e1 : j + 1 - ((srt C i).take (j + 1)).length = 0 := by simp; omega
  rw [e1, List.set_cons_zero, List.set_append_left _ _ (by simp; omega)]
  have hjl : j < (srt C i).length := by omega
  rw [List.take_succ_eq_append_getElem hjl, List.set_append_right _ _ (by simp; omega)]
  have e2 : j - ((srt C i).take j).length = 0 := by simp; omega
  rw [e2, List.set_cons_zero]
  rw [List.drop_eq_getElem_cons hjl]
  simp only [List.getElem?_eq_getElem hjl, Option.getD_some, List.append_assoc, List.cons_append, List.nil_append]
theorem movR_done {n i j : Nat} (hi : i < n) (hp : posR C (i : Int) (srt C i) i = j) : movR C n i j = srt C (i + 1) ++ seqI ((i : Int) + 1) (n - (i + 1)) := by
  have hl := srt_len C i
  simp only [movR, srt, insR, hl, hp, List.append_assoc, List.cons_append]
theorem posR_stop {x : Int} {l : List Int} {m : Nat} (h : ¬ keyC C x < keyC C (l[m]?.getD 0)) : posR C x l (m + 1) = m + 1 := by rw [posR, if_neg h]
theorem posR_go {x : Int} {l : List Int} {m : Nat} (h : keyC C x < keyC C (l[m]?.getD 0)) : posR C x l (m + 1) = posR C x l m := by rw [posR, if_pos h]
end

set_option maxHeartbeats 1000000 in
theorem i_cmp {w : World} {cb : Nat} {a : Option Addr} {n cap : Nat} {C : List Int} (hb : w.cell? ⟨cb, 0, none⟩ = some (.slice a n cap)) (h : Ints w a n cap C) (bd : ∀ k : Nat, 0 ≤ C[k]?.getD 0 ∧ C[k]?.getD 0 ≤ 100000) (i j : Nat) (hi : i < n) (hj : j < n) :
    Calls Try.prog 89 #[.int .i64 (i : Int), .int .i64 (j : Int), .pointer (some ⟨cb, 0, none⟩)] w fun e w' => e = .returned (.int .i64 (keyC C (i : Int) - keyC C (j : Int))) ∧ Drew w w' := by
  have hn := h.hcap
  have hm := h.hmax
  obtain ⟨b, off, he, hc⟩ := h.at hi
  obtain ⟨b2, off2, he2, hc2⟩ := h.at hj
  subst he
  simp only [Option.some.injEq, Addr.mk.injEq, and_true] at he2
  obtain ⟨rfl, rfl⟩ := he2
  have h1 := bd i
  have h2 := bd j
  obtain ⟨x, hx⟩ : ∃ x, x = C[i]?.getD 0 := ⟨_, rfl⟩
  obtain ⟨y, hy⟩ : ∃ y, y = C[j]?.getD 0 := ⟨_, rfl⟩
  rw [← hx] at hc h1
  rw [← hy] at hc2 h2
  have HR := Lib.hid (show keyC C (i : Int) - keyC C (j : Int) = x - y by simp [keyC, hx, hy])
  clear hx hy bd h
  go_enter Try.func89, Try.ntmps89
  go_wp2
  go_quiet (fail)
  go_wp2
  go_ret
  exact ⟨ret_int HR.out.symm, ⟨_, rfl⟩⟩

theorem go_EqualAwards1 : IsGo Try.prog 89 := isGo Try.func89 (by kernel_rfl) (by kernel_rfl)

set_option maxHeartbeats 4000000 in
theorem i_isort {w0 w : World} {cb : Nat} {a' : Option Addr} {n' c' : Nat} {C : List Int} {base : Nat} {a : Option Addr} {n cap : Nat} (hb : w0.cell? ⟨cb, 0, none⟩ = some (.slice a' n' c')) (hC : Ints w0 a' n' c' C) (bd : ∀ k : Nat, 0 ≤ C[k]?.getD 0 ∧ C[k]?.getD 0 ≤ 100000)
    (hn : n = n') (h1 : 1 ≤ n) (h5 : n ≤ 5) (hx0 : Ext w0 w) (hbase : w0.heap.size ≤ base) (h : OwnI w base (.slice a n cap) (seqI 0 n)) :
    Calls Try.prog 148 #[.slice a n cap, .int .i64 0, .int .i64 (n : Int), .func (.func 89) #[] #[.pointer (some ⟨cb, 0, none⟩)]] w fun e w' => e = .returned (.tuple #[]) ∧ OwnI w' base (.slice a n cap) (srt C n) ∧ Ext w0 w' := by
  have hcf : ∀ (args : Array Value) (w : World), (callFunc 89 args).run Try.prog w = .ok (.enter 89 args) w := go_EqualAwards1
  obtain ⟨g, rfl, hbg, _, _⟩ := h.block (k := 0) (by omega)
  have hcap := h.ints.hcap
  have hmax := h.ints.hmax
  have HB := Lib.hid hb
  have HC := Lib.hid hC
  have HN := Lib.hid hn
  have HBD := Lib.hid bd
  have HX0 := Lib.hid hx0
  have HO := Lib.hid h
  clear hb hC hn bd hx0 h
  go_enter Try.func148, Try.ntmps148
  go_wp2
  go_loopw [8] (fun t wr => ∃ i : Nat, 1 ≤ i ∧ i ≤ n ∧ t = .int .i64 (i : Int) ∧ Hid (OwnI wr base (.slice (some ⟨g, 0, none⟩) n cap) (srt C i ++ seqI (i : Int) (n - i))) ∧ Hid (Ext w0 wr)) (fun t _ => n - (intOf t).toNat)
  case atStart =>
    refine ⟨1, Nat.le_refl _, h1, rfl, Lib.hid ?_, HX0⟩
    have e : srt C 1 ++ seqI ((1 : Nat) : Int) (n - 1) = seqI 0 n := by
      have e1 : srt C 1 = [0] := rfl
      have e2 : n = (n - 1) + 1 := by omega
      rw [e1]
      conv => rhs; rw [e2, ← seqI_cons]
      rfl
    rw [e]
    exact HO.out
  case round =>
    obtain ⟨i, hi1, hin, rfl, HO1, HX1⟩ := hrel
    by_cases hlt : i < n
    · go_wp2
      go_loopw [9] (fun t wr2 => ∃ j : Nat, j ≤ i ∧ t = .int .i64 (j : Int) ∧ Hid (OwnI wr2 base (.slice (some ⟨g, 0, none⟩) n cap) (movR C n i j)) ∧ Hid (Ext w0 wr2) ∧ Hid (posR C (i : Int) (srt C i) i = posR C (i : Int) (srt C i) j)) (fun t _ => (intOf t).toNat)
      case atStart => exact ⟨i, Nat.le_refl _, rfl, Lib.hid (by rw [movR_top C hlt]; exact HO1.out), HX1, Lib.hid rfl⟩
      case round =>
        obtain ⟨j, hj, rfl, HO2, HX2, HP⟩ := hrel
        have hk2 : Ext wr wr.drew := Ext.drew wr
        by_cases hj0 : j = 0
        · subst hj0
          go_wp2
          refine wp_region_held_drew (S := (fun w' => Ext wr w')) (by kernel_rfl) ?_ (fun hHeld => ?_)
          · exact hk2
          refine tk (i := 0) (h := ?_)
          try simp only [Act.put, sA, sB, sC]
          refine tk (i := 1) (h := ?_)
          try simp only [Act.put, sA, sB, sC]
          refine tk (i := 2) (h := ?_)
          try simp only [Act.put, sA, sB, sC]
          refine tk (i := 3) (h := ?_)
          try simp only [Act.put, sA, sB, sC]
          refine sk (i := 4) (h := ?_)
          try simp only [Act.put, sA, sB, sC]
          refine sk (i := 5) (h := ?_)
          try simp only [Act.put, sA, sB, sC]
          refine sk (i := 6) (h := ?_)
          try simp only [Act.put, sA, sB, sC]
          refine sk (i := 7) (h := ?_)
          try simp only [Act.put, sA, sB, sC]
          refine sk (i := 8) (h := ?_)
          try simp only [Act.put, sA, sB, sC]
          refine sk (i := 9) (h := ?_)
          try simp only [Act.put, sA, sB, sC]
          refine sk (i := 10) (h := ?_)
          try simp only [Act.put, sA, sB, sC]
          refine sk (i := 11) (h := ?_)
          try simp only [Act.put, sA, sB, sC]
          refine sk (i := 12) (h := ?_)
          try simp only [Act.put, sA, sB, sC]
          refine sk (i := 13) (h := ?_)
          try simp only [Act.put, sA, sB, sC]
          refine sk (i := 14) (h := ?_)
          try simp only [Act.put, sA, sB, sC]
          refine sk (i := 15) (h := ?_)
          try simp only [Act.put, sA, sB, sC]
          refine tk (i := 16) (h := ?_)
          try simp only [Act.put, sA, sB, sC]
          refine wpAnyH_done (by kernel_rfl) ?_ _
          go_wp2
          go_roundw
          case rel => exact ⟨i + 1, by omega, by omega, by go_num, Lib.hid (by have := HO2.out.ext hk2; rwa [movR_done C hlt (by rw [HP.out]; rfl)] at this), Lib.hid (HX2.out.trans hk2)⟩
          case measure => simp [intOf]; omega
        · obtain ⟨m, hjm⟩ : ∃ m, j = m + 1 := ⟨j - 1, by omega⟩
          have HJM := Lib.hid hjm
          have hL := movR_len C hj hlt
          obtain ⟨b1, o1, he1, hd1⟩ := HO2.out.ints.at (k := j) (by omega)
          obtain ⟨b2, o2, he2, hd2⟩ := HO2.out.ints.at (k := m) (by omega)
          simp only [Option.some.injEq, Addr.mk.injEq, and_true] at he1 he2
          obtain ⟨rfl, rfl⟩ := he1
          obtain ⟨hz1, hz2⟩ := he2
          subst hz1 hz2
          rw [Nat.zero_add, movR_at C hj] at hd1
          rw [Nat.zero_add, hjm, movR_below C (by omega)] at hd2
          obtain ⟨z, hz, hzi⟩ := srt_at C (k := i) (j := m) (by omega)
          rw [hz] at hd2
          have HZ := Lib.hid hz
          have hmn : m < n := by omega
          have hjn : j < n := by omega
          have hj1 : 0 < j := by omega
          have hw1 : IntKind.i64.wrap ((j : Int) - 1) = (m : Int) := by rw [IntKind.wrap_i64]; omega
          have hw2 : wrap64 ((j : Int) - 1) = (m : Int) := by unfold wrap64; omega
          have hw3 : (j : Int) - 1 = (m : Int) := by omega
          have hw4 : IntKind.i64.wrap (m : Int) = (m : Int) := by rw [IntKind.wrap_i64]; omega
          have hw5 : wrap64 (m : Int) = (m : Int) := by unfold wrap64; omega
          obtain ⟨K, hK⟩ : ∃ K, K = keyC C (i : Int) - keyC C (z : Int) := ⟨_, rfl⟩
          have HK := Lib.hid hK
          clear hz hL hK hjm
          by_cases hneg : K < 0
          · have HKEY := Lib.hid (show keyC C (i : Int) < keyC C ((srt C i)[m]?.getD 0) by rw [HZ.out]; have := HK.out; omega)
            go_wp2
            go_region_held3 (fun w' => w'.cell? ⟨g, j, none⟩ = some (.int .i64 (i : Int)) ∧ w'.cell? ⟨g, m, none⟩ = some (.int .i64 (z : Int)) ∧ Ext wr w')
              (exact ⟨hk2.cellSome hd1, hk2.cellSome hd2, hk2⟩)
              (first
                | (refine (i_cmp ((HX2.out.trans hk2).cellSome HB.out) (HC.out.ext (HX2.out.trans hk2)) HBD.out i z (by have := HN.out; omega) (by have := HN.out; omega)).mono ?_; rw [← HK.out]; rintro e w3 ⟨rfl, hd⟩; have hk2 := hk2.trans hd.ext))
            replace hd1 := hk2.cellSome hd1
            replace hd2 := hk2.cellSome hd2
            have X3 := Lib.hid (HX2.out.trans hk2)
            have HO3 := Lib.hid (HO2.out.ext hk2)
            obtain ⟨g', hg', _, hfz, _⟩ := HO3.out.block (k := 0) (by omega)
            simp only [Option.some.injEq, Addr.mk.injEq, and_true] at hg'
            subst hg'
            have hf1 := hfz j
            have hf2 := hfz m
            clear hfz
            go_wp2
            go_region_law (fail)
            all_goals
              go_wp2
              clear hw1 hw2 hw3 hw4 hw5
              go_roundw
              case rel =>
                have hjm := HJM.out
                have hz1 : Ext w0 (w3.setCell ⟨g, j, none⟩ (.int .i64 (z : Int))) := X3.out.setCell (show w0.heap.size ≤ g by omega) _
                have hz2 : Ext w0 ((w3.setCell ⟨g, j, none⟩ (.int .i64 (z : Int))).setCell ⟨g, m, none⟩ (.int .i64 (i : Int))) := hz1.setCell (show w0.heap.size ≤ g by omega) _
                refine ⟨m, by omega, by go_num, Lib.hid ?_, Lib.hid (Ext.trans hz2 (Ext.drew _)), Lib.hid ?_⟩
                · have h2 := ((HO3.out.set j (z : Int)).set m (i : Int)).ext (Ext.drew _)
                  rw [HJM.out, ← HZ.out, movR_swap C (by have := HJM.out; omega) hlt] at h2
                  rw [HJM.out, ← HZ.out]
                  exact h2
                · rw [HP.out, HJM.out, posR_go C HKEY.out]
              case measure => have hjm := HJM.out; simp [intOf]; omega
          · have HKEY := Lib.hid (show ¬ keyC C (i : Int) < keyC C ((srt C i)[m]?.getD 0) by rw [HZ.out]; have := HK.out; omega)
            go_wp2
            go_region_held3 (fun w' => w'.cell? ⟨g, j, none⟩ = some (.int .i64 (i : Int)) ∧ w'.cell? ⟨g, m, none⟩ = some (.int .i64 (z : Int)) ∧ Ext wr w')
              (exact ⟨hk2.cellSome hd1, hk2.cellSome hd2, hk2⟩)
              (first
                | (refine (i_cmp ((HX2.out.trans hk2).cellSome HB.out) (HC.out.ext (HX2.out.trans hk2)) HBD.out i z (by have := HN.out; omega) (by have := HN.out; omega)).mono ?_; rw [← HK.out]; rintro e w3 ⟨rfl, hd⟩; have hk2 := hk2.trans hd.ext))
            have X3 := Lib.hid (HX2.out.trans hk2)
            have HO3 := Lib.hid (HO2.out.ext hk2)
            go_wp2
            clear hw1 hw2 hw3 hw4 hw5
            go_roundw
            case rel => exact ⟨i + 1, by omega, by omega, by go_num, Lib.hid (by have := HO3.out; rwa [movR_done C hlt (by rw [HP.out, HJM.out, posR_stop C (by have := HKEY.out; omega)])] at this), X3⟩
            case measure => simp [intOf]; omega
    · have hin' : i = n := by omega
      subst hin'
      go_wp2
      go_end0
      refine ⟨rfl, ?_, HX1.out⟩
      have := HO1.out
      simpa [seqI] using this

end Go.Proofs.Ytgohdmnbnhehnaa
