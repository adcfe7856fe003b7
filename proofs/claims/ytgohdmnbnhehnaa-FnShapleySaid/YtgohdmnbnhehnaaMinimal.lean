/- MinimalWinning on both sides. -/
import Derived.Test.YtgohdmnbnhehnaaVeto
import Derived.Test.YtgohdmnbnhehnaaSwings
namespace Go.Proofs.Ytgohdmnbnhehnaa
set_option linter.unusedVariables false
set_option linter.unusedSimpArgs false
open Go.RowKit

theorem bit_big_nat : ∀ n : Fin 6, ∀ s : Fin 32, ∀ k : Fin 5, s.val < cN n.val → n.val ≤ k.val → bit ((s.val : Nat) : Int) k.val = false := by decide +kernel
theorem bit_big (n s k : Nat) (hn : n ≤ 5) (hs : s < cN n) (hk : n ≤ k) (hk5 : k < 5) : bit (s : Int) k = false :=
  bit_big_nat ⟨n, by omega⟩ ⟨s, by have := cN_le n hn; omega⟩ ⟨k, hk5⟩ hs hk

/-- The first m players of a coalition. -/
def memN (s : Int) (m : Nat) : List Nat := (List.range m).filter fun (k : Nat) => bit s k
def memI (s : Int) (m : Nat) : List Int := (memN s m).map fun (k : Nat) => (k : Int)
theorem memI_succ (s : Int) (m : Nat) : memI s (m + 1) = memI s m ++ (if bit s m then [(m : Int)] else []) := by
  unfold memI memN
  cases h : bit s m <;> simp [List.range_succ, h]
theorem memI_len (s : Int) (m : Nat) : (memI s m).length ≤ m := by
  unfold memI memN
  simpa using List.length_filter_le (fun (k : Nat) => bit s k) (List.range m)
theorem memI_at (s : Int) (i : Nat) (h : i < (memI s 5).length) : ∃ k : Nat, (memI s 5)[i]?.getD 0 = (k : Int) ∧ k < 5 ∧ bit s k = true ∧ (memN s 5)[i]? = some k := by
  have h' : i < (memN s 5).length := by simpa [memI] using h
  refine ⟨(memN s 5)[i], ?_, ?_⟩
  · simp [memI, h']
  · have hm : (memN s 5)[i] ∈ memN s 5 := List.getElem_mem h'
    have h2 := List.mem_filter.1 hm
    exact ⟨List.mem_range.1 h2.1, h2.2, by simp [h']⟩

/-- None of the first m players could leave a winning coalition. -/
def minP (q : Int) (l : List Int) (s : Nat) (m : Nat) : Bool := (List.range m).all fun (k : Nat) => !(bit (s : Int) k && winsB q l ((s : Int) - 2 ^ k))
theorem minP_succ (q : Int) (l : List Int) (s m : Nat) : minP q l s (m + 1) = (minP q l s m && !(bit (s : Int) m && winsB q l ((s : Int) - 2 ^ m))) := by simp [minP, List.range_succ]
theorem minP_false {q : Int} {l : List Int} {s m N : Nat} (h : (bit (s : Int) m && winsB q l ((s : Int) - 2 ^ m)) = true) (hm : m < N) : minP q l s N = false := by
  unfold minP
  rw [List.all_eq_false]
  exact ⟨m, List.mem_range.2 hm, by rw [h]; simp⟩
theorem minP_up {q : Int} {l : List Int} {s n : Nat} (hn : n ≤ 5) (hs : s < cN n) : ∀ d, n + d ≤ 5 → minP q l s (n + d) = minP q l s n
  | 0, _ => rfl
  | d + 1, h => by
    rw [show n + (d + 1) = (n + d) + 1 by omega, minP_succ, minP_up hn hs d (by omega), bit_big n s (n + d) hn hs (by omega) (by omega)]
    simp
def minM (q : Int) (l : List Int) (s : Nat) (i : Nat) : Bool := winsB q l (s : Int) && ((memN (s : Int) 5).take i).all fun (k : Nat) => !winsB q l ((s : Int) - 2 ^ k)
theorem minM_zero (q : Int) (l : List Int) (s : Nat) : minM q l s 0 = winsB q l (s : Int) := by simp [minM]
theorem minM_succ {q : Int} {l : List Int} {s i k : Nat} (h : (memN (s : Int) 5)[i]? = some k) : minM q l s (i + 1) = (minM q l s i && !winsB q l ((s : Int) - 2 ^ k)) := by
  unfold minM
  rw [List.take_add_one, h]
  simp [Bool.and_assoc]
theorem minM_all {q : Int} {l : List Int} {s n : Nat} (hn : n ≤ 5) (hs : s < cN n) (i : Nat) (hi : (memN (s : Int) 5).length ≤ i) : minM q l s i = (minP q l s n && winsB q l (s : Int)) := by
  have h5 : minP q l s 5 = minP q l s n := by
    have := minP_up (q := q) (l := l) hn hs (5 - n) (by omega)
    rwa [show n + (5 - n) = 5 by omega] at this
  rw [← h5]
  unfold minM
  rw [List.take_of_length_le hi, Bool.and_comm]
  congr 1
  unfold memN minP
  rw [List.all_filter]
  congr 1
  funext k
  cases bit (s : Int) k <;> simp

def minW (q : Int) (l : List Int) (s : Nat) : Bool := minP q l s l.length && winsB q l (s : Int)
def minT (q : Int) (l : List Int) (m : Nat) : List Int := if validPair 1 q l then ((List.range m).filter fun (s : Nat) => minW q l s).map (fun (k : Nat) => (k : Int)) else []
def minL (q : Int) (l : List Int) : List Int := minT q l (cN l.length)
theorem minT_zero (q : Int) (l : List Int) : minT q l 0 = [] := by unfold minT; simp
theorem minT_not {q : Int} {l : List Int} (m : Nat) (h : validPair 1 q l = false) : minT q l m = [] := by unfold minT; rw [h]; rfl
theorem minT_succ {q : Int} {l : List Int} (m : Nat) (h : validPair 1 q l = true) : minT q l (m + 1) = minT q l m ++ (if minW q l m then [(m : Int)] else []) := by
  unfold minT
  rw [h]
  simp only [List.range_succ, List.filter_append, List.map_append, if_true]
  congr 1
  cases hw : minW q l m <;> simp [hw]
theorem minT_len (q : Int) (l : List Int) (m : Nat) : (minT q l m).length ≤ m := by
  unfold minT
  split
  · simpa using List.length_filter_le (fun (k : Nat) => minW q l k) (List.range m)
  · simp
theorem minL_len (q : Int) (l : List Int) : (minL q l).length ≤ 1048576 := by
  unfold minL
  cases h : validPair 1 q l
  · rw [minT_not _ h]; simp
  · have := minT_len q l (cN l.length)
    have := cN_le l.length (valid_len h).2
    omega

set_option maxHeartbeats 1000000 in
theorem i_MembersOf (s : Nat) (hs : s < 32) (w : World) :
    Calls Try.prog 160 #[.int .i64 (s : Int)] w fun e w' => ∃ v, e = .returned v ∧ OwnI w' w.heap.size v (memI (s : Int) 5) ∧ Ext w w' := by
  have hin : inB (s : Int) 0 31 = true := by unfold inB; simp; omega
  have HO := Lib.hid (OwnI.made w w.heap.size (Nat.le_refl _))
  go_enter Try.func160, Try.ntmps160
  go_wp2_with (first | (go_at_call 69; refine (i_within _ _ _ _).mono ?_; rintro e w' ⟨rfl, rfl⟩))
  go_loopw [9, 3] (fun i o wr => ∃ (k : Nat) (a1 : Option Addr) (n1 c1 : Nat), k ≤ 5 ∧ i = .int .i64 (k : Int) ∧ o = .slice a1 n1 c1 ∧ Hid (OwnI wr w.heap.size (.slice a1 n1 c1) (memI (s : Int) k)) ∧ Hid (Ext w wr)) (fun i _ _ => 5 - (intOf i).toNat)
  case atStart => exact ⟨0, _, _, _, Nat.zero_le _, rfl, rfl, HO, Lib.hid (Ext.alloc _ _)⟩
  case round =>
    obtain ⟨k, a1, n1, c1, hk, rfl, rfl, HO1, HX1⟩ := hrel
    have hsz := HX1.out.size
    by_cases hlt : k < 5
    · have HB := Lib.hid (hasP_bit (s : Int) k (by omega) (by omega))
      cases hbit : bit (s : Int) k
      · rw [hbit] at HB
        have HS := Lib.hid hbit
        clear hbit
        go_wp2_with (first | (go_at_call 173; refine (i_HasPlayer _ _ _ (by omega)).mono ?_; rw [HB.out]; rintro e w3 ⟨rfl, rfl⟩))
        go_roundw
        case rel => exact ⟨k + 1, a1, n1, c1, by omega, by go_num, rfl, Lib.hid (by rw [memI_succ, HS.out]; simpa using HO1.out), HX1⟩
        case measure => simp [intOf]; omega
      · rw [hbit] at HB
        have HS := Lib.hid hbit
        clear hbit
        go_wp2_with (first
          | (go_at_call 173; refine (i_HasPlayer _ _ _ (by omega)).mono ?_; rw [HB.out]; rintro e w3 ⟨rfl, rfl⟩)
          | (at_builtin; refine append_ints rfl _ _ rfl w.heap.size (.slice a1 n1 c1) _ rfl (HO1.out.ext (Ext.alloc _ _)) _ 1 _ [(k : Int)] rfl (Ints.one _ _ _) (by have := memI_len (s : Int) k; omega) (by simp; omega) ?_; intro v2 w3 ho hg hnear; obtain ⟨a2, n2, c2, rfl, HN2⟩ := ho.var; have HO4 := Lib.hid ho; have HG4 := Lib.hid hg; clear ho hg hnear))
        go_roundw
        case rel =>
          refine ⟨k + 1, a2, n2, c2, by omega, by go_num, rfl, Lib.hid ?_, Lib.hid ?_⟩
          · rw [memI_succ, HS.out]; exact HO4.out
          · exact ext_grown (HX1.out.trans (Ext.alloc _ _)) HG4.out (fun j hj => (HO1.out.lt j hj).1)
        case measure => simp [intOf]; omega
    · have hk5 : k = 5 := by omega
      subst hk5
      go_wp2
      go_ret
      exact ⟨_, rfl, HO1.out, HX1.out⟩

theorem cntC_any (n : Nat) : ∃ m : Nat, cntC (n : Int) = m ∧ m ≤ 32 ∧ (n ≤ 5 → m = cN n) := by
  by_cases h : n ≤ 5
  · exact ⟨cN n, cntC_nat n h, (cN_le n h).2, fun _ => rfl⟩
  · exact ⟨0, by unfold cntC; rw [if_neg (by unfold inB; simp; omega)]; rfl, by omega, fun h' => absurd h' h⟩

end Go.Proofs.Ytgohdmnbnhehnaa
