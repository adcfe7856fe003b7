/- VetoPlayers on both sides. -/
import Derived.Test.YtekgbblpnfohfaaWins
import Derived.Test.YtekgbblpnfohfaaOrders
namespace Go.Proofs.Ytekgbblpnfohfaa
set_option linter.unusedVariables false
open Go.RowKit

theorem cut_nat : ∀ s : Fin 32, ∀ k : Fin 5, bits .andNot .i64 ((s.val : Nat) : Int) (2 ^ k.val) = (if bit ((s.val : Nat) : Int) k.val then ((s.val : Nat) : Int) - 2 ^ k.val else ((s.val : Nat) : Int)) ∧ (bit ((s.val : Nat) : Int) k.val = true → (2 : Int) ^ k.val ≤ ((s.val : Nat) : Int)) := by decide +kernel
/-- The coalition without a player, as the program makes it. -/
theorem cut (s k : Nat) (hs : s < 32) (hk : k < 5) : bits .andNot .i64 (s : Int) (2 ^ k) = (if bit (s : Int) k then (s : Int) - 2 ^ k else (s : Int)) := (cut_nat ⟨s, hs⟩ ⟨k, hk⟩).1
theorem cut_le (s k : Nat) (hs : s < 32) (hk : k < 5) (hb : bit (s : Int) k = true) : (2 : Int) ^ k ≤ (s : Int) := (cut_nat ⟨s, hs⟩ ⟨k, hk⟩).2 hb
theorem cut_all_nat : ∀ n : Fin 6, ∀ k : Fin 5, k.val < n.val → bits .andNot .i64 ((cN n.val : Int) - 1) (2 ^ k.val) = (cN n.val : Int) - 1 - 2 ^ k.val ∧ 0 ≤ (cN n.val : Int) - 1 - 2 ^ k.val := by decide +kernel
theorem cut_all (n k : Nat) (hn : n ≤ 5) (hk : k < n) : bits .andNot .i64 ((cN n : Int) - 1) (2 ^ k) = (cN n : Int) - 1 - 2 ^ k ∧ 0 ≤ (cN n : Int) - 1 - 2 ^ k := cut_all_nat ⟨n, by omega⟩ ⟨k, by omega⟩ hk
theorem s_l2B (k : Nat) (h : k ≤ 5) (w : World) : Calls Try.prog 80 #[.int .i64 (k : Int)] w fun e w' => e = .returned (.int .i64 (2 ^ k)) ∧ w = w' := by
  have := s_l2Bit k w
  rwa [cntC_nat k h, cN_pow] at this

theorem kwrap_pow (k : Nat) (h : k ≤ 5) : IntKind.i64.wrap ((2 : Int) ^ k) = 2 ^ k := by
  have := pow_pos k
  have := pow_le5 k h
  rw [IntKind.wrap_i64]; omega

/-- Of the first m players those without whom the others do not win. -/
def vetoT (q : Int) (l : List Int) (m : Nat) : List Int := if validPair 1 q l then ((List.range m).filter fun (k : Nat) => !winsB q l ((cN l.length : Int) - 1 - 2 ^ k)).map (fun (k : Nat) => (k : Int)) else []
def vetoL (q : Int) (l : List Int) : List Int := vetoT q l l.length
theorem vetoT_zero (q : Int) (l : List Int) : vetoT q l 0 = [] := by unfold vetoT; simp
theorem vetoT_not {q : Int} {l : List Int} (m : Nat) (h : validPair 1 q l = false) : vetoT q l m = [] := by unfold vetoT; rw [h]; rfl
theorem vetoT_succ {q : Int} {l : List Int} (m : Nat) (h : validPair 1 q l = true) : vetoT q l (m + 1) = vetoT q l m ++ (if winsB q l ((cN l.length : Int) - 1 - 2 ^ m) then [] else [(m : Int)]) := by
  unfold vetoT
  rw [h]
  simp only [List.range_succ, List.filter_append, List.map_append, if_true]
  congr 1
  cases hw : winsB q l ((cN l.length : Int) - 1 - 2 ^ m) <;> simp [hw]
theorem vetoT_len (q : Int) (l : List Int) (m : Nat) : (vetoT q l m).length ≤ m := by
  unfold vetoT
  split
  · simpa using List.length_filter_le (fun (k : Nat) => !winsB q l ((cN l.length : Int) - 1 - 2 ^ k)) (List.range m)
  · simp
theorem vetoL_len (q : Int) (l : List Int) : (vetoL q l).length ≤ 1048576 := by
  unfold vetoL
  cases h : validPair 1 q l
  · rw [vetoT_not _ h]; simp
  · have := vetoT_len q l l.length
    have := valid_len h
    omega

set_option maxHeartbeats 1000000 in
theorem s_VetoPlayers {w : World} {q : Int} {a : Option Addr} {n cap : Nat} {l : List Int} (h : Ints w a n cap l) :
    Calls Try.prog 36 #[pair q a n cap] w fun e w' => ∃ v, e = .returned v ∧ OwnI w' w.heap.size v (vetoL q l) ∧ Ext w w' := by
  have hi := h.alloc (.cells #[.int .i64 q, .slice a n cap] 60)
  have HL := Lib.hid h.hlen
  have hmax := h.hmax
  have hcap := h.hcap
  have HO := Lib.hid (OwnI.made (w.alloc (.cells #[.int .i64 q, .slice a n cap] 60)) (w.heap.size + 1) (by simp))
  have HX := Lib.hid (Ext.alloc w (.cells #[.int .i64 q, .slice a n cap] 60))
  have HI := Lib.hid hi
  clear h hi
  go_enter Try.func36, Try.ntmps36
  go_wp2
  go_loopw [3, 4] (fun o i wr => ∃ (k : Nat) (a1 : Option Addr) (n1 c1 : Nat), k ≤ n ∧ i = .int .i64 (k : Int) ∧ o = .slice a1 n1 c1 ∧ Hid (OwnI wr (w.heap.size + 1) (.slice a1 n1 c1) (vetoT q l k)) ∧ Hid (Ext (w.alloc (.cells #[.int .i64 q, .slice a n cap] 60)) wr)) (fun _ i _ => n - (intOf i).toNat)
  case atStart => exact ⟨0, _, _, _, Nat.zero_le _, rfl, rfl, Lib.hid (by rw [vetoT_zero]; simpa using HO.out), Lib.hid (Ext.alloc _ _)⟩
  case round =>
    obtain ⟨k, a1, n1, c1, hk, rfl, rfl, HO1, HX1⟩ := hrel
    have c0 : wr.cell? ⟨w.heap.size, 0, none⟩ = some (.int .i64 q) := HX1.out.cellSome (by simp)
    have c1' : wr.cell? ⟨w.heap.size, 1, none⟩ = some (.slice a n cap) := HX1.out.cellSome (by simp)
    have hsz : w.heap.size + 1 ≤ wr.heap.size := by have := HX1.out.size; simpa using this
    have HI1 := Lib.hid (HI.out.ext HX1.out)
    by_cases hlt : k < n
    · have HV := Lib.hid (s_IsValidVoting (x := q) HI1.out)
      cases hv : validPair 1 q l
      · rw [hv] at HV
        have HVV := Lib.hid hv
        clear hv
        go_wp2_with fail
        refine HV.out.mono ?_
        rintro e w2 ⟨rfl, hx2⟩
        have HX2 := Lib.hid (HX1.out.trans hx2)
        have HO2 := Lib.hid (HO1.out.ext hx2)
        clear hx2
        go_wp2
        go_ret
        exact ⟨_, rfl, by unfold vetoL; rw [vetoT_not _ HVV.out, ← vetoT_not k HVV.out]; exact HO2.out.mono (by omega), HX.out.trans HX2.out⟩
      · rw [hv] at HV
        have hn5 : n ≤ 5 := by have := valid_len hv; have := HL.out; omega
        have HVV := Lib.hid hv
        clear hv
        have hcut := cut_all n k hn5 hlt
        have hc0 := hcut.2
        clear hcut
        have hN := cN_le n hn5
        have hp := pow_pos k
        have hp5 := pow_le5 k (by omega)
        go_wp2_with fail
        refine HV.out.mono ?_
        rintro e w2 ⟨rfl, hx2⟩
        have c0 := hx2.cellSome c0
        have c1' := hx2.cellSome c1'
        have HX2 := Lib.hid (HX1.out.trans hx2)
        have HO2 := Lib.hid (HO1.out.ext hx2)
        have HI2 := Lib.hid (HI1.out.ext hx2)
        clear hx2
        have hk2 : Ext w2 w2.drew := Ext.drew w2
        have HW := Lib.hid (show IntKind.i64.wrap (IntKind.i64.wrap ((cN n : Int) - 1) - 2 ^ k) = (cN n : Int) - 1 - 2 ^ k by rw [IntKind.wrap_i64, IntKind.wrap_i64]; omega)
        cases hb : winsB q l ((cN n : Int) - 1 - 2 ^ k)
        all_goals
          have HB := Lib.hid hb
          go_wp2
          go_region_held3 (fun w' => w'.cell? ⟨w.heap.size, 0, none⟩ = some (.int .i64 q) ∧ w'.cell? ⟨w.heap.size, 1, none⟩ = some (.slice a n cap) ∧ Ext w2 w')
            (exact ⟨hk2.cellSome c0, hk2.cellSome c1', hk2⟩)
            (first
              | (go_at_call 88; refine (s_CountC n hn5 _).mono ?_; rintro e w3 ⟨rfl, rfl⟩)
              | (go_at_call 80; refine (s_l2B k (by omega) _).mono ?_; rintro e w3 ⟨rfl, rfl⟩)
              | (go_at_call 87; rw [HW.out]; refine (s_l20Wins _ (HI2.out.ext hk2) (by omega) (by omega) hn5).mono ?_; rintro e w3 ⟨rfl, hx3⟩; have hk2 := hk2.trans hx3))
        · have HK2 := Lib.hid hk2
          have HO3 := Lib.hid (HO2.out.ext hk2)
          have hsz3 := hk2.size
          have hsz2 := HX2.out.size
          clear hk2
          go_wp2_with (first
            | (at_builtin; refine append_ints rfl _ _ rfl (w.heap.size + 1) (.slice a1 n1 c1) _ rfl (HO3.out.ext (Ext.alloc _ _)) _ 1 _ [(k : Int)] rfl (Ints.one _ _ _) (by have := vetoT_len q l k; omega) (by simp at hsz2 ⊢; omega) ?_; intro v2 w3 ho hg hnear; obtain ⟨a2, n2, c2, rfl, HN2⟩ := ho.var; have HO4 := Lib.hid ho; have HG4 := Lib.hid hg; clear ho hg hnear))
          go_roundw
          case rel =>
            refine ⟨k + 1, a2, n2, c2, by omega, by go_num, rfl, Lib.hid ?_, Lib.hid ?_⟩
            · rw [vetoT_succ _ HVV.out, HL.out, HB.out]; exact HO4.out
            · exact ext_grown (HX2.out.trans (HK2.out.trans (Ext.alloc _ _))) HG4.out (fun j hj => by have := (HO3.out.lt j hj).1; simpa using this)
          case measure => simp [intOf]; omega
        · go_wp2
          go_roundw
          case rel =>
            refine ⟨k + 1, a1, n1, c1, by omega, by go_num, rfl, Lib.hid ?_, Lib.hid (HX2.out.trans hk2)⟩
            rw [vetoT_succ _ HVV.out, HL.out, HB.out]
            simpa using HO2.out.ext hk2
          case measure => simp [intOf]; omega
    · go_wp2
      go_ret
      have hkn : k = n := by omega
      subst hkn
      exact ⟨_, rfl, by unfold vetoL; rw [HL.out]; exact HO1.out.mono (by omega), HX.out.trans HX1.out⟩

set_option maxHeartbeats 1000000 in
theorem i_VetoPlayers {w : World} {q : Int} {a : Option Addr} {n cap : Nat} {l : List Int} (h : Ints w a n cap l) :
    Calls Try.prog 38 #[pair q a n cap] w fun e w' => ∃ v, e = .returned v ∧ OwnI w' w.heap.size v (vetoL q l) ∧ Ext w w' := by
  have hi := h.alloc (.cells #[.int .i64 q, .slice a n cap] 60)
  have HX := Lib.hid (Ext.alloc w (.cells #[.int .i64 q, .slice a n cap] 60))
  have HL := Lib.hid h.hlen
  have HV := Lib.hid (i_IsValidVoting (x := q) hi)
  have hmax := h.hmax
  have hcap := h.hcap
  cases hv : validPair 1 q l
  · rw [hv] at HV
    have HVV := Lib.hid hv
    clear hv
    go_enter Try.func38, Try.ntmps38
    go_wp2_with fail
    refine HV.out.mono ?_
    rintro e w1 ⟨rfl, hx⟩
    go_wp2
    go_ret
    exact ⟨_, rfl, by unfold vetoL; rw [vetoT_not _ HVV.out]; exact OwnI.nil _ _, HX.out.trans hx⟩
  rw [hv] at HV
  have HVV := Lib.hid hv
  have hn5 : n ≤ 5 := by have := valid_len hv; have := HL.out; omega
  have HI := Lib.hid hi
  clear hv h hi
  go_enter Try.func38, Try.ntmps38
  go_wp2_with fail
  refine HV.out.mono ?_
  rintro e w1 ⟨rfl, hx⟩
  have c1 : w1.cell? ⟨w.heap.size, 1, none⟩ = some (.slice a n cap) := hx.cellSome (by simp)
  have HX1 := Lib.hid hx
  have hs1 : w.heap.size < w1.heap.size := World.block_lt_of_cell? _ _ c1
  have HO := Lib.hid (OwnI.made w1 (w.heap.size + 1) hs1)
  clear hx
  go_wp2
  go_loopw [12, 3] (fun i o wr => ∃ (k : Nat) (a1 : Option Addr) (n1 c1 : Nat), k ≤ n ∧ i = .int .i64 (k : Int) ∧ o = .slice a1 n1 c1 ∧ Hid (OwnI wr (w.heap.size + 1) (.slice a1 n1 c1) (vetoT q l k)) ∧ Hid (Ext (w.alloc (.cells #[.int .i64 q, .slice a n cap] 60)) wr)) (fun i _ _ => n - (intOf i).toNat)
  case atStart => exact ⟨0, _, _, _, Nat.zero_le _, rfl, rfl, Lib.hid (by rw [vetoT_zero]; exact HO.out), Lib.hid (HX1.out.trans (Ext.alloc _ _))⟩
  case round =>
    obtain ⟨k, a1, n1, c1, hk, rfl, rfl, HO2, HX2⟩ := hrel
    have c0 : wr.cell? ⟨w.heap.size, 0, none⟩ = some (.int .i64 q) := HX2.out.cellSome (by simp)
    have c1' : wr.cell? ⟨w.heap.size, 1, none⟩ = some (.slice a n cap) := HX2.out.cellSome (by simp)
    have hsz2 : w.heap.size + 1 ≤ wr.heap.size := by have := HX2.out.size; simpa using this
    have HI2 := Lib.hid (HI.out.ext HX2.out)
    by_cases hlt : k < n
    · have hcut := cut_all n k hn5 hlt
      have hc0 := hcut.2
      have HC := Lib.hid hcut.1
      clear hcut
      have hN := cN_le n hn5
      have hp := pow_pos k
      have hp5 := pow_le5 k (by omega)
      have HW := Lib.hid (show IntKind.i64.wrap ((cN n : Int) - 1) = (cN n : Int) - 1 by rw [IntKind.wrap_i64]; omega)
      have HWP := Lib.hid (kwrap_pow k (by omega))
      have hk2 : Ext wr wr.drew := Ext.drew wr
      cases hb : winsB q l ((cN n : Int) - 1 - 2 ^ k)
      all_goals
        have HB := Lib.hid hb
        go_wp2
        go_region_held3 (fun w' => w'.cell? ⟨w.heap.size, 0, none⟩ = some (.int .i64 q) ∧ w'.cell? ⟨w.heap.size, 1, none⟩ = some (.slice a n cap) ∧ Ext wr w')
          (exact ⟨hk2.cellSome c0, hk2.cellSome c1', hk2⟩)
          (first
            | (go_at_call 91; refine (i_all hn5).mono ?_; rintro e w3 ⟨rfl, hx3⟩; have hk2 := hk2.trans hx3)
            | (go_at_call 90; rw [HW.out, HWP.out, HC.out]; refine (i_wins _ (HI2.out.ext hk2) (by omega) (by omega) (by omega)).mono ?_; rintro e w3 ⟨rfl, hx3⟩; have hk2 := hk2.trans hx3))
      · have HK2 := Lib.hid hk2
        have HO3 := Lib.hid (HO2.out.ext hk2)
        have hsz3 := hk2.size
        clear hk2
        go_wp2_with (first
          | (at_builtin; refine append_ints rfl _ _ rfl (w.heap.size + 1) (.slice a1 n1 c1) _ rfl (HO3.out.ext (Ext.alloc _ _)) _ 1 _ [(k : Int)] rfl (Ints.one _ _ _) (by have := vetoT_len q l k; omega) (by simp; omega) ?_; intro v2 w3 ho hg hnear; obtain ⟨a2, n2, c2, rfl, HN2⟩ := ho.var; have HO4 := Lib.hid ho; have HG4 := Lib.hid hg; clear ho hg hnear))
        go_roundw
        case rel =>
          refine ⟨k + 1, a2, n2, c2, by omega, by go_num, rfl, Lib.hid ?_, Lib.hid ?_⟩
          · rw [vetoT_succ _ HVV.out, HL.out, HB.out]; exact HO4.out
          · exact ext_grown (HX2.out.trans (HK2.out.trans (Ext.alloc _ _))) HG4.out (fun j hj => by have := (HO3.out.lt j hj).1; simpa using this)
        case measure => simp [intOf]; omega
      · go_wp2
        go_roundw
        case rel =>
          refine ⟨k + 1, a1, n1, c1, by omega, by go_num, rfl, Lib.hid ?_, Lib.hid (HX2.out.trans hk2)⟩
          rw [vetoT_succ _ HVV.out, HL.out, HB.out]
          simpa using HO2.out.ext hk2
        case measure => simp [intOf]; omega
    · go_wp2
      go_ret
      have hkn : k = n := by omega
      subst hkn
      exact ⟨_, rfl, by unfold vetoL; rw [HL.out]; exact HO2.out.mono (by omega), HX.out.trans HX2.out⟩

end Go.Proofs.Ytekgbblpnfohfaa
