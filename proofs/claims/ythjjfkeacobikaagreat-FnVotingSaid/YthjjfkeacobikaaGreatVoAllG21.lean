import Derived.Test.YthjjfkeacobikaaGreatVoAllG2
import Derived.Test.YthjjfkeacobikaaGreatVoAllG20
import Derived.Test.YthjjfkeacobikaaGreatVoAllG3
import Derived.Test.YthjjfkeacobikaaGreatVoAllG7
namespace Go.Proofs.YthjjfkeacobikaaGreat
set_option linter.unusedVariables false
open Go.RowKit
theorem cut_nat : ∀ s : Fin 32, ∀ k : Fin 5, bits .andNot .i64 ((s.val : Nat) : Int) (2 ^ k.val) = (if bit ((s.val : Nat) : Int) k.val then ((s.val : Nat) : Int) - 2 ^ k.val else ((s.val : Nat) : Int)) ∧ (bit ((s.val : Nat) : Int) k.val = true → (2 : Int) ^ k.val ≤ ((s.val : Nat) : Int)) := by decide +kernel
theorem cut (s k : Nat) (hs : s < 32) (hk : k < 5) : bits .andNot .i64 (s : Int) (2 ^ k) = (if bit (s : Int) k then (s : Int) - 2 ^ k else (s : Int)) := (cut_nat ⟨s, hs⟩ ⟨k, hk⟩).1
theorem cut_le (s k : Nat) (hs : s < 32) (hk : k < 5) (hb : bit (s : Int) k = true) : (2 : Int) ^ k ≤ (s : Int) := (cut_nat ⟨s, hs⟩ ⟨k, hk⟩).2 hb
theorem cut_all_nat : ∀ n : Fin 6, ∀ k : Fin 5, k.val < n.val → bits .andNot .i64 ((cN n.val : Int) - 1) (2 ^ k.val) = (cN n.val : Int) - 1 - 2 ^ k.val ∧ 0 ≤ (cN n.val : Int) - 1 - 2 ^ k.val := by decide +kernel
theorem cut_all (n k : Nat) (hn : n ≤ 5) (hk : k < n) : bits .andNot .i64 ((cN n : Int) - 1) (2 ^ k) = (cN n : Int) - 1 - 2 ^ k ∧ 0 ≤ (cN n : Int) - 1 - 2 ^ k := cut_all_nat ⟨n, by omega⟩ ⟨k, by omega⟩ hk
theorem s_l2B (k : Nat) (h : k ≤ 5) (w : World) : Calls Tryz.prog 78 #[.int .i64 (k : Int)] w fun e w' => e = .returned (.int .i64 (2 ^ k)) ∧ w = w' := by
 have := s_l2Bit k w
 rwa [cntC_nat k h, cN_pow] at this
theorem kwrap_pow (k : Nat) (h : k ≤ 5) : IntKind.i64.wrap ((2 : Int) ^ k) = 2 ^ k := by
 have := pow_pos k
 have := pow_le5 k h
 rw [IntKind.wrap_i64]; omega
def vetoT (q : Int) (l : List Int) (m : Nat) : List Int := if validPair 1 q l then ((List.range m).filter fun (k : Nat) => !winsB q l ((cN l.length : Int) - 1 - 2 ^ k)).map (fun (k : Nat) => (k : Int)) else []
def vetoL (q : Int) (l : List Int) : List Int := vetoT q l l.length
theorem vetoT_zero (q : Int) (l : List Int) : vetoT q l 0 = [] := by unfold vetoT; simp
theorem vetoT_not {q : Int} {l : List Int} (m : Nat) (h : validPair 1 q l = false) : vetoT q l m = [] := by unfold vetoT; rw [h]; rfl
theorem vetoT_succ {q : Int} {l : List Int} (m : Nat) (h : validPair 1 q l = true) : vetoT q l (m + 1) = vetoT q l m ++ (if winsB q l ((cN l.length : Int) - 1 - 2 ^ m) then [] else [(m : Int)]) := by
 unfold vetoT
 rw [h]
 simp only [List.range_succ, List.filter_append, List.map_append, if_true]
 congr 1
 cases hw : winsB q l ((cN l.length : Int) - 1 - 2 ^ m) <;> simp [hw]
theorem vetoT_len (q : Int) (l : List Int) (m : Nat) : (vetoT q l m).length ≤ m := by
 unfold vetoT
 split
 ·simpa using List.length_filter_le (fun (k : Nat) => !winsB q l ((cN l.length : Int) - 1 - 2 ^ k)) (List.range m)
 ·simp
set_option maxHeartbeats 1000000 in
theorem s_VetoPlayers {w : World} {q : Int} {a : Option Addr} {n cap : Nat} {l : List Int} (h : Ints w a n cap l) :
 Calls Tryz.prog 17 #[pair q a n cap] w fun e w' => ∃ v, e = .returned v ∧ OwnI w' w.heap.size v (vetoL q l) ∧ Ext w w' := by
 have hi := h.alloc (.cells #[.int .i64 q, .slice a n cap] 26)
 have HL := Lib.hid h.hlen
 have hmax := h.hmax
 have hcap := h.hcap
 have HO := Lib.hid (OwnI.made (w.alloc (.cells #[.int .i64 q, .slice a n cap] 26)) (w.heap.size + 1) (by simp))
 have HX := Lib.hid (Ext.alloc w (.cells #[.int .i64 q, .slice a n cap] 26))
 have HI := Lib.hid hi
 clear h hi
 go_enter Tryz.func17, Tryz.ntmps17
 go_wp2
 go_loopw [3, 4] (fun o i wr => ∃ (k : Nat) (a1 : Option Addr) (n1 c1 : Nat), k ≤ n ∧ i = .int .i64 (k : Int) ∧ o = .slice a1 n1 c1 ∧ Hid (OwnI wr (w.heap.size + 1) (.slice a1 n1 c1) (vetoT q l k)) ∧ Hid (Ext (w.alloc (.cells #[.int .i64 q, .slice a n cap] 26)) wr)) (fun _ i _ => n - (intOf i).toNat)
 case atStart => exact ⟨0, _, _, _, Nat.zero_le _, rfl, rfl, Lib.hid (by rw [vetoT_zero]; simpa using HO.out), Lib.hid (Ext.alloc _ _)⟩
 case round =>
  obtain ⟨k, a1, n1, c1, hk, rfl, rfl, HO1, HX1⟩ := hrel
  have c0 : wr.cell? ⟨w.heap.size, 0, none⟩ = some (.int .i64 q) := HX1.out.cellSome (by simp)
  have c1' : wr.cell? ⟨w.heap.size, 1, none⟩ = some (.slice a n cap) := HX1.out.cellSome (by simp)
  have hsz : w.heap.size + 1 ≤ wr.heap.size := by have := HX1.out.size; simpa using this
  have HI1 := Lib.hid (HI.out.ext HX1.out)
  by_cases hlt : k < n
  ·have HV := Lib.hid (s_IsValidVoting (x := q) HI1.out)
   cases hv : validPair 1 q l
   ·rw [hv] at HV
    have HVV := Lib.hid hv
    clear hv
    go_wp2_with fail
    refine HV.out.mono ?_
    rintro e w2 ⟨rfl, hx2⟩
    have HX2 := Lib.hid (HX1.out.trans hx2)
    have HO2 := Lib.hid (HO1.out.ext hx2)
    clear hx2
    go_wp2
    go_ret
    exact ⟨_, rfl, by unfold vetoL; rw [vetoT_not _ HVV.out, ← vetoT_not k HVV.out]; exact HO2.out.mono (by omega), HX.out.trans HX2.out⟩
   ·rw [hv] at HV
    have hn5 : n ≤ 5 := by have := valid_len hv; have := HL.out; omega
    have HVV := Lib.hid hv
    clear hv
    have hcut := cut_all n k hn5 hlt
    have hc0 := hcut.2
    clear hcut
    have hN := cN_le n hn5
    have hp := pow_pos k
    have hp5 := pow_le5 k (by omega)
    go_wp2_with fail
    refine HV.out.mono ?_
    rintro e w2 ⟨rfl, hx2⟩
    have c0 := hx2.cellSome c0
    have c1' := hx2.cellSome c1'
    have HX2 := Lib.hid (HX1.out.trans hx2)
    have HO2 := Lib.hid (HO1.out.ext hx2)
    have HI2 := Lib.hid (HI1.out.ext hx2)
    clear hx2
    have hk2 : Ext w2 w2.drew := Ext.drew w2
    have HW := Lib.hid (show IntKind.i64.wrap (IntKind.i64.wrap ((cN n : Int) - 1) - 2 ^ k) = (cN n : Int) - 1 - 2 ^ k by rw [IntKind.wrap_i64, IntKind.wrap_i64]; omega)
    cases hb : winsB q l ((cN n : Int) - 1 - 2 ^ k)
    all_goals
     have HB := Lib.hid hb
     go_wp2
     go_region_held3 (fun w' => w'.cell? ⟨w.heap.size, 0, none⟩ = some (.int .i64 q) ∧ w'.cell? ⟨w.heap.size, 1, none⟩ = some (.slice a n cap) ∧ Ext w2 w')
      (exact ⟨hk2.cellSome c0, hk2.cellSome c1', hk2⟩)
      (first
        | (go_at_call 73; refine (s_CountC n hn5 _).mono ?_; rintro e w3 ⟨rfl, rfl⟩)
        | (go_at_call 78; refine (s_l2B k (by omega) _).mono ?_; rintro e w3 ⟨rfl, rfl⟩)
        | (go_at_call 75; rw [HW.out]; refine (s_l20Wins _ (HI2.out.ext hk2) (by omega) (by omega) hn5).mono ?_; rintro e w3 ⟨rfl, hx3⟩; have hk2 := hk2.trans hx3))
    ·have HK2 := Lib.hid hk2
     have HO3 := Lib.hid (HO2.out.ext hk2)
     have hsz3 := hk2.size
     have hsz2 := HX2.out.size
     clear hk2
     go_wp2_with (first
      | (at_builtin; refine append_ints rfl _ _ rfl (w.heap.size + 1) (.slice a1 n1 c1) _ rfl (HO3.out.ext (Ext.alloc _ _)) _ 1 _ [(k : Int)] rfl (Ints.one _ _ _) (by have := vetoT_len q l k; omega) (by simp at hsz2 ⊢; omega) ?_; intro v2 w3 ho hg hnear; obtain ⟨a2, n2, c2, rfl, HN2⟩ := ho.var; have HO4 := Lib.hid ho; have HG4 := Lib.hid hg; clear ho hg hnear))
     go_roundw
     case rel =>
      refine ⟨k + 1, a2, n2, c2, by omega, by go_num, rfl, Lib.hid ?_, Lib.hid ?_⟩
      ·rw [vetoT_succ _ HVV.out, HL.out, HB.out]; exact HO4.out
      ·exact ext_grown (HX2.out.trans (HK2.out.trans (Ext.alloc _ _))) HG4.out (fun j hj => by have := (HO3.out.lt j hj).1; simpa using this)
     case measure => simp [intOf]; omega
    ·go_wp2
     go_roundw
     case rel =>
      refine ⟨k + 1, a1, n1, c1, by omega, by go_num, rfl, Lib.hid ?_, Lib.hid (HX2.out.trans hk2)⟩
      rw [vetoT_succ _ HVV.out, HL.out, HB.out]
      simpa using HO2.out.ext hk2
     case measure => simp [intOf]; omega
  ·go_wp2
   go_ret
   have hkn : k = n := by omega
   subst hkn
   exact ⟨_, rfl, by unfold vetoL; rw [HL.out]; exact HO1.out.mono (by omega), HX.out.trans HX1.out⟩
set_option maxHeartbeats 1000000 in
theorem i_VetoPlayers {w : World} {q : Int} {a : Option Addr} {n cap : Nat} {l : List Int} (h : Ints w a n cap l) :
 Calls Tryz.prog 13 #[pair q a n cap] w fun e w' => ∃ v, e = .returned v ∧ OwnI w' w.heap.size v (vetoL q l) ∧ Ext w w' := by
 have hi := h.alloc (.cells #[.int .i64 q, .slice a n cap] 26)
 have HX := Lib.hid (Ext.alloc w (.cells #[.int .i64 q, .slice a n cap] 26))
 have HL := Lib.hid h.hlen
 have HV := Lib.hid (i_IsValidVoting (x := q) hi)
 have hmax := h.hmax
 have hcap := h.hcap
 cases hv : validPair 1 q l
 ·rw [hv] at HV
  have HVV := Lib.hid hv
  clear hv
  go_enter Tryz.func13, Tryz.ntmps13
  go_wp2_with fail
  refine HV.out.mono ?_
  rintro e w1 ⟨rfl, hx⟩
  go_wp2
  go_ret
  exact ⟨_, rfl, by unfold vetoL; rw [vetoT_not _ HVV.out]; exact OwnI.nil _ _, HX.out.trans hx⟩
 rw [hv] at HV
 have HVV := Lib.hid hv
 have hn5 : n ≤ 5 := by have := valid_len hv; have := HL.out; omega
 have HI := Lib.hid hi
 clear hv h hi
 go_enter Tryz.func13, Tryz.ntmps13
 go_wp2_with fail
 refine HV.out.mono ?_
 rintro e w1 ⟨rfl, hx⟩
 have c1 : w1.cell? ⟨w.heap.size, 1, none⟩ = some (.slice a n cap) := hx.cellSome (by simp)
 have HX1 := Lib.hid hx
 have hs1 : w.heap.size < w1.heap.size := World.block_lt_of_cell? _ _ c1
 have HO := Lib.hid (OwnI.made w1 (w.heap.size + 1) hs1)
 clear hx
 go_wp2
 go_loopw [12, 3] (fun i o wr => ∃ (k : Nat) (a1 : Option Addr) (n1 c1 : Nat), k ≤ n ∧ i = .int .i64 (k : Int) ∧ o = .slice a1 n1 c1 ∧ Hid (OwnI wr (w.heap.size + 1) (.slice a1 n1 c1) (vetoT q l k)) ∧ Hid (Ext (w.alloc (.cells #[.int .i64 q, .slice a n cap] 26)) wr)) (fun i _ _ => n - (intOf i).toNat)
 case atStart => exact ⟨0, _, _, _, Nat.zero_le _, rfl, rfl, Lib.hid (by rw [vetoT_zero]; exact HO.out), Lib.hid (HX1.out.trans (Ext.alloc _ _))⟩
 case round =>
  obtain ⟨k, a1, n1, c1, hk, rfl, rfl, HO2, HX2⟩ := hrel
  have c0 : wr.cell? ⟨w.heap.size, 0, none⟩ = some (.int .i64 q) := HX2.out.cellSome (by simp)
  have c1' : wr.cell? ⟨w.heap.size, 1, none⟩ = some (.slice a n cap) := HX2.out.cellSome (by simp)
  have hsz2 : w.heap.size + 1 ≤ wr.heap.size := by have := HX2.out.size; simpa using this
  have HI2 := Lib.hid (HI.out.ext HX2.out)
  by_cases hlt : k < n
  ·have hcut := cut_all n k hn5 hlt
   have hc0 := hcut.2
   have HC := Lib.hid hcut.1
   clear hcut
   have hN := cN_le n hn5
   have hp := pow_pos k
   have hp5 := pow_le5 k (by omega)
   have HW := Lib.hid (show IntKind.i64.wrap ((cN n : Int) - 1) = (cN n : Int) - 1 by rw [IntKind.wrap_i64]; omega)
   have HWP := Lib.hid (kwrap_pow k (by omega))
   have hk2 : Ext wr wr.drew := Ext.drew wr
   cases hb : winsB q l ((cN n : Int) - 1 - 2 ^ k)
   all_goals
    have HB := Lib.hid hb
    go_wp2
    go_region_held3 (fun w' => w'.cell? ⟨w.heap.size, 0, none⟩ = some (.int .i64 q) ∧ w'.cell? ⟨w.heap.size, 1, none⟩ = some (.slice a n cap) ∧ Ext wr w')
     (exact ⟨hk2.cellSome c0, hk2.cellSome c1', hk2⟩)
     (first
       | (go_at_call 76; refine (i_all hn5).mono ?_; rintro e w3 ⟨rfl, hx3⟩; have hk2 := hk2.trans hx3)
       | (go_at_call 71; rw [HW.out, HWP.out, HC.out]; refine (i_wins _ (HI2.out.ext hk2) (by omega) (by omega) (by omega)).mono ?_; rintro e w3 ⟨rfl, hx3⟩; have hk2 := hk2.trans hx3))
   ·have HK2 := Lib.hid hk2
    have HO3 := Lib.hid (HO2.out.ext hk2)
    have hsz3 := hk2.size
    clear hk2
    go_wp2_with (first
     | (at_builtin; refine append_ints rfl _ _ rfl (w.heap.size + 1) (.slice a1 n1 c1) _ rfl (HO3.out.ext (Ext.alloc _ _)) _ 1 _ [(k : Int)] rfl (Ints.one _ _ _) (by have := vetoT_len q l k; omega) (by simp; omega) ?_; intro v2 w3 ho hg hnear; obtain ⟨a2, n2, c2, rfl, HN2⟩ := ho.var; have HO4 := Lib.hid ho; have HG4 := Lib.hid hg; clear ho hg hnear))
    go_roundw
    case rel =>
     refine ⟨k + 1, a2, n2, c2, by omega, by go_num, rfl, Lib.hid ?_, Lib.hid ?_⟩
     ·rw [vetoT_succ _ HVV.out, HL.out, HB.out]; exact HO4.out
     ·exact ext_grown (HX2.out.trans (HK2.out.trans (Ext.alloc _ _))) HG4.out (fun j hj => by have := (HO3.out.lt j hj).1; simpa using this)
    case measure => simp [intOf]; omega
   ·go_wp2
    go_roundw
    case rel =>
     refine ⟨k + 1, a1, n1, c1, by omega, by go_num, rfl, Lib.hid ?_, Lib.hid (HX2.out.trans hk2)⟩
     rw [vetoT_succ _ HVV.out, HL.out, HB.out]
     simpa using HO2.out.ext hk2
    case measure => simp [intOf]; omega
  ·go_wp2
   go_ret
   have hkn : k = n := by omega
   subst hkn
   exact ⟨_, rfl, by unfold vetoL; rw [HL.out]; exact HO2.out.mono (by omega), HX.out.trans HX2.out⟩
theorem bit_but_nat : ∀ n : Fin 6, ∀ k : Fin 5, ∀ j : Fin 5, k.val < n.val → j.val < n.val → bit ((cN n.val : Int) - 1 - 2 ^ k.val) j.val = !decide (j.val = k.val) := by decide +kernel
theorem bit_all_nat : ∀ n : Fin 6, ∀ j : Fin 5, j.val < n.val → bit ((cN n.val : Int) - 1) j.val = true := by decide +kernel
theorem but_bd_nat : ∀ n : Fin 6, ∀ k : Fin 5, k.val < n.val → 0 ≤ (cN n.val : Int) - 1 - 2 ^ k.val ∧ (cN n.val : Int) - 1 - 2 ^ k.val < cN n.val := by decide +kernel
theorem sumTo_mono {s t : Int} {l : List Int} (hl : ∀ k : Nat, 0 ≤ l[k]?.getD 0 ∧ l[k]?.getD 0 ≤ 100) : ∀ m : Nat, m ≤ 60 → (∀ j, j < m → bit s j = true → bit t j = true) → 0 ≤ sumTo s l m ∧ sumTo s l m ≤ sumTo t l m ∧ sumTo t l m ≤ 100 * m
 | 0, _, _ => by simp [sumTo]
 | m + 1, hm, h => by
   obtain ⟨h1, h2, h3⟩ := sumTo_mono hl m (by omega) (fun j hj => h j (by omega))
   have hb := hl m
   have hst := h m (by omega)
   have w : ∀ a : Int, 0 ≤ a → a ≤ 100 * m → wrap64 (a + l[m]?.getD 0) = a + l[m]?.getD 0 := fun a h0 h9 => by unfold wrap64; omega
   simp only [sumTo]
   cases hs : bit s m <;> cases ht : bit t m
   ·simp; omega
   ·simp; rw [w _ (by omega) (by omega)]; omega
   ·rw [hs, ht] at hst; simp at hst
   ·simp; rw [w _ (by omega) (by omega), w _ (by omega) (by omega)]; omega
theorem sumTo_all {l : List Int} {s : Int} : ∀ {m : Nat}, m ≤ l.length → (∀ j, j < m → bit s j = true) → sumTo s l m = sumW (l.take m)
 | 0, _, _ => rfl
 | m + 1, hm, h => by
   rw [sumTo, if_pos (h m (by omega)), sumTo_all (m := m) (by omega) (fun j hj => h j (by omega)), take_snoc (by omega), sumW_snoc]
theorem valid_vote {q : Int} {l : List Int} (h : validPair 1 q l = true) : 1 ≤ l.length ∧ l.length ≤ 5 ∧ 1 ≤ q ∧ q ≤ sumW l ∧ ∀ k : Nat, 0 ≤ l[k]?.getD 0 ∧ l[k]?.getD 0 ≤ 100 := by
 have hv := valid_len h
 simp only [validPair, small, inB, Bool.and_eq_true, decide_eq_true_eq, List.all_eq_true] at h
 obtain ⟨⟨h1, h2⟩, h3⟩ := h
 refine ⟨hv.1, hv.2, h3.1, h3.2, fun k => ?_⟩
 by_cases hk : k < l.length
 ·have := h1 (l[k]) (List.getElem_mem hk)
  rw [List.getElem?_eq_getElem hk]; simpa using this
 ·rw [List.getElem?_eq_none (by omega)]; simp
theorem wins_mono {q : Int} {l : List Int} (h : validPair 1 q l = true) {s t : Int} (hst : ∀ j, j < l.length → bit s j = true → bit t j = true) (hw : winsB q l s = true) : winsB q l t = true := by
 obtain ⟨h1, h5, _, _, hl⟩ := valid_vote h
 have := sumTo_mono hl l.length (by omega) hst
 unfold winsB at hw ⊢
 simp only [decide_eq_true_eq] at hw ⊢
 omega
theorem wins_all {q : Int} {l : List Int} (h : validPair 1 q l = true) : winsB q l ((cN l.length : Int) - 1) = true := by
 obtain ⟨h1, h5, _, hq, hl⟩ := valid_vote h
 unfold winsB
 rw [sumTo_all (Nat.le_refl _) (fun j hj => bit_all_nat ⟨l.length, by omega⟩ ⟨j, by omega⟩ hj), List.take_length]
 exact decide_eq_true hq
theorem rowF_get (f : Nat → Int) (n k : Nat) (h : k < n) : (rowF f n)[k]?.getD 0 = f k := by
 unfold rowF; simp [h]
theorem vrow_core {V : List Int} {j : Nat} (hj : j + 1 < V.length) : vrow (coreC V) j = ((-(V[j + 1]?.getD 0) : Int) : Rat) := by
 unfold vrow coreC
 rw [List.getElem?_map, List.getElem?_drop, Nat.add_comm 1 j, List.getElem?_eq_getElem hj]
 simp only [Option.map_some, Option.getD_some]
 rw [val_whole]
def voteR (q : Int) (l : List Int) : LpR := solveG boundI (coreA l.length (cN l.length)) (coreB l.length) (coreC (voteL q l))
theorem voteL_at {q : Int} {l : List Int} (h : validPair 1 q l = true) {s : Nat} (hs : s < cN l.length) : (voteL q l)[s]?.getD 0 = bitI (winsB q l (s : Int)) := by
 unfold voteL
 rw [if_pos h, rowF_get _ _ _ hs]; rfl
theorem vote_game {q : Int} {l : List Int} (h : validPair 1 q l = true) : gameOk (l.length : Int) (voteL q l) = true := by
 have hv := valid_len h
 unfold voteL
 rw [if_pos h]
 exact rowF_ok hv.1 hv.2 (by unfold voteF; rw [show ((0 : Nat) : Int) = 0 by rfl, winsB_zero h]; rfl) fun s _ => bitI_le _
theorem vote_core {q : Int} {l : List Int} (h : validPair 1 q l = true) :
 (codeS true (grandV (l.length : Int) (voteL q l)) (voteR q l) = 1 → (vetoL q l).length ≠ 0) ∧ (codeS true (grandV (l.length : Int) (voteL q l)) (voteR q l) = 2 → (vetoL q l).length = 0) := by
 obtain ⟨h1, h5, hq1, hq, hl⟩ := valid_vote h
 obtain ⟨n, hn⟩ : ∃ n, n = l.length := ⟨_, rfl⟩
 have hcn := cN_le n (by omega)
 have hVl : (voteL q l).length = cN n := by unfold voteL; rw [if_pos h, rowF_len, hn]
 have hCl : (coreC (voteL q l)).length = cN n - 1 := by unfold coreC; rw [List.length_map, List.length_drop, hVl]
 have hAl : (coreA n (cN n)).length = n := by unfold coreA memM; simp
 obtain ⟨g, hg⟩ : ∃ g, g = grandV (n : Int) (voteL q l) := ⟨_, rfl⟩
 have hg1 : g ≤ 1 := by
  rw [hg]; unfold grandV
  split
  ·rw [hVl, hn, voteL_at h (by rw [hn] at hcn; omega)]
   cases winsB q l _ <;> decide
  ·omega
 have hmain : (codeS true g (voteR q l) = 1 ∨ codeS true g (voteR q l) = 2) → Cert (coreA n (cN n)) (coreB n) (coreC (voteL q l)) (voteR q l) ∧ val (slackR g (voteR q l)).1 = (g : Rat) + val (voteR q l).value ∧ valR (slackR g (voteR q l)).1 = true ∧ (codeS true g (voteR q l) = 2 ↔ (slackR g (voteR q l)).1.1 < 0) := by
  intro hc
  obtain ⟨c1, c2, c3⟩ := vote_code rfl hc
  have hst : (solveG boundI (coreA n (cN n)) (coreB n) (coreC (voteL q l))).status = 1 := by rw [hn]; exact c1
  obtain ⟨s1, _, s3, _⟩ := solveG_val hst
  have hce := cert_of s1 s3 hst
  rw [hn] at hce ⊢
  refine ⟨hce, ?_⟩
  unfold slackR at c2 c3 ⊢
  obtain ⟨a1, a2, a3, a4⟩ := val_add c2
  exact ⟨by rw [a4, val_whole], a3, c3⟩
 have hvl : ∀ k, k < n → (winsB q l ((cN n : Int) - 1 - 2 ^ k) = false ↔ (k : Int) ∈ vetoL q l) := by
  intro k hk
  unfold vetoL vetoT
  rw [if_pos h, List.mem_map, ← hn]
  constructor
  ·intro hw
   exact ⟨k, List.mem_filter.2 ⟨List.mem_range.2 hk, by rw [hw]; rfl⟩, rfl⟩
  ·rintro ⟨j, hj, hjk⟩
   obtain rfl : j = k := by omega
   have := (List.mem_filter.1 hj).2
   simpa using this
 rw [← hn, ← hg]
 constructor
 ·intro hc hv
  obtain ⟨hce, hsl, hsv, hs2⟩ := hmain (.inl hc)
  have hnn : 0 ≤ (g : Rat) + val (voteR q l).value := by
   rw [← hsl]
   refine (val_nonneg hsv).1 ?_
   have := mt hs2.2 (by rw [hc]; omega)
   omega
  have hgr : (g : Rat) ≤ 1 := by exact_mod_cast hg1
  obtain ⟨y, hy⟩ : ∃ y, y = vrow (voteR q l).Y := ⟨_, rfl⟩
  have hsum : val (voteR q l).value = sumN y n := by
   rw [hce.yb, hAl, hy]
   refine sumN_congr fun i hi => ?_
   unfold coreB
   rw [List.getElem?_replicate, if_pos hi]
   simp
  have hk : ∀ k, k < n → sumN y n - y k ≤ -1 := by
   intro k hk
   have hw : winsB q l ((cN n : Int) - 1 - 2 ^ k) = true := by
    cases hw : winsB q l ((cN n : Int) - 1 - 2 ^ k) with
    | true => rfl
    | false =>
      have := (hvl k hk).1 hw
      rw [List.eq_nil_of_length_eq_zero hv] at this
      cases this
   have hbd := but_bd_nat ⟨n, by omega⟩ ⟨k, by omega⟩ hk
   simp only at hbd
   obtain ⟨s, hs⟩ : ∃ s : Nat, (cN n : Int) - 1 - 2 ^ k = (s : Int) := ⟨((cN n : Int) - 1 - 2 ^ k).toNat, by omega⟩
   rw [hs] at hw hbd
   have hs0 : s ≠ 0 := by
    intro h0
    rw [h0] at hw
    have := winsB_zero h
    rw [show ((0 : Nat) : Int) = 0 by rfl] at hw
    rw [this] at hw; cases hw
   obtain ⟨j, rfl⟩ : ∃ j, s = j + 1 := ⟨s - 1, by omega⟩
   have hj : j < cN n - 1 := by omega
   have hcol := hce.col j (by rw [hCl]; exact hj)
   rw [vrow_core (by rw [hVl]; omega), voteL_at h (by rw [← hn]; omega), hw, hAl] at hcol
   have e : sumN (fun i => vrow (voteR q l).Y i * (ent (coreA n (cN n)) i j : Rat)) n = sumN y n - y k := by
    rw [hy]
    refine sumN_but (e := fun i => (ent (coreA n (cN n)) i j : Rat)) hk (fun i hi hik => ?_) ?_
    ·rw [ent_core hi (by omega) hj, Nat.add_comm 1 j, ← hs, bit_but_nat ⟨n, by omega⟩ ⟨k, by omega⟩ ⟨i, by omega⟩ hk hi]
     simp [hik, bitI]
    ·rw [ent_core hk (by omega) hj, Nat.add_comm 1 j, ← hs, bit_but_nat ⟨n, by omega⟩ ⟨k, by omega⟩ ⟨k, by omega⟩ hk hk]
     simp [bitI]
   rw [e] at hcol
   simpa [bitI] using hcol
  have hyk : ∀ k, k < n → 0 ≤ y k := by
   intro k hkn
   have := hk k hkn
   rw [hsum] at hnn
   grind
  have h0n := hk 0 (by omega)
  have : 0 ≤ sumN (fun i => y i * (if i = 0 then 0 else 1)) n := sumN_nn fun i hi => by
   by_cases hi0 : i = 0
   ·subst hi0; simp
   ·simp only [hi0, if_false]; have := hyk i hi; grind
  rw [sumN_but (k := 0) (by omega) (fun i _ hi => by simp [hi]) (by simp)] at this
  grind
 ·intro hc
  obtain ⟨hce, hsl, hsv, hs2⟩ := hmain (.inr hc)
  have hneg : (g : Rat) + val (voteR q l).value < 0 := by
   rw [← hsl]
   have h9 := hs2.1 hc
   have := mt (val_nonneg hsv).2 (by omega)
   grind
  refine Decidable.byContradiction fun hv => ?_
  obtain ⟨k, hkn, hw⟩ : ∃ k, k < n ∧ winsB q l ((cN n : Int) - 1 - 2 ^ k) = false := by
   have h0 : 0 < (vetoL q l).length := by omega
   have hm := List.getElem_mem h0
   generalize (vetoL q l)[0] = x at hm
   have hm2 := hm
   unfold vetoL vetoT at hm
   rw [if_pos h, List.mem_map] at hm
   obtain ⟨k, hk, rfl⟩ := hm
   have hkn := List.mem_range.1 (List.mem_filter.1 hk).1
   exact ⟨k, by omega, (hvl k (by omega)).2 hm2⟩
  have hcx := hce.cx
  have hrow := hce.row k (by rw [hAl]; exact hkn)
  rw [hCl] at hcx hrow
  unfold coreB at hrow
  rw [List.getElem?_replicate, if_pos hkn] at hrow
  have hle : sumN (fun j => (-1 : Rat) * ((ent (coreA n (cN n)) k j : Rat) * vrow (voteR q l).X j)) (cN n - 1) ≤ sumN (fun j => vrow (coreC (voteL q l)) j * vrow (voteR q l).X j) (cN n - 1) := by
   refine sumN_le fun j hj => ?_
   have hx := hce.x0 j (by rw [hCl]; exact hj)
   rw [vrow_core (by rw [hVl]; omega), voteL_at h (by rw [← hn]; omega), ent_core hkn (by omega) hj, Nat.add_comm 1 j]
   cases hb : bit ((j + 1 : Nat) : Int) k with
   | true =>
     cases winsB q l ((j + 1 : Nat) : Int) <;> simp [bitI] <;> grind
   | false =>
     have : winsB q l ((j + 1 : Nat) : Int) = false := by
      cases hwj : winsB q l ((j + 1 : Nat) : Int) with
      | false => rfl
      | true =>
        have := wins_mono h (t := (cN n : Int) - 1 - 2 ^ k) (fun i hi hbi => by
         rw [bit_but_nat ⟨n, by omega⟩ ⟨k, by omega⟩ ⟨i, by omega⟩ hkn (by simp only; omega)]
         have : i ≠ k := fun e => by rw [e, hb] at hbi; cases hbi
         simp [this]) hwj
        rw [hw] at this; cases this
     rw [this]; simp [bitI]
  have hz : sumN (fun j => (-1 : Rat) * ((ent (coreA n (cN n)) k j : Rat) * vrow (voteR q l).X j)) (cN n - 1) = -1 := by
   have := sumN_lin (fun _ => 0) (fun j => (ent (coreA n (cN n)) k j : Rat) * vrow (voteR q l).X j) (-1) (cN n - 1)
   rw [hrow, sumN_zero (fun _ _ => rfl)] at this
   have e : sumN (fun j => (-1 : Rat) * ((ent (coreA n (cN n)) k j : Rat) * vrow (voteR q l).X j)) (cN n - 1) = sumN (fun j => (0 : Rat) + (-1) * ((ent (coreA n (cN n)) k j : Rat) * vrow (voteR q l).X j)) (cN n - 1) := sumN_congr fun j _ => by grind
   rw [e, this]; simp; grind
  rw [hz, ← hcx] at hle
  have hgge : (1 : Int) ≤ g := by
   rw [hg, grandV_ok (by rw [hn]; exact vote_game h), hVl, hn, voteL_at h (by rw [← hn]; omega)]
   have e : ((cN l.length - 1 : Nat) : Int) = (cN l.length : Int) - 1 := by rw [← hn]; omega
   rw [e, wins_all h]; decide
  have : (1 : Rat) ≤ (g : Rat) := by exact_mod_cast hgge
  grind
set_option linter.unusedSimpArgs false
set_option maxRecDepth 100000
def one1 (_ : Nat) : Int := 1
def banzT (p : Int) (V : List Int) (k : Nat) : List (Int × Int) := if gameOk p V = true then avgT one1 V ((V.length : Int) / 2) k else []
def banzL (p : Int) (V : List Int) : List (Int × Int) := banzT p V p.toNat
theorem banzT_not {p : Int} {V : List Int} (k : Nat) (h : gameOk p V = false) : banzT p V k = [] := by simp [banzT, h]
theorem banzT_ok {p : Int} {V : List Int} (k : Nat) (h : gameOk p V = true) : banzT p V k = avgT one1 V ((V.length : Int) / 2) k := by simp [banzT, h]
set_option maxHeartbeats 4000000 in
theorem s_BanzhafValue {w : World} {x : Int} {a : Option Addr} {m cap : Nat} {V : List Int} (h : Ints w a m cap V) :
 Calls Tryz.prog 21 #[pair x a m cap] w fun e w' => (∃ v, e = .returned (.tuple #[v, .bool (gameOk x V)]) ∧ OwnR w' w.heap.size v (banzL x V)) ∧ Ext w w' := by
 have hi := h.alloc (.cells #[.int .i64 x, .slice a m cap] 29)
 have HX := Lib.hid (Ext.alloc w (.cells #[.int .i64 x, .slice a m cap] 29))
 have HL := Lib.hid h.hlen
 have HI := Lib.hid hi
 have HO := Lib.hid (OwnR.made (w.alloc (.cells #[.int .i64 x, .slice a m cap] 29)) (w.heap.size + 1) (by simp))
 have hmax := h.hmax
 have hcap := h.hcap
 clear h hi
 cases hv : gameOk x V
 ·have HVV := Lib.hid hv
  clear hv
  go_enter Tryz.func21, Tryz.ntmps21
  go_wp2
  go_loopw [4, 5] (fun o i wr => ∃ (a1 : Option Addr) (n1 p1 : Nat), i = .int .i64 0 ∧ o = .slice a1 n1 p1 ∧ Hid (OwnR wr (w.heap.size + 1) (.slice a1 n1 p1) []) ∧ Hid (Ext (w.alloc (.cells #[.int .i64 x, .slice a m cap] 29)) wr)) (fun _ i _ => 0)
  case atStart => exact ⟨_, _, _, rfl, rfl, Lib.hid (by simpa using HO.out), Lib.hid (Ext.alloc _ _)⟩
  case round =>
   obtain ⟨a1, n1, p1, rfl, rfl, HO2, HX2⟩ := hrel
   have c0 : wr.cell? ⟨w.heap.size, 0, none⟩ = some (.int .i64 x) := HX2.out.cellSome (by simp)
   have c1 : wr.cell? ⟨w.heap.size, 1, none⟩ = some (.slice a m cap) := HX2.out.cellSome (by simp)
   have HI2 := Lib.hid (HI.out.ext HX2.out)
   have HV := Lib.hid (s_IsValidGame (p := x) HI2.out)
   rw [HVV.out] at HV
   by_cases hlt : (0 : Int) < x
   ·go_wp2_with fail
    refine HV.out.mono ?_
    rintro e w2 ⟨rfl, hx2⟩
    have HI3 := Lib.hid (HI2.out.ext hx2)
    have HX3 := Lib.hid (HX2.out.trans hx2)
    have HO3 := Lib.hid (HO2.out.ext hx2)
    replace c0 := hx2.cellSome c0
    replace c1 := hx2.cellSome c1
    have HV := Lib.hid (s_IsValidGame (p := x) HI3.out)
    rw [HVV.out] at HV
    clear hx2
    go_wp2_with fail
    refine HV.out.mono ?_
    rintro e w3 ⟨rfl, hx3⟩
    go_wp2
    refine bodyPost_ret (v := .tuple #[.slice a1 n1 p1, .bool false]) (by simp [results, Tryz.results21, go_sem]) rfl ⟨⟨_, rfl, by unfold banzL; rw [banzT_not _ HVV.out]; exact (HO3.out.ext hx3).mono (by omega)⟩, HX.out.trans (HX3.out.trans hx3)⟩
   ·go_wp2_with fail
    refine HV.out.mono ?_
    rintro e w3 ⟨rfl, hx3⟩
    go_wp2
    refine bodyPost_ret (v := .tuple #[.slice a1 n1 p1, .bool false]) (by simp [results, Tryz.results21, go_sem]) rfl ⟨⟨_, rfl, by unfold banzL; rw [banzT_not _ HVV.out]; exact (HO2.out.ext hx3).mono (by omega)⟩, HX.out.trans (HX2.out.trans hx3)⟩
 obtain ⟨n, rfl, h1, h5, hlen, _, hbd⟩ := gameOk_len hv
 have HVV := Lib.hid hv
 have hm : m = cN n := by have := HL.out; omega
 have hN := cN_le n h5
 have HM := Lib.hid hm
 have HBD := Lib.hid hbd
 have hm32 : m ≤ 32 := by omega
 clear hv hlen hbd hm hN
 go_enter Tryz.func21, Tryz.ntmps21
 go_wp2
 go_loopw [4, 5] (fun o i wr => ∃ (k : Nat) (a1 : Option Addr) (n1 p1 : Nat), k ≤ n ∧ i = .int .i64 (k : Int) ∧ o = .slice a1 n1 p1 ∧ Hid (OwnR wr (w.heap.size + 1) (.slice a1 n1 p1) (banzT (n : Int) V k)) ∧ Hid (Ext (w.alloc (.cells #[.int .i64 (n : Int), .slice a m cap] 29)) wr)) (fun _ i _ => n - (intOf i).toNat)
 case atStart => exact ⟨0, _, _, _, Nat.zero_le _, rfl, rfl, Lib.hid (by rw [banzT_ok _ HVV.out, avgT_zero]; simpa using HO.out), Lib.hid (Ext.alloc _ _)⟩
 case round =>
  obtain ⟨k, a1, n1, p1, hk, rfl, rfl, HO1, HX1⟩ := hrel
  have c0 : wr.cell? ⟨w.heap.size, 0, none⟩ = some (.int .i64 (n : Int)) := HX1.out.cellSome (by simp)
  have c1 : wr.cell? ⟨w.heap.size, 1, none⟩ = some (.slice a m cap) := HX1.out.cellSome (by simp)
  have HI1 := Lib.hid (HI.out.ext HX1.out)
  have HV := Lib.hid (s_IsValidGame (p := (n : Int)) HI1.out)
  rw [HVV.out] at HV
  by_cases hlt : k < n
  ·go_wp2_with fail
   refine HV.out.mono ?_
   rintro e w2 ⟨rfl, hx2⟩
   have HI2 := Lib.hid (HI1.out.ext hx2)
   have HX2 := Lib.hid (HX1.out.trans hx2)
   have HO2 := Lib.hid (HO1.out.ext hx2)
   replace c0 := hx2.cellSome c0
   replace c1 := hx2.cellSome c1
   clear hx2
   have hin : inB (k : Int) 0 4 = true := by unfold inB; simp; omega
   have HC := Lib.hid (cntC_bit (k : Int) hin)
   clear hin
   go_wp2
   go_loopw [6, 7] (fun t i wr2 => ∃ (j : Nat), j ≤ m ∧ i = .int .i64 (j : Int) ∧ t = .int .i64 (avgS one1 V k j) ∧ Hid (Ext w2 wr2)) (fun _ i _ => m - (intOf i).toNat)
   case atStart => exact ⟨0, Nat.zero_le _, rfl, rfl, Lib.hid (Ext.refl _)⟩
   case round =>
    obtain ⟨j, hj, rfl, ht, HX3⟩ := hrel
    obtain ⟨T, hT⟩ : ∃ T, T = avgS one1 V k j := ⟨_, rfl⟩
    have hTb := avgS_bd HBD.out (fun i => by unfold one1; omega) k j (wt := one1)
    rw [← hT] at ht hTb
    subst ht
    have HT := Lib.hid hT
    clear hT
    have c1' := HX3.out.cellSome c1
    by_cases hlt2 : j < m
    ·have HI3 := Lib.hid (HI2.out.ext HX3.out)
     obtain ⟨b, off, he, hc⟩ := HI3.out.at hlt2
     have hv1 := getD_bd HBD.out j
     obtain ⟨v1, hy1⟩ : ∃ y, y = V[j]?.getD 0 := ⟨_, rfl⟩
     rw [← hy1] at hc hv1
     have HY1 := Lib.hid hy1
     clear hy1
     subst he
     have hb := hasP_bit (j : Int) k (by omega) (by omega)
     cases hbit : bit (j : Int) k
     ·rw [hbit] at hb
      have HB := Lib.hid hbit
      have HBB := Lib.hid hb
      have hu := up_lt h5 (by rw [← HM.out]; exact hlt2) hlt hbit
      obtain ⟨u, hu'⟩ : ∃ u : Nat, u = j + 2 ^ k := ⟨_, rfl⟩
      have hui : (j : Int) + 2 ^ k = (u : Int) := by rw [hu']; simp
      have hum : u < m := by rw [HM.out, hu']; exact hu
      obtain ⟨b2, off2, he2, hc2⟩ := HI3.out.at hum
      simp only [Option.some.injEq, Addr.mk.injEq, and_true] at he2
      obtain ⟨rfl, rfl⟩ := he2
      have hv2 := getD_bd HBD.out u
      obtain ⟨v2, hy2⟩ : ∃ y, y = V[u]?.getD 0 := ⟨_, rfl⟩
      rw [← hy2] at hc2 hv2
      have HY2 := Lib.hid hy2
      have HU := Lib.hid hu'
      have e1 : IntKind.i64.wrap (T + v2) = T + v2 := by rw [IntKind.wrap_i64]; omega
      have e2 : IntKind.i64.wrap (T + v2 - v1) = T + v2 - v1 := by rw [IntKind.wrap_i64]; omega
      have e3 : IntKind.i64.wrap ((j : Int) + 2 ^ k) = (u : Int) := by rw [hui, IntKind.wrap_i64]; omega
      have hk2 : Ext wr wr.drew := Ext.drew wr
      have hum32 : u ≤ 32 := by omega
      clear hy2 hbit hu hui hu' hb hv1 hv2 hTb
      go_wp2_with (first | (go_at_call 79; refine (s_HasPlayer _ _ _ (by omega)).mono ?_; rw [HBB.out]; rintro e w' ⟨rfl, rfl⟩))
      go_region_held3 (fun w' => w'.cell? ⟨w.heap.size, 1, none⟩ = some (.slice (some ⟨b, off, none⟩) m cap) ∧ w'.cell? ⟨b, off + u, none⟩ = some (.int .i64 v2) ∧ w'.cell? ⟨b, off + j, none⟩ = some (.int .i64 v1) ∧ Ext wr w')
       (exact ⟨hk2.cellSome c1', hk2.cellSome hc2, hk2.cellSome hc, hk2⟩)
       (first
         | (go_at_call 78; refine (s_l2Bit _ _).mono ?_; rw [HC.out]; rintro e w' ⟨rfl, rfl⟩))
      go_wp2
      go_roundw
      case rel => exact ⟨j + 1, by omega, by go_num, by unfold avgS; rw [HB.out, ← HT.out, ← HU.out, ← HY2.out, ← HY1.out]; simp [one1]; omega, Lib.hid (HX3.out.trans hk2)⟩
      case measure => simp [intOf]; omega
     ·rw [hbit] at hb
      have HB := Lib.hid hbit
      have HBB := Lib.hid hb
      clear hbit hb
      go_wp2_with (first | (go_at_call 79; refine (s_HasPlayer _ _ _ (by omega)).mono ?_; rw [HBB.out]; rintro e w' ⟨rfl, rfl⟩))
      go_roundw
      case rel => exact ⟨j + 1, by omega, by go_num, by unfold avgS; rw [HB.out, ← HT.out]; simp, HX3⟩
      case measure => simp [intOf]; omega
    ·have hjm : j = m := by omega
     subst hjm
     obtain ⟨p, q, ok, hpq⟩ : ∃ p q ok, ratOf T ((j : Int) / 2) = ((p, q), ok) := ⟨_, _, _, rfl⟩
     have HPQ := Lib.hid hpq
     have X12 := Lib.hid (HX2.out.trans HX3.out)
     have HO3 := Lib.hid (HO2.out.ext HX3.out)
     have hsz2 : w.heap.size + 1 ≤ wr.heap.size := by have := X12.out.size; simpa using this
     clear hpq
     go_wp2_with fail
     refine (s_RatOf _ _ _).mono ?_
     rw [HPQ.out]
     rintro e w3 ⟨rfl, hx3⟩
     have X3 := Lib.hid (X12.out.trans hx3)
     have HO4 := Lib.hid (HO3.out.ext hx3)
     have hsz3 := hx3.size
     clear hx3
     go_wp2_with (first
      | (at_builtin; refine append_rats rfl _ _ rfl (w.heap.size + 1) (.slice a1 n1 p1) _ rfl ((HO4.out.ext (Ext.alloc _ _)).ext (Ext.alloc _ _)) _ 1 _ [(p, q)] rfl (Rats.one' _ _ _ _ _ (by simp)) (by rw [banzT_ok _ HVV.out, avgT_len]; omega) (by simp; omega) ?_; intro v2 w4 ho hg hnear; obtain ⟨a2, n2, c2, rfl, HN2⟩ := ho.var; have HO5 := Lib.hid ho; have HG4 := Lib.hid hg; clear ho hg hnear))
     go_roundw
     case rel =>
      refine ⟨k + 1, a2, n2, c2, by omega, by go_num, rfl, Lib.hid ?_, Lib.hid ?_⟩
      ·have := HO5.out
       rw [banzT_ok _ HVV.out] at this ⊢
       rw [HL.out] at this
       rw [avgT_succ, avgR, HL.out, ← HT.out, HPQ.out]; exact this
      ·exact ext_grown (X3.out.trans ((Ext.alloc _ _).trans (Ext.alloc _ _))) HG4.out (fun j hj => by have := (HO4.out.lt j hj).1; simpa using this)
     case measure => simp [intOf]; omega
  ·go_wp2_with fail
   refine HV.out.mono ?_
   rintro e w3 ⟨rfl, hx3⟩
   go_wp2
   have hkn : k = n := by omega
   subst hkn
   refine bodyPost_ret (v := .tuple #[.slice a1 n1 p1, .bool true]) (by simp [results, Tryz.results21, go_sem]) rfl ⟨⟨_, rfl, by unfold banzL; exact (HO1.out.ext hx3).mono (by omega)⟩, HX.out.trans (HX1.out.trans hx3)⟩
end Go.Proofs.YthjjfkeacobikaaGreat
