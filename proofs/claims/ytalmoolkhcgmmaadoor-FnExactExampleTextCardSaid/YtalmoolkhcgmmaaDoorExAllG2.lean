import Derived.Test.YtalmoolkhcgmmaaDoorExAllG1
import Derived.Test.YtalmoolkhcgmmaaDoorExAllG0
import Derived.StillTail
import Derived.Deep.RegionHeld3
namespace Go.Proofs.YtalmoolkhcgmmaaDoor
set_option linter.unusedVariables false
set_option linter.unusedSimpArgs false
open Go.RowKit
def memN (s : Int) (m : Nat) : List Nat := (List.range m).filter fun (k : Nat) => bit s k
def memI (s : Int) (m : Nat) : List Int := (memN s m).map fun (k : Nat) => (k : Int)
theorem memI_succ (s : Int) (m : Nat) : memI s (m + 1) = memI s m ++ (if bit s m then [(m : Int)] else []) := by
 unfold memI memN
 cases h : bit s m <;> simp [List.range_succ, h]
theorem memI_len (s : Int) (m : Nat) : (memI s m).length ≤ m := by
 unfold memI memN
 simpa using List.length_filter_le (fun (k : Nat) => bit s k) (List.range m)
theorem memI_at (s : Int) (i : Nat) (h : i < (memI s 5).length) : ∃ k : Nat, (memI s 5)[i]?.getD 0 = (k : Int) ∧ k < 5 ∧ bit s k = true ∧ (memN s 5)[i]? = some k := by
 have h' : i < (memN s 5).length := by simpa [memI] using h
 refine ⟨(memN s 5)[i], ?_, ?_⟩
 ·simp [memI, h']
 ·have hm : (memN s 5)[i] ∈ memN s 5 := List.getElem_mem h'
  have h2 := List.mem_filter.1 hm
  exact ⟨List.mem_range.1 h2.1, h2.2, by simp [h']⟩
set_option maxHeartbeats 1000000 in
theorem i_MembersOf (s : Nat) (hs : s < 32) (w : World) :
 Calls Tryd.prog 54 #[.int .i64 (s : Int)] w fun e w' => ∃ v, e = .returned v ∧ OwnI w' w.heap.size v (memI (s : Int) 5) ∧ Ext w w' := by
 have hin : inB (s : Int) 0 31 = true := by unfold inB; simp; omega
 have HO := Lib.hid (OwnI.made w w.heap.size (Nat.le_refl _))
 go_enter Tryd.func54, Tryd.ntmps54
 go_wp2_with (first | (go_at_call 50; refine (i_within _ _ _ _).mono ?_; rintro e w' ⟨rfl, rfl⟩))
 go_loopw [9, 3] (fun i o wr => ∃ (k : Nat) (a1 : Option Addr) (n1 c1 : Nat), k ≤ 5 ∧ i = .int .i64 (k : Int) ∧ o = .slice a1 n1 c1 ∧ Hid (OwnI wr w.heap.size (.slice a1 n1 c1) (memI (s : Int) k)) ∧ Hid (Ext w wr)) (fun i _ _ => 5 - (intOf i).toNat)
 case atStart => exact ⟨0, _, _, _, Nat.zero_le _, rfl, rfl, HO, Lib.hid (Ext.alloc _ _)⟩
 case round =>
  obtain ⟨k, a1, n1, c1, hk, rfl, rfl, HO1, HX1⟩ := hrel
  have hsz := HX1.out.size
  by_cases hlt : k < 5
  ·have HB := Lib.hid (hasP_bit (s : Int) k (by omega) (by omega))
   cases hbit : bit (s : Int) k
   ·rw [hbit] at HB
    have HS := Lib.hid hbit
    clear hbit
    go_wp2_with (first | (go_at_call 40; refine (i_HasPlayer _ _ _ (by omega)).mono ?_; rw [HB.out]; rintro e w3 ⟨rfl, rfl⟩))
    go_roundw
    case rel => exact ⟨k + 1, a1, n1, c1, by omega, by go_num, rfl, Lib.hid (by rw [memI_succ, HS.out]; simpa using HO1.out), HX1⟩
    case measure => simp [intOf]; omega
   ·rw [hbit] at HB
    have HS := Lib.hid hbit
    clear hbit
    go_wp2_with (first
     | (go_at_call 40; refine (i_HasPlayer _ _ _ (by omega)).mono ?_; rw [HB.out]; rintro e w3 ⟨rfl, rfl⟩)
     | (at_builtin; refine append_ints rfl _ _ rfl w.heap.size (.slice a1 n1 c1) _ rfl (HO1.out.ext (Ext.alloc _ _)) _ 1 _ [(k : Int)] rfl (Ints.one _ _ _) (by have := memI_len (s : Int) k; omega) (by simp; omega) ?_; intro v2 w3 ho hg hnear; obtain ⟨a2, n2, c2, rfl, HN2⟩ := ho.var; have HO4 := Lib.hid ho; have HG4 := Lib.hid hg; clear ho hg hnear))
    go_roundw
    case rel =>
     refine ⟨k + 1, a2, n2, c2, by omega, by go_num, rfl, Lib.hid ?_, Lib.hid ?_⟩
     ·rw [memI_succ, HS.out]; exact HO4.out
     ·exact ext_grown (HX1.out.trans (Ext.alloc _ _)) HG4.out (fun j hj => (HO1.out.lt j hj).1)
    case measure => simp [intOf]; omega
  ·have hk5 : k = 5 := by omega
   subst hk5
   go_wp2
   go_ret
   exact ⟨_, rfl, HO1.out, HX1.out⟩
set_option maxRecDepth 100000
theorem s_l2GoodE (s : Int) (w : World) : Calls Tryd.prog 29 #[.int .i64 s] w fun e w' => e = .returned (.bool (inB s 0 31)) ∧ w = w' := by
 go_enter Tryd.func29, Tryd.ntmps29
 go_wp2_with (first | (go_at_call 27; refine (s_l1In _ _ _ _).mono ?_; rintro e w' ⟨rfl, rfl⟩))
 go_ret
 exact ⟨rfl, rfl⟩
def letT (s : Int) (m : Nat) : List UInt8 := (memN s m).map fun k => UInt8.ofNat (97 + k)
theorem bs_list (l : List UInt8) : (bs l).toList = l := ByteArray.toList_mk l
theorem letT_succ (s : Int) (m : Nat) : letT s (m + 1) = letT s m ++ (if bit s m then [UInt8.ofNat (97 + m)] else []) := by
 unfold letT memN
 rw [List.range_succ, List.filter_append, List.map_append]
 cases hb : bit s m
 ·simp [List.filter_cons, hb]
 ·simp [List.filter_cons, hb]
theorem letT_len (s : Int) (m : Nat) : (letT s m).length ≤ m := by
 unfold letT memN
 rw [List.length_map]
 exact Nat.le_trans (List.length_filter_le _ _) (by simp)
def coalT (s : Int) : List UInt8 := if letT s 5 = [] then [45] else letT s 5
theorem coalT_len (s : Int) : (coalT s).length ≤ 5 := by
 unfold coalT
 split
 ·simp
 ·exact letT_len s 5
set_option maxHeartbeats 4000000 in
theorem s_FormatCoalition {w : World} (s : Nat) (hs : s < 32) :
 Calls Tryd.prog 12 #[.int .i64 (s : Int)] w fun e w' => e = .returned (.string (bs (coalT (s : Int)))) ∧ Ext w w' := by
 have hin : inB (s : Int) 0 31 = true := by unfold inB; simp; omega
 have HG := Lib.hid (fun w' => s_l2GoodE (s : Int) w')
 rw [hin] at HG
 clear hin
 go_enter Tryd.func12, Tryd.ntmps12
 go_wp2_with fail
 refine (HG.out _).mono ?_
 rintro e w1 ⟨rfl, rfl⟩
 go_wp2_with fail
 go_loopg [3, 4] 5 (fun gk oo kk wr => ∃ (k : Nat), Hid (gk + k = 5) ∧ kk = .int .i64 (k : Int) ∧ oo = .string (bs (letT (s : Int) k)) ∧ Hid (Ext w wr))
 case atStart => exact ⟨0, Lib.hid rfl, rfl, rfl, Lib.hid (Ext.refl _)⟩
 case round =>
  obtain ⟨g1, h_g1⟩ : ∃ x, x = gk := ⟨_, rfl⟩
  subst h_g1
  obtain ⟨wr, h_wr⟩ : ∃ x, x = wr := ⟨_, rfl⟩
  subst h_wr
  obtain ⟨k, HK, rfl, rfl, HX⟩ := hrel
  have HLL := Lib.hid (letT_len (s : Int) k)
  by_cases hlt : k < 5
  ·have HP := Lib.hid (s_HasPlayer (s : Int) (k : Int) wr (by omega))
   have HB := Lib.hid (hasP_bit (s : Int) k (by omega) (by omega))
   have HS := Lib.hid (letT_succ (s : Int) k)
   cases hb : bit (s : Int) k
   ·rw [HB.out, hb] at HP
    rw [hb] at HS
    clear hb
    go_wp2_with fail
    refine HP.out.mono ?_
    rintro e w' ⟨rfl, rfl⟩
    go_wp2_with fail
    go_roundg (g1 - 1)
    case measure => have := HK.out; omega
    case rel => exact ⟨k + 1, Lib.hid (by have := HK.out; omega), by go_num, by rw [HS.out]; simp, HX⟩
   ·rw [HB.out, hb] at HP
    rw [hb] at HS
    clear hb
    go_wp2_with fail
    refine HP.out.mono ?_
    rintro e w' ⟨rfl, rfl⟩
    have hcase : k = 0 ∨ k = 1 ∨ k = 2 ∨ k = 3 ∨ k = 4 := by omega
    obtain ⟨tx, htx⟩ : ∃ t, t = bs (letT (s : Int) k) := ⟨_, rfl⟩
    have HT := Lib.hid htx
    rw [← htx]
    clear htx
    have hfit : ¬ 9223372036854775807 < tx.size + 1 := by rw [HT.out, bs_size]; have := HLL.out; omega
    rcases hcase with rfl | rfl | rfl | rfl | rfl
    all_goals
     go_wp2_with fail
     go_roundg (g1 - 1)
     case measure => have := HK.out; omega
     case rel =>
      refine ⟨_ + 1, Lib.hid (by have := HK.out; omega), rfl, ?_, HX⟩
      rw [HS.out, if_pos trivial, ← bs_add, ← HT.out]
      rfl
  ·have hk5 : k = 5 := by have := HK.out; omega
   subst hk5
   obtain ⟨tx, htx⟩ : ∃ t, t = bs (letT (s : Int) 5) := ⟨_, rfl⟩
   have HT := Lib.hid htx
   rw [← htx]
   clear htx
   go_wp2_with fail
   ·rename_i h
    go_ret
    refine ⟨ret_str ?_, HX.out⟩
    have h2 : letT (s : Int) 5 = [] := by rw [HT.out, bs_list] at h; exact List.isEmpty_iff.1 h
    unfold coalT
    rw [if_pos h2]
    rfl
   ·rename_i h
    go_ret
    refine ⟨ret_str ?_, HX.out⟩
    have h2 : letT (s : Int) 5 ≠ [] := fun e => by rw [HT.out, bs_list, e] at h; exact absurd h (by decide)
    unfold coalT
    rw [if_neg h2]
    exact HT.out
set_option maxHeartbeats 4000000 in
theorem i_FormatCoalition {w : World} (s : Nat) (hs : s < 32) :
 Calls Tryd.prog 26 #[.int .i64 (s : Int)] w fun e w' => e = .returned (.string (bs (coalT (s : Int)))) ∧ Ext w w' := by
 have hin : inB (s : Int) 0 31 = true := by unfold inB; simp; omega
 have HM := Lib.hid (i_MembersOf s hs w)
 obtain ⟨L, hL⟩ : ∃ L, L = memI (s : Int) 5 := ⟨_, rfl⟩
 have HLE := Lib.hid (show letT (s : Int) 5 = L.map (fun k => UInt8.ofNat (97 + k.toNat)) by
  rw [hL]; unfold memI letT; rw [List.map_map]; rfl)
 have HLL := Lib.hid (show L.length ≤ 5 by rw [hL]; exact memI_len _ _)
 have HLB := Lib.hid (show ∀ i, i < L.length → ∃ k : Nat, L[i]?.getD 0 = (k : Int) ∧ k < 5 from fun i hi => by
  rw [hL] at hi ⊢
  obtain ⟨k, h1, h2, _⟩ := memI_at (s : Int) i hi
  exact ⟨k, h1, h2⟩)
 rw [← hL] at HM
 clear hL
 go_enter Tryd.func26, Tryd.ntmps26
 go_wp2_with (first | (go_at_call 50; refine (i_within _ _ _ _).mono ?_; rw [hin]; rintro e w' ⟨rfl, rfl⟩))
 refine HM.out.mono ?_
 rintro e w1 ⟨v, rfl, ho, hx⟩
 obtain ⟨a1, n1, c1, rfl, HN⟩ := ho.var
 have HI := Lib.hid ho.ints
 have hn5 : n1 ≤ 5 := by have := HN.out; have := HLL.out; omega
 have HX1 := Lib.hid hx
 clear ho hx
 go_wp2_with fail
 go_loopg [3, 12] n1 (fun gk oo kk wr => ∃ (k : Nat), Hid (gk + k = n1) ∧ kk = .int .i64 (k : Int) ∧ oo = .string (bs ((L.map (fun k => UInt8.ofNat (97 + k.toNat))).take k)) ∧ Hid (Ext w1 wr))
 case atStart => exact ⟨0, Lib.hid (by omega), rfl, rfl, Lib.hid (Ext.refl _)⟩
 case round =>
  obtain ⟨g1, h_g1⟩ : ∃ x, x = gk := ⟨_, rfl⟩
  subst h_g1
  obtain ⟨wr, h_wr⟩ : ∃ x, x = wr := ⟨_, rfl⟩
  subst h_wr
  obtain ⟨k, HK, rfl, rfl, HX⟩ := hrel
  by_cases hlt : k < n1
  ·obtain ⟨b, off, rfl, hc⟩ := (HI.out.ext HX.out).at hlt
   obtain ⟨j, hj, hj5⟩ := HLB.out k (by rw [HN.out]; exact hlt)
   rw [hj] at hc
   have hki : (k : Int) < (n1 : Int) := by omega
   have hk0 : (0 : Int) ≤ (k : Int) := by omega
   obtain ⟨x, hx⟩ : ∃ x, x = UInt8.ofNat (97 + j) := ⟨_, rfl⟩
   obtain ⟨M, hM⟩ : ∃ M, M = L.map (fun k => UInt8.ofNat (97 + k.toNat)) := ⟨_, rfl⟩
   have HTK := Lib.hid (show M.take (k + 1) = M.take k ++ [x] by
    have hkl : k < M.length := by rw [hM, List.length_map, HN.out]; exact hlt
    rw [List.take_succ_eq_append_getElem hkl]
    have hkl2 : k < L.length := by rw [HN.out]; exact hlt
    have h1 : L[k] = (j : Int) := by rw [List.getElem?_eq_getElem hkl2, Option.getD_some] at hj; exact hj
    simp only [hM, List.getElem_map, h1, hx, Int.toNat_natCast])
   have hw8 : IntKind.u8.wrap (97 + (j : Int)) = 97 + (j : Int) := by rw [IntKind.wrap_u8]; omega
   have hw6 : IntKind.i64.wrap (97 + (j : Int)) = 97 + (j : Int) := by rw [IntKind.wrap_i64]; omega
   have hcv := conv_one (w := wr) x (y := 97 + (j : Int)) (by rw [hx, UInt8.toNat_ofNat']; omega)
   have hfit : ¬ 9223372036854775807 < (bs (M.take k)).size + (bs [x]).size := by
    rw [bs_size, bs_size]
    have : (M.take k).length ≤ k := by rw [List.length_take]; omega
    simp
    omega
   rw [← hM]
   have HA := Lib.hid (bs_add (M.take k) [x])
   have HMM := Lib.hid hM
   clear hx hj hM
   go_wp2_with fail
   rw [HA.out]
   go_roundg (g1 - 1)
   case measure => have := HK.out; omega
   case rel => exact ⟨k + 1, Lib.hid (by have := HK.out; omega), by go_num, by rw [← HMM.out, HTK.out], Lib.hid (HX.out.trans (Ext.alloc _ _))⟩
  ·have hkn : n1 = k := by have := HK.out; omega
   subst hkn
   obtain ⟨tx, htx⟩ : ∃ t, t = bs ((L.map (fun k => UInt8.ofNat (97 + k.toNat))).take n1) := ⟨_, rfl⟩
   have HT := Lib.hid (show tx = bs (letT (s : Int) 5) by rw [htx, HLE.out, List.take_of_length_le (by rw [List.length_map, HN.out]; omega)])
   rw [← htx]
   clear htx
   go_wp2_with fail
   ·rename_i h
    go_ret
    refine ⟨ret_str ?_, HX1.out.trans HX.out⟩
    have h2 : letT (s : Int) 5 = [] := by rw [HT.out, bs_list] at h; exact List.isEmpty_iff.1 h
    unfold coalT
    rw [if_pos h2]
    rfl
   ·rename_i h
    go_ret
    refine ⟨ret_str ?_, HX1.out.trans HX.out⟩
    have h2 : letT (s : Int) 5 ≠ [] := fun e => by rw [HT.out, bs_list, e] at h; exact absurd h (by decide)
    unfold coalT
    rw [if_neg h2]
    exact HT.out
def gameOk (p : Int) (l : List Int) : Bool := l.all (fun x => inB x (-500) 500) && (inB p 1 5 && (decide ((l.length : Int) = cntC p) && decide (l[0]?.getD 0 = 0)))
theorem gameOk_len {p : Int} {l : List Int} (h : gameOk p l = true) : ∃ n : Nat, p = n ∧ 1 ≤ n ∧ n ≤ 5 ∧ l.length = cN n ∧ l[0]?.getD 0 = 0 ∧ ∀ x ∈ l, -500 ≤ x ∧ x ≤ 500 := by
 unfold gameOk at h
 simp only [Bool.and_eq_true, decide_eq_true_eq] at h
 obtain ⟨ha, hp, hl, h0⟩ := h
 have hb : 1 ≤ p ∧ p ≤ 5 := by unfold inB at hp; simpa using hp
 refine ⟨p.toNat, by omega, by omega, by omega, ?_, h0, ?_⟩
 ·have : p = (p.toNat : Int) := by omega
  rw [this, cntC_nat _ (by omega)] at hl
  omega
 ·intro x hx
  have := List.all_eq_true.1 ha x hx
  unfold inB at this
  simpa using this
set_option maxHeartbeats 1000000 in
theorem s_IsValidGame {w : World} {p : Int} {a : Option Addr} {n cap : Nat} {l : List Int} (h : Ints w a n cap l) :
 Calls Tryd.prog 10 #[pair p a n cap] w fun e w' => e = .returned (.bool (gameOk p l)) ∧ Ext w w' := by
 have h1 := h.alloc (.cells #[.int .i64 p, .slice a n cap] 27)
 have hn := h.hcap
 have hm := h.hmax
 have HL := Lib.hid h.hlen
 clear h
 go_enter Tryd.func10, Tryd.ntmps10
 go_wp2
 go_loop [3] (fun i => ∃ k : Nat, k ≤ n ∧ i = .int .i64 k ∧ (l.take k).all (fun x => inB x (-500) 500) = true) (fun i => n - (intOf i).toNat)
 case atStart => exact ⟨0, Nat.zero_le _, rfl, rfl⟩
 case round =>
  obtain ⟨k, hk, rfl, hall⟩ := hrel
  have HA := Lib.hid hall
  clear hall
  by_cases hlt : k < n
  ·obtain ⟨b, off, rfl, hc⟩ := h1.at hlt
   cases hb : inB (l[k]?.getD 0) (-500) 500
   ·have HB := Lib.hid hb
    go_wp2_with (first | (go_at_call 27; refine (s_l1In _ _ _ _).mono ?_; rintro e w' ⟨rfl, rfl⟩))
    go_ret
    refine ⟨ret_bool ?_, Ext.alloc _ _⟩
    symm
    unfold gameOk
    cases hx : l.all (fun x => inB x (-500) 500)
    ·rfl
    ·have := all_get hx (k := k) (by have := HL.out; omega); rw [HB.out] at this; cases this
   ·have HB := Lib.hid hb
    go_wp2_with (first | (go_at_call 27; refine (s_l1In _ _ _ _).mono ?_; rintro e w' ⟨rfl, rfl⟩))
    go_round
    case rel => exact ⟨k + 1, by omega, by go_num, by rw [take_snoc (by have := HL.out; omega), List.all_append, HA.out]; simpa using HB.out⟩
    case measure => simp [intOf]; omega
  ·have hkn : k = l.length := by have := HL.out; omega
   have hall := HA.out
   rw [hkn, List.take_length] at hall
   have HALL := Lib.hid hall
   clear hall hkn
   cases hp : inB p 1 5
   ·have HP := Lib.hid hp
    go_wp2
    go_quiet ((first | (go_at_call 27; exact quiet_same (s_l1In _ _ _ _)) | (go_at_call 28; exact quiet_same (s_CountCoalitions _ _))))
    go_wp2
    go_ret
    exact ⟨ret_bool (by unfold gameOk; rw [HALL.out, HP.out]; rfl), below_drewN (Ext.alloc _ _) _⟩
   ·have HP := Lib.hid hp
    cases hl : ((n : Int) == cntC p)
    ·have HE := Lib.hid hl
     go_wp2
     go_quiet ((first | (go_at_call 27; exact quiet_same (s_l1In _ _ _ _)) | (go_at_call 28; exact quiet_same (s_CountCoalitions _ _))))
     go_wp2
     go_ret
     refine ⟨ret_bool ?_, below_drewN (Ext.alloc _ _) _⟩
     have : ¬ ((l.length : Int) = cntC p) := by rw [HL.out]; have := HE.out; simpa using this
     unfold gameOk; rw [decide_eq_false this]; simp
    ·have HE := Lib.hid hl
     have hpos : 0 < n := by
      have h1 : 1 ≤ p ∧ p ≤ 5 := by unfold inB at hp; simpa using hp
      have h2 : (n : Int) = cntC p := by simpa using hl
      unfold cntC at h2
      rw [if_pos (by unfold inB; simp; omega)] at h2
      have := pow_pos p.toNat
      omega
     obtain ⟨b, off, rfl, hc⟩ := h1.at hpos
     rw [Nat.add_zero] at hc
     go_wp2
     go_quiet ((first | (go_at_call 27; exact quiet_same (s_l1In _ _ _ _)) | (go_at_call 28; exact quiet_same (s_CountCoalitions _ _))))
     go_wp2
     go_ret
     refine ⟨ret_bool ?_, below_drewN (Ext.alloc _ _) _⟩
     have he : (l.length : Int) = cntC p := by rw [HL.out]; have := HE.out; simpa using this
     unfold gameOk
     rw [HALL.out, HP.out, decide_eq_true he]
     rw [Bool.eq_iff_iff]; simp
theorem i_IsValidGame1 (x : Int) (w : World) : Calls Tryd.prog 52 #[.int .i64 x] w fun e w' => e = .returned (.bool (!inB x (-500) 500)) ∧ w = w' := by
 go_enter Tryd.func52, Tryd.ntmps52
 go_wp2_with (first | (go_at_call 50; refine (i_within _ _ _ _).mono ?_; rintro e w' ⟨rfl, rfl⟩))
 go_ret
 exact ⟨rfl, rfl⟩
theorem go_IsValidGame1 : IsGo Tryd.prog 52 := isGo Tryd.func52 (by kernel_rfl) (by kernel_rfl)
theorem asks_IsValidGame1 (w : World) : Asks Tryd.prog w 52 #[] (fun x => !inB x (-500) 500) :=
 fun x w1 _ => (i_IsValidGame1 x w1).mono fun e w' ⟨he, hw⟩ => ⟨he, hw ▸ Ext.refl _⟩
theorem gameOk_any (p : Int) (l : List Int) : gameOk p l = (inB p 1 5 && (decide ((l.length : Int) = cntC p) && (decide (l[0]?.getD 0 = 0) && !l.any (fun x => !inB x (-500) 500)))) := by
 unfold gameOk
 have : (!l.any (fun x => !inB x (-500) 500)) = l.all (fun x => inB x (-500) 500) := by rw [List.not_any_eq_all_not]; simp
 rw [this]
 cases l.all (fun x => inB x (-500) 500) <;> simp
set_option maxHeartbeats 1000000 in
theorem i_IsValidGame {w : World} {p : Int} {a : Option Addr} {n cap : Nat} {l : List Int} (h : Ints w a n cap l) :
 Calls Tryd.prog 24 #[pair p a n cap] w fun e w' => e = .returned (.bool (gameOk p l)) ∧ Ext w w' := by
 have h1 := h.alloc (.cells #[.int .i64 p, .slice a n cap] 27)
 have HX := Lib.hid (Ext.alloc w (.cells #[.int .i64 p, .slice a n cap] 27))
 have hn := h.hcap
 have hm := h.hmax
 have HL := Lib.hid h.hlen
 clear h
 cases hp : inB p 1 5
 ·have HP := Lib.hid hp
  go_enter Tryd.func24, Tryd.ntmps24
  go_wp2
  go_quiet ((first | (go_at_call 50; exact quiet_same (i_within _ _ _ _))))
  go_wp2
  go_ret
  exact ⟨ret_bool (by rw [gameOk_any, HP.out]; rfl), below_drewN (Ext.alloc _ _) _⟩
 ·have HP := Lib.hid hp
  obtain ⟨m, rfl⟩ : ∃ m : Nat, p = m := ⟨p.toNat, by unfold inB at hp; simp at hp; omega⟩
  have hm1 : 1 ≤ m ∧ m ≤ 5 := by unfold inB at hp; simp at hp; omega
  obtain ⟨hm1, hm5⟩ := hm1
  have hwp : IntKind.i64.wrap ((2 : Int) ^ m) = (cN m : Int) := by
   have h1 := pow_pos m
   have h2 := pow_le5 m hm5
   rw [IntKind.wrap_i64, cN_pow]; omega
  have hwp' : wrap64 ((2 : Int) ^ m) = (cN m : Int) := (wrap_pow m hm5).trans (cN_pow m).symm
  have HC := Lib.hid (cntC_nat m hm5)
  have hN := cN_le m hm5
  cases hl : ((n : Int) != (cN m : Int))
  ·have hnm : n = cN m := Int.ofNat.inj (show (n : Int) = (cN m : Int) by simpa using hl)
   have HNM := Lib.hid hnm
   have hpos : 0 < n := by omega
   obtain ⟨b, off, rfl, hc⟩ := h1.at hpos
   rw [Nat.add_zero] at hc
   clear hnm
   cases h0 : (l[0]?.getD 0 != 0)
   ·have HZ := Lib.hid h0
    have HI := Lib.hid h1
    go_enter Tryd.func24, Tryd.ntmps24
    go_wp2
    go_quiet ((first | (go_at_call 50; exact quiet_same (i_within _ _ _ _))))
    go_wp2_with fail
    refine (containsFunc_ints (HI.out.drewN _) go_IsValidGame1 (asks_IsValidGame1 _)).mono ?_
    rintro e w1 ⟨rfl, hx⟩
    go_wp2
    go_ret
    refine ⟨ret_bool ?_, Ext.trans (below_drewN HX.out _) hx⟩
    rw [gameOk_any, HP.out, HC.out, HL.out, HNM.out, decide_eq_true rfl]
    have : l[0]?.getD 0 = 0 := by simpa using HZ.out
    rw [decide_eq_true this]
    rfl
   ·have HZ := Lib.hid h0
    go_enter Tryd.func24, Tryd.ntmps24
    go_wp2
    go_quiet ((first | (go_at_call 50; exact quiet_same (i_within _ _ _ _))))
    go_wp2
    go_ret
    refine ⟨ret_bool ?_, below_drewN HX.out _⟩
    have : ¬ (l[0]?.getD 0 = 0) := by simpa using HZ.out
    rw [gameOk_any, decide_eq_false this]
    simp
  ·have HNE := Lib.hid hl
   go_enter Tryd.func24, Tryd.ntmps24
   go_wp2
   go_quiet ((first | (go_at_call 50; exact quiet_same (i_within _ _ _ _))))
   go_wp2
   go_ret
   refine ⟨ret_bool ?_, below_drewN HX.out _⟩
   have : ¬ ((l.length : Int) = cntC (m : Int)) := by rw [HL.out, HC.out]; have := HNE.out; simpa using this
   rw [gameOk_any, decide_eq_false this]
   simp
theorem dec_len {n : Nat} (h : n ≤ 1000000) : (Lib.decDigits n).length ≤ 21 := by
 have := Lib.itoa_length_le (n : Int) (by omega) (by omega)
 rwa [Lib.itoa_nonneg] at this
def lineT (V : List Int) (k : Nat) : List UInt8 := if V[k]?.getD 0 = 0 then [] else coalT (k : Int) ++ ([32] ++ (Lib.decDigits (V[k]?.getD 0).toNat ++ [10]))
def linesT (V : List Int) (m : Nat) : List UInt8 := (List.range m).flatMap (lineT V)
theorem linesT_succ (V : List Int) (m : Nat) : linesT V (m + 1) = linesT V m ++ lineT V m := by
 unfold linesT
 rw [List.range_succ, List.flatMap_append]
 simp
def headT (p : Nat) : List UInt8 := [112, 108, 97, 121, 101, 114, 115, 32] ++ (Lib.decDigits p ++ [10])
theorem linesT_len {V : List Int} (hV : ∀ k : Nat, V[k]?.getD 0 ≤ 1000000) : ∀ m, (linesT V m).length ≤ 40 * m
 | 0 => by simp [linesT]
 | m + 1 => by
   rw [linesT_succ, List.length_append]
   have h1 := linesT_len hV m
   have h2 : (lineT V m).length ≤ 40 := by
    unfold lineT
    split
    ·simp
    ·have h3 := coalT_len (m : Int)
     have h4 := dec_len (n := (V[m]?.getD 0).toNat) (by have := hV m; omega)
     simp only [List.length_append, List.length_cons, List.length_nil]
     omega
   omega
def gameT (p : Nat) (V : List Int) : List UInt8 := if gameOk (p : Int) V = true then headT p ++ linesT V V.length else []
set_option maxHeartbeats 8000000 in
theorem s_FormatGame {w : World} {p : Nat} {a : Option Addr} {n cap : Nat} {V : List Int} (h : Ints w a n cap V) (hV : ∀ k : Nat, 0 ≤ V[k]?.getD 0 ∧ V[k]?.getD 0 ≤ 1000000) :
 Calls Tryd.prog 6 #[pair (p : Int) a n cap] w fun e w' => e = .returned (.string (bs (gameT p V))) ∧ Ext w w' := by
 obtain ⟨W, hW⟩ : ∃ W, W = w.alloc (.cells #[.int .i64 (p : Int), .slice a n cap] 27) := ⟨_, rfl⟩
 have hxW : Ext w W := by rw [hW]; exact Ext.alloc _ _
 have HXW := Lib.hid hxW
 have HI := Lib.hid (h.ext hxW)
 have hcap := h.hcap
 have hmax := h.hmax
 have HL := Lib.hid h.hlen
 have G0 := Lib.hid (show W.cell? ⟨w.heap.size, 0, none⟩ = some (.int .i64 (p : Int)) by rw [hW]; simp)
 have G1 := Lib.hid (show W.cell? ⟨w.heap.size, 1, none⟩ = some (.slice a n cap) by rw [hW]; simp)
 have HV := Lib.hid hV
 have HOK := Lib.hid (s_IsValidGame (p := (p : Int)) HI.out)
 cases hok : gameOk (p : Int) V
 ·rw [hok] at HOK
  have HF := Lib.hid (show bs (gameT p V) = { data := #[] } by unfold gameT; rw [hok]; rfl)
  clear h hxW hV hok
  have g0 := G0.out
  have g1 := G1.out
  go_enter Tryd.func6, Tryd.ntmps6
  go_upto_region 1 with fail
  rw [← hW]
  clear hW
  go_wp2_with fail
  refine HOK.out.mono ?_
  rintro e w1 ⟨rfl, hx⟩
  have X1 := Lib.hid hx
  clear hx
  go_wp2_with fail
  go_ret
  exact ⟨ret_str HF.out.symm, HXW.out.trans X1.out⟩
 ·rw [hok] at HOK
  obtain ⟨q, hq, hq1, hq5, hlen, hv00, _⟩ := gameOk_len hok
  have HV0 := Lib.hid hv00
  obtain rfl : p = q := by omega
  have hn32 : n ≤ 32 := by rw [← HL.out, hlen]; exact (cN_le p hq5).2
  have hn1 : 1 ≤ n := by rw [← HL.out, hlen]; exact (cN_le p hq5).1
  have HF := Lib.hid (show gameT p V = headT p ++ linesT V n by unfold gameT; rw [if_pos hok, HL.out])
  have HLN := Lib.hid (linesT_len (V := V) (fun k => (hV k).2))
  have HP := Lib.hid (fun w' => s_FormatInt (w := w') p (by omega))
  have HDL := Lib.hid (dec_len (n := p) (by omega))
  clear h hxW hV hok hq hlen hv00
  have g0 := G0.out
  have g1 := G1.out
  go_enter Tryd.func6, Tryd.ntmps6
  go_upto_region 1 with fail
  rw [← hW]
  clear hW
  go_wp2_with fail
  refine HOK.out.mono ?_
  rintro e w1 ⟨rfl, hx⟩
  have X1 := Lib.hid hx
  clear hx g0 g1
  have g0 := X1.out.cellSome G0.out
  have g1 := X1.out.cellSome G1.out
  go_wp2_with fail
  refine (HP.out _).mono ?_
  rintro e w2 ⟨rfl, hx⟩
  have X2 := Lib.hid (X1.out.trans hx)
  clear hx g0 g1
  have g1 := X2.out.cellSome G1.out
  obtain ⟨td, htd⟩ : ∃ t, t = bs (Lib.decDigits p) := ⟨_, rfl⟩
  have HTD := Lib.hid htd
  have hts : td.size ≤ 21 := by rw [htd, bs_size]; exact HDL.out
  rw [← htd]
  clear htd
  go_wp2_with fail
  have HST := Lib.hid (show ({ data := #[112, 108, 97, 121, 101, 114, 115, 32] } : ByteArray) ++ td ++ { data := #[10] } = bs (headT p ++ linesT V 1) by
   have h1 : linesT V 1 = [] := by rw [show (1 : Nat) = 0 + 1 from rfl, linesT_succ]; unfold lineT; rw [if_pos HV0.out]; rfl
   rw [h1, List.append_nil, HTD.out]
   unfold headT
   rw [← bs_add, ← bs_add, ← ByteArray.append_assoc]
   rfl)
  rw [HST.out]
  clear g1
  go_loopg [3, 4] n (fun gk oo kk wr => ∃ (k : Nat), Hid (gk + k = n + 1) ∧ kk = .int .i64 (k : Int) ∧ oo = .string (bs (headT p ++ linesT V k)) ∧ Hid (Ext W wr) ∧ Hid (1 ≤ k ∧ k ≤ n))
  case atStart => exact ⟨1, Lib.hid rfl, rfl, rfl, X2, Lib.hid ⟨Nat.le_refl _, hn1⟩⟩
  case round =>
   obtain ⟨g1, h_g1⟩ : ∃ x, x = gk := ⟨_, rfl⟩
   subst h_g1
   obtain ⟨wr, h_wr⟩ : ∃ x, x = wr := ⟨_, rfl⟩
   subst h_wr
   obtain ⟨k, HK, rfl, rfl, HX, HB⟩ := hrel
   obtain ⟨hk1, hkn⟩ := HB.out
   have q1 := HX.out.cellSome G1.out
   by_cases hlt : k < n
   ·obtain ⟨b, off, rfl, hc⟩ := (HI.out.ext HX.out).at hlt
    have hki : (k : Int) < (n : Int) := by omega
    have hk0 : (0 : Int) ≤ (k : Int) := by omega
    obtain ⟨v, hv⟩ : ∃ v : Nat, V[k]?.getD 0 = (v : Int) := ⟨(V[k]?.getD 0).toNat, by have := HV.out k; omega⟩
    have hv6 : v ≤ 1000000 := by have := (HV.out k).2; omega
    rw [hv] at hc
    by_cases hv0 : v = 0
    ·subst hv0
     have HS := Lib.hid (show linesT V (k + 1) = linesT V k by rw [linesT_succ]; unfold lineT; rw [hv, if_pos (by simp), List.append_nil])
     clear hv
     go_wp2_with fail
     go_roundg (g1 - 1)
     case measure => have := HK.out; omega
     case rel => exact ⟨k + 1, Lib.hid (by have := HK.out; omega), by go_num, by rw [HS.out], HX, Lib.hid (by omega)⟩
    ·have HS := Lib.hid (show linesT V (k + 1) = linesT V k ++ (coalT (k : Int) ++ ([32] ++ (Lib.decDigits v ++ [10]))) by rw [linesT_succ]; unfold lineT; rw [hv, if_neg (by omega), Int.toNat_natCast])
     have hvz : ((v : Int) != 0) = true := by simp; omega
     have HFC := Lib.hid (fun w' => s_FormatCoalition (w := w') k (by omega))
     have HFI := Lib.hid (fun w' => s_FormatInt (w := w') v hv6)
     obtain ⟨tc, htc⟩ : ∃ t, t = bs (coalT (k : Int)) := ⟨_, rfl⟩
     obtain ⟨ti, hti⟩ : ∃ t, t = bs (Lib.decDigits v) := ⟨_, rfl⟩
     obtain ⟨tq, htq⟩ : ∃ t, t = bs (headT p ++ linesT V k) := ⟨_, rfl⟩
     have hcs : tc.size ≤ 5 := by rw [htc, bs_size]; exact coalT_len _
     have his : ti.size ≤ 21 := by rw [hti, bs_size]; exact dec_len hv6
     have hos : tq.size ≤ 2000 := by
      rw [htq, bs_size, List.length_append]
      have h1 := HLN.out k
      have h2 := HDL.out
      unfold headT
      simp only [List.length_append, List.length_cons, List.length_nil]
      omega
     have HEQ := Lib.hid (show tq ++ tc ++ { data := #[32] } ++ ti ++ { data := #[10] } = bs (headT p ++ linesT V (k + 1)) by
      rw [htq, htc, hti]
      show bs _ ++ bs _ ++ bs [32] ++ bs _ ++ bs [10] = _
      rw [bs_add, bs_add, bs_add, bs_add, HS.out]
      simp only [List.append_assoc])
     have hf1 : ¬ 9223372036854775807 < tq.size + tc.size := by omega
     have hf2 : ¬ 9223372036854775807 < tq.size + tc.size + 1 := by omega
     have hf3 : ¬ 9223372036854775807 < tq.size + tc.size + 1 + ti.size := by omega
     have hf4 : ¬ 9223372036854775807 < tq.size + tc.size + 1 + ti.size + 1 := by omega
     simp only [← htc] at HFC
     simp only [← hti] at HFI
     rw [← htq]
     clear hv htc hti htq
     go_wp2_with fail
     have hk2 : Ext wr wr.drew := Ext.drew wr
     have HKEEP := Lib.hid (fun (w' : World) (h : Ext wr w') => (⟨h.cellSome q1, h.cellSome hc⟩ : w'.cell? ⟨w.heap.size, 1, none⟩ = some (.slice (some ⟨b, off, none⟩) n cap) ∧ w'.cell? ⟨b, off + k, none⟩ = some (.int .i64 (v : Int))))
     refine wp_region_held_drew (S := (fun w' => w'.cell? ⟨w.heap.size, 1, none⟩ = some (.slice (some ⟨b, off, none⟩) n cap) ∧ w'.cell? ⟨b, off + k, none⟩ = some (.int .i64 (v : Int)))) (by kernel_rfl) ?_ (fun hHeld => ?_)
     ·exact HKEEP.out _ hk2
     refine tk 0 ?_
     refine tk 1 ?_
     refine tk 5 ?_
     refine tk 6 ?_
     refine tk 7 ?_
     refine tk 8 ?_
     refine tk 9 ?_
     refine rd (i := 2) (h := fun K hK => ?_)
     go_simp
     (go_at_call 12; refine (HFC.out _).mono ?_; rintro e w3 ⟨rfl, hx3⟩; have hk2 := hk2.trans hx3)
     go_wp2_with fail
     refine hK.out _ _ ?_ (fun hHeld => ?_)
     ·exact HKEEP.out _ hk2
     clear hK K
     try simp only [Act.put, sA, sB, sC]
     refine tk 3 ?_
     refine tk 4 ?_
     refine rd (i := 10) (h := fun K hK => ?_)
     go_simp
     (go_at_call 11; refine (HFI.out _).mono ?_; rintro e w3 ⟨rfl, hx3⟩; have hk2 := hk2.trans hx3)
     go_wp2_with fail
     refine hK.out _ _ ?_ (fun hHeld => ?_)
     ·exact HKEEP.out _ hk2
     clear hK K
     try simp only [Act.put, sA, sB, sC]
     refine tk 11 ?_
     refine tk 12 ?_
     refine tk 13 ?_
     refine wpAnyH_done (by kernel_rfl) ?_ _
     have HX2 := Lib.hid (HX.out.trans hk2)
     clear hk2 hHeld hc q1
     rw [HEQ.out]
     go_wp2_with fail
     go_roundg (g1 - 1)
     case measure => have := HK.out; omega
     case rel => exact ⟨k + 1, Lib.hid (by have := HK.out; omega), by go_num, rfl, HX2, Lib.hid (by omega)⟩
   ·have hkn2 : n = k := by omega
    subst hkn2
    go_wp2_with fail
    go_ret
    exact ⟨ret_str (by rw [HF.out]), HXW.out.trans HX.out⟩
set_option maxHeartbeats 8000000 in
theorem i_FormatGame {w : World} {p : Nat} {a : Option Addr} {n cap : Nat} {V : List Int} (h : Ints w a n cap V) (hV : ∀ k : Nat, 0 ≤ V[k]?.getD 0 ∧ V[k]?.getD 0 ≤ 1000000) (ht : Lib.TabIs Tryd.prog w "internal/strconv.uint64pow10" .u64 Lib.pow10Tab) :
 Calls Tryd.prog 9 #[pair (p : Int) a n cap] w fun e w' => e = .returned (.string (bs (gameT p V))) ∧ Ext w w' := by
 obtain ⟨W, hW⟩ : ∃ W, W = w.alloc (.cells #[.int .i64 (p : Int), .slice a n cap] 27) := ⟨_, rfl⟩
 have hxW : Ext w W := by rw [hW]; exact Ext.alloc _ _
 have HXW := Lib.hid hxW
 have HT := Lib.hid (fun (w' : World) (hx : Ext W w') => tab_ext ht (hxW.trans hx))
 have HI := Lib.hid (h.ext hxW)
 have hcap := h.hcap
 have hmax := h.hmax
 have HL := Lib.hid h.hlen
 have G0 := Lib.hid (show W.cell? ⟨w.heap.size, 0, none⟩ = some (.int .i64 (p : Int)) by rw [hW]; simp)
 have G1 := Lib.hid (show W.cell? ⟨w.heap.size, 1, none⟩ = some (.slice a n cap) by rw [hW]; simp)
 have HV := Lib.hid hV
 have HOK := Lib.hid (i_IsValidGame (p := (p : Int)) HI.out)
 cases hok : gameOk (p : Int) V
 ·rw [hok] at HOK
  have HF := Lib.hid (show bs (gameT p V) = { data := #[] } by unfold gameT; rw [hok]; rfl)
  clear h hxW hV hok ht
  have g0 := G0.out
  have g1 := G1.out
  go_enter Tryd.func9, Tryd.ntmps9
  go_upto_region 1 with fail
  rw [← hW]
  clear hW
  go_wp2_with fail
  refine HOK.out.mono ?_
  rintro e w1 ⟨rfl, hx⟩
  have X1 := Lib.hid hx
  clear hx
  go_wp2_with fail
  go_ret
  exact ⟨ret_str HF.out.symm, HXW.out.trans X1.out⟩
 ·rw [hok] at HOK
  obtain ⟨q, hq, hq1, hq5, hlen, hv00, _⟩ := gameOk_len hok
  have HV0 := Lib.hid hv00
  obtain rfl : p = q := by omega
  have hn32 : n ≤ 32 := by rw [← HL.out, hlen]; exact (cN_le p hq5).2
  have HF := Lib.hid (show gameT p V = headT p ++ linesT V n by unfold gameT; rw [if_pos hok, HL.out])
  have HLN := Lib.hid (linesT_len (V := V) (fun k => (hV k).2))
  have HP := Lib.hid (fun (w' : World) (hx : Ext W w') => i_FormatInt (w := w') p (by omega) (HT.out w' hx))
  have HDL := Lib.hid (dec_len (n := p) (by omega))
  clear h hxW hV hok hq hlen hv00 ht
  have g0 := G0.out
  have g1 := G1.out
  go_enter Tryd.func9, Tryd.ntmps9
  go_upto_region 1 with fail
  rw [← hW]
  clear hW
  go_wp2_with fail
  refine HOK.out.mono ?_
  rintro e w1 ⟨rfl, hx⟩
  have X1 := Lib.hid hx
  clear hx g0 g1
  have g0 := X1.out.cellSome G0.out
  have g1 := X1.out.cellSome G1.out
  go_wp2_with fail
  refine (HP.out _ X1.out).mono ?_
  rintro e w2 ⟨rfl, hx⟩
  have X2 := Lib.hid (X1.out.trans hx)
  clear hx g0 g1
  have g1 := X2.out.cellSome G1.out
  obtain ⟨td, htd⟩ : ∃ t, t = bs (Lib.decDigits p) := ⟨_, rfl⟩
  have HTD := Lib.hid htd
  have hts : td.size ≤ 21 := by rw [htd, bs_size]; exact HDL.out
  rw [← htd]
  clear htd
  go_wp2_with fail
  have HST := Lib.hid (show ({ data := #[112, 108, 97, 121, 101, 114, 115, 32] } : ByteArray) ++ td ++ { data := #[10] } = bs (headT p ++ linesT V 0) by
   rw [HTD.out]
   unfold headT
   rw [show linesT V 0 = [] from rfl, List.append_nil, ← bs_add, ← bs_add, ← ByteArray.append_assoc]
   rfl)
  rw [HST.out]
  clear g1
  go_loopg [3, 17] n (fun gk oo kk wr => ∃ (k : Nat), Hid (gk + k = n) ∧ kk = .int .i64 (k : Int) ∧ oo = .string (bs (headT p ++ linesT V k)) ∧ Hid (Ext W wr))
  case atStart => exact ⟨0, Lib.hid (by omega), rfl, rfl, X2⟩
  case round =>
   obtain ⟨g1, h_g1⟩ : ∃ x, x = gk := ⟨_, rfl⟩
   subst h_g1
   obtain ⟨wr, h_wr⟩ : ∃ x, x = wr := ⟨_, rfl⟩
   subst h_wr
   obtain ⟨k, HK, rfl, rfl, HX⟩ := hrel
   have hkn := HK.out
   by_cases hlt : k < n
   ·obtain ⟨b, off, rfl, hc⟩ := (HI.out.ext HX.out).at hlt
    have hki : (k : Int) < (n : Int) := by omega
    have hk0 : (0 : Int) ≤ (k : Int) := by omega
    obtain ⟨v, hv⟩ : ∃ v : Nat, V[k]?.getD 0 = (v : Int) := ⟨(V[k]?.getD 0).toNat, by have := HV.out k; omega⟩
    have hv6 : v ≤ 1000000 := by have := (HV.out k).2; omega
    rw [hv] at hc
    by_cases hv0 : v = 0
    ·subst hv0
     have HS := Lib.hid (show linesT V (k + 1) = linesT V k by rw [linesT_succ]; unfold lineT; rw [hv, if_pos (by simp), List.append_nil])
     clear hv
     go_wp2_with fail
     go_roundg (g1 - 1)
     case measure => have := HK.out; omega
     case rel => exact ⟨k + 1, Lib.hid (by have := HK.out; omega), by go_num, by rw [HS.out], HX⟩
    ·have HS := Lib.hid (show linesT V (k + 1) = linesT V k ++ (coalT (k : Int) ++ ([32] ++ (Lib.decDigits v ++ [10]))) by rw [linesT_succ]; unfold lineT; rw [hv, if_neg (by omega), Int.toNat_natCast])
     have hvz : ((v : Int) != 0) = true := by simp; omega
     have HFC := Lib.hid (fun w' => i_FormatCoalition (w := w') k (by omega))
     have HFI := Lib.hid (fun (w' : World) (hx : Ext W w') => i_FormatInt (w := w') v hv6 (HT.out w' hx))
     obtain ⟨tc, htc⟩ : ∃ t, t = bs (coalT (k : Int)) := ⟨_, rfl⟩
     obtain ⟨ti, hti⟩ : ∃ t, t = bs (Lib.decDigits v) := ⟨_, rfl⟩
     obtain ⟨tq, htq⟩ : ∃ t, t = bs (headT p ++ linesT V k) := ⟨_, rfl⟩
     have hcs : tc.size ≤ 5 := by rw [htc, bs_size]; exact coalT_len _
     have his : ti.size ≤ 21 := by rw [hti, bs_size]; exact dec_len hv6
     have hos : tq.size ≤ 2000 := by
      rw [htq, bs_size, List.length_append]
      have h1 := HLN.out k
      have h2 := HDL.out
      unfold headT
      simp only [List.length_append, List.length_cons, List.length_nil]
      omega
     have HEQ := Lib.hid (show tq ++ (tc ++ { data := #[32] } ++ ti ++ { data := #[10] }) = bs (headT p ++ linesT V (k + 1)) by
      rw [htq, htc, hti]
      show bs _ ++ (bs _ ++ bs [32] ++ bs _ ++ bs [10]) = _
      rw [bs_add, bs_add, bs_add, bs_add, HS.out]
      simp only [List.append_assoc])
     simp only [← htc] at HFC
     simp only [← hti] at HFI
     rw [← htq]
     clear hv htc hti htq
     go_wp2_with fail
     refine (HFC.out _).mono ?_
     rintro e w3 ⟨rfl, hx3⟩
     have HX3 := Lib.hid (HX.out.trans hx3)
     clear hx3 hc
     go_wp2_with fail
     refine (HFI.out _ HX3.out).mono ?_
     rintro e w4 ⟨rfl, hx4⟩
     have HX4 := Lib.hid (HX3.out.trans hx4)
     clear hx4
     go_wp2_with fail
     rw [HEQ.out]
     go_roundg (g1 - 1)
     case measure => have := HK.out; omega
     case rel => exact ⟨k + 1, Lib.hid (by have := HK.out; omega), by go_num, rfl, HX4⟩
   ·have hkn2 : n = k := by omega
    subst hkn2
    go_wp2_with fail
    go_ret
    exact ⟨ret_str (by rw [HF.out]), HXW.out.trans HX.out⟩
section
variable {P : Program} {ops : Array Oper} {Q : Exit → Act → World → Prop} {md : Region.Mode} {S : World → Prop} {M : List Nat}
def Fresh (M : List Nat) (listed : Array Bool) : Prop := ∀ j ∈ M, listed.getD j true = false
theorem Fresh.set {M : List Nat} {listed : Array Bool} {i : Nat} (h : Fresh M listed) (hi : i ∉ M) : Fresh M (listed.setIfInBounds i true) := fun j hj => by
 rw [getD_set_ne true (show i ≠ j from fun e => hi (by rw [e]; exact hj))]; exact h j hj
theorem Fresh.unset {M : List Nat} {listed : Array Bool} {i : Nat} (h : Fresh M (listed.setIfInBounds i true)) (hi : i ∉ M) : Fresh M listed := fun j hj => by
 have := h j hj
 rwa [getD_set_ne true (show i ≠ j from fun e => hi (by rw [e]; exact hj))] at this
def lateAny (P : Program) (md : Region.Mode) (ops : Array Oper) (Q : Exit → Act → World → Prop) (M : List Nat) (S : World → Prop) : Nat → Array Bool → Act → World → Prop
 | 0, listed, a, w => Region.ready md ops listed = [] ∧ Q .normal a w
 | f + 1, listed, a, w => (Region.ready md ops listed = [] → Q .normal a w) ∧
   ∀ i ∈ Region.ready md ops listed, wpOp P ops Q i (fun a' w' => (Fresh M (listed.setIfInBounds i true) → S w') ∧ lateAny P md ops Q M S f (listed.setIfInBounds i true) a' w') a w
theorem lateAny.any : ∀ {f : Nat} {listed : Array Bool} {a : Act} {w : World}, lateAny P md ops Q M S f listed a w → wpAny P md ops Q f listed a w
 | 0, _, _, _, h => h
 | f + 1, _, _, _, h => ⟨h.1, fun i hi => wpOp_mono (fun a' w' h' => lateAny.any h'.2) (h.2 i hi)⟩
theorem late_first {i : Nat} {oi : Oper} {v : Value} {T : World → Prop} (hi : ops[i]? = some oi) (hsel : ∀ (j : Nat) (o : Oper) cs b, ops[j]? = some o → o.op ≠ .select cs b)
 (hQ : ∀ c a w, Q (.panic c) (a.put oi.dst v) w → Q (.panic c) a w) (hiM : i ∉ M)
 (hT : (∀ w, T w) ∨ ((∀ w, S w → T w) ∧ ∀ j ∈ M, ∀ oj, ops[j]? = some oj → ∃ e ∈ oj.after, Region.binds md e = true ∧ e.on = i)) :
 ∀ (f : Nat) (listed : Array Bool) (a : Act) (w : World),
   (∀ j oj, ops[j]? = some oj → j ≠ i → listed.getD j true = false → (∀ e ∈ oj.after, Region.binds md e = true → e.on ≠ i) → oi.apart ops oj = true) →
   i ∈ Region.ready md ops listed → YieldsIf P ops T oi v a → (Fresh M listed → S w) → ((∀ w, T w) ∨ Fresh M listed) →
   lateAny P md ops Q M S f (listed.setIfInBounds i true) (a.put oi.dst v) w → lateAny P md ops Q M S (f + 1) listed a w := by
 have now : ∀ {listed : Array Bool} {w : World}, (Fresh M listed → S w) → ((∀ w, T w) ∨ Fresh M listed) → T w := fun {listed w} h1 h2 => by
  rcases h2 with h2 | h2
  ·exact h2 w
  ·rcases hT with h3 | h3
   ·exact h3 w
   ·exact h3.1 w (h1 h2)
 intro f
 induction f with
 | zero =>
   intro listed a w _ hr hy hS hF H
   refine ⟨fun h => absurd hr (by rw [h]; exact List.not_mem_nil), fun j hj => ?_⟩
   by_cases hji : j = i
   ·subst hji; exact hy.wpOp hi (now hS hF) ⟨fun h => hS (h.unset hiM), H⟩
   ·exact absurd (ready_mono hj hji) (by rw [H.1]; exact List.not_mem_nil)
 | succ f ih =>
   intro listed a w hfree hr hy hS hF H
   refine ⟨fun h => absurd hr (by rw [h]; exact List.not_mem_nil), fun j hj => ?_⟩
   by_cases hji : j = i
   ·subst hji; exact hy.wpOp hi (now hS hF) ⟨fun h => hS (h.unset hiM), H⟩
   ·obtain ⟨hjun, oj, hoj, hall⟩ := mem_ready.1 hj
    have hnot : ∀ e ∈ oj.after, Region.binds md e = true → e.on ≠ i := fun e he hb heq => by
     have h1 := hall e he hb
     have h0 := (mem_ready.1 hr).1
     rw [heq] at h1
     rcases Nat.lt_or_ge i listed.size with h' | h'
     ·simp [h'] at h0 h1; rw [h0] at h1; cases h1
     ·simp [Array.getElem?_eq_none h'] at h1
    have step := wpOp_putIf hoj (hfree j oj hoj hji hjun hnot) (fun cs b => hsel i oi cs b hi) (fun cs b => hsel j oj cs b hoj) hQ hy (H.2 j (ready_mono hj hji))
    have hfree' : ∀ k ok, ops[k]? = some ok → k ≠ i → (listed.setIfInBounds j true).getD k true = false →
     (∀ e ∈ ok.after, Region.binds md e = true → e.on ≠ i) → oi.apart ops ok = true := fun k ok hk hki hun hno => by
     refine hfree k ok hk hki ?_ hno
     by_cases hjk : j = k
     ·rw [← hjk]; exact hjun
     ·rwa [getD_set_ne true hjk] at hun
    have hF' : (∀ w, T w) ∨ Fresh M (listed.setIfInBounds j true) := by
     rcases hF with h2 | h2
     ·exact .inl h2
     ·rcases hT with h3 | h3
      ·exact .inl h3
      ·refine .inr (h2.set fun hjM => ?_)
       obtain ⟨e, he, hb, ho⟩ := h3.2 j hjM oj hoj
       exact hnot e he hb ho
    have e1 : (listed.setIfInBounds i true).setIfInBounds j true = (listed.setIfInBounds j true).setIfInBounds i true := Array.setIfInBounds_comm _ _ (Ne.symm hji)
    rw [e1] at step
    exact wpOp_mono (fun a' w' h3 => ⟨fun hFr => h3.2.1 (hFr.set hiM), ih (listed.setIfInBounds j true) a' w' hfree' (ready_mono hr (Ne.symm hji)) h3.1 (fun hFr => h3.2.1 (hFr.set hiM)) hF' h3.2.2⟩) step
def waitsB (md : Region.Mode) (ops : Array Oper) (M : List Nat) (i : Nat) : Bool := M.all fun j => Region.waitsFor md ops j i
theorem late_load {i : Nat} {oi : Oper} {v : Value} {f : Nat} {listed : Array Bool} {a : Act} {w : World} (hi : ops[i]? = some oi)
 (hs : Region.noSelect ops = true) (hf : Region.free md ops listed i = true) (hr : (Region.ready md ops listed).contains i = true) (hM : M.contains i = false) (hw : waitsB md ops M i = true) (hfr : M.all (fun j => !listed.getD j true) = true)
 (hQ : ∀ c a w, Q (.panic c) (a.put oi.dst v) w → Q (.panic c) a w) (hy : YieldsIf P ops S oi v a) (hS : S w)
 (h : lateAny P md ops Q M S f (listed.setIfInBounds i true) (a.put oi.dst v) w) : lateAny P md ops Q M S (f + 1) listed a w := by
 refine late_first (T := S) hi (Region.noSelect_spec hs) hQ (by intro h'; rw [List.contains_eq_mem, decide_eq_false_iff_not] at hM; exact hM h') (.inr ⟨fun _ h => h, fun j hj oj hoj => ?_⟩) f listed a w (Region.free_spec hi hf) (by simpa using hr) hy (fun _ => hS) (.inr fun j hj => ?_) h
 ·have h1 := List.all_eq_true.1 hw j hj
  obtain ⟨oj', h2, e, he, hb, ho⟩ := Region.waitsFor_spec h1
  rw [hoj] at h2
  cases h2
  exact ⟨e, he, hb, ho⟩
 ·have := List.all_eq_true.1 hfr j hj
  simpa using this
theorem late_pure {i : Nat} {oi : Oper} {v : Value} {f : Nat} {listed : Array Bool} {a : Act} {w : World} (hi : ops[i]? = some oi)
 (hs : Region.noSelect ops = true) (hf : Region.free md ops listed i = true) (hr : (Region.ready md ops listed).contains i = true) (hM : M.contains i = false)
 (hQ : ∀ c a w, Q (.panic c) (a.put oi.dst v) w → Q (.panic c) a w) (hy : YieldsIf P ops (fun _ => True) oi v a) (hS : S w)
 (h : lateAny P md ops Q M S f (listed.setIfInBounds i true) (a.put oi.dst v) w) : lateAny P md ops Q M S (f + 1) listed a w :=
 late_first (T := fun _ => True) hi (Region.noSelect_spec hs) hQ (by intro h'; rw [List.contains_eq_mem, decide_eq_false_iff_not] at hM; exact hM h') (.inl fun _ => trivial) f listed a w (Region.free_spec hi hf) (by simpa using hr) hy (fun _ => hS) (.inl fun _ => trivial) h
theorem late_one {i : Nat} {oi : Oper} {f : Nat} {listed : Array Bool} {a : Act} {w w' : World} (hi : ops[i]? = some oi) (hr : Region.ready md ops listed = [i]) (hM : M.contains i = true) (hl : i < listed.size)
 (hw : Region.wanted oi (yielded ops a.tmps) = true) (hrun : (execOp a.eval oi).run P w = .ok .skip w')
 (h : lateAny P md ops Q M S f (listed.setIfInBounds i true) (a.put oi.dst undef) w') : lateAny P md ops Q M S (f + 1) listed a w := by
 refine ⟨fun h0 => absurd (hr.symm.trans h0) (by simp), fun j hj => ?_⟩
 rw [hr] at hj
 obtain rfl : j = i := by simpa using hj
 unfold wpOp
 simp only [hi, hw, if_true]
 refine .inl ?_
 unfold Oper.wp
 rw [hrun]
 refine ⟨fun hF => absurd (hF j (by simpa using hM)) ?_, h⟩
 simp [hl]
theorem late_step {i : Nat} {oi : Oper} {f : Nat} {listed : Array Bool} {a : Act} {w : World} (hi : ops[i]? = some oi) (hr : Region.ready md ops listed = [i]) (hw : Region.wanted oi (yielded ops a.tmps) = true)
 (h : ∀ K' : Act → World → Prop, Shut (∀ a w, (Fresh M (listed.setIfInBounds i true) → S w) → lateAny P md ops Q M S f (listed.setIfInBounds i true) a w → K' a w) → Oper.wp P oi a w K' Q) : lateAny P md ops Q M S (f + 1) listed a w := by
 refine ⟨fun h0 => absurd (hr.symm.trans h0) (by simp), fun j hj => ?_⟩
 rw [hr] at hj
 obtain rfl : j = i := by simpa using hj
 refine wpOp_step hi (fun K' hK => ?_)
 rw [if_pos hw]
 exact h K' (fun a w h1 h2 => hK a w ⟨h1, h2⟩)
theorem lp (i : Nat) {oi : Oper} {v : Value} {f : Nat} {listed l' : Array Bool} {a a' : Act} {w : World} (h : lateAny P md ops Q M S f l' a' w) (hi : ops[i]? = some oi := by simp only [gA, gB, gC]; rfl) (hs : Region.noSelect ops = true := by kernel_rfl)
 (hf : Region.free md ops listed i = true := by kernel_rfl) (hr : (Region.ready md ops listed).contains i = true := by kernel_rfl) (hM : M.contains i = false := by kernel_rfl) (hQ : ∀ c a w, Q (.panic c) (a.put oi.dst v) w → Q (.panic c) a w := by exact fun _ _ _ h => h)
 (hy : YieldsIf P ops (fun _ => True) oi v a := by (refine Or.inl ⟨by rfl, ?_⟩; intro w hSw; (try dsimp only at hSw); go_simp; (try with_reducible rfl))) (hS : S w := by assumption)
 (hl : listed.setIfInBounds i true = l' := by (try simp only [sA, sB, sC]); rfl) (ha : a.put oi.dst v = a' := by (try simp only [Act.put, sA, sB, sC]); rfl) : lateAny P md ops Q M S (f + 1) listed a w := by subst hl ha; exact late_pure hi hs hf hr hM hQ hy hS h
theorem ll (i : Nat) {oi : Oper} {v : Value} {f : Nat} {listed l' : Array Bool} {a a' : Act} {w : World} (h : lateAny P md ops Q M S f l' a' w) (hi : ops[i]? = some oi := by simp only [gA, gB, gC]; rfl) (hs : Region.noSelect ops = true := by kernel_rfl)
 (hf : Region.free md ops listed i = true := by kernel_rfl) (hr : (Region.ready md ops listed).contains i = true := by kernel_rfl) (hM : M.contains i = false := by kernel_rfl) (hD : waitsB md ops M i = true := by kernel_rfl) (hE : M.all (fun j => !listed.getD j true) = true := by kernel_rfl) (hQ : ∀ c a w, Q (.panic c) (a.put oi.dst v) w → Q (.panic c) a w := by exact fun _ _ _ h => h)
 (hy : YieldsIf P ops S oi v a := by (refine Or.inl ⟨by rfl, ?_⟩; intro w hSw; (try dsimp only at hSw); go_simp; (try with_reducible rfl))) (hS : S w := by assumption)
 (hl : listed.setIfInBounds i true = l' := by (try simp only [sA, sB, sC]); rfl) (ha : a.put oi.dst v = a' := by (try simp only [Act.put, sA, sB, sC]); rfl) : lateAny P md ops Q M S (f + 1) listed a w := by subst hl ha; exact late_load hi hs hf hr hM hD hE hQ hy hS h
theorem late_done {listed : Array Bool} {a : Act} {w : World} (hr : Region.ready md ops listed = []) (h : Q .normal a w) : ∀ f, lateAny P md ops Q M S f listed a w
 | 0 => ⟨hr, h⟩
 | _ + 1 => ⟨fun _ => h, fun i hi => absurd hi (by rw [hr]; exact List.not_mem_nil)⟩
theorem late_begin {id : Nat} {a : Act} {w : World} (hm : P.follows .mixedOrders = true) (h : lateAny P .any ops Q M S ops.size (Array.replicate ops.size false) a w.drew) : (Code.region id ops true).wp P Q a w :=
 wp_region_any hm h.any
end
end Go.Proofs.YtalmoolkhcgmmaaDoor
namespace Go.Proofs.YtalmoolkhcgmmaaDoor
set_option linter.unusedVariables false
set_option linter.unusedSimpArgs false
open Go.RowKit
def Tells (P : Program) (w : World) (fid : FuncId) (ca : Array Value) (m : Nat) (f : Nat → Int) : Prop :=
 ∀ (s : Nat) (w1 : World), s < m → Ext w w1 → Calls P fid (#[.int .i64 (s : Int)] ++ ca) w1 fun e w2 => e = .returned (.int .i64 (f s)) ∧ Ext w1 w2
theorem Tells.ext {P : Program} {w w' : World} {fid : FuncId} {ca : Array Value} {m : Nat} {f : Nat → Int} (h : Tells P w fid ca m f) (hx : Ext w w') : Tells P w' fid ca m f :=
 fun s w1 hs k => h s w1 hs (hx.trans k)
def rowF (f : Nat → Int) (m : Nat) : List Int := (List.range m).map f
theorem rowF_succ (f : Nat → Int) (m : Nat) : rowF f (m + 1) = rowF f m ++ [f m] := by simp [rowF, List.range_succ]
theorem rowF_len (f : Nat → Int) (m : Nat) : (rowF f m).length = m := by simp [rowF]
theorem rowF_ok {f : Nat → Int} {n : Nat} (h1 : 1 ≤ n) (h5 : n ≤ 5) (h0 : f 0 = 0) (hb : ∀ s, s < cN n → -500 ≤ f s ∧ f s ≤ 500) : gameOk (n : Int) (rowF f (cN n)) = true := by
 have hN := cN_le n h5
 unfold gameOk
 rw [rowF_len, cntC_nat n h5]
 simp only [Bool.and_eq_true, decide_eq_true_eq]
 refine ⟨?_, ?_, trivial, ?_⟩
 ·rw [List.all_eq_true]
  intro x hx
  obtain ⟨s, hs, rfl⟩ := List.mem_map.1 hx
  have := hb s (List.mem_range.1 hs)
  unfold inB; simp; omega
 ·unfold inB; simp; omega
 ·have : 0 < cN n := by omega
  simp [rowF, this, h0]
theorem two_cell0 {w : World} {g : Nat} {x y : Value} {t : TypeId} (h : w.heap[g]? = some (.cells #[x, y] t (0, 0))) : w.cell? ⟨g, 0, none⟩ = some x := by rw [cell_of_row w g 0 _ t _ h]; rfl
theorem two_cell1 {w : World} {g : Nat} {x y : Value} {t : TypeId} (h : w.heap[g]? = some (.cells #[x, y] t (0, 0))) : w.cell? ⟨g, 1, none⟩ = some y := by rw [cell_of_row w g 1 _ t _ h]; rfl
theorem two_set {w : World} {g : Nat} {x y z : Value} {t : TypeId} (h : w.heap[g]? = some (.cells #[x, y] t (0, 0))) : (w.setCell ⟨g, 1, none⟩ z).heap[g]? = some (.cells #[x, z] t (0, 0)) := by
 rw [heap_setCell_same w g 1 _ t z h]; rfl
def GameV (w : World) (base : Nat) (e : Ending) (n : Nat) (l : List Int) (b : Bool) : Prop := ∃ v, e = .returned (.tuple #[.agg #[.int .i64 (n : Int), v], .bool b]) ∧ OwnI w base v l
set_option maxRecDepth 100000 in
set_option maxHeartbeats 4000000 in
theorem i_made {w : World} {n : Nat} {fid : FuncId} {ca : Array Value} {f : Nat → Int} (h1 : 1 ≤ n) (h5 : n ≤ 5) (hg : IsGo Tryd.prog fid) (hf : Tells Tryd.prog w fid ca (cN n) f)
 (h0 : f 0 = 0) (hb : ∀ s, s < cN n → -500 ≤ f s ∧ f s ≤ 500) :
 Calls Tryd.prog 17 #[.int .i64 (n : Int), .func (.func fid) #[] ca] w fun e w' => GameV w' w.heap.size e n (rowF f (cN n)) true ∧ Ext w w' := by
 have hN := cN_le n h5
 have hcf : ∀ (args : Array Value) (w : World), (callFunc fid args).run Tryd.prog w = .ok (.enter fid args) w := hg
 have HF := Lib.hid hf
 have HOK := Lib.hid (rowF_ok h1 h5 h0 hb)
 clear hf h0 hb hg
 go_enter Tryd.func17, Tryd.ntmps17
 go_wp2_with (first | (go_at_call 39; refine (i_CountC n h5 _).mono ?_; rintro e w' ⟨rfl, rfl⟩))
 go_loopw [12] (fun i wr => ∃ (k : Nat) (a1 : Option Addr) (n1 c1 : Nat), k ≤ cN n ∧ i = .int .i64 (k : Int) ∧ Hid (OwnI wr (w.heap.size + 1 + 1) (.slice a1 n1 c1) (rowF f k)) ∧ Hid (wr.heap[w.heap.size + 1]? = some (.cells #[.int .i64 (n : Int), .slice a1 n1 c1] 27 (0, 0))) ∧ Hid (Ext (w.alloc (.cells #[.int .i64 0, .slice none 0 0] 27)) wr)) (fun i _ => cN n - (intOf i).toNat)
 case atStart =>
  refine ⟨0, none, 0, 0, Nat.zero_le _, rfl, Lib.hid (by unfold rowF; exact ⟨rfl, .inl ⟨rfl, rfl⟩⟩), Lib.hid ?_, Lib.hid ?_⟩
  ·exact heapA_new _ _ _ (by simp)
  ·exact Ext.alloc _ _
 case round =>
  obtain ⟨k, a1, n1, c1, hk, rfl, HO, HB, HX⟩ := hrel
  have hg0 := two_cell0 HB.out
  have hg1 := two_cell1 HB.out
  have hsz := lt_of_block HB.out
  by_cases hlt : k < cN n
  ·go_wp2_with fail
   go_region_law (first
    | (refine step_of_wp _ rfl (wp_append_ints _ _ rfl (w.heap.size + 1 + 1) _ _ rfl (HO1.out.ext (Ext.alloc _ _)) _ 1 _ [f k] rfl (Ints.one _ _ _) (by rw [rowF_len]; omega) (by simp; omega) ?_); intro v3 w3 ho3 hg3 hn3; obtain ⟨a3, n3, c3, rfl, HN3⟩ := ho3.var; have HO3 := Lib.hid ho3; have HX3 := Lib.hid (ext_grown ((HX.out.trans HX1.out).trans (Ext.alloc _ _)) hg3 (fun j hj => by have := (HO1.out.lt j hj).1; simp; omega)); have HB3 := Lib.hid ((hg3.block _ (by simp; omega) (fun e => by have := (HO1.out.lt _ e.symm).1; omega)).trans (((Ext.alloc w1 _).block _ hsz1).trans HB1.out)); have cg3 := two_cell1 HB3.out; have fg3 := frozen_of_row w3 (w.heap.size + 1) 1 _ _ HB3.out; clear ho3 hg3 hn3)
    | (go_simp; refine (HF.out k _ hlt (((Ext.alloc _ _).trans HX.out).trans (Ext.drew wr))).mono ?_; rintro e w1 ⟨rfl, hx⟩; have HX1 := Lib.hid ((Ext.drew wr).trans hx); have HO1 := Lib.hid (HO.out.ext HX1.out); have HB1 := Lib.hid ((HX1.out.block _ hsz).trans HB.out); have b1 := two_cell1 HB1.out; have hsz1 := lt_of_block HB1.out; clear hx))
   all_goals
    go_wp2
    go_roundw
    case rel =>
     refine ⟨k + 1, a3, n3, c3, by omega, by go_num, Lib.hid ?_, Lib.hid (two_set HB3.out), Lib.hid (HX3.out.setCell (by simp) _)⟩
     rw [rowF_succ]
     exact HO3.out.keep fun j hj => heap_setCell_other _ _ _ _ (by have := (HO3.out.lt j hj).1; simp; omega)
    case measure => simp [intOf]; omega
  ·have hkn : k = cN n := by omega
   subst hkn
   have HV := Lib.hid (i_IsValidGame (p := (n : Int)) HO.out.ints)
   rw [HOK.out] at HV
   go_wp2_with fail
   refine HV.out.mono ?_
   rintro e w1 ⟨rfl, hx⟩
   have HO1 := Lib.hid (HO.out.ext hx)
   have hg0' := hx.cellSome hg0
   have hg1' := hx.cellSome hg1
   have HX1 := Lib.hid (HX.out.trans hx)
   have r0 : w1.cell? ⟨w.heap.size, 0, none⟩ = some (.int .i64 0) := HX1.out.cellSome (by simp)
   have r1 : w1.cell? ⟨w.heap.size, 1, none⟩ = some (.slice none 0 0) := HX1.out.cellSome (by simp)
   have f0 : w1.frozen? ⟨w.heap.size, 0, none⟩ = false := (HX1.out.frozens _ _ (by simp)).trans (by simp)
   have f1 : w1.frozen? ⟨w.heap.size, 1, none⟩ = false := (HX1.out.frozens _ _ (by simp)).trans (by simp)
   clear hx hg0 hg1
   go_wp2
   refine bodyPost_ret (v := .tuple #[.agg #[.int .i64 (n : Int), .slice a1 n1 c1], .bool true]) (by simp [results, Tryd.results17, go_sem, r0, r1]) rfl ⟨⟨_, rfl, ?_⟩, ?_⟩
   ·refine HO1.out.mono (by omega) |>.keep fun j hj => ?_
    have := (HO1.out.lt j hj).1
    rw [heap_setCell_other _ _ _ _ (by simp; omega), heap_setCell_other _ _ _ _ (by simp; omega)]
   ·exact ((((Ext.alloc _ _).trans HX1.out).setCell (by simp) _).setCell (by simp) _)
def voteF (q : Int) (l : List Int) (s : Nat) : Int := bitI (winsB q l (s : Int))
def voteP (q : Int) (l : List Int) : Nat := if validPair 1 q l then l.length else 0
def voteL (q : Int) (l : List Int) : List Int := if validPair 1 q l then rowF (voteF q l) (cN l.length) else []
theorem bitI_le (b : Bool) : -500 ≤ bitI b ∧ bitI b ≤ 500 := by cases b <;> simp [bitI]
theorem winsB_zero {q : Int} {l : List Int} (h : validPair 1 q l = true) : winsB q l 0 = false := by
 have hq : 1 ≤ q := by unfold validPair inB at h; simp at h; omega
 have hz : ∀ k, sumTo 0 l k = 0 := by
  intro k
  induction k with
  | zero => rfl
  | succ k ih => simp [sumTo, bit, ih]
 unfold winsB
 rw [hz]
 simp; omega
theorem go_VotingGame1 : IsGo Tryd.prog 48 := isGo Tryd.func48 (by kernel_rfl) (by kernel_rfl)
set_option maxHeartbeats 1000000 in
theorem i_VotingGame1 {w : World} {q : Int} {a : Option Addr} {n cap b : Nat} {l : List Int} (s : Nat) (h : Ints w a n cap l) (hb : w.heap[b]? = some (.cells #[.int .i64 q, .slice a n cap] 42 (0, 0))) (hs : s < 32) (h5 : n ≤ 5) :
 Calls Tryd.prog 48 #[.int .i64 (s : Int), .pointer (some ⟨b, 0, none⟩)] w fun e w' => e = .returned (.int .i64 (voteF q l s)) ∧ Ext w w' := by
 have c0 := two_cell0 hb
 have c1 := two_cell1 hb
 have HI := Lib.hid h
 clear h hb
 cases hw : winsB q l (s : Int)
 all_goals
  have HW := Lib.hid hw
  go_enter Tryd.func48, Tryd.ntmps48
  go_wp2_with fail
  refine (i_wins _ HI.out (by omega) (by omega) (by omega)).mono ?_
  rw [hw]
  rintro e w1 ⟨rfl, hx⟩
  go_wp2
  go_ret
  exact ⟨ret_int (by unfold voteF; rw [HW.out]; rfl), hx⟩
set_option maxHeartbeats 4000000 in
theorem i_VotingGame {w : World} {q : Int} {a : Option Addr} {n cap : Nat} {l : List Int} (h : Ints w a n cap l) :
 Calls Tryd.prog 22 #[pair q a n cap] w fun e w' => GameV w' w.heap.size e (voteP q l) (voteL q l) (validPair 1 q l) ∧ Ext w w' := by
 have hi := h.alloc (.cells #[.int .i64 q, .slice a n cap] 42)
 have HL := Lib.hid h.hlen
 have HV := Lib.hid (i_IsValidVoting (x := q) (hi.ext (Ext.alloc _ (.cells #[.int .i64 0, .slice none 0 0] 27))))
 have HX := Lib.hid ((Ext.alloc w (.cells #[.int .i64 q, .slice a n cap] 42)).trans (Ext.alloc _ (.cells #[.int .i64 0, .slice none 0 0] 27)))
 have hmax := h.hmax
 have hcap := h.hcap
 cases hv : validPair 1 q l
 ·rw [hv] at HV
  have HVV := Lib.hid hv
  clear hv
  go_enter Tryd.func22, Tryd.ntmps22
  go_wp2_with fail
  refine HV.out.mono ?_
  rintro e w1 ⟨rfl, hx⟩
  have r0 : w1.cell? ⟨w.heap.size + 1, 0, none⟩ = some (.int .i64 0) := hx.cellSome (by simp)
  have r1 : w1.cell? ⟨w.heap.size + 1, 1, none⟩ = some (.slice none 0 0) := hx.cellSome (by simp)
  have f0 : w1.frozen? ⟨w.heap.size + 1, 0, none⟩ = false := (hx.frozens _ _ (by simp)).trans (by simp)
  have f1 : w1.frozen? ⟨w.heap.size + 1, 1, none⟩ = false := (hx.frozens _ _ (by simp)).trans (by simp)
  have HX1 := Lib.hid (HX.out.trans hx)
  clear hx
  go_wp2
  refine bodyPost_ret (v := .tuple #[.agg #[.int .i64 0, .slice none 0 0], .bool false]) (by simp [results, Tryd.results22, go_sem, r0, r1]) rfl ⟨⟨.slice none 0 0, ?_, ?_⟩, ?_⟩
  ·unfold voteP; rw [HVV.out]; rfl
  ·unfold voteL; rw [HVV.out]; exact ⟨rfl, .inl ⟨rfl, rfl⟩⟩
  ·exact (HX1.out.setCell (by simp) _).setCell (by simp) _
 ·rw [hv] at HV
  have HVV := Lib.hid hv
  have hn5 : 1 ≤ n ∧ n ≤ 5 := by have := valid_len hv; have := HL.out; omega
  obtain ⟨hn1, hn5⟩ := hn5
  have hN := cN_le n hn5
  have HI := Lib.hid hi
  have HZ := Lib.hid (winsB_zero hv)
  clear hv
  go_enter Tryd.func22, Tryd.ntmps22
  go_wp2_with fail
  refine HV.out.mono ?_
  rintro e w1 ⟨rfl, hx⟩
  have c1 : w1.cell? ⟨w.heap.size, 1, none⟩ = some (.slice a n cap) := hx.cellSome (by simp)
  have HB := Lib.hid (show w1.heap[w.heap.size]? = some (.cells #[.int .i64 q, .slice a n cap] 42 (0, 0)) from (hx.block _ (by simp; omega)).trans (by rw [heapA_old _ _ _ (by simp)]; exact heapA_new _ _ _ rfl))
  have HX1 := Lib.hid hx
  have HI1 := Lib.hid ((HI.out.ext (Ext.alloc _ _)).ext hx)
  clear hx
  have HT : Hid (Tells Tryd.prog w1 48 #[.pointer (some ⟨w.heap.size, 0, none⟩)] (cN n) (voteF q l)) := Lib.hid fun s w2 hs k => i_VotingGame1 s (HI1.out.ext k) ((k.block _ (lt_of_block HB.out)).trans HB.out) (by omega) hn5
  have HM := Lib.hid (i_made hn1 hn5 go_VotingGame1 HT.out (by unfold voteF; rw [show ((0 : Nat) : Int) = 0 from rfl, HZ.out]; rfl) (fun s _ => bitI_le _))
  go_wp2_with fail
  refine HM.out.mono ?_
  rintro e w2 ⟨⟨v, rfl, ho⟩, hx⟩
  obtain ⟨a2, n2, c2, rfl, HN2⟩ := ho.var
  have HX2 := Lib.hid (HX1.out.trans hx)
  have r0 : w2.cell? ⟨w.heap.size + 1, 0, none⟩ = some (.int .i64 0) := HX2.out.cellSome (by simp)
  have r1 : w2.cell? ⟨w.heap.size + 1, 1, none⟩ = some (.slice none 0 0) := HX2.out.cellSome (by simp)
  have f0 : w2.frozen? ⟨w.heap.size + 1, 0, none⟩ = false := (HX2.out.frozens _ _ (by simp)).trans (by simp)
  have f1 : w2.frozen? ⟨w.heap.size + 1, 1, none⟩ = false := (HX2.out.frozens _ _ (by simp)).trans (by simp)
  have HO := Lib.hid ho
  have hsz1 := HX1.out.size
  simp at hsz1
  clear ho hx
  go_wp2
  refine bodyPost_ret (v := .tuple #[.agg #[.int .i64 (n : Int), .slice a2 n2 c2], .bool true]) (by simp [results, Tryd.results22, go_sem, r0, r1]) rfl ⟨⟨.slice a2 n2 c2, ?_, ?_⟩, ?_⟩
  ·unfold voteP; rw [HVV.out, if_pos rfl, HL.out]
  ·unfold voteL; rw [HVV.out, if_pos rfl, HL.out]
   refine HO.out.mono (by omega) |>.keep fun j hj => ?_
   have := (HO.out.lt j hj).1
   rw [heap_setCell_other _ _ _ _ (by simp; omega), heap_setCell_other _ _ _ _ (by simp; omega)]
  ·exact ((HX.out.trans HX2.out).setCell (by simp) _).setCell (by simp) _
set_option maxRecDepth 100000 in
set_option maxHeartbeats 8000000 in
theorem s_VotingGame {w : World} {q : Int} {a : Option Addr} {n cap : Nat} {l : List Int} (h : Ints w a n cap l) :
 Calls Tryd.prog 16 #[pair q a n cap] w fun e w' => GameV w' w.heap.size e (voteP q l) (voteL q l) (validPair 1 q l) ∧ Ext w w' := by
 have hi := h.alloc (.cells #[.int .i64 q, .slice a n cap] 42)
 have HL := Lib.hid h.hlen
 have HV := Lib.hid (s_IsValidVoting (x := q) (hi.ext (Ext.alloc _ (.cells #[.int .i64 0, .slice none 0 0] 27))))
 have HX := Lib.hid ((Ext.alloc w (.cells #[.int .i64 q, .slice a n cap] 42)).trans (Ext.alloc _ (.cells #[.int .i64 0, .slice none 0 0] 27)))
 have hmax := h.hmax
 have hcap := h.hcap
 cases hv : validPair 1 q l
 ·rw [hv] at HV
  have HVV := Lib.hid hv
  clear hv
  go_enter Tryd.func16, Tryd.ntmps16
  go_wp2_with fail
  refine HV.out.mono ?_
  rintro e w1 ⟨rfl, hx⟩
  have r0 : w1.cell? ⟨w.heap.size + 1, 0, none⟩ = some (.int .i64 0) := hx.cellSome (by simp)
  have r1 : w1.cell? ⟨w.heap.size + 1, 1, none⟩ = some (.slice none 0 0) := hx.cellSome (by simp)
  have f0 : w1.frozen? ⟨w.heap.size + 1, 0, none⟩ = false := (hx.frozens _ _ (by simp)).trans (by simp)
  have f1 : w1.frozen? ⟨w.heap.size + 1, 1, none⟩ = false := (hx.frozens _ _ (by simp)).trans (by simp)
  have HX1 := Lib.hid (HX.out.trans hx)
  clear hx
  go_wp2
  refine bodyPost_ret (v := .tuple #[.agg #[.int .i64 0, .slice none 0 0], .bool false]) (by simp [results, Tryd.results16, go_sem, r0, r1]) rfl ⟨⟨.slice none 0 0, ?_, ?_⟩, ?_⟩
  ·unfold voteP; rw [HVV.out]; rfl
  ·unfold voteL; rw [HVV.out]; exact ⟨rfl, .inl ⟨rfl, rfl⟩⟩
  ·exact (HX1.out.setCell (by simp) _).setCell (by simp) _
 ·rw [hv] at HV
  have HVV := Lib.hid hv
  have hn5 : 1 ≤ n ∧ n ≤ 5 := by have := valid_len hv; have := HL.out; omega
  obtain ⟨hn1, hn5⟩ := hn5
  have hN := cN_le n hn5
  have HI := Lib.hid hi
  clear hv h hi
  go_enter Tryd.func16, Tryd.ntmps16
  go_wp2_with fail
  refine HV.out.mono ?_
  rintro e w1 ⟨rfl, hx⟩
  have c1 : w1.cell? ⟨w.heap.size, 1, none⟩ = some (.slice a n cap) := hx.cellSome (by simp)
  have hs1 : w.heap.size < w1.heap.size := World.block_lt_of_cell? _ _ c1
  have hs2 : w.heap.size + 1 < w1.heap.size := by have := hx.size; simp at this; omega
  have HX1 := Lib.hid hx
  have HI1 := Lib.hid ((HI.out.ext (Ext.alloc _ _)).ext hx)
  clear hx
  go_wp2_with (first | (go_at_call 28; refine (s_CountC n hn5 _).mono ?_; rintro e w' ⟨rfl, rfl⟩))
  go_loopw [6] (fun i wr => ∃ (k : Nat) (a1 : Option Addr) (n1 c1 : Nat), k ≤ cN n ∧ i = .int .i64 (k : Int) ∧ Hid (OwnI wr (w1.heap.size + 1) (.slice a1 n1 c1) (rowF (voteF q l) k)) ∧ Hid (wr.heap[w1.heap.size]? = some (.cells #[.int .i64 (n : Int), .slice a1 n1 c1] 27 (0, 0))) ∧ Hid (Ext w1 wr)) (fun i _ => cN n - (intOf i).toNat)
  case atStart =>
   refine ⟨0, none, 0, 0, Nat.zero_le _, rfl, Lib.hid (by unfold rowF; exact ⟨rfl, .inl ⟨rfl, rfl⟩⟩), Lib.hid ?_, Lib.hid ?_⟩
   ·exact heapA_new _ _ _ (by simp)
   ·exact Ext.alloc _ _
  case round =>
   obtain ⟨k, a1, n1, c1, hk, rfl, HO, HB, HX2⟩ := hrel
   have hg0 := two_cell0 HB.out
   have hg1 := two_cell1 HB.out
   have hsz := lt_of_block HB.out
   have c0 : wr.cell? ⟨w.heap.size, 0, none⟩ = some (.int .i64 q) := (HX1.out.trans HX2.out).cellSome (by simp)
   have c1' : wr.cell? ⟨w.heap.size, 1, none⟩ = some (.slice a n cap) := (HX1.out.trans HX2.out).cellSome (by simp)
   by_cases hlt : k < cN n
   ·go_wp2_with fail
    go_region_law (first
     | (refine step_of_wp _ rfl (wp_append_ints _ _ rfl (w1.heap.size + 1) _ _ rfl (HO1.out.ext (Ext.alloc _ _)) _ 1 _ [voteF q l k] rfl (Ints.one _ _ _) (by rw [rowF_len]; omega) (by simp; omega) ?_); intro v3 w3 ho3 hg3 hn3; obtain ⟨a3, n3, c3, rfl, HN3⟩ := ho3.var; have HO3 := Lib.hid ho3; have HX3 := Lib.hid (ext_grown (X1.out.trans (Ext.alloc _ _)) hg3 (fun j hj => by have := (HO1.out.lt j hj).1; omega)); have HB3 := Lib.hid ((hg3.block _ (by simp; omega) (fun e => by have := (HO1.out.lt _ e.symm).1; omega)).trans (((Ext.alloc w4 _).block _ hsz1).trans HB1.out)); have cg3 := two_cell1 HB3.out; have fg3 := frozen_of_row w3 w1.heap.size 1 _ _ HB3.out; clear ho3 hg3 hn3)
     | (go_simp; go_at_call 38; refine (s_l20Wins _ ((HI1.out.ext HX2.out).ext (Ext.drew wr)) (by omega) (by omega) hn5).mono ?_; rintro e w4 ⟨rfl, hx⟩; have X1 := Lib.hid (HX2.out.trans ((Ext.drew wr).trans hx)); have HO1 := Lib.hid ((HO.out.ext (Ext.drew wr)).ext hx); have HB1 := Lib.hid (((Ext.drew wr).trans hx).block _ hsz |>.trans HB.out); have b1 := two_cell1 HB1.out; have hsz1 := lt_of_block HB1.out; clear hx)
     | (go_simp; go_at_call 36; refine (s_l1Bit _ _).mono ?_; rintro e w' ⟨rfl, rfl⟩))
    all_goals
     go_wp2
     go_roundw
     case rel =>
      refine ⟨k + 1, a3, n3, c3, by omega, by go_num, Lib.hid ?_, Lib.hid (two_set HB3.out), Lib.hid (HX3.out.setCell (by simp) _)⟩
      rw [rowF_succ]
      exact HO3.out.keep fun j hj => heap_setCell_other _ _ _ _ (by have := (HO3.out.lt j hj).1; simp; omega)
     case measure => simp [intOf]; omega
   ·have hkn : k = cN n := by omega
    subst hkn
    have r0 : wr.cell? ⟨w.heap.size + 1, 0, none⟩ = some (.int .i64 0) := (HX1.out.trans HX2.out).cellSome (by simp)
    have r1 : wr.cell? ⟨w.heap.size + 1, 1, none⟩ = some (.slice none 0 0) := (HX1.out.trans HX2.out).cellSome (by simp)
    have f0 : wr.frozen? ⟨w.heap.size + 1, 0, none⟩ = false := ((HX1.out.trans HX2.out).frozens _ _ (by simp)).trans (by simp)
    have f1 : wr.frozen? ⟨w.heap.size + 1, 1, none⟩ = false := ((HX1.out.trans HX2.out).frozens _ _ (by simp)).trans (by simp)
    go_wp2
    refine bodyPost_ret (v := .tuple #[.agg #[.int .i64 (n : Int), .slice a1 n1 c1], .bool true]) (by simp [results, Tryd.results16, go_sem, r0, r1]) rfl ⟨⟨.slice a1 n1 c1, ?_, ?_⟩, ?_⟩
    ·unfold voteP; rw [HVV.out, if_pos rfl, HL.out]
    ·unfold voteL; rw [HVV.out, if_pos rfl, HL.out]
     refine HO.out.mono (by omega) |>.keep fun j hj => ?_
     have := (HO.out.lt j hj).1
     rw [heap_setCell_other _ _ _ _ (by simp; omega), heap_setCell_other _ _ _ _ (by simp; omega)]
    ·exact ((HX.out.trans (HX1.out.trans HX2.out)).setCell (by simp) _).setCell (by simp) _
set_option maxHeartbeats 400000 in
theorem s_IsValidClaims {w : World} {x : Int} {a : Option Addr} {n cap : Nat} {l : List Int} (h : Ints w a n cap l) :
 Calls Tryd.prog 34 #[pair x a n cap] w fun e w' => e = .returned (.bool (validPair 0 x l)) ∧ Ext w w' := by
 have h1 := h.alloc (.cells #[.int .i64 x, .slice a n cap] 39)
 have hq := fun m => quiet_same (s_l18Small 100 (h1.drewN m))
 cases hs : small l 100
 all_goals
  have HS := Lib.hid hs
  rw [hs] at hq
  have HQ := Lib.hid hq
  clear hq hs
  go_enter Tryd.func34, Tryd.ntmps34
  go_wp2
  go_quiet ((first | (go_at_call 56; exact HQ.out _) | (go_at_call 58; exact quiet_same (s_l18Sum (h1.drewN _))) | (go_at_call 27; exact quiet_same (s_l1In _ _ _ _))))
  go_wp2
  go_ret
  refine ⟨ret_bool ?_, below_drewN (Ext.alloc _ _) _⟩
  simp only [validPair, HS.out, Bool.true_and, Bool.false_and]
theorem go_IsValidClaims1 : IsGo Tryd.prog 64 := isGo Tryd.func64 (by kernel_rfl) (by kernel_rfl)
set_option maxHeartbeats 400000 in
theorem i_IsValidClaims1 (x : Int) (w : World) : Calls Tryd.prog 64 #[.int .i64 x] w fun e w' => e = .returned (.bool (!inB x 0 100)) ∧ w = w' := by
 go_enter Tryd.func64, Tryd.ntmps64
 go_wp2_with (first | (go_at_call 50; refine (i_within _ _ _ _).mono ?_; rintro e w' ⟨rfl, rfl⟩))
 go_ret
 exact ⟨rfl, rfl⟩
theorem asks_IsValidClaims1 (w : World) : Asks Tryd.prog w 64 #[] (fun x => !inB x 0 100) :=
 fun x w1 _ => (i_IsValidClaims1 x w1).mono fun e w' ⟨he, hw⟩ => ⟨he, hw ▸ Ext.refl _⟩
set_option maxHeartbeats 400000 in
theorem i_IsValidClaims {w : World} {x : Int} {a : Option Addr} {n cap : Nat} {l : List Int} (h : Ints w a n cap l) :
 Calls Tryd.prog 44 #[pair x a n cap] w fun e w' => e = .returned (.bool (validPair 0 x l)) ∧ Ext w w' := by
 have h1 := h.alloc (.cells #[.int .i64 x, .slice a n cap] 39)
 have HX := Lib.hid (Ext.alloc w (.cells #[.int .i64 x, .slice a n cap] 39))
 have HC := Lib.hid (containsFunc_ints h1 go_IsValidClaims1 (asks_IsValidClaims1 _))
 have HL := Lib.hid h.hlen
 cases hin : inB n 1 5
 ·have HI := Lib.hid hin
  go_enter Tryd.func44, Tryd.ntmps44
  go_wp2_with (first | (go_at_call 50; refine (i_within _ _ _ _).mono ?_; rintro e w' ⟨rfl, rfl⟩))
  go_ret
  refine ⟨ret_bool ?_, HX.out⟩
  simp only [validPair, small, HL.out, HI.out, Bool.and_false, Bool.false_and]
 ·have HI := Lib.hid hin
  cases hany : l.any (fun x => !inB x 0 100)
  all_goals
   have HA := Lib.hid hany
   rw [hany] at HC
   clear hany
   go_enter Tryd.func44, Tryd.ntmps44
   go_wp2_with (first | (go_at_call 50; refine (i_within _ _ _ _).mono ?_; rintro e w' ⟨rfl, rfl⟩))
  ·refine HC.out.mono ?_
   rintro e w1 ⟨rfl, hx⟩
   have hcs := hx.cells
   have HX1 := Lib.hid (HX.out.trans hx)
   have h2 := h1.ext hx
   clear hx
   go_wp2
   go_quiet ((first | (go_at_call 65; exact quiet_same (i_total (h2.drewN _))) | (go_at_call 50; exact quiet_same (i_within _ _ _ _))))
   go_wp2
   go_ret
   refine ⟨ret_bool ?_, below_drewN HX1.out _⟩
   simp only [validPair, small_any, HL.out, HI.out, HA.out, Bool.not_false, Bool.true_and]
  ·refine HC.out.mono ?_
   rintro e w1 ⟨rfl, hx⟩
   have HX1 := Lib.hid (HX.out.trans hx)
   clear hx
   go_wp2
   go_ret
   refine ⟨ret_bool ?_, HX1.out⟩
   simp only [validPair, small_any, HA.out, Bool.not_true, Bool.false_and]
end Go.Proofs.YtalmoolkhcgmmaaDoor
