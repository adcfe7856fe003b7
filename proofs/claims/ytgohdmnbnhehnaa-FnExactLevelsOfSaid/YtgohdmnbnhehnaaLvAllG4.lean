import Derived.Test.YtgohdmnbnhehnaaLvAllG2
import Derived.Test.YtgohdmnbnhehnaaLvAllG3
import Derived.Test.YtgohdmnbnhehnaaLvAllG0
import Derived.Deep.RegionWith
namespace Go.Proofs.Ytgohdmnbnhehnaa
set_option linter.unusedVariables false
set_option linter.unusedSimpArgs false
open Go.RowKit
def memN (s : Int) (m : Nat) : List Nat := (List.range m).filter fun (k : Nat) => bit s k
def memI (s : Int) (m : Nat) : List Int := (memN s m).map fun (k : Nat) => (k : Int)
theorem memI_succ (s : Int) (m : Nat) : memI s (m + 1) = memI s m ++ (if bit s m then [(m : Int)] else []) := by
 unfold memI memN
 cases h : bit s m <;> simp [List.range_succ, h]
theorem memI_len (s : Int) (m : Nat) : (memI s m).length ≤ m := by
 unfold memI memN
 simpa using List.length_filter_le (fun (k : Nat) => bit s k) (List.range m)
theorem memI_at (s : Int) (i : Nat) (h : i < (memI s 5).length) : ∃ k : Nat, (memI s 5)[i]?.getD 0 = (k : Int) ∧ k < 5 ∧ bit s k = true ∧ (memN s 5)[i]? = some k := by
 have h' : i < (memN s 5).length := by simpa [memI] using h
 refine ⟨(memN s 5)[i], ?_, ?_⟩
 ·simp [memI, h']
 ·have hm : (memN s 5)[i] ∈ memN s 5 := List.getElem_mem h'
  have h2 := List.mem_filter.1 hm
  exact ⟨List.mem_range.1 h2.1, h2.2, by simp [h']⟩
set_option maxHeartbeats 1000000 in
theorem i_MembersOf (s : Nat) (hs : s < 32) (w : World) :
 Calls Try.prog 160 #[.int .i64 (s : Int)] w fun e w' => ∃ v, e = .returned v ∧ OwnI w' w.heap.size v (memI (s : Int) 5) ∧ Ext w w' := by
 have hin : inB (s : Int) 0 31 = true := by unfold inB; simp; omega
 have HO := Lib.hid (OwnI.made w w.heap.size (Nat.le_refl _))
 go_enter Try.func160, Try.ntmps160
 go_wp2_with (first | (go_at_call 69; refine (i_within _ _ _ _).mono ?_; rintro e w' ⟨rfl, rfl⟩))
 go_loopw [9, 3] (fun i o wr => ∃ (k : Nat) (a1 : Option Addr) (n1 c1 : Nat), k ≤ 5 ∧ i = .int .i64 (k : Int) ∧ o = .slice a1 n1 c1 ∧ Hid (OwnI wr w.heap.size (.slice a1 n1 c1) (memI (s : Int) k)) ∧ Hid (Ext w wr)) (fun i _ _ => 5 - (intOf i).toNat)
 case atStart => exact ⟨0, _, _, _, Nat.zero_le _, rfl, rfl, HO, Lib.hid (Ext.alloc _ _)⟩
 case round =>
  obtain ⟨k, a1, n1, c1, hk, rfl, rfl, HO1, HX1⟩ := hrel
  have hsz := HX1.out.size
  by_cases hlt : k < 5
  ·have HB := Lib.hid (hasP_bit (s : Int) k (by omega) (by omega))
   cases hbit : bit (s : Int) k
   ·rw [hbit] at HB
    have HS := Lib.hid hbit
    clear hbit
    go_wp2_with (first | (go_at_call 173; refine (i_HasPlayer _ _ _ (by omega)).mono ?_; rw [HB.out]; rintro e w3 ⟨rfl, rfl⟩))
    go_roundw
    case rel => exact ⟨k + 1, a1, n1, c1, by omega, by go_num, rfl, Lib.hid (by rw [memI_succ, HS.out]; simpa using HO1.out), HX1⟩
    case measure => simp [intOf]; omega
   ·rw [hbit] at HB
    have HS := Lib.hid hbit
    clear hbit
    go_wp2_with (first
     | (go_at_call 173; refine (i_HasPlayer _ _ _ (by omega)).mono ?_; rw [HB.out]; rintro e w3 ⟨rfl, rfl⟩)
     | (at_builtin; refine append_ints rfl _ _ rfl w.heap.size (.slice a1 n1 c1) _ rfl (HO1.out.ext (Ext.alloc _ _)) _ 1 _ [(k : Int)] rfl (Ints.one _ _ _) (by have := memI_len (s : Int) k; omega) (by simp; omega) ?_; intro v2 w3 ho hg hnear; obtain ⟨a2, n2, c2, rfl, HN2⟩ := ho.var; have HO4 := Lib.hid ho; have HG4 := Lib.hid hg; clear ho hg hnear))
    go_roundw
    case rel =>
     refine ⟨k + 1, a2, n2, c2, by omega, by go_num, rfl, Lib.hid ?_, Lib.hid ?_⟩
     ·rw [memI_succ, HS.out]; exact HO4.out
     ·exact ext_grown (HX1.out.trans (Ext.alloc _ _)) HG4.out (fun j hj => (HO1.out.lt j hj).1)
    case measure => simp [intOf]; omega
  ·have hk5 : k = 5 := by omega
   subst hk5
   go_wp2
   go_ret
   exact ⟨_, rfl, HO1.out, HX1.out⟩
set_option maxHeartbeats 400000 in
theorem l_szGame (x : Int) (a : Option Addr) (n cap : Nat) (left : Int) (w : World) (h0 : 0 ≤ left) (h1 : left ≤ 1048576) (hm : n ≤ 9223372036854775807) :
 Calls Try.prog 43 #[pair x a n cap, .int .i64 left] w fun e w' => e = .returned (.int .i64 (szF left n)) ∧ Ext w w' := by
 have hb := szF_le left n h0 h1
 have HF := Lib.hid (show szF left n < 0 → szF left n = -1 by unfold szF; split <;> omega)
 go_enter Try.func43, Try.ntmps43
 go_wp2_with (first | (go_at_call 108; refine (l_szIntS _ _ _ _ _ h0 h1 hm).mono ?_; rintro e w' ⟨rfl, rfl⟩))
 all_goals go_ret; refine ⟨ret_int ?_, Ext.alloc _ _⟩
 ·exact (HF.out (by assumption)).symm
 ·rfl
set_option maxHeartbeats 400000 in
theorem l_toGame {w : World} {x : Int} {a : Option Addr} {n cap : Nat} {l : List Int} (h : Ints w a n cap l) (hb : n ≤ 1099511627776) :
 Calls Try.prog 46 #[pair x a n cap] w fun e w' => ∃ b, e = .returned (pair x (some ⟨b, 0, none⟩) n n) ∧ Row w' b 3 l ∧ w.heap.size ≤ b ∧ Ext w w' := by
 go_enter Try.func46, Try.ntmps46
 go_wp2_with fail
 refine (l_toIntS (h.ext ?hx1) hb).mono ?_
 case hx1 => exact (((Ext.alloc _ _).trans (Ext.alloc _ _)).trans (Ext.alloc _ _))
 rintro e w1 ⟨b, rfl, hrow, hbb, hx⟩
 have hcs := hx.cells
 have hfs := hx.frozens
 have HX := Lib.hid hx
 clear hx
 go_wp2
 have hbb' : w.heap.size + 1 + 1 + 1 ≤ b := by simpa using hbb
 refine bodyPost_ret (v := pair x (some ⟨b, 0, none⟩) n n) (by simp [results, Try.results46, go_sem, hcs]) rfl ⟨b, rfl, ?_, ?_, ?_⟩
 ·exact ((hrow.other (by simp; omega) _).other (by simp; omega) _).other (by simp; omega) _
 ·omega
 ·exact (((((Ext.alloc _ _).trans (Ext.alloc _ _)).trans (Ext.alloc _ _)).trans HX.out).setCell (by simp; omega) _).setCell (by simp) _ |>.setCell (by simp) _
set_option maxHeartbeats 400000 in
theorem l_eqGame {w : World} {x x' : Int} {a a' : Option Addr} {n n' cap cap' : Nat} {l l' : List Int} (h : Ints w a n cap l) (h' : Ints w a' n' cap' l') :
 Calls Try.prog 50 #[pair x a n cap, pair x' a' n' cap'] w fun e w' => e = .returned (.bool (decide (x = x') && decide (l = l'))) ∧ Ext w w' := by
 have hne : (x != x') = !decide (x = x') := by by_cases h : x = x' <;> simp [h]
 cases hd : decide (x = x')
 ·rw [hd] at hne
  go_enter Try.func50, Try.ntmps50
  go_wp2_with fail
  go_ret
  exact ⟨ret_bool (by simp), (Ext.alloc _ _).trans (Ext.alloc _ _)⟩
 ·rw [hd] at hne
  have hx0 : Ext w ((w.alloc (.cells #[.int .i64 x, .slice a n cap] 26)).alloc (.cells #[.int .i64 x', .slice a' n' cap'] 26)) := (Ext.alloc _ _).trans (Ext.alloc _ _)
  have HE := Lib.hid (l_eqIntS (h.ext hx0) (h'.ext hx0))
  have HX0 := Lib.hid hx0
  clear hx0
  cases hl : decide (l = l')
  all_goals
   have HL := Lib.hid hl
   rw [hl] at HE
   clear hl
   go_enter Try.func50, Try.ntmps50
   go_wp2_with fail
   refine HE.out.mono ?_
   rintro e w1 ⟨rfl, hx⟩
   go_wp2
   go_ret
   exact ⟨ret_bool (by simp), HX0.out.trans hx.ext⟩
theorem l_markGame {w : World} {x : Int} {base : Nat} {a : Option Addr} {n cap : Nat} {l : List Int} (h : OwnI w base (.slice a n cap) l) (k0 : Int) (h0 : 0 ≤ k0) (h1 : k0 + n ≤ 4611686018427387904) :
 Calls Try.prog 52 #[pair x a n cap, .int .i64 k0] w fun e w' => e = .returned (.int .i64 (k0 + n)) ∧ OwnI w' base (.slice a n cap) (seqI k0 n) ∧ w.grownBy w' (Value.slice a n cap).ownBlock := by
 have HO := Lib.hid (h.ext (Ext.alloc w (.cells #[.int .i64 x, .slice a n cap] 26)))
 clear h
 go_enter Try.func52, Try.ntmps52
 go_wp2_with fail
 refine (l_markIntS HO.out k0 h0 h1).mono ?_
 rintro e w1 ⟨rfl, ho, hg, hs⟩
 have HO1 := Lib.hid ho
 have HG := Lib.hid (grown_trans (grown_ext (Value.slice a n cap).ownBlock (Ext.alloc w (.cells #[.int .i64 x, .slice a n cap] 26))) hg (fun k hk => .inl hk))
 clear ho hg hs
 go_wp2
 go_ret
 exact ⟨rfl, HO1.out, HG.out⟩
def gameOk (p : Int) (l : List Int) : Bool := l.all (fun x => inB x (-500) 500) && (inB p 1 5 && (decide ((l.length : Int) = cntC p) && decide (l[0]?.getD 0 = 0)))
theorem gameOk_len {p : Int} {l : List Int} (h : gameOk p l = true) : ∃ n : Nat, p = n ∧ 1 ≤ n ∧ n ≤ 5 ∧ l.length = cN n ∧ l[0]?.getD 0 = 0 ∧ ∀ x ∈ l, -500 ≤ x ∧ x ≤ 500 := by
 unfold gameOk at h
 simp only [Bool.and_eq_true, decide_eq_true_eq] at h
 obtain ⟨ha, hp, hl, h0⟩ := h
 have hb : 1 ≤ p ∧ p ≤ 5 := by unfold inB at hp; simpa using hp
 refine ⟨p.toNat, by omega, by omega, by omega, ?_, h0, ?_⟩
 ·have : p = (p.toNat : Int) := by omega
  rw [this, cntC_nat _ (by omega)] at hl
  omega
 ·intro x hx
  have := List.all_eq_true.1 ha x hx
  unfold inB at this
  simpa using this
set_option maxHeartbeats 1000000 in
theorem s_IsValidGame {w : World} {p : Int} {a : Option Addr} {n cap : Nat} {l : List Int} (h : Ints w a n cap l) :
 Calls Try.prog 63 #[pair p a n cap] w fun e w' => e = .returned (.bool (gameOk p l)) ∧ Ext w w' := by
 have h1 := h.alloc (.cells #[.int .i64 p, .slice a n cap] 26)
 have hn := h.hcap
 have hm := h.hmax
 have HL := Lib.hid h.hlen
 clear h
 go_enter Try.func63, Try.ntmps63
 go_wp2
 go_loop [3] (fun i => ∃ k : Nat, k ≤ n ∧ i = .int .i64 k ∧ (l.take k).all (fun x => inB x (-500) 500) = true) (fun i => n - (intOf i).toNat)
 case atStart => exact ⟨0, Nat.zero_le _, rfl, rfl⟩
 case round =>
  obtain ⟨k, hk, rfl, hall⟩ := hrel
  have HA := Lib.hid hall
  clear hall
  by_cases hlt : k < n
  ·obtain ⟨b, off, rfl, hc⟩ := h1.at hlt
   cases hb : inB (l[k]?.getD 0) (-500) 500
   ·have HB := Lib.hid hb
    go_wp2_with (first | (go_at_call 70; refine (s_l1In _ _ _ _).mono ?_; rintro e w' ⟨rfl, rfl⟩))
    go_ret
    refine ⟨ret_bool ?_, Ext.alloc _ _⟩
    symm
    unfold gameOk
    cases hx : l.all (fun x => inB x (-500) 500)
    ·rfl
    ·have := all_get hx (k := k) (by have := HL.out; omega); rw [HB.out] at this; cases this
   ·have HB := Lib.hid hb
    go_wp2_with (first | (go_at_call 70; refine (s_l1In _ _ _ _).mono ?_; rintro e w' ⟨rfl, rfl⟩))
    go_round
    case rel => exact ⟨k + 1, by omega, by go_num, by rw [take_snoc (by have := HL.out; omega), List.all_append, HA.out]; simpa using HB.out⟩
    case measure => simp [intOf]; omega
  ·have hkn : k = l.length := by have := HL.out; omega
   have hall := HA.out
   rw [hkn, List.take_length] at hall
   have HALL := Lib.hid hall
   clear hall hkn
   cases hp : inB p 1 5
   ·have HP := Lib.hid hp
    go_wp2
    go_quiet ((first | (go_at_call 70; exact quiet_same (s_l1In _ _ _ _)) | (go_at_call 39; exact quiet_same (s_CountCoalitions _ _))))
    go_wp2
    go_ret
    exact ⟨ret_bool (by unfold gameOk; rw [HALL.out, HP.out]; rfl), below_drewN (Ext.alloc _ _) _⟩
   ·have HP := Lib.hid hp
    cases hl : ((n : Int) == cntC p)
    ·have HE := Lib.hid hl
     go_wp2
     go_quiet ((first | (go_at_call 70; exact quiet_same (s_l1In _ _ _ _)) | (go_at_call 39; exact quiet_same (s_CountCoalitions _ _))))
     go_wp2
     go_ret
     refine ⟨ret_bool ?_, below_drewN (Ext.alloc _ _) _⟩
     have : ¬ ((l.length : Int) = cntC p) := by rw [HL.out]; have := HE.out; simpa using this
     unfold gameOk; rw [decide_eq_false this]; simp
    ·have HE := Lib.hid hl
     have hpos : 0 < n := by
      have h1 : 1 ≤ p ∧ p ≤ 5 := by unfold inB at hp; simpa using hp
      have h2 : (n : Int) = cntC p := by simpa using hl
      unfold cntC at h2
      rw [if_pos (by unfold inB; simp; omega)] at h2
      have := pow_pos p.toNat
      omega
     obtain ⟨b, off, rfl, hc⟩ := h1.at hpos
     rw [Nat.add_zero] at hc
     go_wp2
     go_quiet ((first | (go_at_call 70; exact quiet_same (s_l1In _ _ _ _)) | (go_at_call 39; exact quiet_same (s_CountCoalitions _ _))))
     go_wp2
     go_ret
     refine ⟨ret_bool ?_, below_drewN (Ext.alloc _ _) _⟩
     have he : (l.length : Int) = cntC p := by rw [HL.out]; have := HE.out; simpa using this
     unfold gameOk
     rw [HALL.out, HP.out, decide_eq_true he]
     rw [Bool.eq_iff_iff]; simp
theorem i_IsValidGame1 (x : Int) (w : World) : Calls Try.prog 122 #[.int .i64 x] w fun e w' => e = .returned (.bool (!inB x (-500) 500)) ∧ w = w' := by
 go_enter Try.func122, Try.ntmps122
 go_wp2_with (first | (go_at_call 69; refine (i_within _ _ _ _).mono ?_; rintro e w' ⟨rfl, rfl⟩))
 go_ret
 exact ⟨rfl, rfl⟩
theorem go_IsValidGame1 : IsGo Try.prog 122 := isGo Try.func122 (by kernel_rfl) (by kernel_rfl)
theorem asks_IsValidGame1 (w : World) : Asks Try.prog w 122 #[] (fun x => !inB x (-500) 500) :=
 fun x w1 _ => (i_IsValidGame1 x w1).mono fun e w' ⟨he, hw⟩ => ⟨he, hw ▸ Ext.refl _⟩
theorem gameOk_any (p : Int) (l : List Int) : gameOk p l = (inB p 1 5 && (decide ((l.length : Int) = cntC p) && (decide (l[0]?.getD 0 = 0) && !l.any (fun x => !inB x (-500) 500)))) := by
 unfold gameOk
 have : (!l.any (fun x => !inB x (-500) 500)) = l.all (fun x => inB x (-500) 500) := by rw [List.not_any_eq_all_not]; simp
 rw [this]
 cases l.all (fun x => inB x (-500) 500) <;> simp
set_option maxHeartbeats 1000000 in
theorem i_IsValidGame {w : World} {p : Int} {a : Option Addr} {n cap : Nat} {l : List Int} (h : Ints w a n cap l) :
 Calls Try.prog 59 #[pair p a n cap] w fun e w' => e = .returned (.bool (gameOk p l)) ∧ Ext w w' := by
 have h1 := h.alloc (.cells #[.int .i64 p, .slice a n cap] 26)
 have HX := Lib.hid (Ext.alloc w (.cells #[.int .i64 p, .slice a n cap] 26))
 have hn := h.hcap
 have hm := h.hmax
 have HL := Lib.hid h.hlen
 clear h
 cases hp : inB p 1 5
 ·have HP := Lib.hid hp
  go_enter Try.func59, Try.ntmps59
  go_wp2
  go_quiet ((first | (go_at_call 69; exact quiet_same (i_within _ _ _ _))))
  go_wp2
  go_ret
  exact ⟨ret_bool (by rw [gameOk_any, HP.out]; rfl), below_drewN (Ext.alloc _ _) _⟩
 ·have HP := Lib.hid hp
  obtain ⟨m, rfl⟩ : ∃ m : Nat, p = m := ⟨p.toNat, by unfold inB at hp; simp at hp; omega⟩
  have hm1 : 1 ≤ m ∧ m ≤ 5 := by unfold inB at hp; simp at hp; omega
  obtain ⟨hm1, hm5⟩ := hm1
  have hwp : IntKind.i64.wrap ((2 : Int) ^ m) = (cN m : Int) := by
   have h1 := pow_pos m
   have h2 := pow_le5 m hm5
   rw [IntKind.wrap_i64, cN_pow]; omega
  have hwp' : wrap64 ((2 : Int) ^ m) = (cN m : Int) := (wrap_pow m hm5).trans (cN_pow m).symm
  have HC := Lib.hid (cntC_nat m hm5)
  have hN := cN_le m hm5
  cases hl : ((n : Int) != (cN m : Int))
  ·have hnm : n = cN m := Int.ofNat.inj (show (n : Int) = (cN m : Int) by simpa using hl)
   have HNM := Lib.hid hnm
   have hpos : 0 < n := by omega
   obtain ⟨b, off, rfl, hc⟩ := h1.at hpos
   rw [Nat.add_zero] at hc
   clear hnm
   cases h0 : (l[0]?.getD 0 != 0)
   ·have HZ := Lib.hid h0
    have HI := Lib.hid h1
    go_enter Try.func59, Try.ntmps59
    go_wp2
    go_quiet ((first | (go_at_call 69; exact quiet_same (i_within _ _ _ _))))
    go_wp2_with fail
    refine (containsFunc_ints (HI.out.drewN _) go_IsValidGame1 (asks_IsValidGame1 _)).mono ?_
    rintro e w1 ⟨rfl, hx⟩
    go_wp2
    go_ret
    refine ⟨ret_bool ?_, Ext.trans (below_drewN HX.out _) hx⟩
    rw [gameOk_any, HP.out, HC.out, HL.out, HNM.out, decide_eq_true rfl]
    have : l[0]?.getD 0 = 0 := by simpa using HZ.out
    rw [decide_eq_true this]
    rfl
   ·have HZ := Lib.hid h0
    go_enter Try.func59, Try.ntmps59
    go_wp2
    go_quiet ((first | (go_at_call 69; exact quiet_same (i_within _ _ _ _))))
    go_wp2
    go_ret
    refine ⟨ret_bool ?_, below_drewN HX.out _⟩
    have : ¬ (l[0]?.getD 0 = 0) := by simpa using HZ.out
    rw [gameOk_any, decide_eq_false this]
    simp
  ·have HNE := Lib.hid hl
   go_enter Try.func59, Try.ntmps59
   go_wp2
   go_quiet ((first | (go_at_call 69; exact quiet_same (i_within _ _ _ _))))
   go_wp2
   go_ret
   refine ⟨ret_bool ?_, below_drewN HX.out _⟩
   have : ¬ ((l.length : Int) = cntC (m : Int)) := by rw [HL.out, HC.out]; have := HNE.out; simpa using this
   rw [gameOk_any, decide_eq_false this]
   simp
end Go.Proofs.Ytgohdmnbnhehnaa
