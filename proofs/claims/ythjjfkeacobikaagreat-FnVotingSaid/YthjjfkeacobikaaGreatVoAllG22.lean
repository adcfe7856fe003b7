import Derived.Test.YthjjfkeacobikaaGreatVoAllG21
import Derived.Test.YthjjfkeacobikaaGreatVoAllG20
import Derived.Test.YthjjfkeacobikaaGreatVoAllG2
import Derived.Deep.RegionWith
import Derived.Test.YthjjfkeacobikaaGreatVoAllG1
namespace Go.Proofs.YthjjfkeacobikaaGreat
set_option linter.unusedVariables false
set_option linter.unusedSimpArgs false
open Go.RowKit
theorem kwrap_sub (s k : Nat) (hs : s < 32) (hk : k < 5) : IntKind.i64.wrap ((s : Int) - 2 ^ k) = (s : Int) - 2 ^ k := by
 have := pow_pos k
 have := pow_le5 k (by omega)
 rw [IntKind.wrap_i64]; omega
def swB (q : Int) (l : List Int) (s k : Nat) : Bool := bit (s : Int) k && (winsB q l (s : Int) && !winsB q l ((s : Int) - 2 ^ k))
def swN (q : Int) (l : List Int) (k : Nat) : Nat → Nat
 | 0 => 0
 | m + 1 => swN q l k m + (if swB q l m k then 1 else 0)
theorem swN_le (q : Int) (l : List Int) (k : Nat) : ∀ m, swN q l k m ≤ m
 | 0 => Nat.le_refl _
 | m + 1 => by have := swN_le q l k m; unfold swN; split <;> omega
theorem swN_step {q : Int} {l : List Int} {k j : Nat} {b : Bool} (h : swB q l j k = b) (hj : j ≤ 32) : IntKind.i64.wrap ((swN q l k j : Int) + bitI b) = (swN q l k (j + 1) : Int) := by
 have := swN_le q l k j
 rw [IntKind.wrap_i64]
 show _ = ((swN q l k j + (if swB q l j k then 1 else 0) : Nat) : Int)
 rw [h]
 cases b <;> simp [bitI] <;> omega
def swT (q : Int) (l : List Int) (m : Nat) : List Int := if validPair 1 q l then (List.range m).map fun (k : Nat) => (swN q l k (cN l.length) : Int) else []
def swL (q : Int) (l : List Int) : List Int := swT q l l.length
theorem swT_zero (q : Int) (l : List Int) : swT q l 0 = [] := by unfold swT; simp
theorem swT_not {q : Int} {l : List Int} (m : Nat) (h : validPair 1 q l = false) : swT q l m = [] := by unfold swT; rw [h]; rfl
theorem swT_succ {q : Int} {l : List Int} (m : Nat) (h : validPair 1 q l = true) : swT q l (m + 1) = swT q l m ++ [(swN q l m (cN l.length) : Int)] := by
 unfold swT
 rw [h]
 simp [List.range_succ]
theorem swT_len (q : Int) (l : List Int) (m : Nat) : (swT q l m).length ≤ m := by
 unfold swT
 split <;> simp
set_option maxHeartbeats 2000000 in
theorem s_SwingsOf {w : World} {q : Int} {a : Option Addr} {n cap : Nat} {l : List Int} (h : Ints w a n cap l) :
 Calls Tryz.prog 18 #[pair q a n cap] w fun e w' => ∃ v, e = .returned v ∧ OwnI w' w.heap.size v (swL q l) ∧ Ext w w' := by
 have hi := h.alloc (.cells #[.int .i64 q, .slice a n cap] 26)
 have HL := Lib.hid h.hlen
 have hmax := h.hmax
 have hcap := h.hcap
 have HO := Lib.hid (OwnI.made (w.alloc (.cells #[.int .i64 q, .slice a n cap] 26)) (w.heap.size + 1) (by simp))
 have HX := Lib.hid (Ext.alloc w (.cells #[.int .i64 q, .slice a n cap] 26))
 have HI := Lib.hid hi
 clear h hi
 go_enter Tryz.func18, Tryz.ntmps18
 go_wp2
 go_loopw [3, 4] (fun o i wr => ∃ (k : Nat) (a1 : Option Addr) (n1 c1 : Nat), k ≤ n ∧ i = .int .i64 (k : Int) ∧ o = .slice a1 n1 c1 ∧ Hid (OwnI wr (w.heap.size + 1) (.slice a1 n1 c1) (swT q l k)) ∧ Hid (Ext (w.alloc (.cells #[.int .i64 q, .slice a n cap] 26)) wr)) (fun _ i _ => n - (intOf i).toNat)
 case atStart => exact ⟨0, _, _, _, Nat.zero_le _, rfl, rfl, Lib.hid (by rw [swT_zero]; simpa using HO.out), Lib.hid (Ext.alloc _ _)⟩
 case round =>
  obtain ⟨k, a1, n1, c1, hk, rfl, rfl, HO1, HX1⟩ := hrel
  have c0 : wr.cell? ⟨w.heap.size, 0, none⟩ = some (.int .i64 q) := HX1.out.cellSome (by simp)
  have c1' : wr.cell? ⟨w.heap.size, 1, none⟩ = some (.slice a n cap) := HX1.out.cellSome (by simp)
  have hsz : w.heap.size + 1 ≤ wr.heap.size := by have := HX1.out.size; simpa using this
  have HI1 := Lib.hid (HI.out.ext HX1.out)
  by_cases hlt : k < n
  ·have HV := Lib.hid (s_IsValidVoting (x := q) HI1.out)
   cases hv : validPair 1 q l
   ·rw [hv] at HV
    have HVV := Lib.hid hv
    clear hv
    go_wp2_with fail
    refine HV.out.mono ?_
    rintro e w2 ⟨rfl, hx2⟩
    have HX2 := Lib.hid (HX1.out.trans hx2)
    have HO2 := Lib.hid (HO1.out.ext hx2)
    clear hx2
    go_wp2
    go_ret
    exact ⟨_, rfl, by unfold swL; rw [swT_not _ HVV.out, ← swT_not k HVV.out]; exact HO2.out.mono (by omega), HX.out.trans HX2.out⟩
   ·rw [hv] at HV
    have hn5 : n ≤ 5 := by have := valid_len hv; have := HL.out; omega
    have HVV := Lib.hid hv
    clear hv
    have hN := cN_le n hn5
    have hp := pow_pos k
    have hp5 := pow_le5 k (by omega)
    go_wp2_with fail
    refine HV.out.mono ?_
    rintro e w2 ⟨rfl, hx2⟩
    have HX2 := Lib.hid (HX1.out.trans hx2)
    have HO2 := Lib.hid (HO1.out.ext hx2)
    clear hx2 c0 c1' HO1 HI1
    have hsz2 : w.heap.size + 1 ≤ w2.heap.size := by have := HX2.out.size; simpa using this
    go_wp2_with fail
    go_loopw [5, 6] (fun t i ws => ∃ (j : Nat), j ≤ cN n ∧ i = .int .i64 (j : Int) ∧ t = .int .i64 (swN q l k j : Int) ∧ Hid (Ext w2 ws)) (fun _ i _ => cN n - (intOf i).toNat)
    case atStart => exact ⟨0, Nat.zero_le _, rfl, rfl, Lib.hid (Ext.refl _)⟩
    case round =>
     obtain ⟨j, hj, rfl, rfl, HX3⟩ := hrel
     have c0 : wr.cell? ⟨w.heap.size, 0, none⟩ = some (.int .i64 q) := (HX2.out.trans HX3.out).cellSome (by simp)
     have c1' : wr.cell? ⟨w.heap.size, 1, none⟩ = some (.slice a n cap) := (HX2.out.trans HX3.out).cellSome (by simp)
     have HI3 := Lib.hid (HI.out.ext (HX2.out.trans HX3.out))
     have hsw := swN_le q l k j
     by_cases hjl : j < cN n
     ·have HP := Lib.hid (hasP_bit (j : Int) k (by omega) (by omega))
      have HW := Lib.hid (kwrap_sub j k (by omega) (by omega))
      have hk2 : Ext wr wr.drew := Ext.drew wr
      cases hbit : bit (j : Int) k
      ·rw [hbit] at HP
       have HS := Lib.hid (show swB q l j k = false by unfold swB; rw [hbit]; rfl)
       clear hbit
       go_wp2_with (first | (go_at_call 73; refine (s_CountC n hn5 _).mono ?_; rintro e w3 ⟨rfl, rfl⟩))
       refine wp_region_held_drew (S := (fun w' => w'.cell? ⟨w.heap.size, 0, none⟩ = some (.int .i64 q) ∧ w'.cell? ⟨w.heap.size, 1, none⟩ = some (.slice a n cap) ∧ Ext wr w')) (by kernel_rfl) ?_ (fun hHeld => ?_)
       ·exact ⟨hk2.cellSome c0, hk2.cellSome c1', hk2⟩
       refine tk 0 ?_
       refine tk 1 ?_
       refine tk 2 ?_
       refine rd (i := 3) (h := fun K hK => ?_)
       go_simp
       (go_at_call 79; refine (s_HasPlayer _ _ _ (by omega)).mono ?_; rw [HP.out]; rintro e w3 ⟨rfl, rfl⟩)
       go_wp2_with fail
       refine hK.out _ _ ?_ (fun hHeld => ?_)
       ·exact ⟨hk2.cellSome c0, hk2.cellSome c1', hk2⟩
       clear hK K
       try simp only [Act.put, sA, sB, sC]
       refine tk 4 ?_
       refine sk 5 ?_
       refine sk 6 ?_
       refine sk 7 ?_
       refine tk 8 ?_
       refine tk 9 ?_
       refine sk 10 ?_
       refine sk 11 ?_
       refine sk 12 ?_
       refine sk 13 ?_
       refine sk 14 ?_
       refine sk 15 ?_
       refine sk 16 ?_
       refine tk 17 ?_
       refine rd (i := 18) (h := fun K hK => ?_)
       go_simp
       (go_at_call 74; refine (s_l1Bit _ _).mono ?_; rintro e w3 ⟨rfl, rfl⟩)
       go_wp2_with fail
       refine hK.out _ _ ?_ (fun hHeld => ?_)
       ·exact ⟨hk2.cellSome c0, hk2.cellSome c1', hk2⟩
       clear hK K
       try simp only [Act.put, sA, sB, sC]
       refine tk 19 ?_
       refine tk 20 ?_
       refine wpAnyH_done (by kernel_rfl) ?_ _
       go_wp2
       go_roundw
       case rel => exact ⟨j + 1, by omega, by go_num, congrArg (Value.int .i64) (swN_step HS.out (by omega)), Lib.hid (HX3.out.trans hk2)⟩
       case measure => simp [intOf]; omega
      ·rw [hbit] at HP
       have hcl := cut_le j k (by omega) (by omega) hbit
       have HBT := Lib.hid hbit
       clear hbit
       cases hw : winsB q l (j : Int)
       ·have HS := Lib.hid (show swB q l j k = false by unfold swB; rw [hw]; simp)
        go_wp2_with (first | (go_at_call 73; refine (s_CountC n hn5 _).mono ?_; rintro e w3 ⟨rfl, rfl⟩))
        refine wp_region_held_drew (S := (fun w' => w'.cell? ⟨w.heap.size, 0, none⟩ = some (.int .i64 q) ∧ w'.cell? ⟨w.heap.size, 1, none⟩ = some (.slice a n cap) ∧ Ext wr w')) (by kernel_rfl) ?_ (fun hHeld => ?_)
        ·exact ⟨hk2.cellSome c0, hk2.cellSome c1', hk2⟩
        refine tk 0 ?_
        refine tk 1 ?_
        refine tk 2 ?_
        refine rd (i := 3) (h := fun K hK => ?_)
        go_simp
        (go_at_call 79; refine (s_HasPlayer _ _ _ (by omega)).mono ?_; rw [HP.out]; rintro e w3 ⟨rfl, rfl⟩)
        go_wp2_with fail
        refine hK.out _ _ ?_ (fun hHeld => ?_)
        ·exact ⟨hk2.cellSome c0, hk2.cellSome c1', hk2⟩
        clear hK K
        try simp only [Act.put, sA, sB, sC]
        refine tk 4 ?_
        refine tk 5 ?_
        refine tk 6 ?_
        refine rd (i := 7) (h := fun K hK => ?_)
        go_simp
        (go_at_call 75; refine (s_l20Wins _ (HI3.out.ext hk2) (by omega) (by omega) hn5).mono ?_; rw [hw]; rintro e w3 ⟨rfl, hx3⟩; have hk2 := hk2.trans hx3)
        go_wp2_with fail
        refine hK.out _ _ ?_ (fun hHeld => ?_)
        ·exact ⟨hk2.cellSome c0, hk2.cellSome c1', hk2⟩
        clear hK K
        try simp only [Act.put, sA, sB, sC]
        refine tk 8 ?_
        refine tk 9 ?_
        refine sk 10 ?_
        refine sk 11 ?_
        refine sk 12 ?_
        refine sk 13 ?_
        refine sk 14 ?_
        refine sk 15 ?_
        refine sk 16 ?_
        refine tk 17 ?_
        refine rd (i := 18) (h := fun K hK => ?_)
        go_simp
        (go_at_call 74; refine (s_l1Bit _ _).mono ?_; rintro e w3 ⟨rfl, rfl⟩)
        go_wp2_with fail
        refine hK.out _ _ ?_ (fun hHeld => ?_)
        ·exact ⟨hk2.cellSome c0, hk2.cellSome c1', hk2⟩
        clear hK K
        try simp only [Act.put, sA, sB, sC]
        refine tk 19 ?_
        refine tk 20 ?_
        refine wpAnyH_done (by kernel_rfl) ?_ _
        go_wp2
        go_roundw
        case rel => exact ⟨j + 1, by omega, by go_num, congrArg (Value.int .i64) (swN_step HS.out (by omega)), Lib.hid (HX3.out.trans hk2)⟩
        case measure => simp [intOf]; omega
       ·cases hw2 : winsB q l ((j : Int) - 2 ^ k)
        all_goals
         have HS := Lib.hid (show swB q l j k = !winsB q l ((j : Int) - 2 ^ k) by unfold swB; rw [hw, HBT.out]; simp)
         rw [hw2] at HS
         go_wp2_with (first | (go_at_call 73; refine (s_CountC n hn5 _).mono ?_; rintro e w3 ⟨rfl, rfl⟩))
         go_region_held3 (fun w' => w'.cell? ⟨w.heap.size, 0, none⟩ = some (.int .i64 q) ∧ w'.cell? ⟨w.heap.size, 1, none⟩ = some (.slice a n cap) ∧ Ext wr w')
          (exact ⟨hk2.cellSome c0, hk2.cellSome c1', hk2⟩)
          (first
            | (go_at_call 79; refine (s_HasPlayer _ _ _ (by omega)).mono ?_; rw [HP.out]; rintro e w3 ⟨rfl, rfl⟩)
            | (go_at_call 74; refine (s_l1Bit _ _).mono ?_; rintro e w3 ⟨rfl, rfl⟩)
            | (go_at_call 78; refine (s_l2B k (by omega) _).mono ?_; rintro e w3 ⟨rfl, rfl⟩)
            | (go_at_call 75; rw [HW.out]; refine (s_l20Wins _ (HI3.out.ext hk2) (by omega) (by omega) hn5).mono ?_; rw [hw2]; rintro e w3 ⟨rfl, hx3⟩; have hk2 := hk2.trans hx3)
            | (go_at_call 75; refine (s_l20Wins _ (HI3.out.ext hk2) (by omega) (by omega) hn5).mono ?_; rw [hw]; rintro e w3 ⟨rfl, hx3⟩; have hk2 := hk2.trans hx3))
         go_wp2
         go_roundw
         case rel => exact ⟨j + 1, by omega, by go_num, congrArg (Value.int .i64) (swN_step HS.out (by omega)), Lib.hid (HX3.out.trans hk2)⟩
         case measure => simp [intOf]; omega
     ·have hje : j = cN n := by omega
      subst hje
      have HO3 := Lib.hid (HO2.out.ext HX3.out)
      have hsz3 := HX3.out.size
      go_wp2_with (first
       | (go_at_call 73; refine (s_CountC n hn5 _).mono ?_; rintro e w3 ⟨rfl, rfl⟩)
       | (at_builtin; refine append_ints rfl _ _ rfl (w.heap.size + 1) (.slice a1 n1 c1) _ rfl (HO3.out.ext (Ext.alloc _ _)) _ 1 _ [(swN q l k (cN n) : Int)] rfl (Ints.one _ _ _) (by have := swT_len q l k; omega) (by simp; omega) ?_; intro v2 w3 ho hg hnear; obtain ⟨a2, n2, c2, rfl, HN2⟩ := ho.var; have HO4 := Lib.hid ho; have HG4 := Lib.hid hg; clear ho hg hnear))
      go_roundw
      case rel =>
       refine ⟨k + 1, a2, n2, c2, by omega, by go_num, rfl, Lib.hid ?_, Lib.hid ?_⟩
       ·rw [swT_succ _ HVV.out, HL.out]; exact HO4.out
       ·exact ext_grown ((HX2.out.trans HX3.out).trans (Ext.alloc _ _)) HG4.out (fun j hj => by have := (HO3.out.lt j hj).1; simpa using this)
      case measure => simp [intOf]; omega
  ·go_wp2
   go_ret
   have hkn : k = n := by omega
   subst hkn
   exact ⟨_, rfl, by unfold swL; rw [HL.out]; exact HO1.out.mono (by omega), HX.out.trans HX1.out⟩
set_option maxHeartbeats 4000000 in
theorem i_SwingsOf {w : World} {q : Int} {a : Option Addr} {n cap : Nat} {l : List Int} (h : Ints w a n cap l) :
 Calls Tryz.prog 14 #[pair q a n cap] w fun e w' => ∃ v, e = .returned v ∧ OwnI w' w.heap.size v (swL q l) ∧ Ext w w' := by
 have hi := h.alloc (.cells #[.int .i64 q, .slice a n cap] 26)
 have HX := Lib.hid (Ext.alloc w (.cells #[.int .i64 q, .slice a n cap] 26))
 have HL := Lib.hid h.hlen
 have HV := Lib.hid (i_IsValidVoting (x := q) hi)
 have hmax := h.hmax
 have hcap := h.hcap
 cases hv : validPair 1 q l
 ·rw [hv] at HV
  have HVV := Lib.hid hv
  clear hv
  go_enter Tryz.func14, Tryz.ntmps14
  go_wp2_with fail
  refine HV.out.mono ?_
  rintro e w1 ⟨rfl, hx⟩
  go_wp2
  go_ret
  exact ⟨_, rfl, by unfold swL; rw [swT_not _ HVV.out]; exact OwnI.nil _ _, HX.out.trans hx⟩
 rw [hv] at HV
 have HVV := Lib.hid hv
 have hn5 : n ≤ 5 := by have := valid_len hv; have := HL.out; omega
 have HI := Lib.hid hi
 have hN := cN_le n hn5
 have hmk := mk_ints n (by omega)
 clear hv h hi
 go_enter Tryz.func14, Tryz.ntmps14
 go_wp2_with fail
 refine HV.out.mono ?_
 rintro e w1 ⟨rfl, hx⟩
 have c1 : w1.cell? ⟨w.heap.size, 1, none⟩ = some (.slice a n cap) := hx.cellSome (by simp)
 have HX1 := Lib.hid hx
 have hs1 : w.heap.size < w1.heap.size := World.block_lt_of_cell? _ _ c1
 clear hx
 go_wp2
 go_loopw [15] (fun i wr => ∃ (k : Nat) (r : List Int), k ≤ n ∧ i = .int .i64 (k : Int) ∧ Row wr w1.heap.size 3 r ∧ Hid (r.length = n ∧ (∀ i, i < k → r[i]?.getD 0 = (swN q l i (cN n) : Int)) ∧ ∀ i, k ≤ i → i < n → r[i]?.getD 0 = 0) ∧ Hid (Ext (w.alloc (.cells #[.int .i64 q, .slice a n cap] 26)) wr)) (fun i _ => n - (intOf i).toNat)
 case atStart => exact ⟨0, List.replicate n 0, Nat.zero_le _, rfl, by unfold Row; rw [heap_alloc_new], Lib.hid ⟨by simp, fun i hi => absurd hi (by omega), fun i _ hi => by simp [hi]⟩, Lib.hid (HX1.out.trans (Ext.alloc _ _))⟩
 case round =>
  obtain ⟨k, r, hk, rfl, hrow, HR, HX2⟩ := hrel
  have c0 : wr.cell? ⟨w.heap.size, 0, none⟩ = some (.int .i64 q) := HX2.out.cellSome (by simp)
  have c1' : wr.cell? ⟨w.heap.size, 1, none⟩ = some (.slice a n cap) := HX2.out.cellSome (by simp)
  have hs2 : w.heap.size < wr.heap.size := World.block_lt_of_cell? _ _ c0
  by_cases hlt : k < n
  ·have hp := pow_pos k
   have hp5 := pow_le5 k (by omega)
   have HROW := Lib.hid hrow
   clear hrow
   go_wp2_with fail
   refine (i_all hn5).mono ?_
   rintro e w2 ⟨rfl, hx⟩
   have HROW2 := Lib.hid (HROW.out.ext hx)
   have HX3 := Lib.hid (HX2.out.trans hx)
   clear hx c0 c1' HROW
   go_wp2
   go_loopw [20] (fun i wr => ∃ (j : Nat) (r : List Int), j ≤ cN n ∧ i = .int .i64 (j : Int) ∧ Row wr w1.heap.size 3 r ∧ Hid (r.length = n ∧ (∀ i, i < k → r[i]?.getD 0 = (swN q l i (cN n) : Int)) ∧ (r[k]?.getD 0 = (swN q l k j : Int)) ∧ ∀ i, k < i → i < n → r[i]?.getD 0 = 0) ∧ Hid (Ext (w.alloc (.cells #[.int .i64 q, .slice a n cap] 26)) wr)) (fun i _ => cN n - (intOf i).toNat)
   case atStart => exact ⟨0, r, Nat.zero_le _, rfl, HROW2.out, Lib.hid ⟨HR.out.1, HR.out.2.1, by simpa [swN] using HR.out.2.2 k (Nat.le_refl _) hlt, fun i hi hin => HR.out.2.2 i (by omega) hin⟩, HX3⟩
   case round =>
    obtain ⟨j, r2, hj, rfl, hrow, HR2, HX4⟩ := hrel
    have c0 : wr.cell? ⟨w.heap.size, 0, none⟩ = some (.int .i64 q) := HX4.out.cellSome (by simp)
    have c1' : wr.cell? ⟨w.heap.size, 1, none⟩ = some (.slice a n cap) := HX4.out.cellSome (by simp)
    have HI4 := Lib.hid (HI.out.ext HX4.out)
    have HROW4 := Lib.hid hrow
    clear hrow
    by_cases hjl : j < cN n
    ·have HWP := Lib.hid (kwrap_pow k (by omega))
     have HC := Lib.hid (cut j k (by omega) (by omega))
     have hk2 : Ext wr wr.drew := Ext.drew wr
     cases hw : winsB q l (j : Int)
     ·have HS := Lib.hid (show swB q l j k = false by unfold swB; rw [hw]; simp)
      go_wp2
      refine wp_region_held_drew (S := (fun w' => w'.cell? ⟨w.heap.size, 0, none⟩ = some (.int .i64 q) ∧ w'.cell? ⟨w.heap.size, 1, none⟩ = some (.slice a n cap) ∧ Ext wr w')) (by kernel_rfl) ?_ (fun hHeld => ?_)
      ·exact ⟨hk2.cellSome c0, hk2.cellSome c1', hk2⟩
      refine tk 0 ?_
      refine tk 1 ?_
      refine rd (i := 2) (h := fun K hK => ?_)
      go_simp
      (go_at_call 71; refine (i_wins _ (HI4.out.ext hk2) (by omega) (by omega) (by omega)).mono ?_; rw [hw]; rintro e w3 ⟨rfl, hx3⟩; have hk2 := hk2.trans hx3)
      go_wp2_with fail
      refine hK.out _ _ ?_ (fun hHeld => ?_)
      ·exact ⟨hk2.cellSome c0, hk2.cellSome c1', hk2⟩
      clear hK K
      try simp only [Act.put, sA, sB, sC]
      refine tk 3 ?_
      refine sk 4 ?_
      refine sk 5 ?_
      refine sk 6 ?_
      refine sk 7 ?_
      refine sk 8 ?_
      refine sk 9 ?_
      refine sk 10 ?_
      refine tk 11 ?_
      refine wpAnyH_done (by kernel_rfl) ?_ _
      go_wp2
      go_roundw
      case rel => exact ⟨j + 1, r2, by omega, by go_num, HROW4.out.ext hk2, Lib.hid ⟨HR2.out.1, HR2.out.2.1, by rw [HR2.out.2.2.1]; simp [swN, HS.out], HR2.out.2.2.2⟩, Lib.hid (HX4.out.trans hk2)⟩
      case measure => simp [intOf]; omega
     ·cases hbit : bit (j : Int) k
      ·have HS := Lib.hid (show swB q l j k = false by unfold swB; rw [hbit]; rfl)
       rw [hbit] at HC
       clear hbit
       go_wp2
       go_region_held3 (fun w' => w'.cell? ⟨w.heap.size, 0, none⟩ = some (.int .i64 q) ∧ w'.cell? ⟨w.heap.size, 1, none⟩ = some (.slice a n cap) ∧ Ext wr w')
        (exact ⟨hk2.cellSome c0, hk2.cellSome c1', hk2⟩)
        (first
          | (go_at_call 71; rw [HWP.out, HC.out]; simp only [Bool.false_eq_true, if_false]; refine (i_wins _ (HI4.out.ext hk2) (by omega) (by omega) (by omega)).mono ?_; rw [hw]; rintro e w3 ⟨rfl, hx3⟩; have hk2 := hk2.trans hx3)
          | (go_at_call 71; refine (i_wins _ (HI4.out.ext hk2) (by omega) (by omega) (by omega)).mono ?_; rw [hw]; rintro e w3 ⟨rfl, hx3⟩; have hk2 := hk2.trans hx3))
       go_wp2
       go_roundw
       case rel => exact ⟨j + 1, r2, by omega, by go_num, HROW4.out.ext hk2, Lib.hid ⟨HR2.out.1, HR2.out.2.1, by rw [HR2.out.2.2.1]; simp [swN, HS.out], HR2.out.2.2.2⟩, Lib.hid (HX4.out.trans hk2)⟩
       case measure => simp [intOf]; omega
      ·have hcl := cut_le j k (by omega) (by omega) hbit
       rw [hbit] at HC
       have HBT := Lib.hid hbit
       clear hbit
       cases hw2 : winsB q l ((j : Int) - 2 ^ k)
       ·have HS := Lib.hid (show swB q l j k = true by unfold swB; rw [hw, hw2, HBT.out]; rfl)
        go_wp2
        go_region_held3 (fun w' => w'.cell? ⟨w.heap.size, 0, none⟩ = some (.int .i64 q) ∧ w'.cell? ⟨w.heap.size, 1, none⟩ = some (.slice a n cap) ∧ Ext wr w')
         (exact ⟨hk2.cellSome c0, hk2.cellSome c1', hk2⟩)
         (first
           | (go_at_call 71; rw [HWP.out, HC.out]; simp only [if_true]; refine (i_wins _ (HI4.out.ext hk2) (by omega) (by omega) (by omega)).mono ?_; rw [hw2]; rintro e w3 ⟨rfl, hx3⟩; have hk2 := hk2.trans hx3)
           | (go_at_call 71; refine (i_wins _ (HI4.out.ext hk2) (by omega) (by omega) (by omega)).mono ?_; rw [hw]; rintro e w3 ⟨rfl, hx3⟩; have hk2 := hk2.trans hx3))
        rename_i w9
        have HROW5 := Lib.hid (HROW4.out.ext hk2)
        have hl := HR2.out.1
        have hold := HROW5.out.cell (k := k) (by omega)
        have hfree := HROW5.out.free k
        have hsw := swN_le q l k j
        have hv := HR2.out.2.2.1
        rw [hv] at hold
        clear hl hv
        go_wp2
        go_roundw
        case rel =>
         refine ⟨j + 1, r2.set k ((swN q l k j : Int) + 1), by omega, by go_num, HROW5.out.set k _, Lib.hid ⟨by simp [HR2.out.1], ?_, ?_, ?_⟩, Lib.hid ((HX4.out.trans hk2).setCell ?_ _)⟩
         ·intro i hi
          rw [List.getElem?_set_ne (by omega)]
          exact HR2.out.2.1 i hi
         ·rw [List.getElem?_set_self (by rw [HR2.out.1]; exact hlt)]
          simp [swN, HS.out]
         ·intro i hi hin
          rw [List.getElem?_set_ne (by omega)]
          exact HR2.out.2.2.2 i hi hin
         ·simp; omega
        case measure => simp [intOf]; omega
       ·have HS := Lib.hid (show swB q l j k = false by unfold swB; rw [hw2]; simp)
        go_wp2
        go_region_held3 (fun w' => w'.cell? ⟨w.heap.size, 0, none⟩ = some (.int .i64 q) ∧ w'.cell? ⟨w.heap.size, 1, none⟩ = some (.slice a n cap) ∧ Ext wr w')
         (exact ⟨hk2.cellSome c0, hk2.cellSome c1', hk2⟩)
         (first
           | (go_at_call 71; rw [HWP.out, HC.out]; simp only [if_true]; refine (i_wins _ (HI4.out.ext hk2) (by omega) (by omega) (by omega)).mono ?_; rw [hw2]; rintro e w3 ⟨rfl, hx3⟩; have hk2 := hk2.trans hx3)
           | (go_at_call 71; refine (i_wins _ (HI4.out.ext hk2) (by omega) (by omega) (by omega)).mono ?_; rw [hw]; rintro e w3 ⟨rfl, hx3⟩; have hk2 := hk2.trans hx3))
        go_wp2
        go_roundw
        case rel => exact ⟨j + 1, r2, by omega, by go_num, HROW4.out.ext hk2, Lib.hid ⟨HR2.out.1, HR2.out.2.1, by rw [HR2.out.2.2.1]; simp [swN, HS.out], HR2.out.2.2.2⟩, Lib.hid (HX4.out.trans hk2)⟩
        case measure => simp [intOf]; omega
    ·have hje : j = cN n := by omega
     subst hje
     go_wp2
     go_roundw
     case rel => exact ⟨k + 1, r2, by omega, by go_num, HROW4.out, Lib.hid ⟨HR2.out.1, fun i hi => by rcases Nat.lt_succ_iff_lt_or_eq.1 hi with h | rfl; exact HR2.out.2.1 i h; exact HR2.out.2.2.1, fun i hi hin => HR2.out.2.2.2 i (by omega) hin⟩, HX4⟩
     case measure => simp [intOf]; omega
  ·have hkn : k = n := by omega
   subst hkn
   go_wp2
   go_ret
   refine ⟨_, rfl, ?_, HX.out.trans HX2.out⟩
   have he : r = swL q l := by
    unfold swL swT
    rw [HVV.out, if_pos rfl, HL.out]
    apply List.ext_getElem?
    intro i
    by_cases hi : i < k
    ·have h1 := HR.out.2.1 i hi
     have h2 : i < r.length := by rw [HR.out.1]; exact hi
     rw [List.getElem?_eq_getElem h2] at h1 ⊢
     simp at h1
     simp [hi, h1]
    ·rw [List.getElem?_eq_none (by rw [HR.out.1]; omega), List.getElem?_eq_none (by simp; omega)]
   rw [← he]
   exact hrow.own (by omega) HR.out.1 (by omega)
theorem bit_big_nat : ∀ n : Fin 6, ∀ s : Fin 32, ∀ k : Fin 5, s.val < cN n.val → n.val ≤ k.val → bit ((s.val : Nat) : Int) k.val = false := by decide +kernel
theorem bit_big (n s k : Nat) (hn : n ≤ 5) (hs : s < cN n) (hk : n ≤ k) (hk5 : k < 5) : bit (s : Int) k = false :=
 bit_big_nat ⟨n, by omega⟩ ⟨s, by have := cN_le n hn; omega⟩ ⟨k, hk5⟩ hs hk
def memN (s : Int) (m : Nat) : List Nat := (List.range m).filter fun (k : Nat) => bit s k
def memI (s : Int) (m : Nat) : List Int := (memN s m).map fun (k : Nat) => (k : Int)
theorem memI_succ (s : Int) (m : Nat) : memI s (m + 1) = memI s m ++ (if bit s m then [(m : Int)] else []) := by
 unfold memI memN
 cases h : bit s m <;> simp [List.range_succ, h]
theorem memI_len (s : Int) (m : Nat) : (memI s m).length ≤ m := by
 unfold memI memN
 simpa using List.length_filter_le (fun (k : Nat) => bit s k) (List.range m)
theorem memI_at (s : Int) (i : Nat) (h : i < (memI s 5).length) : ∃ k : Nat, (memI s 5)[i]?.getD 0 = (k : Int) ∧ k < 5 ∧ bit s k = true ∧ (memN s 5)[i]? = some k := by
 have h' : i < (memN s 5).length := by simpa [memI] using h
 refine ⟨(memN s 5)[i], ?_, ?_⟩
 ·simp [memI, h']
 ·have hm : (memN s 5)[i] ∈ memN s 5 := List.getElem_mem h'
  have h2 := List.mem_filter.1 hm
  exact ⟨List.mem_range.1 h2.1, h2.2, by simp [h']⟩
def minP (q : Int) (l : List Int) (s : Nat) (m : Nat) : Bool := (List.range m).all fun (k : Nat) => !(bit (s : Int) k && winsB q l ((s : Int) - 2 ^ k))
theorem minP_succ (q : Int) (l : List Int) (s m : Nat) : minP q l s (m + 1) = (minP q l s m && !(bit (s : Int) m && winsB q l ((s : Int) - 2 ^ m))) := by simp [minP, List.range_succ]
theorem minP_false {q : Int} {l : List Int} {s m N : Nat} (h : (bit (s : Int) m && winsB q l ((s : Int) - 2 ^ m)) = true) (hm : m < N) : minP q l s N = false := by
 unfold minP
 rw [List.all_eq_false]
 exact ⟨m, List.mem_range.2 hm, by rw [h]; simp⟩
theorem minP_up {q : Int} {l : List Int} {s n : Nat} (hn : n ≤ 5) (hs : s < cN n) : ∀ d, n + d ≤ 5 → minP q l s (n + d) = minP q l s n
 | 0, _ => rfl
 | d + 1, h => by
   rw [show n + (d + 1) = (n + d) + 1 by omega, minP_succ, minP_up hn hs d (by omega), bit_big n s (n + d) hn hs (by omega) (by omega)]
   simp
def minM (q : Int) (l : List Int) (s : Nat) (i : Nat) : Bool := winsB q l (s : Int) && ((memN (s : Int) 5).take i).all fun (k : Nat) => !winsB q l ((s : Int) - 2 ^ k)
theorem minM_zero (q : Int) (l : List Int) (s : Nat) : minM q l s 0 = winsB q l (s : Int) := by simp [minM]
theorem minM_succ {q : Int} {l : List Int} {s i k : Nat} (h : (memN (s : Int) 5)[i]? = some k) : minM q l s (i + 1) = (minM q l s i && !winsB q l ((s : Int) - 2 ^ k)) := by
 unfold minM
 rw [List.take_add_one, h]
 simp [Bool.and_assoc]
theorem minM_all {q : Int} {l : List Int} {s n : Nat} (hn : n ≤ 5) (hs : s < cN n) (i : Nat) (hi : (memN (s : Int) 5).length ≤ i) : minM q l s i = (minP q l s n && winsB q l (s : Int)) := by
 have h5 : minP q l s 5 = minP q l s n := by
  have := minP_up (q := q) (l := l) hn hs (5 - n) (by omega)
  rwa [show n + (5 - n) = 5 by omega] at this
 rw [← h5]
 unfold minM
 rw [List.take_of_length_le hi, Bool.and_comm]
 congr 1
 unfold memN minP
 rw [List.all_filter]
 congr 1
 funext k
 cases bit (s : Int) k <;> simp
def minW (q : Int) (l : List Int) (s : Nat) : Bool := minP q l s l.length && winsB q l (s : Int)
def minT (q : Int) (l : List Int) (m : Nat) : List Int := if validPair 1 q l then ((List.range m).filter fun (s : Nat) => minW q l s).map (fun (k : Nat) => (k : Int)) else []
def minL (q : Int) (l : List Int) : List Int := minT q l (cN l.length)
theorem minT_zero (q : Int) (l : List Int) : minT q l 0 = [] := by unfold minT; simp
theorem minT_not {q : Int} {l : List Int} (m : Nat) (h : validPair 1 q l = false) : minT q l m = [] := by unfold minT; rw [h]; rfl
theorem minT_succ {q : Int} {l : List Int} (m : Nat) (h : validPair 1 q l = true) : minT q l (m + 1) = minT q l m ++ (if minW q l m then [(m : Int)] else []) := by
 unfold minT
 rw [h]
 simp only [List.range_succ, List.filter_append, List.map_append, if_true]
 congr 1
 cases hw : minW q l m <;> simp [hw]
theorem minT_len (q : Int) (l : List Int) (m : Nat) : (minT q l m).length ≤ m := by
 unfold minT
 split
 ·simpa using List.length_filter_le (fun (k : Nat) => minW q l k) (List.range m)
 ·simp
set_option maxHeartbeats 2000000 in
theorem s_l20Minimal {w : World} {q : Int} {a : Option Addr} {n cap : Nat} {l : List Int} (s : Nat) (h : Ints w a n cap l) (hs : s < 32) (hn5 : n ≤ 5) :
 Calls Tryz.prog 94 #[pair q a n cap, .int .i64 (s : Int)] w fun e w' => e = .returned (.bool (minW q l s)) ∧ Ext w w' := by
 have hi := h.alloc (.cells #[.int .i64 q, .slice a n cap] 26)
 have HX := Lib.hid (Ext.alloc w (.cells #[.int .i64 q, .slice a n cap] 26))
 have HL := Lib.hid h.hlen
 have hmax := h.hmax
 have hcap := h.hcap
 have HI := Lib.hid hi
 clear h hi
 go_enter Tryz.func94, Tryz.ntmps94
 go_wp2
 go_loopw [5] (fun i wr => ∃ k : Nat, k ≤ n ∧ i = .int .i64 (k : Int) ∧ Hid (minP q l s k = true) ∧ Hid (Ext (w.alloc (.cells #[.int .i64 q, .slice a n cap] 26)) wr)) (fun i _ => n - (intOf i).toNat)
 case atStart => exact ⟨0, Nat.zero_le _, rfl, Lib.hid (by simp [minP]), Lib.hid (Ext.refl _)⟩
 case round =>
  obtain ⟨k, hk, rfl, HP, HX1⟩ := hrel
  have c0 : wr.cell? ⟨w.heap.size, 0, none⟩ = some (.int .i64 q) := HX1.out.cellSome (by simp)
  have c1' : wr.cell? ⟨w.heap.size, 1, none⟩ = some (.slice a n cap) := HX1.out.cellSome (by simp)
  have HI1 := Lib.hid (HI.out.ext HX1.out)
  by_cases hlt : k < n
  ·have HB := Lib.hid (hasP_bit (s : Int) k (by omega) (by omega))
   have HW := Lib.hid (kwrap_sub s k hs (by omega))
   have hk2 : Ext wr wr.drew := Ext.drew wr
   cases hbit : bit (s : Int) k
   ·rw [hbit] at HB
    have HS := Lib.hid hbit
    clear hbit
    go_wp2
    refine wp_region_held_drew (S := (fun w' => w'.cell? ⟨w.heap.size, 0, none⟩ = some (.int .i64 q) ∧ w'.cell? ⟨w.heap.size, 1, none⟩ = some (.slice a n cap) ∧ Ext wr w')) (by kernel_rfl) ?_ (fun hHeld => ?_)
    ·exact ⟨hk2.cellSome c0, hk2.cellSome c1', hk2⟩
    refine tk 0 ?_
    refine tk 1 ?_
    refine rd (i := 2) (h := fun K hK => ?_)
    go_simp
    (go_at_call 79; refine (s_HasPlayer _ _ _ (by omega)).mono ?_; rw [HB.out]; rintro e w3 ⟨rfl, rfl⟩)
    go_wp2_with fail
    refine hK.out _ _ ?_ (fun hHeld => ?_)
    ·exact ⟨hk2.cellSome c0, hk2.cellSome c1', hk2⟩
    clear hK K
    try simp only [Act.put, sA, sB, sC]
    refine tk 3 ?_
    refine sk 4 ?_
    refine sk 5 ?_
    refine sk 6 ?_
    refine sk 7 ?_
    refine sk 8 ?_
    refine sk 9 ?_
    refine tk 10 ?_
    refine wpAnyH_done (by kernel_rfl) ?_ _
    go_wp2
    go_roundw
    case rel => exact ⟨k + 1, by omega, by go_num, Lib.hid (by rw [minP_succ, HP.out, HS.out]; rfl), Lib.hid (HX1.out.trans hk2)⟩
    case measure => simp [intOf]; omega
   ·rw [hbit] at HB
    have hcl := cut_le s k hs (by omega) hbit
    have hp := pow_pos k
    have HBT := Lib.hid hbit
    clear hbit
    cases hw2 : winsB q l ((s : Int) - 2 ^ k)
    all_goals
     have HS := Lib.hid hw2
     go_wp2
     go_region_held3 (fun w' => w'.cell? ⟨w.heap.size, 0, none⟩ = some (.int .i64 q) ∧ w'.cell? ⟨w.heap.size, 1, none⟩ = some (.slice a n cap) ∧ Ext wr w')
      (exact ⟨hk2.cellSome c0, hk2.cellSome c1', hk2⟩)
      (first
        | (go_at_call 79; refine (s_HasPlayer _ _ _ (by omega)).mono ?_; rw [HB.out]; rintro e w3 ⟨rfl, rfl⟩)
        | (go_at_call 78; refine (s_l2B k (by omega) _).mono ?_; rintro e w3 ⟨rfl, rfl⟩)
        | (go_at_call 75; rw [HW.out]; refine (s_l20Wins _ (HI1.out.ext hk2) (by omega) (by omega) hn5).mono ?_; rw [hw2]; rintro e w3 ⟨rfl, hx3⟩; have hk2 := hk2.trans hx3))
     go_wp2
    ·go_roundw
     case rel => exact ⟨k + 1, by omega, by go_num, Lib.hid (by rw [minP_succ, HP.out, HS.out]; simp), Lib.hid (HX1.out.trans hk2)⟩
     case measure => simp [intOf]; omega
    ·go_ret
     exact ⟨ret_bool (by unfold minW; rw [HL.out, minP_false (m := k) (by rw [HBT.out, HS.out]; rfl) hlt]; rfl), (HX.out.trans HX1.out).trans hk2⟩
  ·have hkn : k = n := by omega
   subst hkn
   go_wp2_with (first | (go_at_call 75; refine (s_l20Wins _ HI1.out (by omega) (by omega) hn5).mono ?_; rintro e w3 ⟨rfl, hx3⟩))
   go_ret
   exact ⟨ret_bool (by unfold minW; rw [HL.out, HP.out]; rfl), (HX.out.trans HX1.out).trans hx3⟩
set_option maxHeartbeats 1000000 in
theorem i_MembersOf (s : Nat) (hs : s < 32) (w : World) :
 Calls Tryz.prog 91 #[.int .i64 (s : Int)] w fun e w' => ∃ v, e = .returned v ∧ OwnI w' w.heap.size v (memI (s : Int) 5) ∧ Ext w w' := by
 have hin : inB (s : Int) 0 31 = true := by unfold inB; simp; omega
 have HO := Lib.hid (OwnI.made w w.heap.size (Nat.le_refl _))
 go_enter Tryz.func91, Tryz.ntmps91
 go_wp2_with (first | (go_at_call 80; refine (i_within _ _ _ _).mono ?_; rintro e w' ⟨rfl, rfl⟩))
 go_loopw [9, 3] (fun i o wr => ∃ (k : Nat) (a1 : Option Addr) (n1 c1 : Nat), k ≤ 5 ∧ i = .int .i64 (k : Int) ∧ o = .slice a1 n1 c1 ∧ Hid (OwnI wr w.heap.size (.slice a1 n1 c1) (memI (s : Int) k)) ∧ Hid (Ext w wr)) (fun i _ _ => 5 - (intOf i).toNat)
 case atStart => exact ⟨0, _, _, _, Nat.zero_le _, rfl, rfl, HO, Lib.hid (Ext.alloc _ _)⟩
 case round =>
  obtain ⟨k, a1, n1, c1, hk, rfl, rfl, HO1, HX1⟩ := hrel
  have hsz := HX1.out.size
  by_cases hlt : k < 5
  ·have HB := Lib.hid (hasP_bit (s : Int) k (by omega) (by omega))
   cases hbit : bit (s : Int) k
   ·rw [hbit] at HB
    have HS := Lib.hid hbit
    clear hbit
    go_wp2_with (first | (go_at_call 165; refine (i_HasPlayer _ _ _ (by omega)).mono ?_; rw [HB.out]; rintro e w3 ⟨rfl, rfl⟩))
    go_roundw
    case rel => exact ⟨k + 1, a1, n1, c1, by omega, by go_num, rfl, Lib.hid (by rw [memI_succ, HS.out]; simpa using HO1.out), HX1⟩
    case measure => simp [intOf]; omega
   ·rw [hbit] at HB
    have HS := Lib.hid hbit
    clear hbit
    go_wp2_with (first
     | (go_at_call 165; refine (i_HasPlayer _ _ _ (by omega)).mono ?_; rw [HB.out]; rintro e w3 ⟨rfl, rfl⟩)
     | (at_builtin; refine append_ints rfl _ _ rfl w.heap.size (.slice a1 n1 c1) _ rfl (HO1.out.ext (Ext.alloc _ _)) _ 1 _ [(k : Int)] rfl (Ints.one _ _ _) (by have := memI_len (s : Int) k; omega) (by simp; omega) ?_; intro v2 w3 ho hg hnear; obtain ⟨a2, n2, c2, rfl, HN2⟩ := ho.var; have HO4 := Lib.hid ho; have HG4 := Lib.hid hg; clear ho hg hnear))
    go_roundw
    case rel =>
     refine ⟨k + 1, a2, n2, c2, by omega, by go_num, rfl, Lib.hid ?_, Lib.hid ?_⟩
     ·rw [memI_succ, HS.out]; exact HO4.out
     ·exact ext_grown (HX1.out.trans (Ext.alloc _ _)) HG4.out (fun j hj => (HO1.out.lt j hj).1)
    case measure => simp [intOf]; omega
  ·have hk5 : k = 5 := by omega
   subst hk5
   go_wp2
   go_ret
   exact ⟨_, rfl, HO1.out, HX1.out⟩
theorem cntC_any (n : Nat) : ∃ m : Nat, cntC (n : Int) = m ∧ m ≤ 32 ∧ (n ≤ 5 → m = cN n) := by
 by_cases h : n ≤ 5
 ·exact ⟨cN n, cntC_nat n h, (cN_le n h).2, fun _ => rfl⟩
 ·exact ⟨0, by unfold cntC; rw [if_neg (by unfold inB; simp; omega)]; rfl, by omega, fun h' => absurd h' h⟩
set_option maxHeartbeats 2000000 in
theorem s_MinimalWinning {w : World} {q : Int} {a : Option Addr} {n cap : Nat} {l : List Int} (h : Ints w a n cap l) :
 Calls Tryz.prog 25 #[pair q a n cap] w fun e w' => ∃ v, e = .returned v ∧ OwnI w' w.heap.size v (minL q l) ∧ Ext w w' := by
 have hi := h.alloc (.cells #[.int .i64 q, .slice a n cap] 26)
 have HL := Lib.hid h.hlen
 have hmax := h.hmax
 have hcap := h.hcap
 have HO := Lib.hid (OwnI.made (w.alloc (.cells #[.int .i64 q, .slice a n cap] 26)) (w.heap.size + 1) (by simp))
 have HX := Lib.hid (Ext.alloc w (.cells #[.int .i64 q, .slice a n cap] 26))
 have HI := Lib.hid hi
 obtain ⟨m, hm, hm32, hmn⟩ := cntC_any n
 have HCN := Lib.hid hm
 have HMN := Lib.hid hmn
 clear h hi hm hmn
 go_enter Tryz.func25, Tryz.ntmps25
 go_wp2_with (first | (go_at_call 73; refine (s_CountCoalitions _ _).mono ?_; rw [HCN.out]; rintro e w' ⟨rfl, rfl⟩))
 go_loopw [3, 5] (fun o i wr => ∃ (k : Nat) (a1 : Option Addr) (n1 c1 : Nat), k ≤ m ∧ i = .int .i64 (k : Int) ∧ o = .slice a1 n1 c1 ∧ Hid (OwnI wr (w.heap.size + 1) (.slice a1 n1 c1) (minT q l k)) ∧ Hid (Ext (w.alloc (.cells #[.int .i64 q, .slice a n cap] 26)) wr)) (fun _ i _ => m - (intOf i).toNat)
 case atStart => exact ⟨0, _, _, _, Nat.zero_le _, rfl, rfl, Lib.hid (by rw [minT_zero]; simpa using HO.out), Lib.hid (Ext.alloc _ _)⟩
 case round =>
  obtain ⟨k, a1, n1, c1, hk, rfl, rfl, HO1, HX1⟩ := hrel
  have c0 : wr.cell? ⟨w.heap.size, 0, none⟩ = some (.int .i64 q) := HX1.out.cellSome (by simp)
  have c1' : wr.cell? ⟨w.heap.size, 1, none⟩ = some (.slice a n cap) := HX1.out.cellSome (by simp)
  have hsz : w.heap.size + 1 ≤ wr.heap.size := by have := HX1.out.size; simpa using this
  have HI1 := Lib.hid (HI.out.ext HX1.out)
  by_cases hlt : k < m
  ·have HV := Lib.hid (s_IsValidVoting (x := q) HI1.out)
   cases hv : validPair 1 q l
   ·rw [hv] at HV
    have HVV := Lib.hid hv
    clear hv
    go_wp2_with fail
    refine HV.out.mono ?_
    rintro e w2 ⟨rfl, hx2⟩
    have HX2 := Lib.hid (HX1.out.trans hx2)
    have HO2 := Lib.hid (HO1.out.ext hx2)
    clear hx2
    go_wp2
    go_ret
    exact ⟨_, rfl, by unfold minL; rw [minT_not _ HVV.out, ← minT_not k HVV.out]; exact HO2.out.mono (by omega), HX.out.trans HX2.out⟩
   ·rw [hv] at HV
    have hn5 : n ≤ 5 := by have := valid_len hv; have := HL.out; omega
    have HVV := Lib.hid hv
    clear hv
    go_wp2_with fail
    refine HV.out.mono ?_
    rintro e w2 ⟨rfl, hx2⟩
    have c0 := hx2.cellSome c0
    have c1' := hx2.cellSome c1'
    have HX2 := Lib.hid (HX1.out.trans hx2)
    have HO2 := Lib.hid (HO1.out.ext hx2)
    have HI2 := Lib.hid (HI1.out.ext hx2)
    clear hx2
    cases hb : minW q l k
    all_goals
     have HB := Lib.hid hb
     go_wp2_with fail
     refine (s_l20Minimal k HI2.out (by omega) hn5).mono ?_
     rw [hb]
     rintro e w3 ⟨rfl, hx3⟩
     have HX3 := Lib.hid (HX2.out.trans hx3)
     have HO3 := Lib.hid (HO2.out.ext hx3)
     have hsz3 := HX3.out.size
     simp at hsz3
     clear hx3 c0 c1'
    ·go_wp2
     go_roundw
     case rel =>
      refine ⟨k + 1, a1, n1, c1, by omega, by go_num, rfl, Lib.hid ?_, HX3⟩
      rw [minT_succ _ HVV.out, HB.out]
      simpa using HO3.out
     case measure => simp [intOf]; omega
    ·go_wp2_with (first
      | (at_builtin; refine append_ints rfl _ _ rfl (w.heap.size + 1) (.slice a1 n1 c1) _ rfl (HO3.out.ext (Ext.alloc _ _)) _ 1 _ [(k : Int)] rfl (Ints.one _ _ _) (by have := minT_len q l k; omega) (by simp; omega) ?_; intro v2 w4 ho hg hnear; obtain ⟨a2, n2, c2, rfl, HN2⟩ := ho.var; have HO4 := Lib.hid ho; have HG4 := Lib.hid hg; clear ho hg hnear))
     go_roundw
     case rel =>
      refine ⟨k + 1, a2, n2, c2, by omega, by go_num, rfl, Lib.hid ?_, Lib.hid ?_⟩
      ·rw [minT_succ _ HVV.out, HB.out]; exact HO4.out
      ·exact ext_grown (HX3.out.trans (Ext.alloc _ _)) HG4.out (fun j hj => by have := (HO3.out.lt j hj).1; simpa using this)
     case measure => simp [intOf]; omega
  ·go_wp2
   go_ret
   have hkm : k = m := by omega
   refine ⟨_, rfl, ?_, HX.out.trans HX1.out⟩
   have he : minL q l = minT q l k := by
    unfold minL
    cases hv : validPair 1 q l
    ·rw [minT_not _ hv, minT_not _ hv]
    ·rw [hkm, HMN.out (by have := valid_len hv; have := HL.out; omega), HL.out]
   rw [he]
   exact HO1.out.mono (by omega)
set_option maxHeartbeats 4000000 in
theorem i_MinimalWinning {w : World} {q : Int} {a : Option Addr} {n cap : Nat} {l : List Int} (h : Ints w a n cap l) :
 Calls Tryz.prog 22 #[pair q a n cap] w fun e w' => ∃ v, e = .returned v ∧ OwnI w' w.heap.size v (minL q l) ∧ Ext w w' := by
 have hi := h.alloc (.cells #[.int .i64 q, .slice a n cap] 26)
 have HX := Lib.hid (Ext.alloc w (.cells #[.int .i64 q, .slice a n cap] 26))
 have HL := Lib.hid h.hlen
 have HV := Lib.hid (i_IsValidVoting (x := q) hi)
 have hmax := h.hmax
 have hcap := h.hcap
 cases hv : validPair 1 q l
 ·rw [hv] at HV
  have HVV := Lib.hid hv
  clear hv
  go_enter Tryz.func22, Tryz.ntmps22
  go_wp2_with fail
  refine HV.out.mono ?_
  rintro e w1 ⟨rfl, hx⟩
  go_wp2
  go_ret
  exact ⟨_, rfl, by unfold minL; rw [minT_not _ HVV.out]; exact OwnI.nil _ _, HX.out.trans hx⟩
 rw [hv] at HV
 have HVV := Lib.hid hv
 have hn5 : n ≤ 5 := by have := valid_len hv; have := HL.out; omega
 have HI := Lib.hid hi
 have hN := cN_le n hn5
 clear hv h hi
 go_enter Tryz.func22, Tryz.ntmps22
 go_wp2_with fail
 refine HV.out.mono ?_
 rintro e w1 ⟨rfl, hx⟩
 have c0 : w1.cell? ⟨w.heap.size, 0, none⟩ = some (.int .i64 q) := hx.cellSome (by simp)
 have c1 : w1.cell? ⟨w.heap.size, 1, none⟩ = some (.slice a n cap) := hx.cellSome (by simp)
 have HX1 := Lib.hid hx
 have hs1 : w.heap.size < w1.heap.size := World.block_lt_of_cell? _ _ c1
 have HO := Lib.hid (OwnI.made w1 (w.heap.size + 1) hs1)
 clear hx
 go_wp2_with fail
 refine (i_all hn5).mono ?_
 rintro e w2 ⟨rfl, hx⟩
 have HX2 := Lib.hid ((HX1.out.trans (Ext.alloc _ _)).trans hx)
 have HO2 := Lib.hid (HO.out.ext hx)
 clear hx c0 c1
 go_wp2
 go_loopw [14, 3] (fun i o wr => ∃ (k : Nat) (a1 : Option Addr) (n1 c1 : Nat), k ≤ cN n ∧ i = .int .i64 (k : Int) ∧ o = .slice a1 n1 c1 ∧ Hid (OwnI wr (w.heap.size + 1) (.slice a1 n1 c1) (minT q l k)) ∧ Hid (Ext (w.alloc (.cells #[.int .i64 q, .slice a n cap] 26)) wr)) (fun i _ _ => cN n - (intOf i).toNat)
 case atStart => exact ⟨0, _, _, _, Nat.zero_le _, rfl, rfl, Lib.hid (by rw [minT_zero]; exact HO2.out), HX2⟩
 case round =>
  obtain ⟨s, a1, n1, c1, hk, rfl, rfl, HO3, HX3⟩ := hrel
  have c0 : wr.cell? ⟨w.heap.size, 0, none⟩ = some (.int .i64 q) := HX3.out.cellSome (by simp)
  have c1' : wr.cell? ⟨w.heap.size, 1, none⟩ = some (.slice a n cap) := HX3.out.cellSome (by simp)
  by_cases hlt : s < cN n
  ·go_wp2_with fail
   refine (i_wins _ (HI.out.ext HX3.out) (by omega) (by omega) (by omega)).mono ?_
   rintro e w4 ⟨rfl, hx⟩
   have HX4 := Lib.hid (HX3.out.trans hx)
   have HO4 := Lib.hid (HO3.out.ext hx)
   clear hx c0 c1'
   go_wp2_with fail
   refine (i_MembersOf s (by omega) _).mono ?_
   rintro e w5 ⟨v, rfl, ho, hx⟩
   obtain ⟨a5, n5, c5, rfl, HN5⟩ := ho.var
   have HX5 := Lib.hid (HX4.out.trans hx)
   have HO5 := Lib.hid (HO4.out.ext hx)
   have HM := Lib.hid ho
   have hn5' : n5 ≤ 5 := by have := HN5.out; have := memI_len (s : Int) 5; omega
   clear ho hx
   go_wp2
   go_loopw [23, 5] (fun i b wr => ∃ (j : Nat) (bb : Bool), j ≤ n5 ∧ i = .int .i64 (j : Int) ∧ b = .bool bb ∧ Hid (bb = minM q l s j) ∧ Hid (Ext w5 wr)) (fun i _ _ => n5 - (intOf i).toNat)
   case atStart => exact ⟨0, _, Nat.zero_le _, rfl, rfl, Lib.hid (minM_zero q l s).symm, Lib.hid (Ext.refl _)⟩
   case round =>
    obtain ⟨j, bb, hj, rfl, rfl, HB, HX6⟩ := hrel
    have c0 : wr.cell? ⟨w.heap.size, 0, none⟩ = some (.int .i64 q) := (HX5.out.trans HX6.out).cellSome (by simp)
    have c1' : wr.cell? ⟨w.heap.size, 1, none⟩ = some (.slice a n cap) := (HX5.out.trans HX6.out).cellSome (by simp)
    have HI6 := Lib.hid (HI.out.ext (HX5.out.trans HX6.out))
    by_cases hjl : j < n5
    ·obtain ⟨b, off, rfl, hc⟩ := (HM.out.ext HX6.out).ints.at hjl
     obtain ⟨k, hk1, hk5, hkb, hkm⟩ := memI_at (s : Int) j (by rw [HN5.out]; exact hjl)
     rw [hk1] at hc
     have hcl := cut_le s k (by omega) hk5 hkb
     have hp := pow_pos k
     have HWP := Lib.hid (kwrap_pow k (by omega))
     have HC := Lib.hid (cut s k (by omega) (by omega))
     rw [hkb] at HC
     have HKM := Lib.hid hkm
     have hk2 : Ext wr wr.drew := Ext.drew wr
     clear hk1 hkb hkm
     cases bb
     ·have HB' := Lib.hid HB.out.symm
      clear HB
      go_wp2
      refine wp_region_held_drew (S := (fun w' => w'.cell? ⟨w.heap.size, 0, none⟩ = some (.int .i64 q) ∧ w'.cell? ⟨w.heap.size, 1, none⟩ = some (.slice a n cap) ∧ Ext wr w')) (by kernel_rfl) ?_ (fun hHeld => ?_)
      ·exact ⟨hk2.cellSome c0, hk2.cellSome c1', hk2⟩
      refine tk 0 ?_
      refine tk 1 ?_
      refine sk 2 ?_
      refine sk 3 ?_
      refine sk 4 ?_
      refine sk 5 ?_
      refine sk 6 ?_
      refine sk 7 ?_
      refine sk 8 ?_
      refine tk 9 ?_
      refine tk 10 ?_
      refine wpAnyH_done (by kernel_rfl) ?_ _
      go_wp2
      go_roundw
      case rel => exact ⟨j + 1, false, by omega, by go_num, rfl, Lib.hid (by rw [minM_succ HKM.out, HB'.out]; rfl), Lib.hid (HX6.out.trans hk2)⟩
      case measure => simp [intOf]; omega
     ·have HB' := Lib.hid HB.out.symm
      clear HB
      go_wp2
      go_region_held3 (fun w' => w'.cell? ⟨w.heap.size, 0, none⟩ = some (.int .i64 q) ∧ w'.cell? ⟨w.heap.size, 1, none⟩ = some (.slice a n cap) ∧ Ext wr w')
       (exact ⟨hk2.cellSome c0, hk2.cellSome c1', hk2⟩)
       (first
         | (go_at_call 71; rw [HWP.out, HC.out]; simp only [if_true]; refine (i_wins _ (HI6.out.ext hk2) (by omega) (by omega) (by omega)).mono ?_; rintro e w7 ⟨rfl, hx3⟩; have hk2 := hk2.trans hx3))
      go_wp2
      go_roundw
      case rel => exact ⟨j + 1, !winsB q l ((s : Int) - 2 ^ k), by omega, by go_num, rfl, Lib.hid (by rw [minM_succ HKM.out, HB'.out]; rfl), Lib.hid (HX6.out.trans hk2)⟩
      case measure => simp [intOf]; omega
    ·have hje : j = n5 := by omega
     subst hje
     have hN5 : (memN (s : Int) 5).length = j := by have := HN5.out; simpa [memI] using this
     have HE := Lib.hid (HB.out.trans (minM_all (q := q) (l := l) hn5 hlt j (by omega)))
     have HX7 := Lib.hid (HX5.out.trans HX6.out)
     have HO7 := Lib.hid (HO5.out.ext HX6.out)
     have hsz7 := HX7.out.size
     simp at hsz7
     clear hN5 HB
     cases bb
     ·have HE' := Lib.hid HE.out.symm
      clear HE
      go_wp2
      go_roundw
      case rel =>
       refine ⟨s + 1, a1, n1, c1, by omega, by go_num, rfl, Lib.hid ?_, HX7⟩
       rw [minT_succ _ HVV.out]; unfold minW; rw [HL.out, HE'.out]
       simpa using HO7.out
      case measure => simp [intOf]; omega
     ·have HE' := Lib.hid HE.out.symm
      clear HE
      go_wp2_with (first
       | (at_builtin; refine append_ints rfl _ _ rfl (w.heap.size + 1) (.slice a1 n1 c1) _ rfl (HO7.out.ext (Ext.alloc _ _)) _ 1 _ [(s : Int)] rfl (Ints.one _ _ _) (by have := minT_len q l s; omega) (by simp; omega) ?_; intro v2 w8 ho hg hnear; obtain ⟨a2, n2, c2, rfl, HN2⟩ := ho.var; have HO8 := Lib.hid ho; have HG8 := Lib.hid hg; clear ho hg hnear))
      go_roundw
      case rel =>
       refine ⟨s + 1, a2, n2, c2, by omega, by go_num, rfl, Lib.hid ?_, Lib.hid ?_⟩
       ·rw [minT_succ _ HVV.out]; unfold minW; rw [HL.out, HE'.out]; exact HO8.out
       ·exact ext_grown (HX7.out.trans (Ext.alloc _ _)) HG8.out (fun j hj => by have := (HO7.out.lt j hj).1; simpa using this)
      case measure => simp [intOf]; omega
  ·have hse : s = cN n := by omega
   subst hse
   go_wp2
   go_ret
   exact ⟨_, rfl, by unfold minL; rw [HL.out]; exact HO3.out.mono (by omega), HX.out.trans HX3.out⟩
set_option maxHeartbeats 400000 in
theorem l_sameInts {w : World} {a a' : Option Addr} {n n' cap cap' : Nat} {l l' : List Int} (h : Ints w a n cap l) (h' : Ints w a' n' cap' l') :
 Calls Tryz.prog 16 #[.slice a n cap, .slice a' n' cap'] w fun e w' => e = .returned (.bool (decide (l = l'))) ∧ Drew w w' := by
 have hn := h.hcap
 have hm := h.hmax
 have hn' := h'.hcap
 have hm' := h'.hmax
 have HL := Lib.hid h.hlen
 have HL' := Lib.hid h'.hlen
 by_cases hne : n = n'
 ·subst hne
  go_enter Tryz.func16, Tryz.ntmps16
  go_wp2
  go_loopw [5] (fun i wr => ∃ k : Nat, k ≤ n ∧ i = .int .i64 k ∧ l.take k = l'.take k ∧ Drew w wr) (fun i _ => n - (intOf i).toNat)
  case atStart => exact ⟨0, Nat.zero_le _, rfl, rfl, Drew.refl _⟩
  case round =>
   obtain ⟨k, hk, rfl, htk, hx⟩ := hrel
   have HT := Lib.hid htk
   clear htk
   by_cases hlt : k < n
   ·have h1 := h.ext hx.ext
    have h1' := h'.ext hx.ext
    obtain ⟨b, off, rfl, hc⟩ := h1.at hlt
    obtain ⟨b', off', rfl, hc'⟩ := h1'.at hlt
    by_cases hq : l[k]?.getD 0 = l'[k]?.getD 0
    ·have HQ := Lib.hid hq
     have hq1 : (l[k]?.getD 0 != l'[k]?.getD 0) = false := by simp [hq]
     clear hq
     go_wp2
     go_quiet (fail)
     go_wp2
     go_roundw
     case rel => exact ⟨k + 1, by omega, by go_num, by rw [take_snoc (by have := HL.out; omega), take_snoc (by have := HL'.out; omega), HT.out, HQ.out], hx.trans ⟨_, rfl⟩⟩
     case measure => simp [intOf]; omega
    ·have HQ := Lib.hid hq
     have hq1 : (l[k]?.getD 0 != l'[k]?.getD 0) = true := by simp [hq]
     clear hq
     go_wp2
     go_quiet (fail)
     go_wp2
     go_ret
     refine ⟨ret_bool ?_, hx.trans ⟨_, rfl⟩⟩
     symm
     rw [decide_eq_false_iff_not]
     intro e
     exact HQ.out (by rw [e])
   ·go_wp2
    go_ret
    refine ⟨ret_bool ?_, hx⟩
    symm
    rw [decide_eq_true_eq]
    have := HT.out
    rwa [List.take_of_length_le (by have := HL.out; omega), List.take_of_length_le (by have := HL'.out; omega)] at this
 ·have hne' : ((n : Int) != (n' : Int)) = true := by simp; omega
  have HN := Lib.hid hne
  clear hne
  go_enter Tryz.func16, Tryz.ntmps16
  go_wp2
  go_ret
  refine ⟨ret_bool ?_, Drew.refl _⟩
  symm
  rw [decide_eq_false_iff_not]
  intro e
  exact HN.out (by rw [← HL.out, ← HL'.out, e])
end Go.Proofs.YthjjfkeacobikaaGreat
