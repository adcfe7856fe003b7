/- SwingsOf on both sides. -/
import Derived.Test.YtekgbblpnfohfaaVeto
import Derived.Test.YtekgbblpnfohfaaMarkV
import Derived.Deep.RegionWith
namespace Go.Proofs.Ytekgbblpnfohfaa
set_option linter.unusedVariables false
set_option linter.unusedSimpArgs false
open Go.RowKit

theorem kwrap_sub (s k : Nat) (hs : s < 32) (hk : k < 5) : IntKind.i64.wrap ((s : Int) - 2 ^ k) = (s : Int) - 2 ^ k := by
  have := pow_pos k
  have := pow_le5 k (by omega)
  rw [IntKind.wrap_i64]; omega

/-- Is player k a swing of coalition s? -/
def swB (q : Int) (l : List Int) (s k : Nat) : Bool := bit (s : Int) k && (winsB q l (s : Int) && !winsB q l ((s : Int) - 2 ^ k))
def swN (q : Int) (l : List Int) (k : Nat) : Nat → Nat
  | 0 => 0
  | m + 1 => swN q l k m + (if swB q l m k then 1 else 0)
theorem swN_le (q : Int) (l : List Int) (k : Nat) : ∀ m, swN q l k m ≤ m
  | 0 => Nat.le_refl _
  | m + 1 => by have := swN_le q l k m; unfold swN; split <;> omega
theorem swN_step {q : Int} {l : List Int} {k j : Nat} {b : Bool} (h : swB q l j k = b) (hj : j ≤ 32) : IntKind.i64.wrap ((swN q l k j : Int) + bitI b) = (swN q l k (j + 1) : Int) := by
  have := swN_le q l k j
  rw [IntKind.wrap_i64]
  show _ = ((swN q l k j + (if swB q l j k then 1 else 0) : Nat) : Int)
  rw [h]
  cases b <;> simp [bitI] <;> omega
def swT (q : Int) (l : List Int) (m : Nat) : List Int := if validPair 1 q l then (List.range m).map fun (k : Nat) => (swN q l k (cN l.length) : Int) else []
def swL (q : Int) (l : List Int) : List Int := swT q l l.length
theorem swT_zero (q : Int) (l : List Int) : swT q l 0 = [] := by unfold swT; simp
theorem swT_not {q : Int} {l : List Int} (m : Nat) (h : validPair 1 q l = false) : swT q l m = [] := by unfold swT; rw [h]; rfl
theorem swT_succ {q : Int} {l : List Int} (m : Nat) (h : validPair 1 q l = true) : swT q l (m + 1) = swT q l m ++ [(swN q l m (cN l.length) : Int)] := by
  unfold swT
  rw [h]
  simp [List.range_succ]
theorem swT_len (q : Int) (l : List Int) (m : Nat) : (swT q l m).length ≤ m := by
  unfold swT
  split <;> simp
theorem swL_len (q : Int) (l : List Int) : (swL q l).length ≤ 1048576 := by
  unfold swL
  cases h : validPair 1 q l
  · rw [swT_not _ h]; simp
  · have := swT_len q l l.length
    have := valid_len h
    omega

set_option maxHeartbeats 2000000 in
theorem s_SwingsOf {w : World} {q : Int} {a : Option Addr} {n cap : Nat} {l : List Int} (h : Ints w a n cap l) :
    Calls Try.prog 43 #[pair q a n cap] w fun e w' => ∃ v, e = .returned v ∧ OwnI w' w.heap.size v (swL q l) ∧ Ext w w' := by
  have hi := h.alloc (.cells #[.int .i64 q, .slice a n cap] 60)
  have HL := Lib.hid h.hlen
  have hmax := h.hmax
  have hcap := h.hcap
  have HO := Lib.hid (OwnI.made (w.alloc (.cells #[.int .i64 q, .slice a n cap] 60)) (w.heap.size + 1) (by simp))
  have HX := Lib.hid (Ext.alloc w (.cells #[.int .i64 q, .slice a n cap] 60))
  have HI := Lib.hid hi
  clear h hi
  go_enter Try.func43, Try.ntmps43
  go_wp2
  go_loopw [3, 4] (fun o i wr => ∃ (k : Nat) (a1 : Option Addr) (n1 c1 : Nat), k ≤ n ∧ i = .int .i64 (k : Int) ∧ o = .slice a1 n1 c1 ∧ Hid (OwnI wr (w.heap.size + 1) (.slice a1 n1 c1) (swT q l k)) ∧ Hid (Ext (w.alloc (.cells #[.int .i64 q, .slice a n cap] 60)) wr)) (fun _ i _ => n - (intOf i).toNat)
  case atStart => exact ⟨0, _, _, _, Nat.zero_le _, rfl, rfl, Lib.hid (by rw [swT_zero]; simpa using HO.out), Lib.hid (Ext.alloc _ _)⟩
  case round =>
    obtain ⟨k, a1, n1, c1, hk, rfl, rfl, HO1, HX1⟩ := hrel
    have c0 : wr.cell? ⟨w.heap.size, 0, none⟩ = some (.int .i64 q) := HX1.out.cellSome (by simp)
    have c1' : wr.cell? ⟨w.heap.size, 1, none⟩ = some (.slice a n cap) := HX1.out.cellSome (by simp)
    have hsz : w.heap.size + 1 ≤ wr.heap.size := by have := HX1.out.size; simpa using this
    have HI1 := Lib.hid (HI.out.ext HX1.out)
    by_cases hlt : k < n
    · have HV := Lib.hid (s_IsValidVoting (x := q) HI1.out)
      cases hv : validPair 1 q l
      · rw [hv] at HV
        have HVV := Lib.hid hv
        clear hv
        go_wp2_with fail
        refine HV.out.mono ?_
        rintro e w2 ⟨rfl, hx2⟩
        have HX2 := Lib.hid (HX1.out.trans hx2)
        have HO2 := Lib.hid (HO1.out.ext hx2)
        clear hx2
        go_wp2
        go_ret
        exact ⟨_, rfl, by unfold swL; rw [swT_not _ HVV.out, ← swT_not k HVV.out]; exact HO2.out.mono (by omega), HX.out.trans HX2.out⟩
      · rw [hv] at HV
        have hn5 : n ≤ 5 := by have := valid_len hv; have := HL.out; omega
        have HVV := Lib.hid hv
        clear hv
        have hN := cN_le n hn5
        have hp := pow_pos k
        have hp5 := pow_le5 k (by omega)
        go_wp2_with fail
        refine HV.out.mono ?_
        rintro e w2 ⟨rfl, hx2⟩
        have HX2 := Lib.hid (HX1.out.trans hx2)
        have HO2 := Lib.hid (HO1.out.ext hx2)
        clear hx2 c0 c1' HO1 HI1
        have hsz2 : w.heap.size + 1 ≤ w2.heap.size := by have := HX2.out.size; simpa using this
        go_wp2_with fail
        go_loopw [5, 6] (fun t i ws => ∃ (j : Nat), j ≤ cN n ∧ i = .int .i64 (j : Int) ∧ t = .int .i64 (swN q l k j : Int) ∧ Hid (Ext w2 ws)) (fun _ i _ => cN n - (intOf i).toNat)
        case atStart => exact ⟨0, Nat.zero_le _, rfl, rfl, Lib.hid (Ext.refl _)⟩
        case round =>
          obtain ⟨j, hj, rfl, rfl, HX3⟩ := hrel
          have c0 : wr.cell? ⟨w.heap.size, 0, none⟩ = some (.int .i64 q) := (HX2.out.trans HX3.out).cellSome (by simp)
          have c1' : wr.cell? ⟨w.heap.size, 1, none⟩ = some (.slice a n cap) := (HX2.out.trans HX3.out).cellSome (by simp)
          have HI3 := Lib.hid (HI.out.ext (HX2.out.trans HX3.out))
          have hsw := swN_le q l k j
          by_cases hjl : j < cN n
          · have HP := Lib.hid (hasP_bit (j : Int) k (by omega) (by omega))
            have HW := Lib.hid (kwrap_sub j k (by omega) (by omega))
            have hk2 : Ext wr wr.drew := Ext.drew wr
            cases hbit : bit (j : Int) k
            · rw [hbit] at HP
              have HS := Lib.hid (show swB q l j k = false by unfold swB; rw [hbit]; rfl)
              clear hbit
              go_wp2_with (first | (go_at_call 88; refine (s_CountC n hn5 _).mono ?_; rintro e w3 ⟨rfl, rfl⟩))
              refine wp_region_held_drew (S := (fun w' => w'.cell? ⟨w.heap.size, 0, none⟩ = some (.int .i64 q) ∧ w'.cell? ⟨w.heap.size, 1, none⟩ = some (.slice a n cap) ∧ Ext wr w')) (by kernel_rfl) ?_ (fun hHeld => ?_)
              · exact ⟨hk2.cellSome c0, hk2.cellSome c1', hk2⟩
              refine wpAnyH_take (i := 0) (oi := ?_) (v := ?_) ?_ ?_ ?_ ?_ ?_ ?_ ?_ ?_
              rotate_left 2
              · simp only [List.getElem?_toArray, List.getElem?_cons_succ, List.getElem?_cons_zero]; rfl
              · kernel_rfl
              · kernel_rfl
              · kernel_rfl
              · exact fun _ _ _ h => h
              · refine Or.inl ⟨by rfl, ?_⟩; intro w hSw; (try dsimp only at hSw); go_simp; (try with_reducible rfl)
              · assumption
              try simp only [Act.put, List.setIfInBounds_toArray, List.set_cons_zero, List.set_cons_succ]
              refine wpAnyH_take (i := 1) (oi := ?_) (v := ?_) ?_ ?_ ?_ ?_ ?_ ?_ ?_ ?_
              rotate_left 2
              · simp only [List.getElem?_toArray, List.getElem?_cons_succ, List.getElem?_cons_zero]; rfl
              · kernel_rfl
              · kernel_rfl
              · kernel_rfl
              · exact fun _ _ _ h => h
              · refine Or.inl ⟨by rfl, ?_⟩; intro w hSw; (try dsimp only at hSw); go_simp; (try with_reducible rfl)
              · assumption
              try simp only [Act.put, List.setIfInBounds_toArray, List.set_cons_zero, List.set_cons_succ]
              refine wpAnyH_take (i := 2) (oi := ?_) (v := ?_) ?_ ?_ ?_ ?_ ?_ ?_ ?_ ?_
              rotate_left 2
              · simp only [List.getElem?_toArray, List.getElem?_cons_succ, List.getElem?_cons_zero]; rfl
              · kernel_rfl
              · kernel_rfl
              · kernel_rfl
              · exact fun _ _ _ h => h
              · refine Or.inl ⟨by rfl, ?_⟩; intro w hSw; (try dsimp only at hSw); go_simp; (try with_reducible rfl)
              · assumption
              try simp only [Act.put, List.setIfInBounds_toArray, List.set_cons_zero, List.set_cons_succ]
              refine wpAnyH_ready (rs := [3]) (by kernel_rfl) (by simp) ?_
              refine AllReadyH.cons (o := ?_) ?_ (fun K hK => ?_) AllReadyH.nil
              rotate_left
              · simp only [List.getElem?_toArray, List.getElem?_cons_succ, List.getElem?_cons_zero]; rfl
              go_simp
              (go_at_call 93; refine (s_HasPlayer _ _ _ (by omega)).mono ?_; rw [HP.out]; rintro e w3 ⟨rfl, rfl⟩)
              go_wp2_with fail
              refine hK.out _ _ ?_ (fun hHeld => ?_)
              · exact ⟨hk2.cellSome c0, hk2.cellSome c1', hk2⟩
              clear hK K
              try simp only [Act.put, List.setIfInBounds_toArray, List.set_cons_zero, List.set_cons_succ]
              refine wpAnyH_take (i := 4) (oi := ?_) (v := ?_) ?_ ?_ ?_ ?_ ?_ ?_ ?_ ?_
              rotate_left 2
              · simp only [List.getElem?_toArray, List.getElem?_cons_succ, List.getElem?_cons_zero]; rfl
              · kernel_rfl
              · kernel_rfl
              · kernel_rfl
              · exact fun _ _ _ h => h
              · refine Or.inl ⟨by rfl, ?_⟩; intro w hSw; (try dsimp only at hSw); go_simp; (try with_reducible rfl)
              · assumption
              try simp only [Act.put, List.setIfInBounds_toArray, List.set_cons_zero, List.set_cons_succ]
              refine wpAnyH_take (i := 5) (oi := ?_) (v := undef) ?_ ?_ ?_ ?_ ?_ ?_ ?_ ?_
              rotate_left
              · simp only [List.getElem?_toArray, List.getElem?_cons_succ, List.getElem?_cons_zero]; rfl
              · kernel_rfl
              · kernel_rfl
              · kernel_rfl
              · exact fun _ _ _ h => h
              · exact Or.inr ⟨by rfl, rfl⟩
              · assumption
              try simp only [Act.put, List.setIfInBounds_toArray, List.set_cons_zero, List.set_cons_succ]
              refine wpAnyH_take (i := 6) (oi := ?_) (v := undef) ?_ ?_ ?_ ?_ ?_ ?_ ?_ ?_
              rotate_left
              · simp only [List.getElem?_toArray, List.getElem?_cons_succ, List.getElem?_cons_zero]; rfl
              · kernel_rfl
              · kernel_rfl
              · kernel_rfl
              · exact fun _ _ _ h => h
              · exact Or.inr ⟨by rfl, rfl⟩
              · assumption
              try simp only [Act.put, List.setIfInBounds_toArray, List.set_cons_zero, List.set_cons_succ]
              refine wpAnyH_take (i := 7) (oi := ?_) (v := undef) ?_ ?_ ?_ ?_ ?_ ?_ ?_ ?_
              rotate_left
              · simp only [List.getElem?_toArray, List.getElem?_cons_succ, List.getElem?_cons_zero]; rfl
              · kernel_rfl
              · kernel_rfl
              · kernel_rfl
              · exact fun _ _ _ h => h
              · exact Or.inr ⟨by rfl, rfl⟩
              · assumption
              try simp only [Act.put, List.setIfInBounds_toArray, List.set_cons_zero, List.set_cons_succ]
              refine wpAnyH_take (i := 8) (oi := ?_) (v := ?_) ?_ ?_ ?_ ?_ ?_ ?_ ?_ ?_
              rotate_left 2
              · simp only [List.getElem?_toArray, List.getElem?_cons_succ, List.getElem?_cons_zero]; rfl
              · kernel_rfl
              · kernel_rfl
              · kernel_rfl
              · exact fun _ _ _ h => h
              · refine Or.inl ⟨by rfl, ?_⟩; intro w hSw; (try dsimp only at hSw); go_simp; (try with_reducible rfl)
              · assumption
              try simp only [Act.put, List.setIfInBounds_toArray, List.set_cons_zero, List.set_cons_succ]
              refine wpAnyH_take (i := 9) (oi := ?_) (v := ?_) ?_ ?_ ?_ ?_ ?_ ?_ ?_ ?_
              rotate_left 2
              · simp only [List.getElem?_toArray, List.getElem?_cons_succ, List.getElem?_cons_zero]; rfl
              · kernel_rfl
              · kernel_rfl
              · kernel_rfl
              · exact fun _ _ _ h => h
              · refine Or.inl ⟨by rfl, ?_⟩; intro w hSw; (try dsimp only at hSw); go_simp; (try with_reducible rfl)
              · assumption
              try simp only [Act.put, List.setIfInBounds_toArray, List.set_cons_zero, List.set_cons_succ]
              refine wpAnyH_take (i := 10) (oi := ?_) (v := undef) ?_ ?_ ?_ ?_ ?_ ?_ ?_ ?_
              rotate_left
              · simp only [List.getElem?_toArray, List.getElem?_cons_succ, List.getElem?_cons_zero]; rfl
              · kernel_rfl
              · kernel_rfl
              · kernel_rfl
              · exact fun _ _ _ h => h
              · exact Or.inr ⟨by rfl, rfl⟩
              · assumption
              try simp only [Act.put, List.setIfInBounds_toArray, List.set_cons_zero, List.set_cons_succ]
              refine wpAnyH_take (i := 11) (oi := ?_) (v := undef) ?_ ?_ ?_ ?_ ?_ ?_ ?_ ?_
              rotate_left
              · simp only [List.getElem?_toArray, List.getElem?_cons_succ, List.getElem?_cons_zero]; rfl
              · kernel_rfl
              · kernel_rfl
              · kernel_rfl
              · exact fun _ _ _ h => h
              · exact Or.inr ⟨by rfl, rfl⟩
              · assumption
              try simp only [Act.put, List.setIfInBounds_toArray, List.set_cons_zero, List.set_cons_succ]
              refine wpAnyH_take (i := 12) (oi := ?_) (v := undef) ?_ ?_ ?_ ?_ ?_ ?_ ?_ ?_
              rotate_left
              · simp only [List.getElem?_toArray, List.getElem?_cons_succ, List.getElem?_cons_zero]; rfl
              · kernel_rfl
              · kernel_rfl
              · kernel_rfl
              · exact fun _ _ _ h => h
              · exact Or.inr ⟨by rfl, rfl⟩
              · assumption
              try simp only [Act.put, List.setIfInBounds_toArray, List.set_cons_zero, List.set_cons_succ]
              refine wpAnyH_take (i := 13) (oi := ?_) (v := undef) ?_ ?_ ?_ ?_ ?_ ?_ ?_ ?_
              rotate_left
              · simp only [List.getElem?_toArray, List.getElem?_cons_succ, List.getElem?_cons_zero]; rfl
              · kernel_rfl
              · kernel_rfl
              · kernel_rfl
              · exact fun _ _ _ h => h
              · exact Or.inr ⟨by rfl, rfl⟩
              · assumption
              try simp only [Act.put, List.setIfInBounds_toArray, List.set_cons_zero, List.set_cons_succ]
              refine wpAnyH_take (i := 14) (oi := ?_) (v := undef) ?_ ?_ ?_ ?_ ?_ ?_ ?_ ?_
              rotate_left
              · simp only [List.getElem?_toArray, List.getElem?_cons_succ, List.getElem?_cons_zero]; rfl
              · kernel_rfl
              · kernel_rfl
              · kernel_rfl
              · exact fun _ _ _ h => h
              · exact Or.inr ⟨by rfl, rfl⟩
              · assumption
              try simp only [Act.put, List.setIfInBounds_toArray, List.set_cons_zero, List.set_cons_succ]
              refine wpAnyH_take (i := 15) (oi := ?_) (v := undef) ?_ ?_ ?_ ?_ ?_ ?_ ?_ ?_
              rotate_left
              · simp only [List.getElem?_toArray, List.getElem?_cons_succ, List.getElem?_cons_zero]; rfl
              · kernel_rfl
              · kernel_rfl
              · kernel_rfl
              · exact fun _ _ _ h => h
              · exact Or.inr ⟨by rfl, rfl⟩
              · assumption
              try simp only [Act.put, List.setIfInBounds_toArray, List.set_cons_zero, List.set_cons_succ]
              refine wpAnyH_take (i := 16) (oi := ?_) (v := undef) ?_ ?_ ?_ ?_ ?_ ?_ ?_ ?_
              rotate_left
              · simp only [List.getElem?_toArray, List.getElem?_cons_succ, List.getElem?_cons_zero]; rfl
              · kernel_rfl
              · kernel_rfl
              · kernel_rfl
              · exact fun _ _ _ h => h
              · exact Or.inr ⟨by rfl, rfl⟩
              · assumption
              try simp only [Act.put, List.setIfInBounds_toArray, List.set_cons_zero, List.set_cons_succ]
              refine wpAnyH_take (i := 17) (oi := ?_) (v := ?_) ?_ ?_ ?_ ?_ ?_ ?_ ?_ ?_
              rotate_left 2
              · simp only [List.getElem?_toArray, List.getElem?_cons_succ, List.getElem?_cons_zero]; rfl
              · kernel_rfl
              · kernel_rfl
              · kernel_rfl
              · exact fun _ _ _ h => h
              · refine Or.inl ⟨by rfl, ?_⟩; intro w hSw; (try dsimp only at hSw); go_simp; (try with_reducible rfl)
              · assumption
              try simp only [Act.put, List.setIfInBounds_toArray, List.set_cons_zero, List.set_cons_succ]
              refine wpAnyH_ready (rs := [18]) (by kernel_rfl) (by simp) ?_
              refine AllReadyH.cons (o := ?_) ?_ (fun K hK => ?_) AllReadyH.nil
              rotate_left
              · simp only [List.getElem?_toArray, List.getElem?_cons_succ, List.getElem?_cons_zero]; rfl
              go_simp
              (go_at_call 92; refine (s_l1Bit _ _).mono ?_; rintro e w3 ⟨rfl, rfl⟩)
              go_wp2_with fail
              refine hK.out _ _ ?_ (fun hHeld => ?_)
              · exact ⟨hk2.cellSome c0, hk2.cellSome c1', hk2⟩
              clear hK K
              try simp only [Act.put, List.setIfInBounds_toArray, List.set_cons_zero, List.set_cons_succ]
              refine wpAnyH_take (i := 19) (oi := ?_) (v := ?_) ?_ ?_ ?_ ?_ ?_ ?_ ?_ ?_
              rotate_left 2
              · simp only [List.getElem?_toArray, List.getElem?_cons_succ, List.getElem?_cons_zero]; rfl
              · kernel_rfl
              · kernel_rfl
              · kernel_rfl
              · exact fun _ _ _ h => h
              · refine Or.inl ⟨by rfl, ?_⟩; intro w hSw; (try dsimp only at hSw); go_simp; (try with_reducible rfl)
              · assumption
              try simp only [Act.put, List.setIfInBounds_toArray, List.set_cons_zero, List.set_cons_succ]
              refine wpAnyH_take (i := 20) (oi := ?_) (v := ?_) ?_ ?_ ?_ ?_ ?_ ?_ ?_ ?_
              rotate_left 2
              · simp only [List.getElem?_toArray, List.getElem?_cons_succ, List.getElem?_cons_zero]; rfl
              · kernel_rfl
              · kernel_rfl
              · kernel_rfl
              · exact fun _ _ _ h => h
              · refine Or.inl ⟨by rfl, ?_⟩; intro w hSw; (try dsimp only at hSw); go_simp; (try with_reducible rfl)
              · assumption
              try simp only [Act.put, List.setIfInBounds_toArray, List.set_cons_zero, List.set_cons_succ]
              refine wpAnyH_done (by kernel_rfl) ?_ _
              go_wp2
              go_roundw
              case rel => exact ⟨j + 1, by omega, by go_num, congrArg (Value.int .i64) (swN_step HS.out (by omega)), Lib.hid (HX3.out.trans hk2)⟩
              case measure => simp [intOf]; omega
            · rw [hbit] at HP
              have hcl := cut_le j k (by omega) (by omega) hbit
              have HBT := Lib.hid hbit
              clear hbit
              cases hw : winsB q l (j : Int)
              · have HS := Lib.hid (show swB q l j k = false by unfold swB; rw [hw]; simp)
                go_wp2_with (first | (go_at_call 88; refine (s_CountC n hn5 _).mono ?_; rintro e w3 ⟨rfl, rfl⟩))
                refine wp_region_held_drew (S := (fun w' => w'.cell? ⟨w.heap.size, 0, none⟩ = some (.int .i64 q) ∧ w'.cell? ⟨w.heap.size, 1, none⟩ = some (.slice a n cap) ∧ Ext wr w')) (by kernel_rfl) ?_ (fun hHeld => ?_)
                · exact ⟨hk2.cellSome c0, hk2.cellSome c1', hk2⟩
                refine wpAnyH_take (i := 0) (oi := ?_) (v := ?_) ?_ ?_ ?_ ?_ ?_ ?_ ?_ ?_
                rotate_left 2
                · simp only [List.getElem?_toArray, List.getElem?_cons_succ, List.getElem?_cons_zero]; rfl
                · kernel_rfl
                · kernel_rfl
                · kernel_rfl
                · exact fun _ _ _ h => h
                · refine Or.inl ⟨by rfl, ?_⟩; intro w hSw; (try dsimp only at hSw); go_simp; (try with_reducible rfl)
                · assumption
                try simp only [Act.put, List.setIfInBounds_toArray, List.set_cons_zero, List.set_cons_succ]
                refine wpAnyH_take (i := 1) (oi := ?_) (v := ?_) ?_ ?_ ?_ ?_ ?_ ?_ ?_ ?_
                rotate_left 2
                · simp only [List.getElem?_toArray, List.getElem?_cons_succ, List.getElem?_cons_zero]; rfl
                · kernel_rfl
                · kernel_rfl
                · kernel_rfl
                · exact fun _ _ _ h => h
                · refine Or.inl ⟨by rfl, ?_⟩; intro w hSw; (try dsimp only at hSw); go_simp; (try with_reducible rfl)
                · assumption
                try simp only [Act.put, List.setIfInBounds_toArray, List.set_cons_zero, List.set_cons_succ]
                refine wpAnyH_take (i := 2) (oi := ?_) (v := ?_) ?_ ?_ ?_ ?_ ?_ ?_ ?_ ?_
                rotate_left 2
                · simp only [List.getElem?_toArray, List.getElem?_cons_succ, List.getElem?_cons_zero]; rfl
                · kernel_rfl
                · kernel_rfl
                · kernel_rfl
                · exact fun _ _ _ h => h
                · refine Or.inl ⟨by rfl, ?_⟩; intro w hSw; (try dsimp only at hSw); go_simp; (try with_reducible rfl)
                · assumption
                try simp only [Act.put, List.setIfInBounds_toArray, List.set_cons_zero, List.set_cons_succ]
                refine wpAnyH_ready (rs := [3]) (by kernel_rfl) (by simp) ?_
                refine AllReadyH.cons (o := ?_) ?_ (fun K hK => ?_) AllReadyH.nil
                rotate_left
                · simp only [List.getElem?_toArray, List.getElem?_cons_succ, List.getElem?_cons_zero]; rfl
                go_simp
                (go_at_call 93; refine (s_HasPlayer _ _ _ (by omega)).mono ?_; rw [HP.out]; rintro e w3 ⟨rfl, rfl⟩)
                go_wp2_with fail
                refine hK.out _ _ ?_ (fun hHeld => ?_)
                · exact ⟨hk2.cellSome c0, hk2.cellSome c1', hk2⟩
                clear hK K
                try simp only [Act.put, List.setIfInBounds_toArray, List.set_cons_zero, List.set_cons_succ]
                refine wpAnyH_take (i := 4) (oi := ?_) (v := ?_) ?_ ?_ ?_ ?_ ?_ ?_ ?_ ?_
                rotate_left 2
                · simp only [List.getElem?_toArray, List.getElem?_cons_succ, List.getElem?_cons_zero]; rfl
                · kernel_rfl
                · kernel_rfl
                · kernel_rfl
                · exact fun _ _ _ h => h
                · refine Or.inl ⟨by rfl, ?_⟩; intro w hSw; (try dsimp only at hSw); go_simp; (try with_reducible rfl)
                · assumption
                try simp only [Act.put, List.setIfInBounds_toArray, List.set_cons_zero, List.set_cons_succ]
                refine wpAnyH_take (i := 5) (oi := ?_) (v := ?_) ?_ ?_ ?_ ?_ ?_ ?_ ?_ ?_
                rotate_left 2
                · simp only [List.getElem?_toArray, List.getElem?_cons_succ, List.getElem?_cons_zero]; rfl
                · kernel_rfl
                · kernel_rfl
                · kernel_rfl
                · exact fun _ _ _ h => h
                · refine Or.inl ⟨by rfl, ?_⟩; intro w hSw; (try dsimp only at hSw); go_simp; (try with_reducible rfl)
                · assumption
                try simp only [Act.put, List.setIfInBounds_toArray, List.set_cons_zero, List.set_cons_succ]
                refine wpAnyH_take (i := 6) (oi := ?_) (v := ?_) ?_ ?_ ?_ ?_ ?_ ?_ ?_ ?_
                rotate_left 2
                · simp only [List.getElem?_toArray, List.getElem?_cons_succ, List.getElem?_cons_zero]; rfl
                · kernel_rfl
                · kernel_rfl
                · kernel_rfl
                · exact fun _ _ _ h => h
                · refine Or.inl ⟨by rfl, ?_⟩; intro w hSw; (try dsimp only at hSw); go_simp; (try with_reducible rfl)
                · assumption
                try simp only [Act.put, List.setIfInBounds_toArray, List.set_cons_zero, List.set_cons_succ]
                refine wpAnyH_ready (rs := [7]) (by kernel_rfl) (by simp) ?_
                refine AllReadyH.cons (o := ?_) ?_ (fun K hK => ?_) AllReadyH.nil
                rotate_left
                · simp only [List.getElem?_toArray, List.getElem?_cons_succ, List.getElem?_cons_zero]; rfl
                go_simp
                (go_at_call 87; refine (s_l20Wins _ (HI3.out.ext hk2) (by omega) (by omega) hn5).mono ?_; rw [hw]; rintro e w3 ⟨rfl, hx3⟩; have hk2 := hk2.trans hx3)
                go_wp2_with fail
                refine hK.out _ _ ?_ (fun hHeld => ?_)
                · exact ⟨hk2.cellSome c0, hk2.cellSome c1', hk2⟩
                clear hK K
                try simp only [Act.put, List.setIfInBounds_toArray, List.set_cons_zero, List.set_cons_succ]
                refine wpAnyH_take (i := 8) (oi := ?_) (v := ?_) ?_ ?_ ?_ ?_ ?_ ?_ ?_ ?_
                rotate_left 2
                · simp only [List.getElem?_toArray, List.getElem?_cons_succ, List.getElem?_cons_zero]; rfl
                · kernel_rfl
                · kernel_rfl
                · kernel_rfl
                · exact fun _ _ _ h => h
                · refine Or.inl ⟨by rfl, ?_⟩; intro w hSw; (try dsimp only at hSw); go_simp; (try with_reducible rfl)
                · assumption
                try simp only [Act.put, List.setIfInBounds_toArray, List.set_cons_zero, List.set_cons_succ]
                refine wpAnyH_take (i := 9) (oi := ?_) (v := ?_) ?_ ?_ ?_ ?_ ?_ ?_ ?_ ?_
                rotate_left 2
                · simp only [List.getElem?_toArray, List.getElem?_cons_succ, List.getElem?_cons_zero]; rfl
                · kernel_rfl
                · kernel_rfl
                · kernel_rfl
                · exact fun _ _ _ h => h
                · refine Or.inl ⟨by rfl, ?_⟩; intro w hSw; (try dsimp only at hSw); go_simp; (try with_reducible rfl)
                · assumption
                try simp only [Act.put, List.setIfInBounds_toArray, List.set_cons_zero, List.set_cons_succ]
                refine wpAnyH_take (i := 10) (oi := ?_) (v := undef) ?_ ?_ ?_ ?_ ?_ ?_ ?_ ?_
                rotate_left
                · simp only [List.getElem?_toArray, List.getElem?_cons_succ, List.getElem?_cons_zero]; rfl
                · kernel_rfl
                · kernel_rfl
                · kernel_rfl
                · exact fun _ _ _ h => h
                · exact Or.inr ⟨by rfl, rfl⟩
                · assumption
                try simp only [Act.put, List.setIfInBounds_toArray, List.set_cons_zero, List.set_cons_succ]
                refine wpAnyH_take (i := 11) (oi := ?_) (v := undef) ?_ ?_ ?_ ?_ ?_ ?_ ?_ ?_
                rotate_left
                · simp only [List.getElem?_toArray, List.getElem?_cons_succ, List.getElem?_cons_zero]; rfl
                · kernel_rfl
                · kernel_rfl
                · kernel_rfl
                · exact fun _ _ _ h => h
                · exact Or.inr ⟨by rfl, rfl⟩
                · assumption
                try simp only [Act.put, List.setIfInBounds_toArray, List.set_cons_zero, List.set_cons_succ]
                refine wpAnyH_take (i := 12) (oi := ?_) (v := undef) ?_ ?_ ?_ ?_ ?_ ?_ ?_ ?_
                rotate_left
                · simp only [List.getElem?_toArray, List.getElem?_cons_succ, List.getElem?_cons_zero]; rfl
                · kernel_rfl
                · kernel_rfl
                · kernel_rfl
                · exact fun _ _ _ h => h
                · exact Or.inr ⟨by rfl, rfl⟩
                · assumption
                try simp only [Act.put, List.setIfInBounds_toArray, List.set_cons_zero, List.set_cons_succ]
                refine wpAnyH_take (i := 13) (oi := ?_) (v := undef) ?_ ?_ ?_ ?_ ?_ ?_ ?_ ?_
                rotate_left
                · simp only [List.getElem?_toArray, List.getElem?_cons_succ, List.getElem?_cons_zero]; rfl
                · kernel_rfl
                · kernel_rfl
                · kernel_rfl
                · exact fun _ _ _ h => h
                · exact Or.inr ⟨by rfl, rfl⟩
                · assumption
                try simp only [Act.put, List.setIfInBounds_toArray, List.set_cons_zero, List.set_cons_succ]
                refine wpAnyH_take (i := 14) (oi := ?_) (v := undef) ?_ ?_ ?_ ?_ ?_ ?_ ?_ ?_
                rotate_left
                · simp only [List.getElem?_toArray, List.getElem?_cons_succ, List.getElem?_cons_zero]; rfl
                · kernel_rfl
                · kernel_rfl
                · kernel_rfl
                · exact fun _ _ _ h => h
                · exact Or.inr ⟨by rfl, rfl⟩
                · assumption
                try simp only [Act.put, List.setIfInBounds_toArray, List.set_cons_zero, List.set_cons_succ]
                refine wpAnyH_take (i := 15) (oi := ?_) (v := undef) ?_ ?_ ?_ ?_ ?_ ?_ ?_ ?_
                rotate_left
                · simp only [List.getElem?_toArray, List.getElem?_cons_succ, List.getElem?_cons_zero]; rfl
                · kernel_rfl
                · kernel_rfl
                · kernel_rfl
                · exact fun _ _ _ h => h
                · exact Or.inr ⟨by rfl, rfl⟩
                · assumption
                try simp only [Act.put, List.setIfInBounds_toArray, List.set_cons_zero, List.set_cons_succ]
                refine wpAnyH_take (i := 16) (oi := ?_) (v := undef) ?_ ?_ ?_ ?_ ?_ ?_ ?_ ?_
                rotate_left
                · simp only [List.getElem?_toArray, List.getElem?_cons_succ, List.getElem?_cons_zero]; rfl
                · kernel_rfl
                · kernel_rfl
                · kernel_rfl
                · exact fun _ _ _ h => h
                · exact Or.inr ⟨by rfl, rfl⟩
                · assumption
                try simp only [Act.put, List.setIfInBounds_toArray, List.set_cons_zero, List.set_cons_succ]
                refine wpAnyH_take (i := 17) (oi := ?_) (v := ?_) ?_ ?_ ?_ ?_ ?_ ?_ ?_ ?_
                rotate_left 2
                · simp only [List.getElem?_toArray, List.getElem?_cons_succ, List.getElem?_cons_zero]; rfl
                · kernel_rfl
                · kernel_rfl
                · kernel_rfl
                · exact fun _ _ _ h => h
                · refine Or.inl ⟨by rfl, ?_⟩; intro w hSw; (try dsimp only at hSw); go_simp; (try with_reducible rfl)
                · assumption
                try simp only [Act.put, List.setIfInBounds_toArray, List.set_cons_zero, List.set_cons_succ]
                refine wpAnyH_ready (rs := [18]) (by kernel_rfl) (by simp) ?_
                refine AllReadyH.cons (o := ?_) ?_ (fun K hK => ?_) AllReadyH.nil
                rotate_left
                · simp only [List.getElem?_toArray, List.getElem?_cons_succ, List.getElem?_cons_zero]; rfl
                go_simp
                (go_at_call 92; refine (s_l1Bit _ _).mono ?_; rintro e w3 ⟨rfl, rfl⟩)
                go_wp2_with fail
                refine hK.out _ _ ?_ (fun hHeld => ?_)
                · exact ⟨hk2.cellSome c0, hk2.cellSome c1', hk2⟩
                clear hK K
                try simp only [Act.put, List.setIfInBounds_toArray, List.set_cons_zero, List.set_cons_succ]
                refine wpAnyH_take (i := 19) (oi := ?_) (v := ?_) ?_ ?_ ?_ ?_ ?_ ?_ ?_ ?_
                rotate_left 2
                · simp only [List.getElem?_toArray, List.getElem?_cons_succ, List.getElem?_cons_zero]; rfl
                · kernel_rfl
                · kernel_rfl
                · kernel_rfl
                · exact fun _ _ _ h => h
                · refine Or.inl ⟨by rfl, ?_⟩; intro w hSw; (try dsimp only at hSw); go_simp; (try with_reducible rfl)
                · assumption
                try simp only [Act.put, List.setIfInBounds_toArray, List.set_cons_zero, List.set_cons_succ]
                refine wpAnyH_take (i := 20) (oi := ?_) (v := ?_) ?_ ?_ ?_ ?_ ?_ ?_ ?_ ?_
                rotate_left 2
                · simp only [List.getElem?_toArray, List.getElem?_cons_succ, List.getElem?_cons_zero]; rfl
                · kernel_rfl
                · kernel_rfl
                · kernel_rfl
                · exact fun _ _ _ h => h
                · refine Or.inl ⟨by rfl, ?_⟩; intro w hSw; (try dsimp only at hSw); go_simp; (try with_reducible rfl)
                · assumption
                try simp only [Act.put, List.setIfInBounds_toArray, List.set_cons_zero, List.set_cons_succ]
                refine wpAnyH_done (by kernel_rfl) ?_ _
                go_wp2
                go_roundw
                case rel => exact ⟨j + 1, by omega, by go_num, congrArg (Value.int .i64) (swN_step HS.out (by omega)), Lib.hid (HX3.out.trans hk2)⟩
                case measure => simp [intOf]; omega
              · cases hw2 : winsB q l ((j : Int) - 2 ^ k)
                all_goals
                  have HS := Lib.hid (show swB q l j k = !winsB q l ((j : Int) - 2 ^ k) by unfold swB; rw [hw, HBT.out]; simp)
                  rw [hw2] at HS
                  go_wp2_with (first | (go_at_call 88; refine (s_CountC n hn5 _).mono ?_; rintro e w3 ⟨rfl, rfl⟩))
                  go_region_held3 (fun w' => w'.cell? ⟨w.heap.size, 0, none⟩ = some (.int .i64 q) ∧ w'.cell? ⟨w.heap.size, 1, none⟩ = some (.slice a n cap) ∧ Ext wr w')
                    (exact ⟨hk2.cellSome c0, hk2.cellSome c1', hk2⟩)
                    (first
                      | (go_at_call 93; refine (s_HasPlayer _ _ _ (by omega)).mono ?_; rw [HP.out]; rintro e w3 ⟨rfl, rfl⟩)
                      | (go_at_call 92; refine (s_l1Bit _ _).mono ?_; rintro e w3 ⟨rfl, rfl⟩)
                      | (go_at_call 80; refine (s_l2B k (by omega) _).mono ?_; rintro e w3 ⟨rfl, rfl⟩)
                      | (go_at_call 87; rw [HW.out]; refine (s_l20Wins _ (HI3.out.ext hk2) (by omega) (by omega) hn5).mono ?_; rw [hw2]; rintro e w3 ⟨rfl, hx3⟩; have hk2 := hk2.trans hx3)
                      | (go_at_call 87; refine (s_l20Wins _ (HI3.out.ext hk2) (by omega) (by omega) hn5).mono ?_; rw [hw]; rintro e w3 ⟨rfl, hx3⟩; have hk2 := hk2.trans hx3))
                  go_wp2
                  go_roundw
                  case rel => exact ⟨j + 1, by omega, by go_num, congrArg (Value.int .i64) (swN_step HS.out (by omega)), Lib.hid (HX3.out.trans hk2)⟩
                  case measure => simp [intOf]; omega
          · have hje : j = cN n := by omega
            subst hje
            have HO3 := Lib.hid (HO2.out.ext HX3.out)
            have hsz3 := HX3.out.size
            go_wp2_with (first
              | (go_at_call 88; refine (s_CountC n hn5 _).mono ?_; rintro e w3 ⟨rfl, rfl⟩)
              | (at_builtin; refine append_ints rfl _ _ rfl (w.heap.size + 1) (.slice a1 n1 c1) _ rfl (HO3.out.ext (Ext.alloc _ _)) _ 1 _ [(swN q l k (cN n) : Int)] rfl (Ints.one _ _ _) (by have := swT_len q l k; omega) (by simp; omega) ?_; intro v2 w3 ho hg hnear; obtain ⟨a2, n2, c2, rfl, HN2⟩ := ho.var; have HO4 := Lib.hid ho; have HG4 := Lib.hid hg; clear ho hg hnear))
            go_roundw
            case rel =>
              refine ⟨k + 1, a2, n2, c2, by omega, by go_num, rfl, Lib.hid ?_, Lib.hid ?_⟩
              · rw [swT_succ _ HVV.out, HL.out]; exact HO4.out
              · exact ext_grown ((HX2.out.trans HX3.out).trans (Ext.alloc _ _)) HG4.out (fun j hj => by have := (HO3.out.lt j hj).1; simpa using this)
            case measure => simp [intOf]; omega
    · go_wp2
      go_ret
      have hkn : k = n := by omega
      subst hkn
      exact ⟨_, rfl, by unfold swL; rw [HL.out]; exact HO1.out.mono (by omega), HX.out.trans HX1.out⟩


set_option maxHeartbeats 4000000 in
theorem i_SwingsOf {w : World} {q : Int} {a : Option Addr} {n cap : Nat} {l : List Int} (h : Ints w a n cap l) :
    Calls Try.prog 44 #[pair q a n cap] w fun e w' => ∃ v, e = .returned v ∧ OwnI w' w.heap.size v (swL q l) ∧ Ext w w' := by
  have hi := h.alloc (.cells #[.int .i64 q, .slice a n cap] 60)
  have HX := Lib.hid (Ext.alloc w (.cells #[.int .i64 q, .slice a n cap] 60))
  have HL := Lib.hid h.hlen
  have HV := Lib.hid (i_IsValidVoting (x := q) hi)
  have hmax := h.hmax
  have hcap := h.hcap
  cases hv : validPair 1 q l
  · rw [hv] at HV
    have HVV := Lib.hid hv
    clear hv
    go_enter Try.func44, Try.ntmps44
    go_wp2_with fail
    refine HV.out.mono ?_
    rintro e w1 ⟨rfl, hx⟩
    go_wp2
    go_ret
    exact ⟨_, rfl, by unfold swL; rw [swT_not _ HVV.out]; exact OwnI.nil _ _, HX.out.trans hx⟩
  rw [hv] at HV
  have HVV := Lib.hid hv
  have hn5 : n ≤ 5 := by have := valid_len hv; have := HL.out; omega
  have HI := Lib.hid hi
  have hN := cN_le n hn5
  have hmk := mk_ints n (by omega)
  clear hv h hi
  go_enter Try.func44, Try.ntmps44
  go_wp2_with fail
  refine HV.out.mono ?_
  rintro e w1 ⟨rfl, hx⟩
  have c1 : w1.cell? ⟨w.heap.size, 1, none⟩ = some (.slice a n cap) := hx.cellSome (by simp)
  have HX1 := Lib.hid hx
  have hs1 : w.heap.size < w1.heap.size := World.block_lt_of_cell? _ _ c1
  clear hx
  go_wp2
  go_loopw [15] (fun i wr => ∃ (k : Nat) (r : List Int), k ≤ n ∧ i = .int .i64 (k : Int) ∧ Row wr w1.heap.size 3 r ∧ Hid (r.length = n ∧ (∀ i, i < k → r[i]?.getD 0 = (swN q l i (cN n) : Int)) ∧ ∀ i, k ≤ i → i < n → r[i]?.getD 0 = 0) ∧ Hid (Ext (w.alloc (.cells #[.int .i64 q, .slice a n cap] 60)) wr)) (fun i _ => n - (intOf i).toNat)
  case atStart => exact ⟨0, List.replicate n 0, Nat.zero_le _, rfl, by unfold Row; rw [heap_alloc_new], Lib.hid ⟨by simp, fun i hi => absurd hi (by omega), fun i _ hi => by simp [hi]⟩, Lib.hid (HX1.out.trans (Ext.alloc _ _))⟩
  case round =>
    obtain ⟨k, r, hk, rfl, hrow, HR, HX2⟩ := hrel
    have c0 : wr.cell? ⟨w.heap.size, 0, none⟩ = some (.int .i64 q) := HX2.out.cellSome (by simp)
    have c1' : wr.cell? ⟨w.heap.size, 1, none⟩ = some (.slice a n cap) := HX2.out.cellSome (by simp)
    have hs2 : w.heap.size < wr.heap.size := World.block_lt_of_cell? _ _ c0
    by_cases hlt : k < n
    · have hp := pow_pos k
      have hp5 := pow_le5 k (by omega)
      have HROW := Lib.hid hrow
      clear hrow
      go_wp2_with fail
      refine (i_all hn5).mono ?_
      rintro e w2 ⟨rfl, hx⟩
      have HROW2 := Lib.hid (HROW.out.ext hx)
      have HX3 := Lib.hid (HX2.out.trans hx)
      clear hx c0 c1' HROW
      go_wp2
      go_loopw [20] (fun i wr => ∃ (j : Nat) (r : List Int), j ≤ cN n ∧ i = .int .i64 (j : Int) ∧ Row wr w1.heap.size 3 r ∧ Hid (r.length = n ∧ (∀ i, i < k → r[i]?.getD 0 = (swN q l i (cN n) : Int)) ∧ (r[k]?.getD 0 = (swN q l k j : Int)) ∧ ∀ i, k < i → i < n → r[i]?.getD 0 = 0) ∧ Hid (Ext (w.alloc (.cells #[.int .i64 q, .slice a n cap] 60)) wr)) (fun i _ => cN n - (intOf i).toNat)
      case atStart => exact ⟨0, r, Nat.zero_le _, rfl, HROW2.out, Lib.hid ⟨HR.out.1, HR.out.2.1, by simpa [swN] using HR.out.2.2 k (Nat.le_refl _) hlt, fun i hi hin => HR.out.2.2 i (by omega) hin⟩, HX3⟩
      case round =>
        obtain ⟨j, r2, hj, rfl, hrow, HR2, HX4⟩ := hrel
        have c0 : wr.cell? ⟨w.heap.size, 0, none⟩ = some (.int .i64 q) := HX4.out.cellSome (by simp)
        have c1' : wr.cell? ⟨w.heap.size, 1, none⟩ = some (.slice a n cap) := HX4.out.cellSome (by simp)
        have HI4 := Lib.hid (HI.out.ext HX4.out)
        have HROW4 := Lib.hid hrow
        clear hrow
        by_cases hjl : j < cN n
        · have HWP := Lib.hid (kwrap_pow k (by omega))
          have HC := Lib.hid (cut j k (by omega) (by omega))
          have hk2 : Ext wr wr.drew := Ext.drew wr
          cases hw : winsB q l (j : Int)
          · have HS := Lib.hid (show swB q l j k = false by unfold swB; rw [hw]; simp)
            go_wp2
            refine wp_region_held_drew (S := (fun w' => w'.cell? ⟨w.heap.size, 0, none⟩ = some (.int .i64 q) ∧ w'.cell? ⟨w.heap.size, 1, none⟩ = some (.slice a n cap) ∧ Ext wr w')) (by kernel_rfl) ?_ (fun hHeld => ?_)
            · exact ⟨hk2.cellSome c0, hk2.cellSome c1', hk2⟩
            refine wpAnyH_take (i := 0) (oi := ?_) (v := ?_) ?_ ?_ ?_ ?_ ?_ ?_ ?_ ?_
            rotate_left 2
            · simp only [List.getElem?_toArray, List.getElem?_cons_succ, List.getElem?_cons_zero]; rfl
            · kernel_rfl
            · kernel_rfl
            · kernel_rfl
            · exact fun _ _ _ h => h
            · refine Or.inl ⟨by rfl, ?_⟩; intro w hSw; (try dsimp only at hSw); go_simp; (try with_reducible rfl)
            · assumption
            try simp only [Act.put, List.setIfInBounds_toArray, List.set_cons_zero, List.set_cons_succ]
            refine wpAnyH_take (i := 1) (oi := ?_) (v := ?_) ?_ ?_ ?_ ?_ ?_ ?_ ?_ ?_
            rotate_left 2
            · simp only [List.getElem?_toArray, List.getElem?_cons_succ, List.getElem?_cons_zero]; rfl
            · kernel_rfl
            · kernel_rfl
            · kernel_rfl
            · exact fun _ _ _ h => h
            · refine Or.inl ⟨by rfl, ?_⟩; intro w hSw; (try dsimp only at hSw); go_simp; (try with_reducible rfl)
            · assumption
            try simp only [Act.put, List.setIfInBounds_toArray, List.set_cons_zero, List.set_cons_succ]
            refine wpAnyH_ready (rs := [2]) (by kernel_rfl) (by simp) ?_
            refine AllReadyH.cons (o := ?_) ?_ (fun K hK => ?_) AllReadyH.nil
            rotate_left
            · simp only [List.getElem?_toArray, List.getElem?_cons_succ, List.getElem?_cons_zero]; rfl
            go_simp
            (go_at_call 90; refine (i_wins _ (HI4.out.ext hk2) (by omega) (by omega) (by omega)).mono ?_; rw [hw]; rintro e w3 ⟨rfl, hx3⟩; have hk2 := hk2.trans hx3)
            go_wp2_with fail
            refine hK.out _ _ ?_ (fun hHeld => ?_)
            · exact ⟨hk2.cellSome c0, hk2.cellSome c1', hk2⟩
            clear hK K
            try simp only [Act.put, List.setIfInBounds_toArray, List.set_cons_zero, List.set_cons_succ]
            refine wpAnyH_take (i := 3) (oi := ?_) (v := ?_) ?_ ?_ ?_ ?_ ?_ ?_ ?_ ?_
            rotate_left 2
            · simp only [List.getElem?_toArray, List.getElem?_cons_succ, List.getElem?_cons_zero]; rfl
            · kernel_rfl
            · kernel_rfl
            · kernel_rfl
            · exact fun _ _ _ h => h
            · refine Or.inl ⟨by rfl, ?_⟩; intro w hSw; (try dsimp only at hSw); go_simp; (try with_reducible rfl)
            · assumption
            try simp only [Act.put, List.setIfInBounds_toArray, List.set_cons_zero, List.set_cons_succ]
            refine wpAnyH_take (i := 4) (oi := ?_) (v := undef) ?_ ?_ ?_ ?_ ?_ ?_ ?_ ?_
            rotate_left
            · simp only [List.getElem?_toArray, List.getElem?_cons_succ, List.getElem?_cons_zero]; rfl
            · kernel_rfl
            · kernel_rfl
            · kernel_rfl
            · exact fun _ _ _ h => h
            · exact Or.inr ⟨by rfl, rfl⟩
            · assumption
            try simp only [Act.put, List.setIfInBounds_toArray, List.set_cons_zero, List.set_cons_succ]
            refine wpAnyH_take (i := 5) (oi := ?_) (v := undef) ?_ ?_ ?_ ?_ ?_ ?_ ?_ ?_
            rotate_left
            · simp only [List.getElem?_toArray, List.getElem?_cons_succ, List.getElem?_cons_zero]; rfl
            · kernel_rfl
            · kernel_rfl
            · kernel_rfl
            · exact fun _ _ _ h => h
            · exact Or.inr ⟨by rfl, rfl⟩
            · assumption
            try simp only [Act.put, List.setIfInBounds_toArray, List.set_cons_zero, List.set_cons_succ]
            refine wpAnyH_take (i := 6) (oi := ?_) (v := undef) ?_ ?_ ?_ ?_ ?_ ?_ ?_ ?_
            rotate_left
            · simp only [List.getElem?_toArray, List.getElem?_cons_succ, List.getElem?_cons_zero]; rfl
            · kernel_rfl
            · kernel_rfl
            · kernel_rfl
            · exact fun _ _ _ h => h
            · exact Or.inr ⟨by rfl, rfl⟩
            · assumption
            try simp only [Act.put, List.setIfInBounds_toArray, List.set_cons_zero, List.set_cons_succ]
            refine wpAnyH_take (i := 7) (oi := ?_) (v := undef) ?_ ?_ ?_ ?_ ?_ ?_ ?_ ?_
            rotate_left
            · simp only [List.getElem?_toArray, List.getElem?_cons_succ, List.getElem?_cons_zero]; rfl
            · kernel_rfl
            · kernel_rfl
            · kernel_rfl
            · exact fun _ _ _ h => h
            · exact Or.inr ⟨by rfl, rfl⟩
            · assumption
            try simp only [Act.put, List.setIfInBounds_toArray, List.set_cons_zero, List.set_cons_succ]
            refine wpAnyH_take (i := 8) (oi := ?_) (v := undef) ?_ ?_ ?_ ?_ ?_ ?_ ?_ ?_
            rotate_left
            · simp only [List.getElem?_toArray, List.getElem?_cons_succ, List.getElem?_cons_zero]; rfl
            · kernel_rfl
            · kernel_rfl
            · kernel_rfl
            · exact fun _ _ _ h => h
            · exact Or.inr ⟨by rfl, rfl⟩
            · assumption
            try simp only [Act.put, List.setIfInBounds_toArray, List.set_cons_zero, List.set_cons_succ]
            refine wpAnyH_take (i := 9) (oi := ?_) (v := undef) ?_ ?_ ?_ ?_ ?_ ?_ ?_ ?_
            rotate_left
            · simp only [List.getElem?_toArray, List.getElem?_cons_succ, List.getElem?_cons_zero]; rfl
            · kernel_rfl
            · kernel_rfl
            · kernel_rfl
            · exact fun _ _ _ h => h
            · exact Or.inr ⟨by rfl, rfl⟩
            · assumption
            try simp only [Act.put, List.setIfInBounds_toArray, List.set_cons_zero, List.set_cons_succ]
            refine wpAnyH_take (i := 10) (oi := ?_) (v := undef) ?_ ?_ ?_ ?_ ?_ ?_ ?_ ?_
            rotate_left
            · simp only [List.getElem?_toArray, List.getElem?_cons_succ, List.getElem?_cons_zero]; rfl
            · kernel_rfl
            · kernel_rfl
            · kernel_rfl
            · exact fun _ _ _ h => h
            · exact Or.inr ⟨by rfl, rfl⟩
            · assumption
            try simp only [Act.put, List.setIfInBounds_toArray, List.set_cons_zero, List.set_cons_succ]
            refine wpAnyH_take (i := 11) (oi := ?_) (v := ?_) ?_ ?_ ?_ ?_ ?_ ?_ ?_ ?_
            rotate_left 2
            · simp only [List.getElem?_toArray, List.getElem?_cons_succ, List.getElem?_cons_zero]; rfl
            · kernel_rfl
            · kernel_rfl
            · kernel_rfl
            · exact fun _ _ _ h => h
            · refine Or.inl ⟨by rfl, ?_⟩; intro w hSw; (try dsimp only at hSw); go_simp; (try with_reducible rfl)
            · assumption
            try simp only [Act.put, List.setIfInBounds_toArray, List.set_cons_zero, List.set_cons_succ]
            refine wpAnyH_done (by kernel_rfl) ?_ _
            go_wp2
            go_roundw
            case rel => exact ⟨j + 1, r2, by omega, by go_num, HROW4.out.ext hk2, Lib.hid ⟨HR2.out.1, HR2.out.2.1, by rw [HR2.out.2.2.1]; simp [swN, HS.out], HR2.out.2.2.2⟩, Lib.hid (HX4.out.trans hk2)⟩
            case measure => simp [intOf]; omega
          · cases hbit : bit (j : Int) k
            · have HS := Lib.hid (show swB q l j k = false by unfold swB; rw [hbit]; rfl)
              rw [hbit] at HC
              clear hbit
              go_wp2
              go_region_held3 (fun w' => w'.cell? ⟨w.heap.size, 0, none⟩ = some (.int .i64 q) ∧ w'.cell? ⟨w.heap.size, 1, none⟩ = some (.slice a n cap) ∧ Ext wr w')
                (exact ⟨hk2.cellSome c0, hk2.cellSome c1', hk2⟩)
                (first
                  | (go_at_call 90; rw [HWP.out, HC.out]; simp only [Bool.false_eq_true, if_false]; refine (i_wins _ (HI4.out.ext hk2) (by omega) (by omega) (by omega)).mono ?_; rw [hw]; rintro e w3 ⟨rfl, hx3⟩; have hk2 := hk2.trans hx3)
                  | (go_at_call 90; refine (i_wins _ (HI4.out.ext hk2) (by omega) (by omega) (by omega)).mono ?_; rw [hw]; rintro e w3 ⟨rfl, hx3⟩; have hk2 := hk2.trans hx3))
              go_wp2
              go_roundw
              case rel => exact ⟨j + 1, r2, by omega, by go_num, HROW4.out.ext hk2, Lib.hid ⟨HR2.out.1, HR2.out.2.1, by rw [HR2.out.2.2.1]; simp [swN, HS.out], HR2.out.2.2.2⟩, Lib.hid (HX4.out.trans hk2)⟩
              case measure => simp [intOf]; omega
            · have hcl := cut_le j k (by omega) (by omega) hbit
              rw [hbit] at HC
              have HBT := Lib.hid hbit
              clear hbit
              cases hw2 : winsB q l ((j : Int) - 2 ^ k)
              · have HS := Lib.hid (show swB q l j k = true by unfold swB; rw [hw, hw2, HBT.out]; rfl)
                go_wp2
                go_region_held3 (fun w' => w'.cell? ⟨w.heap.size, 0, none⟩ = some (.int .i64 q) ∧ w'.cell? ⟨w.heap.size, 1, none⟩ = some (.slice a n cap) ∧ Ext wr w')
                  (exact ⟨hk2.cellSome c0, hk2.cellSome c1', hk2⟩)
                  (first
                    | (go_at_call 90; rw [HWP.out, HC.out]; simp only [if_true]; refine (i_wins _ (HI4.out.ext hk2) (by omega) (by omega) (by omega)).mono ?_; rw [hw2]; rintro e w3 ⟨rfl, hx3⟩; have hk2 := hk2.trans hx3)
                    | (go_at_call 90; refine (i_wins _ (HI4.out.ext hk2) (by omega) (by omega) (by omega)).mono ?_; rw [hw]; rintro e w3 ⟨rfl, hx3⟩; have hk2 := hk2.trans hx3))
                rename_i w9
                have HROW5 := Lib.hid (HROW4.out.ext hk2)
                have hl := HR2.out.1
                have hold := HROW5.out.cell (k := k) (by omega)
                have hfree := HROW5.out.free k
                have hsw := swN_le q l k j
                have hv := HR2.out.2.2.1
                rw [hv] at hold
                clear hl hv
                go_wp2
                go_roundw
                case rel =>
                  refine ⟨j + 1, r2.set k ((swN q l k j : Int) + 1), by omega, by go_num, HROW5.out.set k _, Lib.hid ⟨by simp [HR2.out.1], ?_, ?_, ?_⟩, Lib.hid ((HX4.out.trans hk2).setCell ?_ _)⟩
                  · intro i hi
                    rw [List.getElem?_set_ne (by omega)]
                    exact HR2.out.2.1 i hi
                  · rw [List.getElem?_set_self (by rw [HR2.out.1]; exact hlt)]
                    simp [swN, HS.out]
                  · intro i hi hin
                    rw [List.getElem?_set_ne (by omega)]
                    exact HR2.out.2.2.2 i hi hin
                  · simp; omega
                case measure => simp [intOf]; omega
              · have HS := Lib.hid (show swB q l j k = false by unfold swB; rw [hw2]; simp)
                go_wp2
                go_region_held3 (fun w' => w'.cell? ⟨w.heap.size, 0, none⟩ = some (.int .i64 q) ∧ w'.cell? ⟨w.heap.size, 1, none⟩ = some (.slice a n cap) ∧ Ext wr w')
                  (exact ⟨hk2.cellSome c0, hk2.cellSome c1', hk2⟩)
                  (first
                    | (go_at_call 90; rw [HWP.out, HC.out]; simp only [if_true]; refine (i_wins _ (HI4.out.ext hk2) (by omega) (by omega) (by omega)).mono ?_; rw [hw2]; rintro e w3 ⟨rfl, hx3⟩; have hk2 := hk2.trans hx3)
                    | (go_at_call 90; refine (i_wins _ (HI4.out.ext hk2) (by omega) (by omega) (by omega)).mono ?_; rw [hw]; rintro e w3 ⟨rfl, hx3⟩; have hk2 := hk2.trans hx3))
                go_wp2
                go_roundw
                case rel => exact ⟨j + 1, r2, by omega, by go_num, HROW4.out.ext hk2, Lib.hid ⟨HR2.out.1, HR2.out.2.1, by rw [HR2.out.2.2.1]; simp [swN, HS.out], HR2.out.2.2.2⟩, Lib.hid (HX4.out.trans hk2)⟩
                case measure => simp [intOf]; omega
        · have hje : j = cN n := by omega
          subst hje
          go_wp2
          go_roundw
          case rel => exact ⟨k + 1, r2, by omega, by go_num, HROW4.out, Lib.hid ⟨HR2.out.1, fun i hi => by rcases Nat.lt_succ_iff_lt_or_eq.1 hi with h | rfl; exact HR2.out.2.1 i h; exact HR2.out.2.2.1, fun i hi hin => HR2.out.2.2.2 i (by omega) hin⟩, HX4⟩
          case measure => simp [intOf]; omega
    · have hkn : k = n := by omega
      subst hkn
      go_wp2
      go_ret
      refine ⟨_, rfl, ?_, HX.out.trans HX2.out⟩
      have he : r = swL q l := by
        unfold swL swT
        rw [HVV.out, if_pos rfl, HL.out]
        apply List.ext_getElem?
        intro i
        by_cases hi : i < k
        · have h1 := HR.out.2.1 i hi
          have h2 : i < r.length := by rw [HR.out.1]; exact hi
          rw [List.getElem?_eq_getElem h2] at h1 ⊢
          simp at h1
          simp [hi, h1]
        · rw [List.getElem?_eq_none (by rw [HR.out.1]; omega), List.getElem?_eq_none (by simp; omega)]
      rw [← he]
      exact hrow.own (by omega) HR.out.1 (by omega)

end Go.Proofs.Ytekgbblpnfohfaa
