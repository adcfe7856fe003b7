/- Markets: the laws' copies and comparisons, and both sides' tests of validity. -/
import Derived.Test.YtokpmflhgehicaaMat
namespace Go.Proofs.Ytokpmflhgehicaa
set_option linter.unusedVariables false
open Go.RowKit

/-- Two ints and a slice by value. -/
abbrev triple (x y : Int) (a : Option Addr) (n cap : Nat) : Value := .agg #[.int .i64 x, .int .i64 y, .slice a n cap]

set_option maxHeartbeats 400000 in
theorem l_szMarket (x y : Int) {a : Option Addr} {n cap : Nat} {L : List (List Int)} (left : Int) {w : World} (h : IntSS w a n cap L) (h0 : 0 ≤ left) (h1 : left ≤ 1048576) :
    Calls Try.prog 28 #[triple x y a n cap, .int .i64 left] w fun e w' => e = .returned (.int .i64 (szSS left L)) ∧ Ext w w' := by
  have hz := szF_le left L.length h0 h1
  have hb : -1 ≤ szSS left L ∧ szSS left L ≤ 1048576 := szFold_bd _ _ hz.2.1 hz.1
  have HF := Lib.hid (show szSS left L < 0 → szSS left L = -1 by omega)
  have h' := h.alloc (.cells #[.int .i64 x, .int .i64 y, .slice a n cap] 49)
  go_enter Try.func28, Try.ntmps28
  go_wp2_with (first | (go_at_call 90; refine (l_szIntSS h' _ h0 h1).mono ?_; rintro e w' ⟨rfl, rfl⟩))
  all_goals go_ret; refine ⟨ret_int ?_, Ext.alloc _ _⟩
  · exact (HF.out (by assumption)).symm
  · rfl

set_option maxHeartbeats 400000 in
theorem l_toMarket {w : World} {x y : Int} {a : Option Addr} {n cap : Nat} {L : List (List Int)} (h : IntSS w a n cap L) (hb : n ≤ 1099511627776) (hbb : ∀ l ∈ L, l.length ≤ 1099511627776) :
    Calls Try.prog 30 #[triple x y a n cap] w fun e w' => ∃ b, e = .returned (triple x y (some ⟨b, 0, none⟩) n n) ∧ On w.heap.size w' (fun W => IntSS W (some ⟨b, 0, none⟩) n n L) ∧ Ext w w' := by
  have HB := Lib.hid hbb
  clear hbb
  go_enter Try.func30, Try.ntmps30
  go_wp2_with fail
  refine (l_toIntSS (h.ext ?hx1) hb HB.out).mono ?_
  case hx1 => exact (((Ext.alloc _ _).trans (Ext.alloc _ _)).trans (Ext.alloc _ _))
  rintro e w1 ⟨b, rfl, hrow, hx⟩
  have hcs := hx.cells
  have hfs := hx.frozens
  have HX := Lib.hid hx
  have HR := Lib.hid hrow
  clear hx hrow
  go_wp2
  refine bodyPost_ret (v := triple x y (some ⟨b, 0, none⟩) n n) (by simp [results, Try.results30, go_sem, hcs]) rfl ⟨b, rfl, ?_, ?_⟩
  · exact On.mono (((((HR.out.set (by simp) _).set (by simp) _).set (by simp) _).set (by simp) _)) (by simp; omega)
  · exact ((((((Ext.alloc _ _).trans (Ext.alloc _ _)).trans (Ext.alloc _ _)).trans HX.out).setCell (by simp; omega) _).setCell (by simp) _ |>.setCell (by simp) _).setCell (by simp) _

set_option maxHeartbeats 400000 in
theorem l_eqMarket {w : World} {x x' y y' : Int} {a a' : Option Addr} {n n' cap cap' : Nat} {L L' : List (List Int)} (h : IntSS w a n cap L) (h' : IntSS w a' n' cap' L') :
    Calls Try.prog 33 #[triple x y a n cap, triple x' y' a' n' cap'] w fun e w' => e = .returned (.bool (decide (x = x') && decide (y = y') && decide (L = L'))) ∧ Ext w w' := by
  have hne : (x != x') = !decide (x = x') := by by_cases h : x = x' <;> simp [h]
  have hne' : (y != y') = !decide (y = y') := by by_cases h : y = y' <;> simp [h]
  have hx0 : Ext w ((w.alloc (.cells #[.int .i64 x, .int .i64 y, .slice a n cap] 53)).alloc (.cells #[.int .i64 x', .int .i64 y', .slice a' n' cap'] 53)) := (Ext.alloc _ _).trans (Ext.alloc _ _)
  have HE := Lib.hid (l_eqIntSS (h.ext hx0) (h'.ext hx0))
  have HX0 := Lib.hid hx0
  clear hx0
  cases hd : decide (x = x')
  · rw [hd] at hne
    go_enter Try.func33, Try.ntmps33
    go_wp2_with fail
    go_ret
    exact ⟨ret_bool (by simp), HX0.out⟩
  · rw [hd] at hne
    cases hd' : decide (y = y')
    · rw [hd'] at hne'
      go_enter Try.func33, Try.ntmps33
      go_wp2_with fail
      go_ret
      exact ⟨ret_bool (by simp), HX0.out⟩
    · rw [hd'] at hne'
      cases hl : decide (L = L')
      all_goals
        have HL := Lib.hid hl
        rw [hl] at HE
        clear hl
        go_enter Try.func33, Try.ntmps33
        go_wp2_with fail
        refine HE.out.mono ?_
        rintro e w1 ⟨rfl, hx⟩
        go_wp2
        go_ret
        exact ⟨ret_bool (by simp), HX0.out.trans hx.ext⟩

/-- What both sides ask of a market. -/
def validM (s b : Int) (L : List (List Int)) : Bool :=
  (decide (1 ≤ s) && decide (s ≤ 5) && decide (1 ≤ b) && decide (b ≤ 5 - s) && decide ((L.length : Int) = s)) && L.all (fun r => r.all (inB · 0 100) && decide ((r.length : Int) = b))

theorem go_IsValidMarket11 : IsGo Try.prog 162 := isGo Try.func162 (by kernel_rfl) (by kernel_rfl)
theorem go_IsValidMarket1 : IsGo Try.prog 161 := isGo Try.func161 (by kernel_rfl) (by kernel_rfl)
set_option maxHeartbeats 400000 in
theorem i_IsValidMarket11 (x : Int) (w : World) : Calls Try.prog 162 #[.int .i64 x] w fun e w' => e = .returned (.bool (!inB x 0 100)) ∧ w = w' := by
  go_enter Try.func162, Try.ntmps162
  go_wp2_with (first | (go_at_call 97; refine (i_within _ _ _ _).mono ?_; rintro e w' ⟨rfl, rfl⟩))
  go_ret
  exact ⟨rfl, rfl⟩
theorem asks_IsValidMarket11 (w : World) : Asks Try.prog w 162 #[] (fun x => !inB x 0 100) :=
  fun x w1 _ => (i_IsValidMarket11 x w1).mono fun e w' ⟨he, hw⟩ => ⟨he, hw ▸ Ext.refl _⟩

def badRow (b : Int) (r : List Int) : Bool := !decide ((r.length : Int) = b) || r.any (fun x => !inB x 0 100)

set_option maxHeartbeats 400000 in
theorem i_IsValidMarket1 {w : World} {m : Nat} {b : Int} {a : Option Addr} {n cap : Nat} {l : List Int} (hb : w.cell? ⟨m, 1, none⟩ = some (.int .i64 b)) (h : Ints w a n cap l) :
    Calls Try.prog 161 #[.slice a n cap, .pointer (some ⟨m, 0, none⟩)] w fun e w' => e = .returned (.bool (badRow b l)) ∧ Ext w w' := by
  have hne : ((n : Int) != b) = !decide ((n : Int) = b) := by by_cases h : (n : Int) = b <;> simp [h]
  have HC := Lib.hid (containsFunc_ints h go_IsValidMarket11 (asks_IsValidMarket11 _))
  have HL := Lib.hid h.hlen
  cases hd : decide ((n : Int) = b)
  · rw [hd] at hne
    have HD := Lib.hid hd
    clear hd
    go_enter Try.func161, Try.ntmps161
    go_wp2_with fail
    go_ret
    refine ⟨ret_bool ?_, Ext.refl _⟩
    unfold badRow
    rw [HL.out, HD.out]; simp
  · rw [hd] at hne
    have HD := Lib.hid hd
    clear hd
    go_enter Try.func161, Try.ntmps161
    go_wp2_with fail
    refine HC.out.mono ?_
    rintro e w1 ⟨rfl, hx⟩
    go_wp2
    go_ret
    refine ⟨ret_bool ?_, hx⟩
    unfold badRow
    rw [HL.out, HD.out]; simp

theorem validM_any (s b : Int) (L : List (List Int)) : validM s b L = ((decide (1 ≤ s) && decide (s ≤ 5) && decide (1 ≤ b) && decide (b ≤ 5 - s) && decide ((L.length : Int) = s)) && !L.any (badRow b)) := by
  unfold validM badRow
  congr 1
  rw [List.not_any_eq_all_not]
  congr 1
  funext r
  rw [Bool.not_or, Bool.not_not, List.not_any_eq_all_not, Bool.and_comm]
  simp

set_option maxHeartbeats 1000000 in
theorem i_IsValidMarket {w : World} {x y : Int} {a : Option Addr} {n cap : Nat} {L : List (List Int)} (h : IntSS w a n cap L) :
    Calls Try.prog 96 #[triple x y a n cap] w fun e w' => e = .returned (.bool (validM x y L)) ∧ Ext w w' := by
  have h1 := h.alloc (.cells #[.int .i64 x, .int .i64 y, .slice a n cap] 53)
  have HX := Lib.hid (Ext.alloc w (.cells #[.int .i64 x, .int .i64 y, .slice a n cap] 53))
  have HL := Lib.hid h.hlen
  have HC := Lib.hid (containsFunc_intss (ca := #[.pointer (some ⟨w.heap.size, 0, none⟩)]) (p := badRow y) h1 go_IsValidMarket1 (fun l a n c w1 hx hi => i_IsValidMarket1 (hx.cellSome (by simp)) hi))
  clear h h1
  by_cases hall : 1 ≤ x ∧ x ≤ 5 ∧ 1 ≤ y ∧ y ≤ 5 - x ∧ (n : Int) = x
  · obtain ⟨p1, p2, p3, p4, p5⟩ := hall
    have hne : ((n : Int) != x) = false := by simp [p5]
    have HP := Lib.hid p5
    clear p5
    go_enter Try.func96, Try.ntmps96
    go_wp2_with fail
    refine HC.out.mono ?_
    rintro e w1 ⟨rfl, hx⟩
    go_wp2
    go_ret
    refine ⟨ret_bool ?_, HX.out.trans hx⟩
    rw [validM_any, HL.out]
    have := HP.out
    simp [p1, p2, p3, p4, this]
  · have HN := Lib.hid (show validM x y L = false by unfold validM; rw [HL.out]; simp only [Bool.and_eq_false_iff, decide_eq_false_iff_not]; omega)
    have hx5 : x < 1 ∨ y < 1 ∨ 5 < x ∨ 5 - x < y ∨ ((n : Int) ≠ x) := by omega
    have hgo : Calls Try.prog 96 #[triple x y a n cap] w fun e w' => e = .returned (.bool false) ∧ Ext w w' := by
      by_cases q1 : x < 1
      · go_enter Try.func96, Try.ntmps96
        go_wp2_with fail
        go_ret
        exact ⟨rfl, HX.out⟩
      by_cases q2 : y < 1
      · go_enter Try.func96, Try.ntmps96
        go_wp2_with fail
        go_ret
        exact ⟨rfl, HX.out⟩
      by_cases q3 : 5 < x
      · go_enter Try.func96, Try.ntmps96
        go_wp2_with fail
        go_ret
        exact ⟨rfl, HX.out⟩
      by_cases q4 : 5 - x < y
      · go_enter Try.func96, Try.ntmps96
        go_wp2_with fail
        go_ret
        exact ⟨rfl, HX.out⟩
      have hne : ((n : Int) != x) = true := by simp; omega
      clear hx5 hall
      go_enter Try.func96, Try.ntmps96
      go_wp2_with fail
      go_ret
      exact ⟨rfl, HX.out⟩
    rw [HN.out]
    exact hgo

/-- A row that the reference takes. -/
def goodRow (b : Int) (r : List Int) : Bool := small r 100 && decide ((r.length : Int) = b)
theorem goodRow_bad {b : Int} (h1 : 1 ≤ b) (h5 : b ≤ 5) (r : List Int) : goodRow b r = !badRow b r := by
  unfold goodRow badRow
  rw [small_any]
  by_cases h : (r.length : Int) = b
  · have hi : inB r.length 1 5 = true := by unfold inB; simp; omega
    rw [hi, decide_eq_true h]; simp
  · rw [decide_eq_false h]; simp

set_option maxHeartbeats 1000000 in
theorem s_IsValidMarket {w : World} {x y : Int} {a : Option Addr} {n cap : Nat} {L : List (List Int)} (h : IntSS w a n cap L) :
    Calls Try.prog 91 #[triple x y a n cap] w fun e w' => e = .returned (.bool (validM x y L)) ∧ Ext w w' := by
  have h1 := h.alloc (.cells #[.int .i64 x, .int .i64 y, .slice a n cap] 53)
  have HX := Lib.hid (Ext.alloc w (.cells #[.int .i64 x, .int .i64 y, .slice a n cap] 53))
  have HL := Lib.hid h.hlen
  have hcap := h.hcap
  have hmax := h.hmax
  clear h
  cases q1 : inB x 1 5
  · have HN := Lib.hid (show validM x y L = false by unfold validM inB at *; simp only [Bool.and_eq_false_iff, decide_eq_false_iff_not] at q1 ⊢; omega)
    rw [HN.out]
    go_enter Try.func91, Try.ntmps91
    go_wp2_with (first | (go_at_call 92; refine (s_l1In _ _ _ _).mono ?_; rintro e w' ⟨rfl, rfl⟩))
    go_ret
    exact ⟨rfl, HX.out⟩
  have p1 : 1 ≤ x ∧ x ≤ 5 := by unfold inB at q1; simpa using q1
  obtain ⟨p1, p2⟩ := p1
  cases q2 : inB y 1 (5 - x)
  · have HN := Lib.hid (show validM x y L = false by unfold validM inB at *; simp only [Bool.and_eq_false_iff, decide_eq_false_iff_not] at q2 ⊢; omega)
    rw [HN.out]
    go_enter Try.func91, Try.ntmps91
    go_wp2_with (first | (go_at_call 92; refine (s_l1In _ _ _ _).mono ?_; rintro e w' ⟨rfl, rfl⟩))
    go_ret
    exact ⟨rfl, HX.out⟩
  have p3 : 1 ≤ y ∧ y ≤ 5 - x := by unfold inB at q2; simpa using q2
  obtain ⟨p3, p4⟩ := p3
  by_cases q3 : (n : Int) = x
  · have hne : ((n : Int) != x) = false := by simp [q3]
    have HP := Lib.hid q3
    clear q3
    go_enter Try.func91, Try.ntmps91
    go_wp2_with (first | (go_at_call 92; refine (s_l1In _ _ _ _).mono ?_; rintro e w' ⟨rfl, rfl⟩))
    go_loopw [3] (fun i wr => ∃ k : Nat, k ≤ n ∧ i = .int .i64 k ∧ Hid ((L.take k).all (goodRow y) = true) ∧ Drew (w.alloc (.cells #[.int .i64 x, .int .i64 y, .slice a n cap] 53)) wr) (fun i _ => n - (intOf i).toNat)
    case atStart => exact ⟨0, Nat.zero_le _, rfl, Lib.hid rfl, Drew.refl _⟩
    case round =>
      obtain ⟨k, hk, rfl, HA, hx⟩ := hrel
      have c1 : wr.cell? ⟨w.heap.size, 1, none⟩ = some (.int .i64 y) := hx.ext.cellSome (by simp)
      have c2 : wr.cell? ⟨w.heap.size, 2, none⟩ = some (.slice a n cap) := hx.ext.cellSome (by simp)
      have HX2 := Lib.hid (HX.out.trans hx.ext)
      have HX3 := Lib.hid hx
      by_cases hlt : k < n
      · obtain ⟨b, off, a', n', c', rfl, hc, hr⟩ := (h1.ext hx.ext).at hlt
        have hq := fun j => quiet_same (s_l18Small 100 (hr.drewN j))
        have HR := Lib.hid hr.hlen
        clear hr hx
        have HQ := Lib.hid hq
        clear hq
        cases hs : small (L[k]?.getD []) 100
        · have HS := Lib.hid hs
          rw [hs] at HQ
          clear hs
          go_wp2
          go_quiet ((go_at_call 153; exact HQ.out _))
          go_wp2
          go_ret
          refine ⟨ret_bool ?_, below_drewN HX2.out _⟩
          symm
          rw [validM_any]
          have hkl : k < L.length := by have := HL.out; omega
          have : L.any (badRow y) = true := by
            rw [List.any_eq_true]
            refine ⟨L[k], List.getElem_mem hkl, ?_⟩
            have h2 := goodRow_bad p3 (by omega) L[k]
            have h3 : goodRow y L[k] = false := by unfold goodRow; have := HS.out; simp only [hkl, List.getElem?_eq_getElem, Option.getD_some] at this; rw [this]; rfl
            rw [h3] at h2
            simpa using h2.symm
          rw [this]; simp
        · have HS := Lib.hid hs
          rw [hs] at HQ
          clear hs
          by_cases hb : (n' : Int) = y
          · have hne : ((n' : Int) != y) = false := by simp [hb]
            have HB := Lib.hid hb
            clear hb
            go_wp2
            go_quiet ((go_at_call 153; exact HQ.out _))
            go_wp2
            go_roundw
            case rel => exact ⟨k + 1, by omega, by go_num, Lib.hid (by rw [takeL_snoc (by have := HL.out; omega), List.all_append, HA.out]; simp [goodRow, HS.out, HR.out, HB.out]), HX3.out.trans ⟨_, rfl⟩⟩
            case measure => simp [intOf]; omega
          · have hne : ((n' : Int) != y) = true := by simp [hb]
            have HB := Lib.hid hb
            clear hb
            go_wp2
            go_quiet ((go_at_call 153; exact HQ.out _))
            go_wp2
            go_ret
            refine ⟨ret_bool ?_, below_drewN HX2.out _⟩
            symm
            rw [validM_any]
            have hkl : k < L.length := by have := HL.out; omega
            have : L.any (badRow y) = true := by
              rw [List.any_eq_true]
              refine ⟨L[k], List.getElem_mem hkl, ?_⟩
              have := HR.out
              simp only [hkl, List.getElem?_eq_getElem, Option.getD_some] at this
              unfold badRow
              rw [this, decide_eq_false HB.out]; rfl
            rw [this]; simp
      · clear hx
        go_wp2
        go_ret
        refine ⟨ret_bool ?_, HX2.out⟩
        symm
        have := HA.out
        rw [List.take_of_length_le (by have := HL.out; omega)] at this
        rw [validM_any, HL.out]
        have h2 : L.any (badRow y) = false := by
          rw [List.any_eq_false]
          intro r hr
          have h3 := List.all_eq_true.1 this r hr
          rw [goodRow_bad p3 (by omega)] at h3
          simpa using h3
        rw [h2]
        have hp := HP.out
        simp [p1, p2, p3, p4, hp]
  · have hne : ((n : Int) != x) = true := by simp [q3]
    have HN := Lib.hid (show validM x y L = false by unfold validM; rw [HL.out]; simp only [Bool.and_eq_false_iff, decide_eq_false_iff_not]; omega)
    rw [HN.out]
    clear q3
    go_enter Try.func91, Try.ntmps91
    go_wp2_with (first | (go_at_call 92; refine (s_l1In _ _ _ _).mono ?_; rintro e w' ⟨rfl, rfl⟩))
    go_ret
    exact ⟨rfl, HX.out⟩

end Go.Proofs.Ytokpmflhgehicaa
