import Derived.Test.YtgohdmnbnhehnaaGreatStAllG1
import Derived.Test.YtgohdmnbnhehnaaGreatStAllG0
namespace Go.Proofs.YtgohdmnbnhehnaaGreat
set_option linter.unusedVariables false
open Go.RowKit
abbrev triple (x y : Int) (a : Option Addr) (n cap : Nat) : Value := .agg #[.int .i64 x, .int .i64 y, .slice a n cap]
set_option maxHeartbeats 400000 in
theorem l_szMarket (x y : Int) {a : Option Addr} {n cap : Nat} {L : List (List Int)} (left : Int) {w : World} (h : IntSS w a n cap L) (h0 : 0 ≤ left) (h1 : left ≤ 1048576) :
    Calls Tryz.prog 14 #[triple x y a n cap, .int .i64 left] w fun e w' => e = .returned (.int .i64 (szSS left L)) ∧ Ext w w' := by
  have hz := szF_le left L.length h0 h1
  have hb : -1 ≤ szSS left L ∧ szSS left L ≤ 1048576 := szFold_bd _ _ hz.2.1 hz.1
  have HF := Lib.hid (show szSS left L < 0 → szSS left L = -1 by omega)
  have h' := h.alloc (.cells #[.int .i64 x, .int .i64 y, .slice a n cap] 28)
  go_enter Tryz.func14, Tryz.ntmps14
  go_wp2_with (first | (go_at_call 70; refine (l_szIntSS h' _ h0 h1).mono ?_; rintro e w' ⟨rfl, rfl⟩))
  all_goals go_ret; refine ⟨ret_int ?_, Ext.alloc _ _⟩
  · exact (HF.out (by assumption)).symm
  · rfl
set_option maxHeartbeats 400000 in
theorem l_eqMarket {w : World} {x x' y y' : Int} {a a' : Option Addr} {n n' cap cap' : Nat} {L L' : List (List Int)} (h : IntSS w a n cap L) (h' : IntSS w a' n' cap' L') :
    Calls Tryz.prog 19 #[triple x y a n cap, triple x' y' a' n' cap'] w fun e w' => e = .returned (.bool (decide (x = x') && decide (y = y') && decide (L = L'))) ∧ Ext w w' := by
  have hne : (x != x') = !decide (x = x') := by by_cases h : x = x' <;> simp [h]
  have hne' : (y != y') = !decide (y = y') := by by_cases h : y = y' <;> simp [h]
  have hx0 : Ext w ((w.alloc (.cells #[.int .i64 x, .int .i64 y, .slice a n cap] 33)).alloc (.cells #[.int .i64 x', .int .i64 y', .slice a' n' cap'] 33)) := (Ext.alloc _ _).trans (Ext.alloc _ _)
  have HE := Lib.hid (l_eqIntSS (h.ext hx0) (h'.ext hx0))
  have HX0 := Lib.hid hx0
  clear hx0
  cases hd : decide (x = x')
  · rw [hd] at hne
    go_enter Tryz.func19, Tryz.ntmps19
    go_wp2_with fail
    go_ret
    exact ⟨ret_bool (by simp), HX0.out⟩
  · rw [hd] at hne
    cases hd' : decide (y = y')
    · rw [hd'] at hne'
      go_enter Tryz.func19, Tryz.ntmps19
      go_wp2_with fail
      go_ret
      exact ⟨ret_bool (by simp), HX0.out⟩
    · rw [hd'] at hne'
      cases hl : decide (L = L')
      all_goals
        have HL := Lib.hid hl
        rw [hl] at HE
        clear hl
        go_enter Tryz.func19, Tryz.ntmps19
        go_wp2_with fail
        refine HE.out.mono ?_
        rintro e w1 ⟨rfl, hx⟩
        go_wp2
        go_ret
        exact ⟨ret_bool (by simp), HX0.out.trans hx.ext⟩
def validM (s b : Int) (L : List (List Int)) : Bool :=
  (decide (1 ≤ s) && decide (s ≤ 5) && decide (1 ≤ b) && decide (b ≤ 5 - s) && decide ((L.length : Int) = s)) && L.all (fun r => r.all (inB · 0 100) && decide ((r.length : Int) = b))
theorem go_IsValidMarket11 : IsGo Tryz.prog 202 := isGo Tryz.func202 (by kernel_rfl) (by kernel_rfl)
theorem go_IsValidMarket1 : IsGo Tryz.prog 201 := isGo Tryz.func201 (by kernel_rfl) (by kernel_rfl)
set_option maxHeartbeats 400000 in
theorem i_IsValidMarket11 (x : Int) (w : World) : Calls Tryz.prog 202 #[.int .i64 x] w fun e w' => e = .returned (.bool (!inB x 0 100)) ∧ w = w' := by
  go_enter Tryz.func202, Tryz.ntmps202
  go_wp2_with (first | (go_at_call 62; refine (i_within _ _ _ _).mono ?_; rintro e w' ⟨rfl, rfl⟩))
  go_ret
  exact ⟨rfl, rfl⟩
theorem asks_IsValidMarket11 (w : World) : Asks Tryz.prog w 202 #[] (fun x => !inB x 0 100) :=
  fun x w1 _ => (i_IsValidMarket11 x w1).mono fun e w' ⟨he, hw⟩ => ⟨he, hw ▸ Ext.refl _⟩
def badRow (b : Int) (r : List Int) : Bool := !decide ((r.length : Int) = b) || r.any (fun x => !inB x 0 100)
set_option maxHeartbeats 400000 in
theorem i_IsValidMarket1 {w : World} {m : Nat} {b : Int} {a : Option Addr} {n cap : Nat} {l : List Int} (hb : w.cell? ⟨m, 1, none⟩ = some (.int .i64 b)) (h : Ints w a n cap l) :
    Calls Tryz.prog 201 #[.slice a n cap, .pointer (some ⟨m, 0, none⟩)] w fun e w' => e = .returned (.bool (badRow b l)) ∧ Ext w w' := by
  have hne : ((n : Int) != b) = !decide ((n : Int) = b) := by by_cases h : (n : Int) = b <;> simp [h]
  have HC := Lib.hid (containsFunc_ints h go_IsValidMarket11 (asks_IsValidMarket11 _))
  have HL := Lib.hid h.hlen
  cases hd : decide ((n : Int) = b)
  · rw [hd] at hne
    have HD := Lib.hid hd
    clear hd
    go_enter Tryz.func201, Tryz.ntmps201
    go_wp2_with fail
    go_ret
    refine ⟨ret_bool ?_, Ext.refl _⟩
    unfold badRow
    rw [HL.out, HD.out]; simp
  · rw [hd] at hne
    have HD := Lib.hid hd
    clear hd
    go_enter Tryz.func201, Tryz.ntmps201
    go_wp2_with fail
    refine HC.out.mono ?_
    rintro e w1 ⟨rfl, hx⟩
    go_wp2
    go_ret
    refine ⟨ret_bool ?_, hx⟩
    unfold badRow
    rw [HL.out, HD.out]; simp
theorem validM_any (s b : Int) (L : List (List Int)) : validM s b L = ((decide (1 ≤ s) && decide (s ≤ 5) && decide (1 ≤ b) && decide (b ≤ 5 - s) && decide ((L.length : Int) = s)) && !L.any (badRow b)) := by
  unfold validM badRow
  congr 1
  rw [List.not_any_eq_all_not]
  congr 1
  funext r
  rw [Bool.not_or, Bool.not_not, List.not_any_eq_all_not, Bool.and_comm]
  simp
set_option maxHeartbeats 1000000 in
theorem i_IsValidMarket {w : World} {x y : Int} {a : Option Addr} {n cap : Nat} {L : List (List Int)} (h : IntSS w a n cap L) :
    Calls Tryz.prog 142 #[triple x y a n cap] w fun e w' => e = .returned (.bool (validM x y L)) ∧ Ext w w' := by
  have h1 := h.alloc (.cells #[.int .i64 x, .int .i64 y, .slice a n cap] 33)
  have HX := Lib.hid (Ext.alloc w (.cells #[.int .i64 x, .int .i64 y, .slice a n cap] 33))
  have HL := Lib.hid h.hlen
  have HC := Lib.hid (containsFunc_intss (ca := #[.pointer (some ⟨w.heap.size, 0, none⟩)]) (p := badRow y) h1 go_IsValidMarket1 (fun l a n c w1 hx hi => i_IsValidMarket1 (hx.cellSome (by simp)) hi))
  clear h h1
  by_cases hall : 1 ≤ x ∧ x ≤ 5 ∧ 1 ≤ y ∧ y ≤ 5 - x ∧ (n : Int) = x
  · obtain ⟨p1, p2, p3, p4, p5⟩ := hall
    have hne : ((n : Int) != x) = false := by simp [p5]
    have HP := Lib.hid p5
    clear p5
    go_enter Tryz.func142, Tryz.ntmps142
    go_wp2_with fail
    refine HC.out.mono ?_
    rintro e w1 ⟨rfl, hx⟩
    go_wp2
    go_ret
    refine ⟨ret_bool ?_, HX.out.trans hx⟩
    rw [validM_any, HL.out]
    have := HP.out
    simp [p1, p2, p3, p4, this]
  · have HN := Lib.hid (show validM x y L = false by unfold validM; rw [HL.out]; simp only [Bool.and_eq_false_iff, decide_eq_false_iff_not]; omega)
    have hx5 : x < 1 ∨ y < 1 ∨ 5 < x ∨ 5 - x < y ∨ ((n : Int) ≠ x) := by omega
    have hgo : Calls Tryz.prog 142 #[triple x y a n cap] w fun e w' => e = .returned (.bool false) ∧ Ext w w' := by
      by_cases q1 : x < 1
      · go_enter Tryz.func142, Tryz.ntmps142
        go_wp2_with fail
        go_ret
        exact ⟨rfl, HX.out⟩
      by_cases q2 : y < 1
      · go_enter Tryz.func142, Tryz.ntmps142
        go_wp2_with fail
        go_ret
        exact ⟨rfl, HX.out⟩
      by_cases q3 : 5 < x
      · go_enter Tryz.func142, Tryz.ntmps142
        go_wp2_with fail
        go_ret
        exact ⟨rfl, HX.out⟩
      by_cases q4 : 5 - x < y
      · go_enter Tryz.func142, Tryz.ntmps142
        go_wp2_with fail
        go_ret
        exact ⟨rfl, HX.out⟩
      have hne : ((n : Int) != x) = true := by simp; omega
      clear hx5 hall
      go_enter Tryz.func142, Tryz.ntmps142
      go_wp2_with fail
      go_ret
      exact ⟨rfl, HX.out⟩
    rw [HN.out]
    exact hgo
def goodRow (b : Int) (r : List Int) : Bool := small r 100 && decide ((r.length : Int) = b)
theorem goodRow_bad {b : Int} (h1 : 1 ≤ b) (h5 : b ≤ 5) (r : List Int) : goodRow b r = !badRow b r := by
  unfold goodRow badRow
  rw [small_any]
  by_cases h : (r.length : Int) = b
  · have hi : inB r.length 1 5 = true := by unfold inB; simp; omega
    rw [hi, decide_eq_true h]; simp
  · rw [decide_eq_false h]; simp
set_option maxHeartbeats 1000000 in
theorem s_IsValidMarket {w : World} {x y : Int} {a : Option Addr} {n cap : Nat} {L : List (List Int)} (h : IntSS w a n cap L) :
    Calls Tryz.prog 138 #[triple x y a n cap] w fun e w' => e = .returned (.bool (validM x y L)) ∧ Ext w w' := by
  have h1 := h.alloc (.cells #[.int .i64 x, .int .i64 y, .slice a n cap] 33)
  have HX := Lib.hid (Ext.alloc w (.cells #[.int .i64 x, .int .i64 y, .slice a n cap] 33))
  have HL := Lib.hid h.hlen
  have hcap := h.hcap
  have hmax := h.hmax
  clear h
  cases q1 : inB x 1 5
  · have HN := Lib.hid (show validM x y L = false by unfold validM inB at *; simp only [Bool.and_eq_false_iff, decide_eq_false_iff_not] at q1 ⊢; omega)
    rw [HN.out]
    go_enter Tryz.func138, Tryz.ntmps138
    go_wp2_with (first | (go_at_call 56; refine (s_l1In _ _ _ _).mono ?_; rintro e w' ⟨rfl, rfl⟩))
    go_ret
    exact ⟨rfl, HX.out⟩
  have p1 : 1 ≤ x ∧ x ≤ 5 := by unfold inB at q1; simpa using q1
  obtain ⟨p1, p2⟩ := p1
  cases q2 : inB y 1 (5 - x)
  · have HN := Lib.hid (show validM x y L = false by unfold validM inB at *; simp only [Bool.and_eq_false_iff, decide_eq_false_iff_not] at q2 ⊢; omega)
    rw [HN.out]
    go_enter Tryz.func138, Tryz.ntmps138
    go_wp2_with (first | (go_at_call 56; refine (s_l1In _ _ _ _).mono ?_; rintro e w' ⟨rfl, rfl⟩))
    go_ret
    exact ⟨rfl, HX.out⟩
  have p3 : 1 ≤ y ∧ y ≤ 5 - x := by unfold inB at q2; simpa using q2
  obtain ⟨p3, p4⟩ := p3
  by_cases q3 : (n : Int) = x
  · have hne : ((n : Int) != x) = false := by simp [q3]
    have HP := Lib.hid q3
    clear q3
    go_enter Tryz.func138, Tryz.ntmps138
    go_wp2_with (first | (go_at_call 56; refine (s_l1In _ _ _ _).mono ?_; rintro e w' ⟨rfl, rfl⟩))
    go_loopw [3] (fun i wr => ∃ k : Nat, k ≤ n ∧ i = .int .i64 k ∧ Hid ((L.take k).all (goodRow y) = true) ∧ Drew (w.alloc (.cells #[.int .i64 x, .int .i64 y, .slice a n cap] 33)) wr) (fun i _ => n - (intOf i).toNat)
    case atStart => exact ⟨0, Nat.zero_le _, rfl, Lib.hid rfl, Drew.refl _⟩
    case round =>
      obtain ⟨k, hk, rfl, HA, hx⟩ := hrel
      have c1 : wr.cell? ⟨w.heap.size, 1, none⟩ = some (.int .i64 y) := hx.ext.cellSome (by simp)
      have c2 : wr.cell? ⟨w.heap.size, 2, none⟩ = some (.slice a n cap) := hx.ext.cellSome (by simp)
      have HX2 := Lib.hid (HX.out.trans hx.ext)
      have HX3 := Lib.hid hx
      by_cases hlt : k < n
      · obtain ⟨b, off, a', n', c', rfl, hc, hr⟩ := (h1.ext hx.ext).at hlt
        have hq := fun j => quiet_same (s_l18Small 100 (hr.drewN j))
        have HR := Lib.hid hr.hlen
        clear hr hx
        have HQ := Lib.hid hq
        clear hq
        cases hs : small (L[k]?.getD []) 100
        · have HS := Lib.hid hs
          rw [hs] at HQ
          clear hs
          go_wp2
          go_quiet ((go_at_call 198; exact HQ.out _))
          go_wp2
          go_ret
          refine ⟨ret_bool ?_, below_drewN HX2.out _⟩
          symm
          rw [validM_any]
          have hkl : k < L.length := by have := HL.out; omega
          have : L.any (badRow y) = true := by
            rw [List.any_eq_true]
            refine ⟨L[k], List.getElem_mem hkl, ?_⟩
            have h2 := goodRow_bad p3 (by omega) L[k]
            have h3 : goodRow y L[k] = false := by unfold goodRow; have := HS.out; simp only [hkl, List.getElem?_eq_getElem, Option.getD_some] at this; rw [this]; rfl
            rw [h3] at h2
            simpa using h2.symm
          rw [this]; simp
        · have HS := Lib.hid hs
          rw [hs] at HQ
          clear hs
          by_cases hb : (n' : Int) = y
          · have hne : ((n' : Int) != y) = false := by simp [hb]
            have HB := Lib.hid hb
            clear hb
            go_wp2
            go_quiet ((go_at_call 198; exact HQ.out _))
            go_wp2
            go_roundw
            case rel => exact ⟨k + 1, by omega, by go_num, Lib.hid (by rw [takeL_snoc (by have := HL.out; omega), List.all_append, HA.out]; simp [goodRow, HS.out, HR.out, HB.out]), HX3.out.trans ⟨_, rfl⟩⟩
            case measure => simp [intOf]; omega
          · have hne : ((n' : Int) != y) = true := by simp [hb]
            have HB := Lib.hid hb
            clear hb
            go_wp2
            go_quiet ((go_at_call 198; exact HQ.out _))
            go_wp2
            go_ret
            refine ⟨ret_bool ?_, below_drewN HX2.out _⟩
            symm
            rw [validM_any]
            have hkl : k < L.length := by have := HL.out; omega
            have : L.any (badRow y) = true := by
              rw [List.any_eq_true]
              refine ⟨L[k], List.getElem_mem hkl, ?_⟩
              have := HR.out
              simp only [hkl, List.getElem?_eq_getElem, Option.getD_some] at this
              unfold badRow
              rw [this, decide_eq_false HB.out]; rfl
            rw [this]; simp
      · clear hx
        go_wp2
        go_ret
        refine ⟨ret_bool ?_, HX2.out⟩
        symm
        have := HA.out
        rw [List.take_of_length_le (by have := HL.out; omega)] at this
        rw [validM_any, HL.out]
        have h2 : L.any (badRow y) = false := by
          rw [List.any_eq_false]
          intro r hr
          have h3 := List.all_eq_true.1 this r hr
          rw [goodRow_bad p3 (by omega)] at h3
          simpa using h3
        rw [h2]
        have hp := HP.out
        simp [p1, p2, p3, p4, hp]
  · have hne : ((n : Int) != x) = true := by simp [q3]
    have HN := Lib.hid (show validM x y L = false by unfold validM; rw [HL.out]; simp only [Bool.and_eq_false_iff, decide_eq_false_iff_not]; omega)
    rw [HN.out]
    clear q3
    go_enter Tryz.func138, Tryz.ntmps138
    go_wp2_with (first | (go_at_call 56; refine (s_l1In _ _ _ _).mono ?_; rintro e w' ⟨rfl, rfl⟩))
    go_ret
    exact ⟨rfl, HX.out⟩
end Go.Proofs.YtgohdmnbnhehnaaGreat
namespace Go.Proofs.YtgohdmnbnhehnaaGreat
set_option linter.unusedVariables false
set_option linter.unusedSimpArgs false
open Go.RowKit
def FilledO (w : World) (B : Nat) (vs : List Value) (L : List (List Int)) (k : Nat) : Prop :=
  ∃ f : Nat → Nat, (∀ j, j < k → vs[j]? = some (.slice (some ⟨f j, 0, none⟩) (L[j]?.getD []).length (L[j]?.getD []).length) ∧ B < f j ∧ Row w (f j) 3 (L[j]?.getD [])) ∧ ∀ i j, i < j → j < k → f i < f j
theorem FilledO.ext {w w' : World} {B : Nat} {vs : List Value} {L : List (List Int)} {k : Nat} (h : FilledO w B vs L k) (hx : Ext w w') : FilledO w' B vs L k :=
  let ⟨f, h1, h2⟩ := h; ⟨f, fun j hj => let ⟨g1, g2, g3⟩ := h1 j hj; ⟨g1, g2, g3.ext hx⟩, h2⟩
def FilledO.bl (w : World) (B : Nat) (vs : List Value) (k b : Nat) : Prop := ∃ j m, j < k ∧ vs[j]? = some (.slice (some ⟨b, 0, none⟩) m m)
theorem FilledO.lt {w : World} {B : Nat} {vs : List Value} {L : List (List Int)} {k : Nat} (h : FilledO w B vs L k) (b : Nat) (hb : FilledO.bl w B vs k b) : b < w.heap.size := by
  obtain ⟨f, h1, _⟩ := h
  obtain ⟨j, m, hj, e⟩ := hb
  obtain ⟨g1, _, g3⟩ := h1 j hj
  rw [g1] at e
  simp only [Option.some.injEq, Value.slice.injEq, Addr.mk.injEq, and_true] at e
  rw [← e.1]
  exact g3.lt
theorem FilledO.snoc {w : World} {B : Nat} {vs : List Value} {L : List (List Int)} {k : Nat} (h : FilledO w B vs L k) (hv : k < vs.length) {b m : Nat} (hb : B < b) (hm : (L[k]?.getD []).length = m) (hr : Row w b 3 (L[k]?.getD []))
    (hnew : ∀ c, FilledO.bl w B vs k c → c < b) : FilledO (w.setCell ⟨B, k, none⟩ (.slice (some ⟨b, 0, none⟩) m m)) B (vs.set k (.slice (some ⟨b, 0, none⟩) m m)) L (k + 1) := by
  obtain ⟨f, h1, h2⟩ := h
  refine ⟨fun j => if j = k then b else f j, fun j hj => ?_, fun i j hij hj => ?_⟩
  · by_cases hjk : j = k
    · subst hjk
      simp only [if_true]
      exact ⟨by simp [hv, hm], hb, hr.other (by simp; omega) _⟩
    · obtain ⟨g1, g2, g3⟩ := h1 j (by omega)
      simp only [if_neg hjk]
      exact ⟨by rw [List.getElem?_set_ne (by omega)]; exact g1, g2, g3.other (by simp; omega) _⟩
  · by_cases hjk : j = k
    · subst hjk
      have hi : ¬ i = j := by omega
      simp only [if_neg hi, if_true]
      obtain ⟨g1, _, _⟩ := h1 i (by omega)
      exact hnew _ ⟨i, _, by omega, g1⟩
    · have hi : ¬ i = k := by omega
      simp only [if_neg hi, if_neg hjk]
      exact h2 i j hij (by omega)
theorem VRow.ownV {w : World} {b : Nat} {vs : List Value} {n base : Nat} (h : VRow w b 22 vs) (hn : vs.length = n) (hm : n ≤ 1099511627776) (hb : base ≤ b := by omega) : OwnV w base (.slice (some ⟨b, 0, none⟩) n n) vs := by
  subst hn
  refine ⟨by simp, .inr ⟨b, vs.length, vs.toArray, rfl, hb, h, Nat.le_refl _, by simp [maxLen]; omega, by simp, by simp [List.take_of_length_le]⟩⟩
theorem FilledO.rows {w : World} {B n : Nat} {vs : List Value} {L : List (List Int)} (h : FilledO w B vs L n) (hL : L.length = n) (hV : vs.length = n) (hbb : ∀ l ∈ L, l.length ≤ 1099511627776) : RowsI w B vs L := by
  obtain ⟨f, h1, h2⟩ := h
  refine ⟨by omega, fun i hi => ?_, fun i j k hij hj hk => ?_⟩
  · obtain ⟨g1, g2, g3⟩ := h1 i (by omega)
    rw [g1]
    simp only [Option.getD_some]
    refine g3.own (by omega) rfl ?_
    simp only [hi, List.getElem?_eq_getElem, Option.getD_some]
    exact hbb _ (List.getElem_mem hi)
  · obtain ⟨g1, _, _⟩ := h1 i (by omega)
    obtain ⟨g1', _, _⟩ := h1 j (by omega)
    intro hk'
    rw [g1] at hk
    rw [g1'] at hk'
    have e1 := Option.some.inj (show some (f i) = some k from hk)
    have e2 := Option.some.inj (show some (f j) = some k from hk')
    have := h2 i j hij (by omega)
    omega
theorem OwnV.mono {w : World} {base base' : Nat} {v : Value} {vs : List Value} (h : OwnV w base v vs) (hb : base' ≤ base) : OwnV w base' v vs := by
  refine ⟨h.1, ?_⟩
  rcases h.2 with hn | ⟨g, cap, cur, rfl, hbb, rest⟩
  · exact .inl hn
  · exact .inr ⟨g, cap, cur, rfl, by omega, rest⟩
theorem OwnSS.mono {w : World} {base base' : Nat} {v : Value} {L : List (List Int)} (h : OwnSS w base v L) (hb : base' ≤ base) : OwnSS w base' v L :=
  let ⟨vs, h1, h2⟩ := h; ⟨vs, h1.mono hb, h2.len, fun i hi => (h2.row i hi).mono hb, h2.apart⟩
def OwnSSt (w : World) (base top : Nat) (v : Value) (L : List (List Int)) : Prop := ∃ vs, OwnV w base v vs ∧ RowsI w base vs L ∧ ∀ i k, i < L.length → (vs[i]?.getD undef).ownBlock = some k → k < top
theorem OwnSSt.own {w : World} {base top : Nat} {v : Value} {L : List (List Int)} (h : OwnSSt w base top v L) : OwnSS w base v L := let ⟨vs, h1, h2, _⟩ := h; ⟨vs, h1, h2⟩
theorem OwnSS.top {w : World} {base : Nat} {v : Value} {L : List (List Int)} (h : OwnSS w base v L) : OwnSSt w base w.heap.size v L := let ⟨vs, h1, h2⟩ := h; ⟨vs, h1, h2, fun i k hi hk => ((h2.row i hi).lt k hk).2⟩
theorem OwnSSt.ext {w w' : World} {base top : Nat} {v : Value} {L : List (List Int)} (h : OwnSSt w base top v L) (hx : Ext w w') : OwnSSt w' base top v L := let ⟨vs, h1, h2, h3⟩ := h; ⟨vs, h1.ext hx, h2.ext hx, h3⟩
set_option maxHeartbeats 400000 in
theorem l_toIntSSo {w : World} {a : Option Addr} {n cap : Nat} {L : List (List Int)} (h : IntSS w a n cap L) (hb : n ≤ 1099511627776) (hbb : ∀ l ∈ L, l.length ≤ 1099511627776) :
    Calls Tryz.prog 73 #[.slice a n cap] w fun e w' => ∃ b, e = .returned (.slice (some ⟨b, 0, none⟩) n n) ∧ OwnSS w' w.heap.size (.slice (some ⟨b, 0, none⟩) n n) L ∧ Ext w w' := by
  have hn := h.hcap
  have hm := h.hmax
  have hmk := mk_slices n hb
  have HL := Lib.hid h.hlen
  go_enter Tryz.func73, Tryz.ntmps73
  go_wp2
  go_loopw [4] (fun i wr => ∃ (k : Nat) (vs : List Value), k ≤ n ∧ i = .int .i64 k ∧ Hid (vs.length = n) ∧ VRow wr w.heap.size 22 vs ∧ FilledO wr w.heap.size vs L k ∧ Ext w wr) (fun i _ => n - (intOf i).toNat)
  case atStart => exact ⟨0, List.replicate n (.slice none 0 0), Nat.zero_le _, rfl, Lib.hid (by simp), by unfold VRow; rw [heap_alloc_new]; simp, ⟨fun _ => 0, fun j hj => absurd hj (by omega), fun i j _ hj => absurd hj (by omega)⟩, Ext.alloc _ _⟩
  case round =>
    obtain ⟨k, vs, hk, rfl, HV, hrow, hfill, hx⟩ := hrel
    by_cases hlt : k < n
    · have h' := h.ext hx
      obtain ⟨b, off, a', n', c', rfl, hc, hr⟩ := h'.at hlt
      have hlen : (L[k]?.getD []).length ≤ 1099511627776 := by
        have : k < L.length := by have := HL.out; omega
        simp only [this, List.getElem?_eq_getElem, Option.getD_some]
        exact hbb _ (List.getElem_mem _)
      have hn' : n' ≤ 1099511627776 := by rw [← hr.hlen]; exact hlen
      have HR := Lib.hid hr.hlen
      clear hlen
      go_wp2_with fail
      refine (l_toIntS hr hn').mono ?_
      rintro e w1 ⟨b1, rfl, hrow1, hb1, hx1⟩
      have hrow' := hrow.ext hx1
      have hlt1 := hrow.lt
      have hold : ∃ v, w1.cell? ⟨w.heap.size, k, none⟩ = some v := by
        rw [hrow'.cell k]
        exact ⟨vs[k]'(by have := HV.out; omega), List.getElem?_eq_getElem _⟩
      obtain ⟨v0, hold⟩ := hold
      have hfree := hrow'.free k
      go_wp2
      go_roundw
      case rel =>
        refine ⟨k + 1, vs.set k (.slice (some ⟨b1, 0, none⟩) n' n'), by omega, by go_num, Lib.hid (by simp [HV.out]), hrow'.set k _, ?_, (hx.trans hx1).setCell (Nat.le_refl _) _⟩
        exact (hfill.ext hx1).snoc (by have := HV.out; omega) (by omega) HR.out hrow1 (fun b hb => by have h1 := hfill.lt b hb; omega)
      case measure => simp [intOf]; omega
    · go_wp2
      go_ret
      have hkn : k = n := by omega
      subst hkn
      exact ⟨_, rfl, ⟨vs, hrow.ownV HV.out (by omega), hfill.rows HL.out HV.out hbb⟩, hx⟩
set_option maxHeartbeats 400000 in
theorem l_markIntSSt {w : World} {base : Nat} {a : Option Addr} {n cap : Nat} {L : List (List Int)} {top : Nat} (h : OwnSSt w base top (.slice a n cap) L) (k0 : Int) (h0 : 0 ≤ k0) (h1 : k0 + cnt L ≤ 4611686018427387904) :
    Calls Tryz.prog 78 #[.slice a n cap, .int .i64 k0] w fun e w' => e = .returned (.int .i64 (k0 + cnt L)) ∧ Below base w w' ∧ (∀ k, top ≤ k → k < w.heap.size → w'.heap[k]? = w.heap[k]?) ∧ w'.heap.size = w.heap.size := by
  have hI := h.own.intss
  have hcap := hI.hcap
  have hmax := hI.hmax
  have HL := Lib.hid hI.hlen
  obtain ⟨vs, hv, hr, ht⟩ := h
  have HT := Lib.hid ht
  clear ht
  clear hI
  go_enter Tryz.func78, Tryz.ntmps78
  go_wp2
  go_loopw [1, 5] (fun t i wr => ∃ (k : Nat) (z : Int), k ≤ n ∧ i = .int .i64 k ∧ t = .int .i64 z ∧ Hid (z = k0 + cnt (L.take k)) ∧ OwnV wr base (.slice a n cap) vs ∧ RowsI wr base vs (markSS k0 L k) ∧ Below base w wr ∧ Hid (∀ k, top ≤ k → k < w.heap.size → wr.heap[k]? = w.heap[k]?) ∧ Hid (wr.heap.size = w.heap.size)) (fun _ i _ => n - (intOf i).toNat)
  case atStart => exact ⟨0, k0, Nat.zero_le _, rfl, rfl, Lib.hid (by simp [cnt]), hv, by simpa [markSS, numb] using hr, Below.refl _ _, Lib.hid (fun _ _ _ => rfl), Lib.hid rfl⟩
  case round =>
    obtain ⟨k, z, hk, rfl, rfl, HZ, hv', hr', hb, HTT, HS⟩ := hrel
    by_cases hlt : k < n
    · obtain ⟨g, rfl, hbg, hc⟩ := hv'.cell hlt
      have hkl : k < L.length := by have := HL.out; omega
      have hrow := hr'.row k (by rw [markSS_len _ _ _ (by omega)]; exact hkl)
      rw [markSS_lo _ _ _ _ (Nat.le_refl _) hkl] at hrow
      obtain ⟨a1, c1, he, _⟩ := hrow.form
      have hck : wr.cell? ⟨g, k, none⟩ = some (.slice a1 (L[k]?.getD []).length c1) := by
        rw [hc k hlt, ← he]
        have : k < vs.length := by rw [hr'.len, markSS_len _ _ _ (by omega)]; exact hkl
        simp [this]
      have hrow' := hrow
      rw [he] at hrow'
      have hz0 : 0 ≤ z := by rw [HZ.out]; have := cnt_nonneg (L.take k); omega
      have hz1 : z + ((L[k]?.getD []).length : Int) ≤ 4611686018427387904 := by
        rw [HZ.out]
        have := cnt_take_le L (k + 1)
        rw [cnt_take_succ L k hkl] at this
        omega
      have HR := Lib.hid hr'
      have HE := Lib.hid he
      have HV := Lib.hid hv'
      have HRW := Lib.hid hrow'
      have HB := Lib.hid hb
      obtain ⟨m, hm⟩ : ∃ m, m = (L[k]?.getD []).length := ⟨_, rfl⟩
      rw [← hm] at hck HRW hz1
      have HM := Lib.hid hm
      clear hr' hrow hrow' hc hv' hb hm he
      go_wp2_with fail
      refine (l_markIntS HRW.out z hz0 hz1).mono ?_
      rintro e w1 ⟨rfl, ho, hg, hsz⟩
      have HG := Lib.hid hg
      have HO := Lib.hid ho
      have HSZ := Lib.hid hsz
      clear hg ho hsz
      go_wp2
      go_roundw
      case rel =>
        refine ⟨k + 1, z + m, by omega, by go_num, rfl, Lib.hid ?_, ?_, ?_, ?_, Lib.hid (fun j hj hj2 => (HG.out.block j (by have := HS.out; omega) (fun e => by have h1 := HT.out k j hkl (by rw [HE.out, ← HM.out]; exact e.symm); omega)).trans (HTT.out j hj hj2)), Lib.hid ?_⟩
        · rw [cnt_take_succ L k hkl, HZ.out, HM.out]; omega
        · refine HV.out.keep fun j hj => HG.out.block j (HV.out.lt j hj).2 fun e => ?_
          exact HRW.out.apart HV.out j e.symm hj
        · refine HR.out.marked hkl ?_ ?_
          · rw [HE.out, ← HM.out, ← HZ.out]; exact HO.out
          · rw [HE.out, ← HM.out]; exact HG.out
        · have hl := fun j hj => (HRW.out.lt j hj).1
          refine HB.out.trans ⟨HG.out.os, HG.out.tape, HG.out.output, HG.out.size, fun j hj => ?_⟩
          by_cases hjs : j < wr.heap.size
          · exact HG.out.block j hjs fun e => by have := hl j e.symm; omega
          · rw [Array.getElem?_eq_none (by have := HSZ.out; omega), Array.getElem?_eq_none (by omega)]
        · rw [HSZ.out, HS.out]
      case measure => simp [intOf]; omega
    · have HR := Lib.hid hr'
      have HV := Lib.hid hv'
      have HB := Lib.hid hb
      clear hr' hv' hb
      go_wp2
      go_ret
      have hkl : k = L.length := by have := HL.out; omega
      refine ⟨ret_int ?_, HB.out, HTT.out, HS.out⟩
      rw [HZ.out, hkl, List.take_length]
set_option maxHeartbeats 400000 in
theorem l_toMarketO {w : World} {x y : Int} {a : Option Addr} {n cap : Nat} {L : List (List Int)} (h : IntSS w a n cap L) (hb : n ≤ 1099511627776) (hbb : ∀ l ∈ L, l.length ≤ 1099511627776) :
    Calls Tryz.prog 16 #[triple x y a n cap] w fun e w' => ∃ b, e = .returned (triple x y (some ⟨b, 0, none⟩) n n) ∧ OwnSS w' w.heap.size (.slice (some ⟨b, 0, none⟩) n n) L ∧ Ext w w' := by
  have HB := Lib.hid hbb
  clear hbb
  go_enter Tryz.func16, Tryz.ntmps16
  go_wp2_with fail
  refine (l_toIntSSo (h.ext ?hx1) hb HB.out).mono ?_
  case hx1 => exact (((Ext.alloc _ _).trans (Ext.alloc _ _)).trans (Ext.alloc _ _))
  rintro e w1 ⟨b, rfl, hrow, hx⟩
  have hcs := hx.cells
  have hfs := hx.frozens
  have HX := Lib.hid hx
  have HR := Lib.hid hrow.on
  clear hx hrow
  go_wp2
  refine bodyPost_ret (v := triple x y (some ⟨b, 0, none⟩) n n) (by simp [results, Tryz.results16, go_sem, hcs]) rfl ⟨b, rfl, ?_, ?_⟩
  · exact OwnSS.mono (On.here ((((HR.out.set (by simp) _).set (by simp) _).set (by simp) _).set (by simp) _)) (by simp; omega)
  · exact ((((((Ext.alloc _ _).trans (Ext.alloc _ _)).trans (Ext.alloc _ _)).trans HX.out).setCell (by simp; omega) _).setCell (by simp) _ |>.setCell (by simp) _).setCell (by simp) _
set_option maxHeartbeats 400000 in
theorem l_markMarket {w : World} {x y : Int} {base top : Nat} {a : Option Addr} {n cap : Nat} {L : List (List Int)} (h : OwnSSt w base top (.slice a n cap) L) (hb : base ≤ w.heap.size) (k0 : Int) (h0 : 0 ≤ k0) (h1 : k0 + cnt L ≤ 4611686018427387904) :
    Calls Tryz.prog 20 #[triple x y a n cap, .int .i64 k0] w fun e w' => e = .returned (.int .i64 (k0 + cnt L)) ∧ Below base w w' ∧ ∀ k, top ≤ k → k < w.heap.size → w'.heap[k]? = w.heap[k]? := by
  have HX := Lib.hid (Ext.alloc w (.cells #[.int .i64 x, .int .i64 y, .slice a n cap] 33))
  have HO := Lib.hid (h.ext HX.out)
  clear h
  go_enter Tryz.func20, Tryz.ntmps20
  go_wp2_with fail
  refine (l_markIntSSt HO.out k0 h0 h1).mono ?_
  rintro e w1 ⟨rfl, hbl, hf, hs⟩
  have HB := Lib.hid ((Below.mono HX.out hb).trans hbl)
  have HF := Lib.hid (fun k h1 h2 => (hf k h1 (Nat.lt_of_lt_of_le h2 HX.out.size)).trans (HX.out.block k h2))
  clear hbl hf hs
  go_wp2
  go_ret
  exact ⟨rfl, HB.out, HF.out⟩
end Go.Proofs.YtgohdmnbnhehnaaGreat
namespace Go.Proofs.YtgohdmnbnhehnaaGreat
set_option linter.unusedVariables false
set_option linter.unusedSimpArgs false
open Go.RowKit
structure Rats (w : World) (a : Option Addr) (n cap : Nat) (l : List (Int × Int)) : Prop where
  hlen : l.length = n
  hcap : n ≤ cap
  hmax : cap ≤ 9223372036854775807
  cell : ∀ k, k < n → ∃ b off, a = some ⟨b, off, none⟩ ∧ ∀ k, k < n → w.cell? ⟨b, off + k * 2, none⟩ = some (.int .i64 (l[k]?.getD (0, 0)).1) ∧ w.cell? ⟨b, off + k * 2 + 1, none⟩ = some (.int .i64 (l[k]?.getD (0, 0)).2)
theorem Rats.ext {w w' : World} {a : Option Addr} {n cap : Nat} {l : List (Int × Int)} (h : Rats w a n cap l) (hx : Ext w w') : Rats w' a n cap l :=
  ⟨h.hlen, h.hcap, h.hmax, fun k hk => let ⟨b, off, e, hc⟩ := h.cell k hk; ⟨b, off, e, fun k hk => ⟨hx.cellSome (hc k hk).1, hx.cellSome (hc k hk).2⟩⟩⟩
theorem Rats.at {w : World} {a : Option Addr} {n cap : Nat} {l : List (Int × Int)} (h : Rats w a n cap l) {k : Nat} (hk : k < n) :
    ∃ b off x y, a = some ⟨b, off, none⟩ ∧ l[k]?.getD (0, 0) = (x, y) ∧ w.cell? ⟨b, off + k * 2, none⟩ = some (.int .i64 x) ∧ w.cell? ⟨b, off + k * 2 + 1, none⟩ = some (.int .i64 y) :=
  let ⟨b, off, e, hc⟩ := h.cell k hk; ⟨b, off, _, _, e, rfl, (hc k hk).1, (hc k hk).2⟩
theorem take_snocR {l : List (Int × Int)} {k : Nat} (h : k < l.length) : l.take (k+1) = l.take k ++ [l[k]?.getD (0, 0)] := by
  rw [List.take_succ_eq_append_getElem h]; simp [h]
set_option maxHeartbeats 400000 in
theorem l_eqRat (x y x' y' : Int) (w : World) :
    Calls Tryz.prog 76 #[.agg #[.int .i64 x, .int .i64 y], .agg #[.int .i64 x', .int .i64 y']] w fun e w' => e = .returned (.bool (decide (x = x') && decide (y = y'))) ∧ Ext w w' := by
  have hne : (x != x') = !decide (x = x') := by by_cases h : x = x' <;> simp [h]
  have hne2 : (y != y') = !decide (y = y') := by by_cases h : y = y' <;> simp [h]
  cases hd : decide (x = x')
  all_goals
    rw [hd] at hne
    cases hd2 : decide (y = y')
    all_goals
      rw [hd2] at hne2
      go_enter Tryz.func76, Tryz.ntmps76
      go_wp2_with fail
      go_ret
      exact ⟨rfl, (Ext.alloc _ _).trans (Ext.alloc _ _)⟩
set_option maxHeartbeats 1000000 in
theorem l_eqRatS {w : World} {a a' : Option Addr} {n n' cap cap' : Nat} {l l' : List (Int × Int)} (h : Rats w a n cap l) (h' : Rats w a' n' cap' l') :
    Calls Tryz.prog 18 #[.slice a n cap, .slice a' n' cap'] w fun e w' => e = .returned (.bool (decide (l = l'))) ∧ Ext w w' := by
  have hn := h.hcap
  have hm := h.hmax
  have hn' := h'.hcap
  have hm' := h'.hmax
  have HL := Lib.hid h.hlen
  have HL' := Lib.hid h'.hlen
  by_cases hne : n = n'
  · subst hne
    go_enter Tryz.func18, Tryz.ntmps18
    go_wp2
    go_loopw [5] (fun i wr => ∃ k : Nat, k ≤ n ∧ i = .int .i64 k ∧ l.take k = l'.take k ∧ Ext w wr) (fun i _ => n - (intOf i).toNat)
    case atStart => exact ⟨0, Nat.zero_le _, rfl, rfl, Ext.refl _⟩
    case round =>
      obtain ⟨k, hk, rfl, htk, hx⟩ := hrel
      have HT := Lib.hid htk
      clear htk
      by_cases hlt : k < n
      · have h1 := h.ext hx
        have h1' := h'.ext hx
        obtain ⟨b, off, x, y, rfl, hxy, hc1, hc2⟩ := h1.at hlt
        obtain ⟨b', off', x', y', rfl, hxy', hc1', hc2'⟩ := h1'.at hlt
        have HXY := Lib.hid hxy
        have HXY' := Lib.hid hxy'
        have HX := Lib.hid hx
        have hk2 : Ext wr wr.drew := Ext.drew wr
        clear hxy hxy' hx h h' h1 h1'
        cases hq : (decide (x = x') && decide (y = y'))
        all_goals
          have HQ := Lib.hid hq
          go_wp2
          go_region_held3 (fun w' => w'.cell? ⟨b, off + k * 2, none⟩ = some (.int .i64 x) ∧ w'.cell? ⟨b, off + k * 2 + 1, none⟩ = some (.int .i64 y) ∧ w'.cell? ⟨b', off' + k * 2, none⟩ = some (.int .i64 x') ∧ w'.cell? ⟨b', off' + k * 2 + 1, none⟩ = some (.int .i64 y') ∧ Ext wr w')
            (exact ⟨hk2.cellSome hc1, hk2.cellSome hc2, hk2.cellSome hc1', hk2.cellSome hc2', hk2⟩)
            (first
              | (go_at_call 76; refine (l_eqRat _ _ _ _ _).mono ?_; rw [hq]; rintro e w3 ⟨rfl, hx3⟩; have hk2 := hk2.trans hx3))
          go_wp2
        · go_ret
          refine ⟨ret_bool ?_, HX.out.trans hk2⟩
          symm
          rw [decide_eq_false_iff_not]
          intro e
          have := HXY.out.symm.trans ((congrArg (fun l => l[k]?.getD (0, 0)) e).trans HXY'.out)
          simp only [Prod.mk.injEq] at this
          have h2 := HQ.out
          rw [this.1, this.2] at h2
          simp at h2
        · go_roundw
          case rel =>
            have hq2 : x = x' ∧ y = y' := by have := HQ.out; simpa using this
            obtain ⟨rfl, rfl⟩ := hq2
            exact ⟨k + 1, by omega, by go_num, by rw [take_snocR (by have := HL.out; omega), take_snocR (by have := HL'.out; omega), HT.out, HXY.out, HXY'.out], HX.out.trans hk2⟩
          case measure => simp [intOf]; omega
      · go_wp2
        go_ret
        refine ⟨ret_bool ?_, hx⟩
        symm
        rw [decide_eq_true_eq]
        have := HT.out
        rwa [List.take_of_length_le (by have := HL.out; omega), List.take_of_length_le (by have := HL'.out; omega)] at this
  · have hne' : ((n : Int) != (n' : Int)) = true := by simp; omega
    have HN := Lib.hid hne
    clear hne
    go_enter Tryz.func18, Tryz.ntmps18
    go_wp2
    go_ret
    refine ⟨ret_bool ?_, Ext.refl _⟩
    symm
    rw [decide_eq_false_iff_not]
    intro e
    exact HN.out (by rw [← HL.out, ← HL'.out, e])
def ratCells (l : List (Int × Int)) : Array Value := (l.flatMap fun p => [Value.int .i64 p.1, Value.int .i64 p.2]).toArray
theorem flat_at : ∀ (l : List (Int × Int)) (k : Nat), k < l.length → (l.flatMap fun p => [Value.int .i64 p.1, Value.int .i64 p.2])[k * 2]? = some (.int .i64 (l[k]?.getD (0, 0)).1) ∧ (l.flatMap fun p => [Value.int .i64 p.1, Value.int .i64 p.2])[k * 2 + 1]? = some (.int .i64 (l[k]?.getD (0, 0)).2)
  | [], k, h => absurd h (by simp)
  | p :: l, 0, _ => by simp
  | p :: l, k + 1, h => by
    have := flat_at l k (by simpa using h)
    rw [show (k + 1) * 2 = k * 2 + 1 + 1 by omega]
    simpa using this
theorem flat_set : ∀ (l : List (Int × Int)) (k : Nat) (x y : Int), k < l.length → ((l.flatMap fun p => [Value.int .i64 p.1, Value.int .i64 p.2]).set (k * 2) (.int .i64 x)).set (k * 2 + 1) (.int .i64 y) = (l.set k (x, y)).flatMap fun p => [Value.int .i64 p.1, Value.int .i64 p.2]
  | [], k, _, _, h => absurd h (by simp)
  | p :: l, 0, _, _, _ => by simp
  | p :: l, k + 1, x, y, h => by
    have := flat_set l k x y (by simpa using h)
    rw [show (k + 1) * 2 = k * 2 + 1 + 1 by omega]
    simpa using this
theorem flat_len : ∀ l : List (Int × Int), (l.flatMap fun p => [Value.int .i64 p.1, Value.int .i64 p.2]).length = l.length * 2
  | [] => rfl
  | p :: l => by have := flat_len l; simp at this ⊢; omega
def RRow (w : World) (b : Nat) (t : TypeId) (l : List (Int × Int)) : Prop := w.heap[b]? = some (.cells (ratCells l) t (0, 0))
theorem RRow.cell {w : World} {b : Nat} {t : TypeId} {l : List (Int × Int)} (h : RRow w b t l) {k : Nat} (hk : k < l.length) : w.cell? ⟨b, k * 2, none⟩ = some (.int .i64 (l[k]?.getD (0, 0)).1) ∧ w.cell? ⟨b, k * 2 + 1, none⟩ = some (.int .i64 (l[k]?.getD (0, 0)).2) := by
  rw [cell_of_row w b _ _ t _ h, cell_of_row w b _ _ t _ h]
  simpa [ratCells] using flat_at l k hk
theorem RRow.free {w : World} {b : Nat} {t : TypeId} {l : List (Int × Int)} (h : RRow w b t l) (k : Nat) : w.frozen? ⟨b, k, none⟩ = false := frozen_of_row w b k _ t h
theorem RRow.lt {w : World} {b : Nat} {t : TypeId} {l : List (Int × Int)} (h : RRow w b t l) : b < w.heap.size := lt_of_block h
theorem RRow.set {w : World} {b : Nat} {t : TypeId} {l : List (Int × Int)} (h : RRow w b t l) {k : Nat} (hk : k < l.length) (x y : Int) : RRow ((w.setCell ⟨b, k * 2, none⟩ (.int .i64 x)).setCell ⟨b, k * 2 + 1, none⟩ (.int .i64 y)) b t (l.set k (x, y)) := by
  have h1 := heap_setCell_same w b (k * 2) _ t (.int .i64 x) h
  have h2 := heap_setCell_same _ b (k * 2 + 1) _ t (.int .i64 y) h1
  unfold RRow
  rw [h2]
  have := flat_set l k x y hk
  simp only [ratCells, List.setIfInBounds_toArray, this]
theorem RRow.ext {w w' : World} {b : Nat} {t : TypeId} {l : List (Int × Int)} (h : RRow w b t l) (hx : Ext w w') : RRow w' b t l := (hx.block b h.lt).trans h
theorem RRow.rats {w : World} {b : Nat} {t : TypeId} {l : List (Int × Int)} (h : RRow w b t l) {n cap : Nat} (hn : l.length = n) (hc : n ≤ cap) (hm : cap ≤ 9223372036854775807) : Rats w (some ⟨b, 0, none⟩) n cap l :=
  ⟨hn, hc, hm, fun _ _ => ⟨b, 0, rfl, fun k hk => by rw [Nat.zero_add]; exact h.cell (by omega)⟩⟩
theorem Tryz.infoRat : (Tryz.prog.info? 85).map (fun i => (i.zero, i.size, i.bytes)) = some (some (.agg #[.int .i64 0, .int .i64 0]), 2, 16) := by kernel_rfl
end Go.Proofs.YtgohdmnbnhehnaaGreat
namespace Go.Proofs.YtgohdmnbnhehnaaGreat
set_option linter.unusedVariables false
set_option linter.unusedSimpArgs false
open Go.RowKit
def ratL (l : List (Int × Int)) : List Value := l.flatMap fun p => [Value.int .i64 p.1, Value.int .i64 p.2]
theorem ratL_append (l l' : List (Int × Int)) : ratL (l ++ l') = ratL l ++ ratL l' := by simp [ratL]
theorem ratL_one : ∀ (l : List (Int × Int)), ∀ u ∈ ratL l, u.oneCell' = true
  | [], u, h => by simp [ratL] at h
  | p :: l, u, h => by
    simp only [ratL, List.flatMap_cons, List.mem_append, List.mem_cons, List.not_mem_nil, or_false] at h
    rcases h with (rfl | rfl) | h
    · rfl
    · rfl
    · exact ratL_one l u h
def OwnR (w : World) (base : Nat) (v : Value) (l : List (Int × Int)) : Prop := w.ownsRow base 85 2 v l.length (ratL l)
theorem OwnR.form {w : World} {base : Nat} {v : Value} {l : List (Int × Int)} (h : OwnR w base v l) : ∃ a cap, v = .slice a l.length cap ∧ l.length ≤ cap ∧ cap ≤ 9223372036854775807 := by
  rcases h.2 with ⟨rfl, h0⟩ | ⟨g, cap, cur, rfl, _, _, h1, h2, _⟩
  · exact ⟨none, 0, by rw [h0], by omega, by omega⟩
  · exact ⟨_, cap, rfl, h1, by simpa [maxLen] using h2⟩
theorem OwnR.var {w : World} {base : Nat} {v : Value} {l : List (Int × Int)} (h : OwnR w base v l) : ∃ a n cap, v = .slice a n cap ∧ Hid (l.length = n) := by
  obtain ⟨a, cap, e, _⟩ := h.form
  exact ⟨a, _, cap, e, rfl⟩
theorem OwnR.rats {w : World} {base : Nat} {a : Option Addr} {n cap : Nat} {l : List (Int × Int)} (h : OwnR w base (.slice a n cap) l) : Rats w a n cap l := by
  rcases h.2 with ⟨he, h0⟩ | ⟨g, cap', cur, he, _, hg, h1, h2, hs, ht⟩
  · simp only [Value.slice.injEq] at he
    obtain ⟨rfl, rfl, rfl⟩ := he
    exact ⟨h0, Nat.le_refl _, by omega, fun k hk => absurd hk (by omega)⟩
  · simp only [Value.slice.injEq] at he
    obtain ⟨rfl, rfl, rfl⟩ := he
    refine ⟨rfl, h1, by simpa [maxLen] using h2, fun k hk => ⟨g, 0, rfl, fun k hk => ?_⟩⟩
    rw [Nat.zero_add, cell_of_row w g _ cur _ (0, 0) hg, cell_of_row w g _ cur _ (0, 0) hg]
    obtain ⟨q1, q2⟩ := flat_at l k hk
    change (ratL l)[k * 2]? = _ at q1
    change (ratL l)[k * 2 + 1]? = _ at q2
    rw [← ht, List.getElem?_take, if_pos (by omega)] at q1 q2
    exact ⟨by simpa using q1, by simpa using q2⟩
theorem OwnR.lt {w : World} {base : Nat} {v : Value} {l : List (Int × Int)} (h : OwnR w base v l) : ∀ k, v.ownBlock = some k → base ≤ k ∧ k < w.heap.size := World.ownsRow.lt h
theorem OwnR.keep {w w' : World} {base : Nat} {v : Value} {l : List (Int × Int)} (h : OwnR w base v l) (hk : ∀ k, v.ownBlock = some k → w'.heap[k]? = w.heap[k]?) : OwnR w' base v l := by
  refine ⟨h.1, ?_⟩
  rcases h.2 with hn | ⟨g, cap, cur, rfl, hb, hgg, rest⟩
  · exact .inl hn
  · exact .inr ⟨g, cap, cur, rfl, hb, (hk g rfl).trans hgg, rest⟩
theorem OwnR.ext {w w' : World} {base : Nat} {v : Value} {l : List (Int × Int)} (h : OwnR w base v l) (hx : Ext w w') : OwnR w' base v l := h.keep fun k hk => hx.block k (h.lt k hk).2
theorem OwnR.on {w : World} {base : Nat} {v : Value} {l : List (Int × Int)} (h : OwnR w base v l) : On base w (fun W => OwnR W base v l) := fun w2 h2 => h.keep fun k hk => h2 k (h.lt k hk).1 (h.lt k hk).2
theorem OwnR.mono {w : World} {base base' : Nat} {v : Value} {l : List (Int × Int)} (h : OwnR w base v l) (hb : base' ≤ base) : OwnR w base' v l := by
  refine ⟨h.1, ?_⟩
  rcases h.2 with hn | ⟨g, cap, cur, rfl, hbb, rest⟩
  · exact .inl hn
  · exact .inr ⟨g, cap, cur, rfl, by omega, rest⟩
theorem OwnR.nil (w : World) (base : Nat) : OwnR w base (.slice none 0 0) [] := World.ownsRow_nil w base _ 2
theorem RRow.own {w : World} {b base : Nat} {l : List (Int × Int)} {n : Nat} (h : RRow w b 85 l) (hb : base ≤ b) (hn : l.length = n) (hm : n ≤ 1099511627776) : OwnR w base (.slice (some ⟨b, 0, none⟩) n n) l := by
  subst hn
  refine ⟨?_, .inr ⟨b, l.length, ratCells l, rfl, hb, h, Nat.le_refl _, by simp [maxLen]; omega, ?_, ?_⟩⟩
  · exact flat_len l
  · show (ratCells l).size = _
    unfold ratCells
    simpa using flat_len l
  · show List.take _ (ratCells l).toList = _
    exact List.take_of_length_le (by unfold ratCells; simpa using Nat.le_of_eq (flat_len l))
section
variable {P : Program} {w : World} {ops : Array Oper} {rest : List Oper} {o : Oper} {a : Act} {Q : Exit → Act → World → Prop}
theorem wp_append_rats {K : Act → World → Prop} (s x : Operand) (ho : o.op = .call { callee := .builtin .append, args := #[s, x], argTypes := #[30, 30] })
    (base : Nat) (v : Value) (l : List (Int × Int)) (hs : a.eval s = v) (hown : OwnR w base v l) (ao : Option Addr) (m c : Nat) (l' : List (Int × Int)) (hx : a.eval x = .slice ao m c) (hi' : Rats w ao m c l') (hb : l.length + m ≤ 1099511627776) (hbase : base ≤ w.heap.size)
    (h : ∀ v' w', OwnR w' base v' (l ++ l') → w.grownBy w' v.ownBlock → Near w v v' → K (a.put o.dst v') w') : o.wp Tryz.prog a w K Q := by
  obtain ⟨i, hi, hz0, hz1, hz2⟩ := info_parts Tryz.infoRat
  cases ao with
  | none =>
    have hm : m = 0 := by
      rcases Nat.eq_zero_or_pos m with h0 | h0
      · exact h0
      · obtain ⟨b, off, e, _⟩ := hi'.cell 0 h0; cases e
    subst hm
    have hl : l' = [] := List.eq_nil_of_length_eq_zero hi'.hlen
    subst hl
    refine wp_append_nothing w s x 30 ho base 85 i 2 Tryz.underlying30 hi v l.length _ hs hown c hx ?_
    exact h v w (by simpa using hown) (World.grownBy.refl _ _) (Near.refl _ _)
  | some ad =>
    refine wp_append_near w s x 30 ho base 85 i (.agg #[.int .i64 0, .int .i64 0]) 2 16 Tryz.underlying30 hi hz0 hz1 hz2 rfl (by decide) v l.length (ratL l) hs hown ad m c (ratL l') hx (by have := flat_len l'; have := hi'.hlen; unfold ratL; omega) ?_ (ratL_one l') (by simp [maxLen]; omega) (by omega) hbase ?_
    · intro j u hu
      have hjl : j < l'.length * 2 := by
        have := (List.getElem?_eq_some_iff.1 hu).1
        have h2 := flat_len l'
        unfold ratL at this
        omega
      have hml := hi'.hlen
      obtain ⟨b, off, e, hc⟩ := hi'.cell (j / 2) (by omega)
      simp only [Option.some.injEq] at e
      subst e
      obtain ⟨c1, c2⟩ := hc (j / 2) (by omega)
      obtain ⟨q1, q2⟩ := flat_at l' (j / 2) (by omega)
      change (ratL l')[j / 2 * 2]? = _ at q1
      change (ratL l')[j / 2 * 2 + 1]? = _ at q2
      have hj : j = j / 2 * 2 ∨ j = j / 2 * 2 + 1 := by omega
      have ha : ∀ k, (⟨b, off, none⟩ : Addr).add k = ⟨b, off + k, none⟩ := fun k => by unfold Addr.add; split <;> simp_all
      rw [ha]
      rcases hj with hj | hj
      · rw [hj] at hu ⊢
        rw [q1] at hu
        rw [c1, ← hu]
      · rw [hj] at hu ⊢
        rw [q2] at hu
        rw [← Nat.add_assoc, c2, ← hu]
    · intro v' w' h1 h2 h3
      refine h v' w' ?_ h2 h3
      unfold OwnR
      rw [List.length_append, hi'.hlen, ratL_append]
      exact h1
theorem append_rats (hgd : o.guard = none) (s x : Operand) (ho : o.op = .call { callee := .builtin .append, args := #[s, x], argTypes := #[30, 30] })
    (base : Nat) (v : Value) (l : List (Int × Int)) (hs : a.eval s = v) (hown : OwnR w base v l) (ao : Option Addr) (m c : Nat) (l' : List (Int × Int)) (hx : a.eval x = .slice ao m c) (hi' : Rats w ao m c l') (hb : l.length + m ≤ 1099511627776) (hbase : base ≤ w.heap.size)
    (h : ∀ v' w', OwnR w' base v' (l ++ l') → w.grownBy w' v.ownBlock → Near w v v' → wpList Tryz.prog ops Q rest (a.put o.dst v') w') : wpList Tryz.prog ops Q (o :: rest) a w :=
  wpList_plain hgd fun _ hK => wp_append_rats s x ho base v l hs hown ao m c l' hx hi' hb hbase fun v' w' h1 h2 h3 => hK _ _ (h v' w' h1 h2 h3)
end
theorem OwnR.made (w : World) (base : Nat) (hb : base ≤ w.heap.size) : OwnR (w.alloc (.cells #[] 85)) base (.slice (some ⟨w.heap.size, 0, none⟩) 0 0) [] :=
  World.ownsRow_lit w #[] 0 hb (by omega) rfl
theorem Rats.one (w : World) (x y : Int) (t : TypeId) : Rats (w.alloc (.cells #[.int .i64 x, .int .i64 y] t)) (some ⟨w.heap.size, 0, none⟩) 1 1 [(x, y)] :=
  ⟨rfl, Nat.le_refl _, by omega, fun k hk => ⟨_, 0, rfl, fun k hk => by
    obtain rfl : k = 0 := by omega
    simp⟩⟩
theorem Rats.one' (w : World) (x y : Int) (t : TypeId) (n : Nat) (hn : n = w.heap.size) : Rats (w.alloc (.cells #[.int .i64 x, .int .i64 y] t)) (some ⟨n, 0, none⟩) 1 1 [(x, y)] := by
  subst hn
  exact Rats.one w x y t
def seqR (k : Int) (n : Nat) : List (Int × Int) := (List.range n).map fun (i : Nat) => (k + 2 * (i : Int), k + 2 * (i : Int) + 1)
theorem seqR_at (k : Int) (n i : Nat) (h : i < n) : (seqR k n)[i]?.getD (0, 0) = (k + 2 * i, k + 2 * i + 1) := by simp [seqR, h]
def markR (k : Int) (l : List (Int × Int)) (i : Nat) : List (Int × Int) := seqR k i ++ l.drop i
theorem markR_len (k : Int) (l : List (Int × Int)) (i : Nat) (h : i ≤ l.length) : (markR k l i).length = l.length := by simp [markR, seqR]; omega
theorem markR_zero (k : Int) (l : List (Int × Int)) : markR k l 0 = l := by simp [markR, seqR]
theorem markR_all (k : Int) (l : List (Int × Int)) : markR k l l.length = seqR k l.length := by simp [markR]
theorem markR_set (k : Int) (l : List (Int × Int)) (i : Nat) (h : i < l.length) : (markR k l i).set i (k + 2 * i, k + 2 * i + 1) = markR k l (i + 1) := by
  unfold markR
  rw [List.set_append_right _ _ (by simp [seqR])]
  have : i - (seqR k i).length = 0 := by simp [seqR]
  rw [this, List.drop_eq_getElem_cons h, List.set_cons_zero]
  simp [seqR, List.range_succ]
theorem OwnR.set {w : World} {base g n cap : Nat} {l : List (Int × Int)} (h : OwnR w base (.slice (some ⟨g, 0, none⟩) n cap) l) {k : Nat} (hk : k < l.length) (x y : Int) :
    OwnR ((w.setCell ⟨g, k * 2, none⟩ (.int .i64 x)).setCell ⟨g, k * 2 + 1, none⟩ (.int .i64 y)) base (.slice (some ⟨g, 0, none⟩) n cap) (l.set k (x, y)) := by
  obtain ⟨a', c', he, _⟩ := OwnR.form h
  simp only [Value.slice.injEq] at he
  obtain ⟨_, rfl, _⟩ := he
  have h1 := (World.ownsRow.stored h (k * 2) (.int .i64 x)).1
  have h2 := (World.ownsRow.stored h1 (k * 2 + 1) (.int .i64 y)).1
  unfold OwnR
  rw [List.length_set]
  have e := flat_set l k x y hk
  change _ = ratL (l.set k (x, y)) at e
  rw [← e]
  exact h2
theorem OwnR.block {w : World} {base : Nat} {a : Option Addr} {n cap : Nat} {l : List (Int × Int)} (h : OwnR w base (.slice a n cap) l) {k : Nat} (hk : k < n) : ∃ g, a = some ⟨g, 0, none⟩ ∧ base ≤ g ∧ (∀ j, w.frozen? ⟨g, j, none⟩ = false) ∧ g < w.heap.size := by
  rcases h.2 with ⟨he, h0⟩ | ⟨g, cap', cur, he, hb, hg, _⟩
  · simp only [Value.slice.injEq] at he
    omega
  · simp only [Value.slice.injEq] at he
    obtain ⟨rfl, _⟩ := he
    exact ⟨g, rfl, hb, fun j => frozen_of_row w g j cur _ hg, lt_of_block hg⟩
set_option maxHeartbeats 400000 in
theorem l_markRatS {w : World} {base : Nat} {a : Option Addr} {n cap : Nat} {l : List (Int × Int)} (h : OwnR w base (.slice a n cap) l) (k0 : Int) (h0 : 0 ≤ k0) (h1 : k0 + 2 * n ≤ 4611686018427387904) :
    Calls Tryz.prog 21 #[.slice a n cap, .int .i64 k0] w fun e w' => e = .returned (.int .i64 (k0 + 2 * n)) ∧ OwnR w' base (.slice a n cap) (seqR k0 n) ∧ w.grownBy w' (Value.slice a n cap).ownBlock ∧ w'.heap.size = w.heap.size := by
  have HL := Lib.hid h.rats.hlen
  go_enter Tryz.func21, Tryz.ntmps21
  go_wp2
  go_loopw [1, 5] (fun t i wr => ∃ k : Nat, k ≤ n ∧ i = .int .i64 k ∧ t = .int .i64 (k0 + 2 * k) ∧ OwnR wr base (.slice a n cap) (markR k0 l k) ∧ w.grownBy wr (Value.slice a n cap).ownBlock ∧ Hid (wr.heap.size = w.heap.size)) (fun _ i _ => n - (intOf i).toNat)
  case atStart => exact ⟨0, Nat.zero_le _, rfl, by simp, by rw [markR_zero]; exact h, World.grownBy.refl _ _, Lib.hid rfl⟩
  case round =>
    obtain ⟨k, hk, rfl, rfl, hown, hg, HS⟩ := hrel
    by_cases hlt : k < n
    · obtain ⟨g, rfl, hb, hfz, hgl⟩ := hown.block hlt
      obtain ⟨b, off, x, y, he, hxy, hc, hc'⟩ := hown.rats.at hlt
      simp only [Option.some.injEq, Addr.mk.injEq, and_true] at he
      obtain ⟨rfl, rfl⟩ := he
      rw [Nat.zero_add] at hc hc'
      have hfk := hfz (k * 2)
      have hfk' := hfz (k * 2 + 1)
      clear hfz hxy
      have HO := Lib.hid hown
      have HG := Lib.hid hg
      clear hown hg
      go_wp2
      go_roundw
      case rel =>
        refine ⟨k + 1, by omega, by go_num, by go_num, ?_, ?_, Lib.hid (by simp [HS.out])⟩
        · rw [← markR_set _ _ _ (by have := HL.out; omega)]
          have := HO.out.set (k := k) (by rw [markR_len _ _ _ (by have := HL.out; omega)]; have := HL.out; omega) (k0 + 2 * k) (k0 + 2 * k + 1)
          exact this
        · have hg := HG.out
          refine ⟨hg.os, hg.tape, hg.output, by simpa using hg.size, fun j hj hne => ?_⟩
          have hne' : j ≠ g := by intro e; exact hne (by simp [Value.ownBlock, e])
          rw [heap_setCell_other _ _ j _ hne', heap_setCell_other _ _ j _ hne']
          exact hg.block j hj hne
      case measure => simp [intOf]; omega
    · have HO := Lib.hid hown
      have HG := Lib.hid hg
      clear hown hg
      go_wp2
      go_ret
      have hkn : k = n := by omega
      subst hkn
      have := HO.out
      have hl := HL.out
      rw [← hl, markR_all, hl] at this
      exact ⟨rfl, this, HG.out, HS.out⟩
set_option maxHeartbeats 400000 in
theorem l_heldRatS {w : World} {a : Option Addr} {n cap : Nat} (k0 : Int) (h : Rats w a n cap (seqR k0 n)) (h0 : 0 ≤ k0) (h1 : k0 + 2 * n ≤ 4611686018427387904) :
    Calls Tryz.prog 22 #[.slice a n cap, .int .i64 k0] w fun e w' => e = .returned (.int .i64 (k0 + 2 * n)) ∧ w = w' := by
  have hcap := h.hcap
  have hmax := h.hmax
  go_enter Tryz.func22, Tryz.ntmps22
  go_wp2
  go_loop [1, 5] (fun t i => ∃ k : Nat, k ≤ n ∧ i = .int .i64 k ∧ t = .int .i64 (k0 + 2 * k)) (fun _ i => n - (intOf i).toNat)
  case atStart => exact ⟨0, Nat.zero_le _, rfl, by simp⟩
  case round =>
    obtain ⟨k, hk, rfl, rfl⟩ := hrel
    by_cases hlt : k < n
    · obtain ⟨b, off, x, y, rfl, hxy, hc, hc'⟩ := h.at hlt
      rw [seqR_at _ _ _ hlt] at hxy
      simp only [Prod.mk.injEq] at hxy
      obtain ⟨rfl, rfl⟩ := hxy
      have hne : ((k0 + 2 * (k : Int)) != (k0 + 2 * (k : Int))) = false := by simp
      have hne' : ((k0 + 2 * (k : Int) + 1) != (k0 + 2 * (k : Int) + 1)) = false := by simp
      go_wp2
      go_round
      case rel => exact ⟨k + 1, by omega, by go_num, by go_num⟩
      case measure => simp [intOf]; omega
    · go_wp2
      go_ret
      have hkn : k = n := by omega
      subst hkn
      exact ⟨rfl, rfl⟩
end Go.Proofs.YtgohdmnbnhehnaaGreat
