import Derived.Test.YtgohdmnbnhehnaaGreatStAllG7
import Derived.Test.YtgohdmnbnhehnaaGreatStAllG1
import Derived.Test.YtgohdmnbnhehnaaGreatStAllG6
import Derived.Test.YtgohdmnbnhehnaaGreatStAllG29
import Derived.Test.YtgohdmnbnhehnaaGreatStAllG3
namespace Go.Proofs.YtgohdmnbnhehnaaGreat
set_option linter.unusedVariables false
set_option linter.unusedSimpArgs false
open Go.RowKit
def gameOk (p : Int) (l : List Int) : Bool := l.all (fun x => inB x (-500) 500) && (inB p 1 5 && (decide ((l.length : Int) = cntC p) && decide (l[0]?.getD 0 = 0)))
theorem gameOk_len {p : Int} {l : List Int} (h : gameOk p l = true) : ∃ n : Nat, p = n ∧ 1 ≤ n ∧ n ≤ 5 ∧ l.length = cN n ∧ l[0]?.getD 0 = 0 ∧ ∀ x ∈ l, -500 ≤ x ∧ x ≤ 500 := by
  unfold gameOk at h
  simp only [Bool.and_eq_true, decide_eq_true_eq] at h
  obtain ⟨ha, hp, hl, h0⟩ := h
  have hb : 1 ≤ p ∧ p ≤ 5 := by unfold inB at hp; simpa using hp
  refine ⟨p.toNat, by omega, by omega, by omega, ?_, h0, ?_⟩
  · have : p = (p.toNat : Int) := by omega
    rw [this, cntC_nat _ (by omega)] at hl
    omega
  · intro x hx
    have := List.all_eq_true.1 ha x hx
    unfold inB at this
    simpa using this
set_option maxHeartbeats 1000000 in
theorem s_IsValidGame {w : World} {p : Int} {a : Option Addr} {n cap : Nat} {l : List Int} (h : Ints w a n cap l) :
    Calls Tryz.prog 80 #[pair p a n cap] w fun e w' => e = .returned (.bool (gameOk p l)) ∧ Ext w w' := by
  have h1 := h.alloc (.cells #[.int .i64 p, .slice a n cap] 47)
  have hn := h.hcap
  have hm := h.hmax
  have HL := Lib.hid h.hlen
  clear h
  go_enter Tryz.func80, Tryz.ntmps80
  go_wp2
  go_loop [3] (fun i => ∃ k : Nat, k ≤ n ∧ i = .int .i64 k ∧ (l.take k).all (fun x => inB x (-500) 500) = true) (fun i => n - (intOf i).toNat)
  case atStart => exact ⟨0, Nat.zero_le _, rfl, rfl⟩
  case round =>
    obtain ⟨k, hk, rfl, hall⟩ := hrel
    have HA := Lib.hid hall
    clear hall
    by_cases hlt : k < n
    · obtain ⟨b, off, rfl, hc⟩ := h1.at hlt
      cases hb : inB (l[k]?.getD 0) (-500) 500
      · have HB := Lib.hid hb
        go_wp2_with (first | (go_at_call 56; refine (s_l1In _ _ _ _).mono ?_; rintro e w' ⟨rfl, rfl⟩))
        go_ret
        refine ⟨ret_bool ?_, Ext.alloc _ _⟩
        symm
        unfold gameOk
        cases hx : l.all (fun x => inB x (-500) 500)
        · rfl
        · have := all_get hx (k := k) (by have := HL.out; omega); rw [HB.out] at this; cases this
      · have HB := Lib.hid hb
        go_wp2_with (first | (go_at_call 56; refine (s_l1In _ _ _ _).mono ?_; rintro e w' ⟨rfl, rfl⟩))
        go_round
        case rel => exact ⟨k + 1, by omega, by go_num, by rw [take_snoc (by have := HL.out; omega), List.all_append, HA.out]; simpa using HB.out⟩
        case measure => simp [intOf]; omega
    · have hkn : k = l.length := by have := HL.out; omega
      have hall := HA.out
      rw [hkn, List.take_length] at hall
      have HALL := Lib.hid hall
      clear hall hkn
      cases hp : inB p 1 5
      · have HP := Lib.hid hp
        go_wp2
        go_quiet ((first | (go_at_call 56; exact quiet_same (s_l1In _ _ _ _)) | (go_at_call 58; exact quiet_same (s_CountCoalitions _ _))))
        go_wp2
        go_ret
        exact ⟨ret_bool (by unfold gameOk; rw [HALL.out, HP.out]; rfl), below_drewN (Ext.alloc _ _) _⟩
      · have HP := Lib.hid hp
        cases hl : ((n : Int) == cntC p)
        · have HE := Lib.hid hl
          go_wp2
          go_quiet ((first | (go_at_call 56; exact quiet_same (s_l1In _ _ _ _)) | (go_at_call 58; exact quiet_same (s_CountCoalitions _ _))))
          go_wp2
          go_ret
          refine ⟨ret_bool ?_, below_drewN (Ext.alloc _ _) _⟩
          have : ¬ ((l.length : Int) = cntC p) := by rw [HL.out]; have := HE.out; simpa using this
          unfold gameOk; rw [decide_eq_false this]; simp
        · have HE := Lib.hid hl
          have hpos : 0 < n := by
            have h1 : 1 ≤ p ∧ p ≤ 5 := by unfold inB at hp; simpa using hp
            have h2 : (n : Int) = cntC p := by simpa using hl
            unfold cntC at h2
            rw [if_pos (by unfold inB; simp; omega)] at h2
            have := pow_pos p.toNat
            omega
          obtain ⟨b, off, rfl, hc⟩ := h1.at hpos
          rw [Nat.add_zero] at hc
          go_wp2
          go_quiet ((first | (go_at_call 56; exact quiet_same (s_l1In _ _ _ _)) | (go_at_call 58; exact quiet_same (s_CountCoalitions _ _))))
          go_wp2
          go_ret
          refine ⟨ret_bool ?_, below_drewN (Ext.alloc _ _) _⟩
          have he : (l.length : Int) = cntC p := by rw [HL.out]; have := HE.out; simpa using this
          unfold gameOk
          rw [HALL.out, HP.out, decide_eq_true he]
          rw [Bool.eq_iff_iff]; simp
theorem i_IsValidGame1 (x : Int) (w : World) : Calls Tryz.prog 149 #[.int .i64 x] w fun e w' => e = .returned (.bool (!inB x (-500) 500)) ∧ w = w' := by
  go_enter Tryz.func149, Tryz.ntmps149
  go_wp2_with (first | (go_at_call 62; refine (i_within _ _ _ _).mono ?_; rintro e w' ⟨rfl, rfl⟩))
  go_ret
  exact ⟨rfl, rfl⟩
theorem go_IsValidGame1 : IsGo Tryz.prog 149 := isGo Tryz.func149 (by kernel_rfl) (by kernel_rfl)
theorem asks_IsValidGame1 (w : World) : Asks Tryz.prog w 149 #[] (fun x => !inB x (-500) 500) :=
  fun x w1 _ => (i_IsValidGame1 x w1).mono fun e w' ⟨he, hw⟩ => ⟨he, hw ▸ Ext.refl _⟩
theorem gameOk_any (p : Int) (l : List Int) : gameOk p l = (inB p 1 5 && (decide ((l.length : Int) = cntC p) && (decide (l[0]?.getD 0 = 0) && !l.any (fun x => !inB x (-500) 500)))) := by
  unfold gameOk
  have : (!l.any (fun x => !inB x (-500) 500)) = l.all (fun x => inB x (-500) 500) := by rw [List.not_any_eq_all_not]; simp
  rw [this]
  cases l.all (fun x => inB x (-500) 500) <;> simp
set_option maxHeartbeats 1000000 in
theorem i_IsValidGame {w : World} {p : Int} {a : Option Addr} {n cap : Nat} {l : List Int} (h : Ints w a n cap l) :
    Calls Tryz.prog 86 #[pair p a n cap] w fun e w' => e = .returned (.bool (gameOk p l)) ∧ Ext w w' := by
  have h1 := h.alloc (.cells #[.int .i64 p, .slice a n cap] 47)
  have HX := Lib.hid (Ext.alloc w (.cells #[.int .i64 p, .slice a n cap] 47))
  have hn := h.hcap
  have hm := h.hmax
  have HL := Lib.hid h.hlen
  clear h
  cases hp : inB p 1 5
  · have HP := Lib.hid hp
    go_enter Tryz.func86, Tryz.ntmps86
    go_wp2
    go_quiet ((first | (go_at_call 62; exact quiet_same (i_within _ _ _ _))))
    go_wp2
    go_ret
    exact ⟨ret_bool (by rw [gameOk_any, HP.out]; rfl), below_drewN (Ext.alloc _ _) _⟩
  · have HP := Lib.hid hp
    obtain ⟨m, rfl⟩ : ∃ m : Nat, p = m := ⟨p.toNat, by unfold inB at hp; simp at hp; omega⟩
    have hm1 : 1 ≤ m ∧ m ≤ 5 := by unfold inB at hp; simp at hp; omega
    obtain ⟨hm1, hm5⟩ := hm1
    have hwp : IntKind.i64.wrap ((2 : Int) ^ m) = (cN m : Int) := by
      have h1 := pow_pos m
      have h2 := pow_le5 m hm5
      rw [IntKind.wrap_i64, cN_pow]; omega
    have hwp' : wrap64 ((2 : Int) ^ m) = (cN m : Int) := (wrap_pow m hm5).trans (cN_pow m).symm
    have HC := Lib.hid (cntC_nat m hm5)
    have hN := cN_le m hm5
    cases hl : ((n : Int) != (cN m : Int))
    · have hnm : n = cN m := Int.ofNat.inj (show (n : Int) = (cN m : Int) by simpa using hl)
      have HNM := Lib.hid hnm
      have hpos : 0 < n := by omega
      obtain ⟨b, off, rfl, hc⟩ := h1.at hpos
      rw [Nat.add_zero] at hc
      clear hnm
      cases h0 : (l[0]?.getD 0 != 0)
      · have HZ := Lib.hid h0
        have HI := Lib.hid h1
        go_enter Tryz.func86, Tryz.ntmps86
        go_wp2
        go_quiet ((first | (go_at_call 62; exact quiet_same (i_within _ _ _ _))))
        go_wp2_with fail
        refine (containsFunc_ints (HI.out.drewN _) go_IsValidGame1 (asks_IsValidGame1 _)).mono ?_
        rintro e w1 ⟨rfl, hx⟩
        go_wp2
        go_ret
        refine ⟨ret_bool ?_, Ext.trans (below_drewN HX.out _) hx⟩
        rw [gameOk_any, HP.out, HC.out, HL.out, HNM.out, decide_eq_true rfl]
        have : l[0]?.getD 0 = 0 := by simpa using HZ.out
        rw [decide_eq_true this]
        rfl
      · have HZ := Lib.hid h0
        go_enter Tryz.func86, Tryz.ntmps86
        go_wp2
        go_quiet ((first | (go_at_call 62; exact quiet_same (i_within _ _ _ _))))
        go_wp2
        go_ret
        refine ⟨ret_bool ?_, below_drewN HX.out _⟩
        have : ¬ (l[0]?.getD 0 = 0) := by simpa using HZ.out
        rw [gameOk_any, decide_eq_false this]
        simp
    · have HNE := Lib.hid hl
      go_enter Tryz.func86, Tryz.ntmps86
      go_wp2
      go_quiet ((first | (go_at_call 62; exact quiet_same (i_within _ _ _ _))))
      go_wp2
      go_ret
      refine ⟨ret_bool ?_, below_drewN HX.out _⟩
      have : ¬ ((l.length : Int) = cntC (m : Int)) := by rw [HL.out, HC.out]; have := HNE.out; simpa using this
      rw [gameOk_any, decide_eq_false this]
      simp
end Go.Proofs.YtgohdmnbnhehnaaGreat
namespace Go.Proofs.YtgohdmnbnhehnaaGreat
set_option linter.unusedVariables false
set_option linter.unusedSimpArgs false
open Go.RowKit
def coreA (q n : Nat) : List (List Int) := memM q (seqI 1 (n - 1))
def coreB (q : Nat) : List Int := List.replicate q 1
def coreC (V : List Int) : List (Int × Int) := (V.drop 1).map fun v => (-v, 1)
theorem core_both {p : Int} {V : List Int} (h : gameOk p V = true) (A : List (List Int)) (B : List Int) : solveG boundI A B (coreC V) = solveS A B (coreC V) := by
  obtain ⟨q, rfl, _, _, _, _, hb⟩ := gameOk_len h
  refine solve_both fun _ j hj => Or.inl ⟨-((V.drop 1)[j]?.getD 0), ?_, ?_⟩
  · unfold coreC at hj ⊢
    rw [List.length_map] at hj
    rw [List.getElem?_map, List.getElem?_eq_getElem hj]; rfl
  · unfold coreC at hj
    rw [List.length_map] at hj
    rw [List.getElem?_eq_getElem hj, Option.getD_some]
    have := hb _ (List.mem_of_mem_drop (List.getElem_mem hj))
    omega
def slackR (g : Int) (r : LpR) : (Int × Int) × Bool := addR (g, 1) r.value
def negY (r : LpR) : List (Int × Int) := r.Y.map negR
def lastR (g : Int) (r : LpR) : (Int × Int) × Bool := addR ((negY r)[(negY r).length - 1]?.getD (0, 0)) (slackR g r).1
def ptR (g : Int) (r : LpR) : List (Int × Int) := (negY r).set ((negY r).length - 1) (lastR g r).1
def stabS (g : Int) (r : LpR) : Option (List (Int × Int)) :=
  if r.status = 1 then (if (slackR g r).2 = true then (if (slackR g r).1.1 < 0 then none else if (lastR g r).2 = true then some (ptR g r) else none) else none) else none
def stabI (g : Int) (r : LpR) : Option (List (Int × Int)) :=
  if r.status = 1 then (if 0 < cmpR (negR r.value) (g, 1) then none else if ((slackR g r).2 && (lastR g r).2) = true then some (ptR g r) else none) else none
theorem sign_same {a x b c : Int} (hb : 0 < b) (hc : 0 < c) (h : a * c = x * b) : a < 0 ↔ x < 0 := by
  constructor
  · intro ha
    rcases Int.lt_or_le x 0 with h1 | h1
    · exact h1
    · have h2 := Int.mul_neg_of_neg_of_pos ha hc
      have h3 := Int.mul_nonneg h1 (Int.le_of_lt hb)
      omega
  · intro hx
    rcases Int.lt_or_le a 0 with h1 | h1
    · exact h1
    · have h2 := Int.mul_neg_of_neg_of_pos hx hb
      have h3 := Int.mul_nonneg h1 (Int.le_of_lt hc)
      omega
theorem slack_sign {g : Int} {r : LpR} (h : (slackR g r).2 = true) : 0 < cmpR (negR r.value) (g, 1) ↔ (slackR g r).1.1 < 0 := by
  unfold slackR at h ⊢
  obtain ⟨h1, h2, h3, _⟩ := val_add h
  have hb := valR_bd h2
  have hs := valR_bd h3
  have hn : valR (negR r.value) = true := by rw [valR_negR]; exact h2
  have he : addR (g, 1) r.value = ratOf (g * r.value.2 + r.value.1 * 1) (1 * r.value.2) := by unfold addR; rw [h1, h2]; rfl
  rw [he] at h hs ⊢
  have hf := (ratOf_fr (by omega) h)
  have hc : cmpR (negR r.value) (g, 1) = if -r.value.1 * 1 < g * r.value.2 then -1 else if g * r.value.2 < -r.value.1 * 1 then 1 else 0 := by unfold cmpR; rw [hn, h1]; rfl
  rw [hc]
  have hsg := sign_same (a := (ratOf (g * r.value.2 + r.value.1 * 1) (1 * r.value.2)).1.1) (x := g * r.value.2 + r.value.1 * 1) (b := (ratOf (g * r.value.2 + r.value.1 * 1) (1 * r.value.2)).1.2) (c := r.value.2) (by omega) (by omega) (by have := hf.2.2; rw [Int.one_mul] at this; simpa using this)
  rw [hsg]
  by_cases h5 : -r.value.1 * 1 < g * r.value.2
  · rw [if_pos h5]; omega
  · rw [if_neg h5]
    by_cases h6 : g * r.value.2 < -r.value.1 * 1
    · rw [if_pos h6]; omega
    · rw [if_neg h6]; omega
theorem stab_same (g : Int) (r : LpR) : stabI g r = stabS g r := by
  unfold stabI stabS
  by_cases h : r.status = 1
  · rw [if_pos h, if_pos h]
    cases hf : (slackR g r).2
    · simp
    · have := slack_sign hf
      simp only [this]
      by_cases hn : (slackR g r).1.1 < 0
      · simp [hn]
      · simp [hn]
  · rw [if_neg h, if_neg h]
end Go.Proofs.YtgohdmnbnhehnaaGreat
namespace Go.Proofs.YtgohdmnbnhehnaaGreat
set_option linter.unusedVariables false
set_option linter.unusedSimpArgs false
open Go.RowKit
set_option maxHeartbeats 2000000 in
theorem i_minus (x y : Int) (w : World) (h0 : -9223372036854775807 ≤ x) (h1 : x ≤ 9223372036854775807) :
    Calls Tryz.prog 91 #[ratV x y] w fun e w' => e = .returned (ratV (-x) y) ∧ Ext w w' := by
  go_enter Tryz.func91, Tryz.ntmps91
  go_wp2_with fail
  refine bodyPost_ret (v := ratV (-x) y) (by simp [results, Tryz.results91, go_sem]) rfl ⟨rfl, ?_⟩
  exact (Ext.alloc _ _).trans (Ext.alloc _ _)
set_option maxHeartbeats 2000000 in
theorem s_l7Negated (x y : Int) (w : World) (h0 : -9223372036854775807 ≤ x) (h1 : x ≤ 9223372036854775807) :
    Calls Tryz.prog 83 #[ratV x y] w fun e w' => e = .returned (ratV (-x) y) ∧ Ext w w' := by
  go_enter Tryz.func83, Tryz.ntmps83
  go_wp2_with fail
  refine bodyPost_ret (v := ratV (-x) y) (by simp [results, Tryz.results83, go_sem]) rfl ⟨rfl, ?_⟩
  exact (Ext.alloc _ _).trans (Ext.alloc _ _)
end Go.Proofs.YtgohdmnbnhehnaaGreat
