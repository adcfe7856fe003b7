/- Whether an amount can be divided among claims: both sides ask the same. -/
import Derived.Test.YtgohdmnbnhehnaaRatA
import Derived.Test.YtgohdmnbnhehnaaConv
import Derived.Deep.RegionHeld3
namespace Go.Proofs.Ytgohdmnbnhehnaa
set_option linter.unusedVariables false
set_option linter.unusedSimpArgs false
set_option maxRecDepth 100000
open Go.RowKit

def fitsR (l : List Int) (x y : Int) : Bool := small l 100000 && (valR (x, y) && (decide (0 ≤ x) && decide (cmpR (x, y) (sumW l, 1) ≤ 0)))

theorem i_whole (n : Int) (w : World) : Calls Try.prog 91 #[.int .i64 n] w fun e w' => e = .returned (ratV n 1) ∧ Ext w w' := by
  have HX := Lib.hid (Ext.alloc w (.cells #[.int .i64 n, .int .i64 1] 34))
  go_enter Try.func91, Try.ntmps91
  go_wp2
  refine bodyPost_ret (v := ratV n 1) (by simp [results, Try.results91, go_sem]) rfl ⟨rfl, HX.out⟩
theorem s_l3Int (n : Int) (w : World) : Calls Try.prog 74 #[.int .i64 n] w fun e w' => e = .returned (ratV n 1) ∧ Ext w w' := by
  have HX := Lib.hid (Ext.alloc w (.cells #[.int .i64 n, .int .i64 1] 34))
  go_enter Try.func74, Try.ntmps74
  go_wp2
  refine bodyPost_ret (v := ratV n 1) (by simp [results, Try.results74, go_sem]) rfl ⟨rfl, HX.out⟩

theorem i_divisible1 (x : Int) (w : World) : Calls Try.prog 131 #[.int .i64 x] w fun e w' => e = .returned (.bool (!inB x 0 100000)) ∧ w = w' := by
  go_enter Try.func131, Try.ntmps131
  go_wp2_with (first | (go_at_call 69; refine (i_within _ _ _ _).mono ?_; rintro e w' ⟨rfl, rfl⟩))
  go_ret
  exact ⟨rfl, rfl⟩
theorem go_divisible1 : IsGo Try.prog 131 := isGo Try.func131 (by kernel_rfl) (by kernel_rfl)
theorem asks_divisible1 (w : World) : Asks Try.prog w 131 #[] (fun x => !inB x 0 100000) :=
  fun x w1 _ => (i_divisible1 x w1).mono fun e w' ⟨he, hw⟩ => ⟨he, hw ▸ Ext.refl _⟩

set_option maxHeartbeats 2000000 in
theorem i_divisible {w : World} {x y : Int} {a : Option Addr} {n cap : Nat} {l : List Int} (h : Ints w a n cap l) :
    Calls Try.prog 87 #[.slice a n cap, ratV x y] w fun e w' => e = .returned (.bool (fitsR l x y)) ∧ Ext w w' := by
  have HX := Lib.hid (Ext.alloc w (.cells #[.int .i64 x, .int .i64 y] 34))
  have HI := Lib.hid (h.ext HX.out)
  have HC := Lib.hid (containsFunc_ints HI.out go_divisible1 (asks_divisible1 _))
  have HL := Lib.hid h.hlen
  clear h
  cases hin : inB n 1 5
  · have HN := Lib.hid (show fitsR l x y = false by simp [fitsR, small, HL.out, hin])
    have HI := Lib.hid hin
    clear hin
    go_enter Try.func87, Try.ntmps87
    go_wp2_with (first | (go_at_call 69; refine (i_within _ _ _ _).mono ?_; rw [HI.out]; rintro e w' ⟨rfl, rfl⟩))
    go_ret
    exact ⟨ret_bool HN.out.symm, HX.out⟩
  have HIN := Lib.hid hin
  cases hany : l.any (fun x => !inB x 0 100000)
  · rw [hany] at HC
    have HSM := Lib.hid (show small l 100000 = true by rw [small_any, hany, HL.out, hin]; rfl)
    clear hin hany
    cases hv : valR (x, y)
    · have HN := Lib.hid (show fitsR l x y = false by simp [fitsR, hv])
      have HV := Lib.hid hv
      clear hv
      go_enter Try.func87, Try.ntmps87
      go_wp2_with (first | (go_at_call 69; refine (i_within _ _ _ _).mono ?_; rw [HIN.out]; rintro e w' ⟨rfl, rfl⟩))
      refine HC.out.mono ?_
      rintro e w1 ⟨rfl, hx⟩
      have c0 : w1.cell? ⟨w.heap.size, 0, none⟩ = some (.int .i64 x) := hx.cellSome (by simp)
      have c1 : w1.cell? ⟨w.heap.size, 1, none⟩ = some (.int .i64 y) := hx.cellSome (by simp)
      have X1 := Lib.hid (HX.out.trans hx)
      have hk2 : Ext w1 w1.drew := Ext.drew w1
      clear hx
      go_wp2
      refine wp_region_held_drew (S := (fun w' => w'.cell? ⟨w.heap.size, 0, none⟩ = some (.int .i64 x) ∧ w'.cell? ⟨w.heap.size, 1, none⟩ = some (.int .i64 y) ∧ Ext w1 w')) (by kernel_rfl) ?_ (fun hHeld => ?_)
      · exact ⟨hk2.cellSome c0, hk2.cellSome c1, hk2⟩
      refine tk (i := 0) (h := ?_)
      try simp only [Act.put, sA, sB, sC]
      refine rd (i := 1) (h := fun K hK => ?_)
      go_simp
      (go_at_call 80; refine (i_IsValidRat x y _).mono ?_; rw [HV.out]; rintro e w3 ⟨rfl, hx3⟩; have hk2 := hk2.trans hx3)
      go_wp2_with fail
      refine hK.out _ _ ?_ (fun hHeld => ?_)
      · exact ⟨hk2.cellSome c0, hk2.cellSome c1, hk2⟩
      clear hK K
      try simp only [Act.put, sA, sB, sC]
      refine tk (i := 2) (h := ?_)
      try simp only [Act.put, sA, sB, sC]
      refine sk (i := 3) (h := ?_)
      try simp only [Act.put, sA, sB, sC]
      refine sk (i := 4) (h := ?_)
      try simp only [Act.put, sA, sB, sC]
      refine sk (i := 5) (h := ?_)
      try simp only [Act.put, sA, sB, sC]
      refine tk (i := 6) (h := ?_)
      try simp only [Act.put, sA, sB, sC]
      refine tk (i := 7) (h := ?_)
      try simp only [Act.put, sA, sB, sC]
      refine sk (i := 8) (h := ?_)
      try simp only [Act.put, sA, sB, sC]
      refine sk (i := 9) (h := ?_)
      try simp only [Act.put, sA, sB, sC]
      refine sk (i := 10) (h := ?_)
      try simp only [Act.put, sA, sB, sC]
      refine sk (i := 11) (h := ?_)
      try simp only [Act.put, sA, sB, sC]
      refine sk (i := 12) (h := ?_)
      try simp only [Act.put, sA, sB, sC]
      refine sk (i := 13) (h := ?_)
      try simp only [Act.put, sA, sB, sC]
      refine tk (i := 14) (h := ?_)
      try simp only [Act.put, sA, sB, sC]
      refine tk (i := 15) (h := ?_)
      try simp only [Act.put, sA, sB, sC]
      refine wpAnyH_done (by kernel_rfl) ?_ _
      go_wp2
      go_ret
      exact ⟨ret_bool HN.out.symm, X1.out.trans hk2⟩
    have HV := Lib.hid hv
    by_cases hx0 : x < 0
    · have HN := Lib.hid (show fitsR l x y = false by simp [fitsR]; intros; omega)
      have hge : decide (x ≥ 0) = false := by simp; omega
      clear hv
      go_enter Try.func87, Try.ntmps87
      go_wp2_with (first | (go_at_call 69; refine (i_within _ _ _ _).mono ?_; rw [HIN.out]; rintro e w' ⟨rfl, rfl⟩))
      refine HC.out.mono ?_
      rintro e w1 ⟨rfl, hx⟩
      have c0 : w1.cell? ⟨w.heap.size, 0, none⟩ = some (.int .i64 x) := hx.cellSome (by simp)
      have c1 : w1.cell? ⟨w.heap.size, 1, none⟩ = some (.int .i64 y) := hx.cellSome (by simp)
      have X1 := Lib.hid (HX.out.trans hx)
      have hk2 : Ext w1 w1.drew := Ext.drew w1
      clear hx
      go_wp2
      refine wp_region_held_drew (S := (fun w' => w'.cell? ⟨w.heap.size, 0, none⟩ = some (.int .i64 x) ∧ w'.cell? ⟨w.heap.size, 1, none⟩ = some (.int .i64 y) ∧ Ext w1 w')) (by kernel_rfl) ?_ (fun hHeld => ?_)
      · exact ⟨hk2.cellSome c0, hk2.cellSome c1, hk2⟩
      refine tk (i := 0) (h := ?_)
      try simp only [Act.put, sA, sB, sC]
      refine rd (i := 1) (h := fun K hK => ?_)
      go_simp
      (go_at_call 80; refine (i_IsValidRat x y _).mono ?_; rw [HV.out]; rintro e w3 ⟨rfl, hx3⟩; have hk2 := hk2.trans hx3)
      go_wp2_with fail
      refine hK.out _ _ ?_ (fun hHeld => ?_)
      · exact ⟨hk2.cellSome c0, hk2.cellSome c1, hk2⟩
      clear hK K
      try simp only [Act.put, sA, sB, sC]
      refine tk (i := 2) (h := ?_)
      try simp only [Act.put, sA, sB, sC]
      refine tk (i := 3) (h := ?_)
      try simp only [Act.put, sA, sB, sC]
      refine tk (i := 4) (h := ?_)
      try simp only [Act.put, sA, sB, sC]
      refine tk (i := 5) (h := ?_)
      try simp only [Act.put, sA, sB, sC]
      refine tk (i := 6) (h := ?_)
      try simp only [Act.put, sA, sB, sC]
      refine tk (i := 7) (h := ?_)
      try simp only [Act.put, sA, sB, sC]
      refine sk (i := 8) (h := ?_)
      try simp only [Act.put, sA, sB, sC]
      refine sk (i := 9) (h := ?_)
      try simp only [Act.put, sA, sB, sC]
      refine sk (i := 10) (h := ?_)
      try simp only [Act.put, sA, sB, sC]
      refine sk (i := 11) (h := ?_)
      try simp only [Act.put, sA, sB, sC]
      refine sk (i := 12) (h := ?_)
      try simp only [Act.put, sA, sB, sC]
      refine sk (i := 13) (h := ?_)
      try simp only [Act.put, sA, sB, sC]
      refine tk (i := 14) (h := ?_)
      try simp only [Act.put, sA, sB, sC]
      refine tk (i := 15) (h := ?_)
      try simp only [Act.put, sA, sB, sC]
      refine wpAnyH_done (by kernel_rfl) ?_ _
      go_wp2
      go_ret
      exact ⟨ret_bool HN.out.symm, X1.out.trans hk2⟩
    · obtain ⟨S, hS⟩ : ∃ S, S = sumW l := ⟨_, rfl⟩
      have HS := Lib.hid hS
      obtain ⟨C, hC⟩ : ∃ C, C = cmpR (x, y) (S, 1) := ⟨_, rfl⟩
      have HCC := Lib.hid hC
      have HN := Lib.hid (show fitsR l x y = decide (C ≤ 0) by simp only [fitsR, HSM.out, hv, Bool.true_and]; rw [decide_eq_true (by omega), ← hS, ← hC]; simp)
      have hge : decide (x ≥ 0) = true := by simp; omega
      clear hv hS hC
      go_enter Try.func87, Try.ntmps87
      go_wp2_with (first | (go_at_call 69; refine (i_within _ _ _ _).mono ?_; rw [HIN.out]; rintro e w' ⟨rfl, rfl⟩))
      refine HC.out.mono ?_
      rintro e w1 ⟨rfl, hx⟩
      have c0 : w1.cell? ⟨w.heap.size, 0, none⟩ = some (.int .i64 x) := hx.cellSome (by simp)
      have c1 : w1.cell? ⟨w.heap.size, 1, none⟩ = some (.int .i64 y) := hx.cellSome (by simp)
      have X1 := Lib.hid (HX.out.trans hx)
      have HI1 := Lib.hid (HI.out.ext hx)
      have hk2 : Ext w1 w1.drew := Ext.drew w1
      clear hx
      go_wp2
      go_region_held3 (fun w' => w'.cell? ⟨w.heap.size, 0, none⟩ = some (.int .i64 x) ∧ w'.cell? ⟨w.heap.size, 1, none⟩ = some (.int .i64 y) ∧ Ext w1 w')
        (exact ⟨hk2.cellSome c0, hk2.cellSome c1, hk2⟩)
        (first
          | (go_at_call 80; refine (i_IsValidRat x y _).mono ?_; rw [HV.out]; rintro e w3 ⟨rfl, hx3⟩; have hk2 := hk2.trans hx3)
          | (go_at_call 99; refine (i_total (HI1.out.ext hk2)).mono ?_; rw [← HS.out]; rintro e w' ⟨rfl, rfl⟩)
          | (go_at_call 91; refine (i_whole _ _).mono ?_; rintro e w4 ⟨rfl, hx4⟩; have hk2 := hk2.trans hx4)
          | (go_at_call 37; refine (i_CompareRat x y S 1 _).mono ?_; rw [← HCC.out]; rintro e w5 ⟨rfl, hx5⟩; have hk2 := hk2.trans hx5))
      all_goals
        go_wp2
        go_ret
        exact ⟨ret_bool HN.out.symm, X1.out.trans hk2⟩
  · rw [hany] at HC
    have HN := Lib.hid (show fitsR l x y = false by rw [fitsR, small_any, hany]; simp)
    clear hin hany
    go_enter Try.func87, Try.ntmps87
    go_wp2_with (first | (go_at_call 69; refine (i_within _ _ _ _).mono ?_; rw [HIN.out]; rintro e w' ⟨rfl, rfl⟩))
    refine HC.out.mono ?_
    rintro e w1 ⟨rfl, hx⟩
    have X1 := Lib.hid (HX.out.trans hx)
    clear hx
    go_wp2
    go_ret
    exact ⟨ret_bool HN.out.symm, X1.out⟩

set_option maxHeartbeats 2000000 in
theorem s_l18Fits {w : World} {x y : Int} {a : Option Addr} {n cap : Nat} {l : List Int} (h : Ints w a n cap l) :
    Calls Try.prog 93 #[.slice a n cap, ratV x y] w fun e w' => e = .returned (.bool (fitsR l x y)) ∧ Ext w w' := by
  obtain ⟨W, hW⟩ : ∃ W, W = w.alloc (.cells #[.int .i64 x, .int .i64 y] 34) := ⟨_, rfl⟩
  have hX : Ext w W := by rw [hW]; exact Ext.alloc _ _
  have HX := Lib.hid hX
  have HI := Lib.hid (h.ext hX)
  have hb : W.heap[w.heap.size]? = some (.cells #[.int .i64 x, .int .i64 y] 34 (0, 0)) := by rw [hW]; exact heapA_new _ _ _ rfl
  obtain ⟨c0, c1, _⟩ := rcell hb
  have HW := Lib.hid hW
  have hk2 : Ext W W.drew := Ext.drew W
  clear h hX hW hb
  cases hsm : small l 100000
  · have HSM := Lib.hid hsm
    have HN := Lib.hid (show fitsR l x y = false by simp [fitsR, hsm])
    clear hsm
    go_enter Try.func93, Try.ntmps93
    go_wp2
    rw [← HW.out]
    refine wp_region_held_drew (S := (fun w' => w'.cell? ⟨w.heap.size, 0, none⟩ = some (.int .i64 x) ∧ w'.cell? ⟨w.heap.size, 1, none⟩ = some (.int .i64 y) ∧ Ext W w')) (by kernel_rfl) ?_ (fun hHeld => ?_)
    · exact ⟨hk2.cellSome c0, hk2.cellSome c1, hk2⟩
    refine tk (i := 0) (h := ?_)
    try simp only [Act.put, sA, sB, sC]
    refine rd (i := 1) (h := fun K hK => ?_)
    go_simp
    (go_at_call 133; refine (s_l18Small 100000 (HI.out.ext hk2)).mono ?_; rw [HSM.out]; rintro e w3 ⟨rfl, rfl⟩)
    go_wp2_with fail
    refine hK.out _ _ ?_ (fun hHeld => ?_)
    · exact ⟨hk2.cellSome c0, hk2.cellSome c1, hk2⟩
    clear hK K
    try simp only [Act.put, sA, sB, sC]
    refine tk (i := 2) (h := ?_)
    try simp only [Act.put, sA, sB, sC]
    refine sk (i := 3) (h := ?_)
    try simp only [Act.put, sA, sB, sC]
    refine sk (i := 4) (h := ?_)
    try simp only [Act.put, sA, sB, sC]
    refine tk (i := 5) (h := ?_)
    try simp only [Act.put, sA, sB, sC]
    refine tk (i := 6) (h := ?_)
    try simp only [Act.put, sA, sB, sC]
    refine sk (i := 7) (h := ?_)
    try simp only [Act.put, sA, sB, sC]
    refine sk (i := 8) (h := ?_)
    try simp only [Act.put, sA, sB, sC]
    refine sk (i := 9) (h := ?_)
    try simp only [Act.put, sA, sB, sC]
    refine tk (i := 10) (h := ?_)
    try simp only [Act.put, sA, sB, sC]
    refine tk (i := 11) (h := ?_)
    try simp only [Act.put, sA, sB, sC]
    refine sk (i := 12) (h := ?_)
    try simp only [Act.put, sA, sB, sC]
    refine sk (i := 13) (h := ?_)
    try simp only [Act.put, sA, sB, sC]
    refine sk (i := 14) (h := ?_)
    try simp only [Act.put, sA, sB, sC]
    refine sk (i := 15) (h := ?_)
    try simp only [Act.put, sA, sB, sC]
    refine sk (i := 16) (h := ?_)
    try simp only [Act.put, sA, sB, sC]
    refine sk (i := 17) (h := ?_)
    try simp only [Act.put, sA, sB, sC]
    refine tk (i := 18) (h := ?_)
    try simp only [Act.put, sA, sB, sC]
    refine tk (i := 19) (h := ?_)
    try simp only [Act.put, sA, sB, sC]
    refine wpAnyH_done (by kernel_rfl) ?_ _
    go_wp2
    go_ret
    exact ⟨ret_bool HN.out.symm, HX.out.trans hk2⟩
  have HSM := Lib.hid hsm
  cases hv : valR (x, y)
  · have HV := Lib.hid hv
    have HN := Lib.hid (show fitsR l x y = false by simp [fitsR, hv])
    clear hsm hv
    go_enter Try.func93, Try.ntmps93
    go_wp2
    rw [← HW.out]
    refine wp_region_held_drew (S := (fun w' => w'.cell? ⟨w.heap.size, 0, none⟩ = some (.int .i64 x) ∧ w'.cell? ⟨w.heap.size, 1, none⟩ = some (.int .i64 y) ∧ Ext W w')) (by kernel_rfl) ?_ (fun hHeld => ?_)
    · exact ⟨hk2.cellSome c0, hk2.cellSome c1, hk2⟩
    refine tk (i := 0) (h := ?_)
    try simp only [Act.put, sA, sB, sC]
    refine rd (i := 1) (h := fun K hK => ?_)
    go_simp
    (go_at_call 133; refine (s_l18Small 100000 (HI.out.ext hk2)).mono ?_; rw [HSM.out]; rintro e w3 ⟨rfl, rfl⟩)
    go_wp2_with fail
    refine hK.out _ _ ?_ (fun hHeld => ?_)
    · exact ⟨hk2.cellSome c0, hk2.cellSome c1, hk2⟩
    clear hK K
    try simp only [Act.put, sA, sB, sC]
    refine tk (i := 2) (h := ?_)
    try simp only [Act.put, sA, sB, sC]
    refine tk (i := 3) (h := ?_)
    try simp only [Act.put, sA, sB, sC]
    refine rd (i := 4) (h := fun K hK => ?_)
    go_simp
    (go_at_call 125; refine (s_IsValidRat x y _).mono ?_; rw [HV.out]; rintro e w4 ⟨rfl, hx4⟩; have hk2 := hk2.trans hx4)
    go_wp2_with fail
    refine hK.out _ _ ?_ (fun hHeld => ?_)
    · exact ⟨hk2.cellSome c0, hk2.cellSome c1, hk2⟩
    clear hK K
    try simp only [Act.put, sA, sB, sC]
    refine tk (i := 5) (h := ?_)
    try simp only [Act.put, sA, sB, sC]
    refine tk (i := 6) (h := ?_)
    try simp only [Act.put, sA, sB, sC]
    refine sk (i := 7) (h := ?_)
    try simp only [Act.put, sA, sB, sC]
    refine sk (i := 8) (h := ?_)
    try simp only [Act.put, sA, sB, sC]
    refine sk (i := 9) (h := ?_)
    try simp only [Act.put, sA, sB, sC]
    refine tk (i := 10) (h := ?_)
    try simp only [Act.put, sA, sB, sC]
    refine tk (i := 11) (h := ?_)
    try simp only [Act.put, sA, sB, sC]
    refine sk (i := 12) (h := ?_)
    try simp only [Act.put, sA, sB, sC]
    refine sk (i := 13) (h := ?_)
    try simp only [Act.put, sA, sB, sC]
    refine sk (i := 14) (h := ?_)
    try simp only [Act.put, sA, sB, sC]
    refine sk (i := 15) (h := ?_)
    try simp only [Act.put, sA, sB, sC]
    refine sk (i := 16) (h := ?_)
    try simp only [Act.put, sA, sB, sC]
    refine sk (i := 17) (h := ?_)
    try simp only [Act.put, sA, sB, sC]
    refine tk (i := 18) (h := ?_)
    try simp only [Act.put, sA, sB, sC]
    refine tk (i := 19) (h := ?_)
    try simp only [Act.put, sA, sB, sC]
    refine wpAnyH_done (by kernel_rfl) ?_ _
    go_wp2
    go_ret
    exact ⟨ret_bool HN.out.symm, HX.out.trans hk2⟩
  have HV := Lib.hid hv
  by_cases hx0 : x < 0
  · have HN := Lib.hid (show fitsR l x y = false by simp [fitsR]; intros; omega)
    have hge : decide (x ≥ 0) = false := by simp; omega
    clear hsm hv
    go_enter Try.func93, Try.ntmps93
    go_wp2
    rw [← HW.out]
    refine wp_region_held_drew (S := (fun w' => w'.cell? ⟨w.heap.size, 0, none⟩ = some (.int .i64 x) ∧ w'.cell? ⟨w.heap.size, 1, none⟩ = some (.int .i64 y) ∧ Ext W w')) (by kernel_rfl) ?_ (fun hHeld => ?_)
    · exact ⟨hk2.cellSome c0, hk2.cellSome c1, hk2⟩
    refine tk (i := 0) (h := ?_)
    try simp only [Act.put, sA, sB, sC]
    refine rd (i := 1) (h := fun K hK => ?_)
    go_simp
    (go_at_call 133; refine (s_l18Small 100000 (HI.out.ext hk2)).mono ?_; rw [HSM.out]; rintro e w3 ⟨rfl, rfl⟩)
    go_wp2_with fail
    refine hK.out _ _ ?_ (fun hHeld => ?_)
    · exact ⟨hk2.cellSome c0, hk2.cellSome c1, hk2⟩
    clear hK K
    try simp only [Act.put, sA, sB, sC]
    refine tk (i := 2) (h := ?_)
    try simp only [Act.put, sA, sB, sC]
    refine tk (i := 3) (h := ?_)
    try simp only [Act.put, sA, sB, sC]
    refine rd (i := 4) (h := fun K hK => ?_)
    go_simp
    (go_at_call 125; refine (s_IsValidRat x y _).mono ?_; rw [HV.out]; rintro e w4 ⟨rfl, hx4⟩; have hk2 := hk2.trans hx4)
    go_wp2_with fail
    refine hK.out _ _ ?_ (fun hHeld => ?_)
    · exact ⟨hk2.cellSome c0, hk2.cellSome c1, hk2⟩
    clear hK K
    try simp only [Act.put, sA, sB, sC]
    refine tk (i := 5) (h := ?_)
    try simp only [Act.put, sA, sB, sC]
    refine tk (i := 6) (h := ?_)
    try simp only [Act.put, sA, sB, sC]
    refine tk (i := 7) (h := ?_)
    try simp only [Act.put, sA, sB, sC]
    refine tk (i := 8) (h := ?_)
    try simp only [Act.put, sA, sB, sC]
    refine tk (i := 9) (h := ?_)
    try simp only [Act.put, sA, sB, sC]
    refine tk (i := 10) (h := ?_)
    try simp only [Act.put, sA, sB, sC]
    refine tk (i := 11) (h := ?_)
    try simp only [Act.put, sA, sB, sC]
    refine sk (i := 12) (h := ?_)
    try simp only [Act.put, sA, sB, sC]
    refine sk (i := 13) (h := ?_)
    try simp only [Act.put, sA, sB, sC]
    refine sk (i := 14) (h := ?_)
    try simp only [Act.put, sA, sB, sC]
    refine sk (i := 15) (h := ?_)
    try simp only [Act.put, sA, sB, sC]
    refine sk (i := 16) (h := ?_)
    try simp only [Act.put, sA, sB, sC]
    refine sk (i := 17) (h := ?_)
    try simp only [Act.put, sA, sB, sC]
    refine tk (i := 18) (h := ?_)
    try simp only [Act.put, sA, sB, sC]
    refine tk (i := 19) (h := ?_)
    try simp only [Act.put, sA, sB, sC]
    refine wpAnyH_done (by kernel_rfl) ?_ _
    go_wp2
    go_ret
    exact ⟨ret_bool HN.out.symm, HX.out.trans hk2⟩
  · obtain ⟨S, hS⟩ : ∃ S, S = sumW l := ⟨_, rfl⟩
    have HS := Lib.hid hS
    obtain ⟨C, hC⟩ : ∃ C, C = cmpR (x, y) (S, 1) := ⟨_, rfl⟩
    have HCC := Lib.hid hC
    have HN := Lib.hid (show fitsR l x y = decide (C ≤ 0) by simp only [fitsR, hsm, hv, Bool.true_and]; rw [decide_eq_true (by omega), ← hS, ← hC]; simp)
    have hge : decide (x ≥ 0) = true := by simp; omega
    clear hsm hv hS hC
    go_enter Try.func93, Try.ntmps93
    go_wp2
    rw [← HW.out]
    go_region_held3 (fun w' => w'.cell? ⟨w.heap.size, 0, none⟩ = some (.int .i64 x) ∧ w'.cell? ⟨w.heap.size, 1, none⟩ = some (.int .i64 y) ∧ Ext W w')
      (exact ⟨hk2.cellSome c0, hk2.cellSome c1, hk2⟩)
      (first
        | (go_at_call 133; refine (s_l18Small 100000 (HI.out.ext hk2)).mono ?_; rw [HSM.out]; rintro e w3 ⟨rfl, rfl⟩)
        | (go_at_call 125; refine (s_IsValidRat x y _).mono ?_; rw [HV.out]; rintro e w3 ⟨rfl, hx3⟩; have hk2 := hk2.trans hx3)
        | (go_at_call 101; refine (s_l18Sum (HI.out.ext hk2)).mono ?_; rw [← HS.out]; rintro e w' ⟨rfl, rfl⟩)
        | (go_at_call 74; refine (s_l3Int _ _).mono ?_; rintro e w4 ⟨rfl, hx4⟩; have hk2 := hk2.trans hx4)
        | (go_at_call 97; refine (s_CompareRat x y S 1 _).mono ?_; rw [← HCC.out]; rintro e w5 ⟨rfl, hx5⟩; have hk2 := hk2.trans hx5))
    all_goals
      go_wp2
      go_ret
      exact ⟨ret_bool HN.out.symm, HX.out.trans hk2⟩

end Go.Proofs.Ytgohdmnbnhehnaa
