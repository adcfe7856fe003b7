import Derived.Test.YtgohdmnbnhehnaaShAllG9
import Derived.Test.YtgohdmnbnhehnaaShAllG0
import Derived.Deep.RegionHeld3
import Derived.Test.YtgohdmnbnhehnaaShAllG3
import Derived.Test.YtgohdmnbnhehnaaShAllG5
namespace Go.Proofs.Ytgohdmnbnhehnaa
set_option linter.unusedVariables false
set_option linter.unusedSimpArgs false
set_option maxRecDepth 100000
open Go.RowKit
def fitsR (l : List Int) (x y : Int) : Bool := small l 100000 && (valR (x, y) && (decide (0 ≤ x) && decide (cmpR (x, y) (sumW l, 1) ≤ 0)))
theorem i_whole (n : Int) (w : World) : Calls Try.prog 91 #[.int .i64 n] w fun e w' => e = .returned (ratV n 1) ∧ Ext w w' := by
  have HX := Lib.hid (Ext.alloc w (.cells #[.int .i64 n, .int .i64 1] 34))
  go_enter Try.func91, Try.ntmps91
  go_wp2
  refine bodyPost_ret (v := ratV n 1) (by simp [results, Try.results91, go_sem]) rfl ⟨rfl, HX.out⟩
theorem s_l3Int (n : Int) (w : World) : Calls Try.prog 74 #[.int .i64 n] w fun e w' => e = .returned (ratV n 1) ∧ Ext w w' := by
  have HX := Lib.hid (Ext.alloc w (.cells #[.int .i64 n, .int .i64 1] 34))
  go_enter Try.func74, Try.ntmps74
  go_wp2
  refine bodyPost_ret (v := ratV n 1) (by simp [results, Try.results74, go_sem]) rfl ⟨rfl, HX.out⟩
theorem i_divisible1 (x : Int) (w : World) : Calls Try.prog 131 #[.int .i64 x] w fun e w' => e = .returned (.bool (!inB x 0 100000)) ∧ w = w' := by
  go_enter Try.func131, Try.ntmps131
  go_wp2_with (first | (go_at_call 69; refine (i_within _ _ _ _).mono ?_; rintro e w' ⟨rfl, rfl⟩))
  go_ret
  exact ⟨rfl, rfl⟩
theorem go_divisible1 : IsGo Try.prog 131 := isGo Try.func131 (by kernel_rfl) (by kernel_rfl)
theorem asks_divisible1 (w : World) : Asks Try.prog w 131 #[] (fun x => !inB x 0 100000) :=
  fun x w1 _ => (i_divisible1 x w1).mono fun e w' ⟨he, hw⟩ => ⟨he, hw ▸ Ext.refl _⟩
set_option maxHeartbeats 2000000 in
theorem i_divisible {w : World} {x y : Int} {a : Option Addr} {n cap : Nat} {l : List Int} (h : Ints w a n cap l) :
    Calls Try.prog 87 #[.slice a n cap, ratV x y] w fun e w' => e = .returned (.bool (fitsR l x y)) ∧ Ext w w' := by
  have HX := Lib.hid (Ext.alloc w (.cells #[.int .i64 x, .int .i64 y] 34))
  have HI := Lib.hid (h.ext HX.out)
  have HC := Lib.hid (containsFunc_ints HI.out go_divisible1 (asks_divisible1 _))
  have HL := Lib.hid h.hlen
  clear h
  cases hin : inB n 1 5
  · have HN := Lib.hid (show fitsR l x y = false by simp [fitsR, small, HL.out, hin])
    have HI := Lib.hid hin
    clear hin
    go_enter Try.func87, Try.ntmps87
    go_wp2_with (first | (go_at_call 69; refine (i_within _ _ _ _).mono ?_; rw [HI.out]; rintro e w' ⟨rfl, rfl⟩))
    go_ret
    exact ⟨ret_bool HN.out.symm, HX.out⟩
  have HIN := Lib.hid hin
  cases hany : l.any (fun x => !inB x 0 100000)
  · rw [hany] at HC
    have HSM := Lib.hid (show small l 100000 = true by rw [small_any, hany, HL.out, hin]; rfl)
    clear hin hany
    cases hv : valR (x, y)
    · have HN := Lib.hid (show fitsR l x y = false by simp [fitsR, hv])
      have HV := Lib.hid hv
      clear hv
      go_enter Try.func87, Try.ntmps87
      go_wp2_with (first | (go_at_call 69; refine (i_within _ _ _ _).mono ?_; rw [HIN.out]; rintro e w' ⟨rfl, rfl⟩))
      refine HC.out.mono ?_
      rintro e w1 ⟨rfl, hx⟩
      have c0 : w1.cell? ⟨w.heap.size, 0, none⟩ = some (.int .i64 x) := hx.cellSome (by simp)
      have c1 : w1.cell? ⟨w.heap.size, 1, none⟩ = some (.int .i64 y) := hx.cellSome (by simp)
      have X1 := Lib.hid (HX.out.trans hx)
      have hk2 : Ext w1 w1.drew := Ext.drew w1
      clear hx
      go_wp2
      refine wp_region_held_drew (S := (fun w' => w'.cell? ⟨w.heap.size, 0, none⟩ = some (.int .i64 x) ∧ w'.cell? ⟨w.heap.size, 1, none⟩ = some (.int .i64 y) ∧ Ext w1 w')) (by kernel_rfl) ?_ (fun hHeld => ?_)
      · exact ⟨hk2.cellSome c0, hk2.cellSome c1, hk2⟩
      refine tk (i := 0) (h := ?_)
      try simp only [Act.put, sA, sB, sC]
      refine rd (i := 1) (h := fun K hK => ?_)
      go_simp
      (go_at_call 80; refine (i_IsValidRat x y _).mono ?_; rw [HV.out]; rintro e w3 ⟨rfl, hx3⟩; have hk2 := hk2.trans hx3)
      go_wp2_with fail
      refine hK.out _ _ ?_ (fun hHeld => ?_)
      · exact ⟨hk2.cellSome c0, hk2.cellSome c1, hk2⟩
      clear hK K
      try simp only [Act.put, sA, sB, sC]
      refine tk (i := 2) (h := ?_)
      try simp only [Act.put, sA, sB, sC]
      refine sk (i := 3) (h := ?_)
      try simp only [Act.put, sA, sB, sC]
      refine sk (i := 4) (h := ?_)
      try simp only [Act.put, sA, sB, sC]
      refine sk (i := 5) (h := ?_)
      try simp only [Act.put, sA, sB, sC]
      refine tk (i := 6) (h := ?_)
      try simp only [Act.put, sA, sB, sC]
      refine tk (i := 7) (h := ?_)
      try simp only [Act.put, sA, sB, sC]
      refine sk (i := 8) (h := ?_)
      try simp only [Act.put, sA, sB, sC]
      refine sk (i := 9) (h := ?_)
      try simp only [Act.put, sA, sB, sC]
      refine sk (i := 10) (h := ?_)
      try simp only [Act.put, sA, sB, sC]
      refine sk (i := 11) (h := ?_)
      try simp only [Act.put, sA, sB, sC]
      refine sk (i := 12) (h := ?_)
      try simp only [Act.put, sA, sB, sC]
      refine sk (i := 13) (h := ?_)
      try simp only [Act.put, sA, sB, sC]
      refine tk (i := 14) (h := ?_)
      try simp only [Act.put, sA, sB, sC]
      refine tk (i := 15) (h := ?_)
      try simp only [Act.put, sA, sB, sC]
      refine wpAnyH_done (by kernel_rfl) ?_ _
      go_wp2
      go_ret
      exact ⟨ret_bool HN.out.symm, X1.out.trans hk2⟩
    have HV := Lib.hid hv
    by_cases hx0 : x < 0
    · have HN := Lib.hid (show fitsR l x y = false by simp [fitsR]; intros; omega)
      have hge : decide (x ≥ 0) = false := by simp; omega
      clear hv
      go_enter Try.func87, Try.ntmps87
      go_wp2_with (first | (go_at_call 69; refine (i_within _ _ _ _).mono ?_; rw [HIN.out]; rintro e w' ⟨rfl, rfl⟩))
      refine HC.out.mono ?_
      rintro e w1 ⟨rfl, hx⟩
      have c0 : w1.cell? ⟨w.heap.size, 0, none⟩ = some (.int .i64 x) := hx.cellSome (by simp)
      have c1 : w1.cell? ⟨w.heap.size, 1, none⟩ = some (.int .i64 y) := hx.cellSome (by simp)
      have X1 := Lib.hid (HX.out.trans hx)
      have hk2 : Ext w1 w1.drew := Ext.drew w1
      clear hx
      go_wp2
      refine wp_region_held_drew (S := (fun w' => w'.cell? ⟨w.heap.size, 0, none⟩ = some (.int .i64 x) ∧ w'.cell? ⟨w.heap.size, 1, none⟩ = some (.int .i64 y) ∧ Ext w1 w')) (by kernel_rfl) ?_ (fun hHeld => ?_)
      · exact ⟨hk2.cellSome c0, hk2.cellSome c1, hk2⟩
      refine tk (i := 0) (h := ?_)
      try simp only [Act.put, sA, sB, sC]
      refine rd (i := 1) (h := fun K hK => ?_)
      go_simp
      (go_at_call 80; refine (i_IsValidRat x y _).mono ?_; rw [HV.out]; rintro e w3 ⟨rfl, hx3⟩; have hk2 := hk2.trans hx3)
      go_wp2_with fail
      refine hK.out _ _ ?_ (fun hHeld => ?_)
      · exact ⟨hk2.cellSome c0, hk2.cellSome c1, hk2⟩
      clear hK K
      try simp only [Act.put, sA, sB, sC]
      refine tk (i := 2) (h := ?_)
      try simp only [Act.put, sA, sB, sC]
      refine tk (i := 3) (h := ?_)
      try simp only [Act.put, sA, sB, sC]
      refine tk (i := 4) (h := ?_)
      try simp only [Act.put, sA, sB, sC]
      refine tk (i := 5) (h := ?_)
      try simp only [Act.put, sA, sB, sC]
      refine tk (i := 6) (h := ?_)
      try simp only [Act.put, sA, sB, sC]
      refine tk (i := 7) (h := ?_)
      try simp only [Act.put, sA, sB, sC]
      refine sk (i := 8) (h := ?_)
      try simp only [Act.put, sA, sB, sC]
      refine sk (i := 9) (h := ?_)
      try simp only [Act.put, sA, sB, sC]
      refine sk (i := 10) (h := ?_)
      try simp only [Act.put, sA, sB, sC]
      refine sk (i := 11) (h := ?_)
      try simp only [Act.put, sA, sB, sC]
      refine sk (i := 12) (h := ?_)
      try simp only [Act.put, sA, sB, sC]
      refine sk (i := 13) (h := ?_)
      try simp only [Act.put, sA, sB, sC]
      refine tk (i := 14) (h := ?_)
      try simp only [Act.put, sA, sB, sC]
      refine tk (i := 15) (h := ?_)
      try simp only [Act.put, sA, sB, sC]
      refine wpAnyH_done (by kernel_rfl) ?_ _
      go_wp2
      go_ret
      exact ⟨ret_bool HN.out.symm, X1.out.trans hk2⟩
    · obtain ⟨S, hS⟩ : ∃ S, S = sumW l := ⟨_, rfl⟩
      have HS := Lib.hid hS
      obtain ⟨C, hC⟩ : ∃ C, C = cmpR (x, y) (S, 1) := ⟨_, rfl⟩
      have HCC := Lib.hid hC
      have HN := Lib.hid (show fitsR l x y = decide (C ≤ 0) by simp only [fitsR, HSM.out, hv, Bool.true_and]; rw [decide_eq_true (by omega), ← hS, ← hC]; simp)
      have hge : decide (x ≥ 0) = true := by simp; omega
      clear hv hS hC
      go_enter Try.func87, Try.ntmps87
      go_wp2_with (first | (go_at_call 69; refine (i_within _ _ _ _).mono ?_; rw [HIN.out]; rintro e w' ⟨rfl, rfl⟩))
      refine HC.out.mono ?_
      rintro e w1 ⟨rfl, hx⟩
      have c0 : w1.cell? ⟨w.heap.size, 0, none⟩ = some (.int .i64 x) := hx.cellSome (by simp)
      have c1 : w1.cell? ⟨w.heap.size, 1, none⟩ = some (.int .i64 y) := hx.cellSome (by simp)
      have X1 := Lib.hid (HX.out.trans hx)
      have HI1 := Lib.hid (HI.out.ext hx)
      have hk2 : Ext w1 w1.drew := Ext.drew w1
      clear hx
      go_wp2
      go_region_held3 (fun w' => w'.cell? ⟨w.heap.size, 0, none⟩ = some (.int .i64 x) ∧ w'.cell? ⟨w.heap.size, 1, none⟩ = some (.int .i64 y) ∧ Ext w1 w')
        (exact ⟨hk2.cellSome c0, hk2.cellSome c1, hk2⟩)
        (first
          | (go_at_call 80; refine (i_IsValidRat x y _).mono ?_; rw [HV.out]; rintro e w3 ⟨rfl, hx3⟩; have hk2 := hk2.trans hx3)
          | (go_at_call 99; refine (i_total (HI1.out.ext hk2)).mono ?_; rw [← HS.out]; rintro e w' ⟨rfl, rfl⟩)
          | (go_at_call 91; refine (i_whole _ _).mono ?_; rintro e w4 ⟨rfl, hx4⟩; have hk2 := hk2.trans hx4)
          | (go_at_call 37; refine (i_CompareRat x y S 1 _).mono ?_; rw [← HCC.out]; rintro e w5 ⟨rfl, hx5⟩; have hk2 := hk2.trans hx5))
      all_goals
        go_wp2
        go_ret
        exact ⟨ret_bool HN.out.symm, X1.out.trans hk2⟩
  · rw [hany] at HC
    have HN := Lib.hid (show fitsR l x y = false by rw [fitsR, small_any, hany]; simp)
    clear hin hany
    go_enter Try.func87, Try.ntmps87
    go_wp2_with (first | (go_at_call 69; refine (i_within _ _ _ _).mono ?_; rw [HIN.out]; rintro e w' ⟨rfl, rfl⟩))
    refine HC.out.mono ?_
    rintro e w1 ⟨rfl, hx⟩
    have X1 := Lib.hid (HX.out.trans hx)
    clear hx
    go_wp2
    go_ret
    exact ⟨ret_bool HN.out.symm, X1.out⟩
set_option maxHeartbeats 2000000 in
theorem s_l18Fits {w : World} {x y : Int} {a : Option Addr} {n cap : Nat} {l : List Int} (h : Ints w a n cap l) :
    Calls Try.prog 93 #[.slice a n cap, ratV x y] w fun e w' => e = .returned (.bool (fitsR l x y)) ∧ Ext w w' := by
  obtain ⟨W, hW⟩ : ∃ W, W = w.alloc (.cells #[.int .i64 x, .int .i64 y] 34) := ⟨_, rfl⟩
  have hX : Ext w W := by rw [hW]; exact Ext.alloc _ _
  have HX := Lib.hid hX
  have HI := Lib.hid (h.ext hX)
  have hb : W.heap[w.heap.size]? = some (.cells #[.int .i64 x, .int .i64 y] 34 (0, 0)) := by rw [hW]; exact heapA_new _ _ _ rfl
  obtain ⟨c0, c1, _⟩ := rcell hb
  have HW := Lib.hid hW
  have hk2 : Ext W W.drew := Ext.drew W
  clear h hX hW hb
  cases hsm : small l 100000
  · have HSM := Lib.hid hsm
    have HN := Lib.hid (show fitsR l x y = false by simp [fitsR, hsm])
    clear hsm
    go_enter Try.func93, Try.ntmps93
    go_wp2
    rw [← HW.out]
    refine wp_region_held_drew (S := (fun w' => w'.cell? ⟨w.heap.size, 0, none⟩ = some (.int .i64 x) ∧ w'.cell? ⟨w.heap.size, 1, none⟩ = some (.int .i64 y) ∧ Ext W w')) (by kernel_rfl) ?_ (fun hHeld => ?_)
    · exact ⟨hk2.cellSome c0, hk2.cellSome c1, hk2⟩
    refine tk (i := 0) (h := ?_)
    try simp only [Act.put, sA, sB, sC]
    refine rd (i := 1) (h := fun K hK => ?_)
    go_simp
    (go_at_call 133; refine (s_l18Small 100000 (HI.out.ext hk2)).mono ?_; rw [HSM.out]; rintro e w3 ⟨rfl, rfl⟩)
    go_wp2_with fail
    refine hK.out _ _ ?_ (fun hHeld => ?_)
    · exact ⟨hk2.cellSome c0, hk2.cellSome c1, hk2⟩
    clear hK K
    try simp only [Act.put, sA, sB, sC]
    refine tk (i := 2) (h := ?_)
    try simp only [Act.put, sA, sB, sC]
    refine sk (i := 3) (h := ?_)
    try simp only [Act.put, sA, sB, sC]
    refine sk (i := 4) (h := ?_)
    try simp only [Act.put, sA, sB, sC]
    refine tk (i := 5) (h := ?_)
    try simp only [Act.put, sA, sB, sC]
    refine tk (i := 6) (h := ?_)
    try simp only [Act.put, sA, sB, sC]
    refine sk (i := 7) (h := ?_)
    try simp only [Act.put, sA, sB, sC]
    refine sk (i := 8) (h := ?_)
    try simp only [Act.put, sA, sB, sC]
    refine sk (i := 9) (h := ?_)
    try simp only [Act.put, sA, sB, sC]
    refine tk (i := 10) (h := ?_)
    try simp only [Act.put, sA, sB, sC]
    refine tk (i := 11) (h := ?_)
    try simp only [Act.put, sA, sB, sC]
    refine sk (i := 12) (h := ?_)
    try simp only [Act.put, sA, sB, sC]
    refine sk (i := 13) (h := ?_)
    try simp only [Act.put, sA, sB, sC]
    refine sk (i := 14) (h := ?_)
    try simp only [Act.put, sA, sB, sC]
    refine sk (i := 15) (h := ?_)
    try simp only [Act.put, sA, sB, sC]
    refine sk (i := 16) (h := ?_)
    try simp only [Act.put, sA, sB, sC]
    refine sk (i := 17) (h := ?_)
    try simp only [Act.put, sA, sB, sC]
    refine tk (i := 18) (h := ?_)
    try simp only [Act.put, sA, sB, sC]
    refine tk (i := 19) (h := ?_)
    try simp only [Act.put, sA, sB, sC]
    refine wpAnyH_done (by kernel_rfl) ?_ _
    go_wp2
    go_ret
    exact ⟨ret_bool HN.out.symm, HX.out.trans hk2⟩
  have HSM := Lib.hid hsm
  cases hv : valR (x, y)
  · have HV := Lib.hid hv
    have HN := Lib.hid (show fitsR l x y = false by simp [fitsR, hv])
    clear hsm hv
    go_enter Try.func93, Try.ntmps93
    go_wp2
    rw [← HW.out]
    refine wp_region_held_drew (S := (fun w' => w'.cell? ⟨w.heap.size, 0, none⟩ = some (.int .i64 x) ∧ w'.cell? ⟨w.heap.size, 1, none⟩ = some (.int .i64 y) ∧ Ext W w')) (by kernel_rfl) ?_ (fun hHeld => ?_)
    · exact ⟨hk2.cellSome c0, hk2.cellSome c1, hk2⟩
    refine tk (i := 0) (h := ?_)
    try simp only [Act.put, sA, sB, sC]
    refine rd (i := 1) (h := fun K hK => ?_)
    go_simp
    (go_at_call 133; refine (s_l18Small 100000 (HI.out.ext hk2)).mono ?_; rw [HSM.out]; rintro e w3 ⟨rfl, rfl⟩)
    go_wp2_with fail
    refine hK.out _ _ ?_ (fun hHeld => ?_)
    · exact ⟨hk2.cellSome c0, hk2.cellSome c1, hk2⟩
    clear hK K
    try simp only [Act.put, sA, sB, sC]
    refine tk (i := 2) (h := ?_)
    try simp only [Act.put, sA, sB, sC]
    refine tk (i := 3) (h := ?_)
    try simp only [Act.put, sA, sB, sC]
    refine rd (i := 4) (h := fun K hK => ?_)
    go_simp
    (go_at_call 125; refine (s_IsValidRat x y _).mono ?_; rw [HV.out]; rintro e w4 ⟨rfl, hx4⟩; have hk2 := hk2.trans hx4)
    go_wp2_with fail
    refine hK.out _ _ ?_ (fun hHeld => ?_)
    · exact ⟨hk2.cellSome c0, hk2.cellSome c1, hk2⟩
    clear hK K
    try simp only [Act.put, sA, sB, sC]
    refine tk (i := 5) (h := ?_)
    try simp only [Act.put, sA, sB, sC]
    refine tk (i := 6) (h := ?_)
    try simp only [Act.put, sA, sB, sC]
    refine sk (i := 7) (h := ?_)
    try simp only [Act.put, sA, sB, sC]
    refine sk (i := 8) (h := ?_)
    try simp only [Act.put, sA, sB, sC]
    refine sk (i := 9) (h := ?_)
    try simp only [Act.put, sA, sB, sC]
    refine tk (i := 10) (h := ?_)
    try simp only [Act.put, sA, sB, sC]
    refine tk (i := 11) (h := ?_)
    try simp only [Act.put, sA, sB, sC]
    refine sk (i := 12) (h := ?_)
    try simp only [Act.put, sA, sB, sC]
    refine sk (i := 13) (h := ?_)
    try simp only [Act.put, sA, sB, sC]
    refine sk (i := 14) (h := ?_)
    try simp only [Act.put, sA, sB, sC]
    refine sk (i := 15) (h := ?_)
    try simp only [Act.put, sA, sB, sC]
    refine sk (i := 16) (h := ?_)
    try simp only [Act.put, sA, sB, sC]
    refine sk (i := 17) (h := ?_)
    try simp only [Act.put, sA, sB, sC]
    refine tk (i := 18) (h := ?_)
    try simp only [Act.put, sA, sB, sC]
    refine tk (i := 19) (h := ?_)
    try simp only [Act.put, sA, sB, sC]
    refine wpAnyH_done (by kernel_rfl) ?_ _
    go_wp2
    go_ret
    exact ⟨ret_bool HN.out.symm, HX.out.trans hk2⟩
  have HV := Lib.hid hv
  by_cases hx0 : x < 0
  · have HN := Lib.hid (show fitsR l x y = false by simp [fitsR]; intros; omega)
    have hge : decide (x ≥ 0) = false := by simp; omega
    clear hsm hv
    go_enter Try.func93, Try.ntmps93
    go_wp2
    rw [← HW.out]
    refine wp_region_held_drew (S := (fun w' => w'.cell? ⟨w.heap.size, 0, none⟩ = some (.int .i64 x) ∧ w'.cell? ⟨w.heap.size, 1, none⟩ = some (.int .i64 y) ∧ Ext W w')) (by kernel_rfl) ?_ (fun hHeld => ?_)
    · exact ⟨hk2.cellSome c0, hk2.cellSome c1, hk2⟩
    refine tk (i := 0) (h := ?_)
    try simp only [Act.put, sA, sB, sC]
    refine rd (i := 1) (h := fun K hK => ?_)
    go_simp
    (go_at_call 133; refine (s_l18Small 100000 (HI.out.ext hk2)).mono ?_; rw [HSM.out]; rintro e w3 ⟨rfl, rfl⟩)
    go_wp2_with fail
    refine hK.out _ _ ?_ (fun hHeld => ?_)
    · exact ⟨hk2.cellSome c0, hk2.cellSome c1, hk2⟩
    clear hK K
    try simp only [Act.put, sA, sB, sC]
    refine tk (i := 2) (h := ?_)
    try simp only [Act.put, sA, sB, sC]
    refine tk (i := 3) (h := ?_)
    try simp only [Act.put, sA, sB, sC]
    refine rd (i := 4) (h := fun K hK => ?_)
    go_simp
    (go_at_call 125; refine (s_IsValidRat x y _).mono ?_; rw [HV.out]; rintro e w4 ⟨rfl, hx4⟩; have hk2 := hk2.trans hx4)
    go_wp2_with fail
    refine hK.out _ _ ?_ (fun hHeld => ?_)
    · exact ⟨hk2.cellSome c0, hk2.cellSome c1, hk2⟩
    clear hK K
    try simp only [Act.put, sA, sB, sC]
    refine tk (i := 5) (h := ?_)
    try simp only [Act.put, sA, sB, sC]
    refine tk (i := 6) (h := ?_)
    try simp only [Act.put, sA, sB, sC]
    refine tk (i := 7) (h := ?_)
    try simp only [Act.put, sA, sB, sC]
    refine tk (i := 8) (h := ?_)
    try simp only [Act.put, sA, sB, sC]
    refine tk (i := 9) (h := ?_)
    try simp only [Act.put, sA, sB, sC]
    refine tk (i := 10) (h := ?_)
    try simp only [Act.put, sA, sB, sC]
    refine tk (i := 11) (h := ?_)
    try simp only [Act.put, sA, sB, sC]
    refine sk (i := 12) (h := ?_)
    try simp only [Act.put, sA, sB, sC]
    refine sk (i := 13) (h := ?_)
    try simp only [Act.put, sA, sB, sC]
    refine sk (i := 14) (h := ?_)
    try simp only [Act.put, sA, sB, sC]
    refine sk (i := 15) (h := ?_)
    try simp only [Act.put, sA, sB, sC]
    refine sk (i := 16) (h := ?_)
    try simp only [Act.put, sA, sB, sC]
    refine sk (i := 17) (h := ?_)
    try simp only [Act.put, sA, sB, sC]
    refine tk (i := 18) (h := ?_)
    try simp only [Act.put, sA, sB, sC]
    refine tk (i := 19) (h := ?_)
    try simp only [Act.put, sA, sB, sC]
    refine wpAnyH_done (by kernel_rfl) ?_ _
    go_wp2
    go_ret
    exact ⟨ret_bool HN.out.symm, HX.out.trans hk2⟩
  · obtain ⟨S, hS⟩ : ∃ S, S = sumW l := ⟨_, rfl⟩
    have HS := Lib.hid hS
    obtain ⟨C, hC⟩ : ∃ C, C = cmpR (x, y) (S, 1) := ⟨_, rfl⟩
    have HCC := Lib.hid hC
    have HN := Lib.hid (show fitsR l x y = decide (C ≤ 0) by simp only [fitsR, hsm, hv, Bool.true_and]; rw [decide_eq_true (by omega), ← hS, ← hC]; simp)
    have hge : decide (x ≥ 0) = true := by simp; omega
    clear hsm hv hS hC
    go_enter Try.func93, Try.ntmps93
    go_wp2
    rw [← HW.out]
    go_region_held3 (fun w' => w'.cell? ⟨w.heap.size, 0, none⟩ = some (.int .i64 x) ∧ w'.cell? ⟨w.heap.size, 1, none⟩ = some (.int .i64 y) ∧ Ext W w')
      (exact ⟨hk2.cellSome c0, hk2.cellSome c1, hk2⟩)
      (first
        | (go_at_call 133; refine (s_l18Small 100000 (HI.out.ext hk2)).mono ?_; rw [HSM.out]; rintro e w3 ⟨rfl, rfl⟩)
        | (go_at_call 125; refine (s_IsValidRat x y _).mono ?_; rw [HV.out]; rintro e w3 ⟨rfl, hx3⟩; have hk2 := hk2.trans hx3)
        | (go_at_call 101; refine (s_l18Sum (HI.out.ext hk2)).mono ?_; rw [← HS.out]; rintro e w' ⟨rfl, rfl⟩)
        | (go_at_call 74; refine (s_l3Int _ _).mono ?_; rintro e w4 ⟨rfl, hx4⟩; have hk2 := hk2.trans hx4)
        | (go_at_call 97; refine (s_CompareRat x y S 1 _).mono ?_; rw [← HCC.out]; rintro e w5 ⟨rfl, hx5⟩; have hk2 := hk2.trans hx5))
    all_goals
      go_wp2
      go_ret
      exact ⟨ret_bool HN.out.symm, HX.out.trans hk2⟩
end Go.Proofs.Ytgohdmnbnhehnaa
namespace Go.Proofs.Ytgohdmnbnhehnaa
set_option linter.unusedVariables false
section
variable (C : List Int) (n : Nat)
def ordA (k : Nat) : Nat := ((srt C n)[k]?.getD 0).toNat
def shareA (left : Int × Int) (m i : Nat) : Int × Int := if cmpR (C[i]?.getD 0, 1) (divR left ((m : Int), 1)).1 < 0 then (C[i]?.getD 0, 1) else (divR left ((m : Int), 1)).1
def stepA (st : (Int × Int) × List (Int × Int)) (k : Nat) : Option ((Int × Int) × List (Int × Int)) :=
  if (divR st.1 (((n - k : Nat) : Int), 1)).2 = true ∧ (subR st.1 (shareA C st.1 (n - k) (ordA C n k))).2 = true then
    some ((subR st.1 (shareA C st.1 (n - k) (ordA C n k))).1, st.2.set (ordA C n k) (shareA C st.1 (n - k) (ordA C n k)))
  else none
def runA (am : Int × Int) (z : List (Int × Int)) : Nat → Option ((Int × Int) × List (Int × Int))
  | 0 => some (am, z)
  | k + 1 => (runA am z k).bind fun st => stepA C n st k
theorem runA_succ {am : Int × Int} {z : List (Int × Int)} {k : Nat} {st : (Int × Int) × List (Int × Int)} (h : runA C n am z k = some st) : runA C n am z (k + 1) = stepA C n st k := by simp [runA, h]
theorem runA_none {am : Int × Int} {z : List (Int × Int)} {k : Nat} (h : runA C n am z k = none) : ∀ d, runA C n am z (k + d) = none
  | 0 => h
  | d + 1 => by show (runA C n am z (k + d)).bind _ = none; rw [runA_none h d]; rfl
theorem stepA_len {st st' : (Int × Int) × List (Int × Int)} {k : Nat} (h : stepA C n st k = some st') : st'.2.length = st.2.length := by
  unfold stepA at h
  split at h
  · simp only [Option.some.injEq] at h; rw [← h]; simp
  · simp at h
theorem runA_len {am : Int × Int} {z : List (Int × Int)} : ∀ (k : Nat) {st : (Int × Int) × List (Int × Int)}, runA C n am z k = some st → st.2.length = z.length
  | 0, st, h => by simp only [runA, Option.some.injEq] at h; rw [← h]
  | k + 1, st, h => by
    cases hk : runA C n am z k with
    | none => simp [runA, hk] at h
    | some s0 =>
      rw [runA_succ C n hk] at h
      rw [stepA_len C n h, runA_len k hk]
theorem ordA_lt {k : Nat} (h : k < n) : ordA C n k < n ∧ (srt C n)[k]?.getD 0 = (ordA C n k : Int) := by
  obtain ⟨m, h1, h2⟩ := srt_at C h
  unfold ordA
  rw [h1]
  simp [h2]
theorem mem_srt : ∀ (n i : Nat), i < n → (i : Int) ∈ srt C n
  | 0, i, h => absurd h (by omega)
  | n + 1, i, h => by
    simp only [srt, insR, List.mem_append, List.mem_cons]
    by_cases hi : i = n
    · subst hi; exact .inr (.inl rfl)
    · have := mem_srt n i (by omega)
      rw [← List.take_append_drop (posR C (n : Int) (srt C n) (srt C n).length) (srt C n), List.mem_append] at this
      rcases this with h | h
      · exact .inl h
      · exact .inr (.inr h)
theorem ordA_all {i : Nat} (h : i < n) : ∃ k, k < n ∧ ordA C n k = i := by
  obtain ⟨k, hk, he⟩ := List.getElem_of_mem (mem_srt C n i h)
  refine ⟨k, by rw [srt_len] at hk; exact hk, ?_⟩
  unfold ordA
  simp [hk, he]
theorem runA_two {am : Int × Int} {z z' : List (Int × Int)} (hz : z.length = z'.length) : ∀ k, (runA C n am z k = none ∧ runA C n am z' k = none) ∨
    ∃ l r r', runA C n am z k = some (l, r) ∧ runA C n am z' k = some (l, r') ∧ r.length = r'.length ∧ ∀ j, j < k → r[ordA C n j]? = r'[ordA C n j]?
  | 0 => .inr ⟨am, z, z', rfl, rfl, hz, fun j hj => absurd hj (by omega)⟩
  | k + 1 => by
    rcases runA_two hz k with ⟨h1, h2⟩ | ⟨l, r, r', h1, h2, h3, h4⟩
    · exact .inl ⟨runA_none C n h1 1, runA_none C n h2 1⟩
    · rw [runA_succ C n h1, runA_succ C n h2]
      unfold stepA
      simp only
      split
      · refine .inr ⟨_, _, _, rfl, rfl, by simpa using h3, fun j hj => ?_⟩
        by_cases he : ordA C n j = ordA C n k
        · rw [he]; simp [List.getElem?_set, h3]
        · rw [List.getElem?_set_ne (Ne.symm he), List.getElem?_set_ne (Ne.symm he)]
          by_cases hjk : j = k
          · subst hjk; exact absurd rfl he
          · exact h4 j (by omega)
      · exact .inl ⟨rfl, rfl⟩
theorem runA_eq {am : Int × Int} {z z' : List (Int × Int)} (hz : z.length = n) (hz' : z'.length = n) : runA C n am z n = runA C n am z' n := by
  rcases runA_two C n (am := am) (show z.length = z'.length by omega) n with ⟨h1, h2⟩ | ⟨l, r, r', h1, h2, h3, h4⟩
  · rw [h1, h2]
  · rw [h1, h2]
    have hl := runA_len C n n h1
    simp only at hl
    congr 2
    apply List.ext_getElem?
    intro i
    by_cases hi : i < n
    · obtain ⟨k, hk, he⟩ := ordA_all C n hi
      rw [← he]; exact h4 k hk
    · rw [List.getElem?_eq_none (by omega), List.getElem?_eq_none (by omega)]
end
def awardOk (C : List Int) (x y : Int) : Bool := fitsR C x y && (runA C C.length (x, y) (List.replicate C.length (0, 0)) C.length).isSome
def awardL (C : List Int) (x y : Int) : List (Int × Int) := if fitsR C x y = true then ((runA C C.length (x, y) (List.replicate C.length (0, 0)) C.length).map (·.2)).getD [] else []
end Go.Proofs.Ytgohdmnbnhehnaa
namespace Go.Proofs.Ytgohdmnbnhehnaa
set_option linter.unusedVariables false
def Fr (p : Int × Int) (x D : Int) : Prop := valR p = true ∧ 0 < D ∧ p.1 * D = x * p.2
theorem valR_gcd {p : Int × Int} (h : valR p = true) : gI p.1 p.2 = 1 := by
  simp only [valR, Bool.and_eq_true, decide_eq_true_eq] at h; exact h.2.2
theorem valR_mk {p : Int × Int} (h1 : 1 ≤ p.2) (h2 : p.2 ≤ 1000000000) (h3 : -1000000000 ≤ p.1) (h4 : p.1 ≤ 1000000000) (h5 : gI p.1 p.2 = 1) : valR p = true := by
  simp only [valR, inB, Bool.and_eq_true, decide_eq_true_eq]; omega
theorem gI_nat (a b : Int) : gI a b = 1 ↔ Nat.Coprime a.natAbs b.natAbs := by unfold gI Int.gcd Nat.Coprime; omega
theorem low_eq {a b c d : Int} (hb : 0 < b) (hd : 0 < d) (h1 : gI a b = 1) (h2 : gI c d = 1) (h : a * d = c * b) : a = c ∧ b = d := by
  rw [gI_nat] at h1 h2
  have hn : a.natAbs * d.natAbs = c.natAbs * b.natAbs := by rw [← Int.natAbs_mul, ← Int.natAbs_mul, h]
  have e1 : b.natAbs ∣ d.natAbs := Nat.Coprime.dvd_of_dvd_mul_left h1.symm ⟨c.natAbs, by rw [hn, Nat.mul_comm]⟩
  have e2 : d.natAbs ∣ b.natAbs := Nat.Coprime.dvd_of_dvd_mul_left h2.symm ⟨a.natAbs, by rw [← hn, Nat.mul_comm]⟩
  have e3 : b = d := by have := Nat.dvd_antisymm e1 e2; omega
  subst e3
  exact ⟨Int.eq_of_mul_eq_mul_right (by omega) h, rfl⟩
theorem Fr.eq {p q : Int × Int} {x D y E : Int} (h : Fr p x D) (k : Fr q y E) (e : x * E = y * D) : p = q := by
  obtain ⟨h1, h2, h3⟩ := h
  obtain ⟨k1, k2, k3⟩ := k
  have hb := (valR_bd h1).1
  have kb := (valR_bd k1).1
  have key : (p.1 * q.2) * (D * E) = (q.1 * p.2) * (D * E) := by grind
  have hDE : D * E ≠ 0 := Int.mul_ne_zero (by omega) (by omega)
  have := low_eq (by omega) (by omega) (valR_gcd h1) (valR_gcd k1) (Int.eq_of_mul_eq_mul_right hDE key)
  exact Prod.ext this.1 this.2
theorem Fr.scale {p : Int × Int} {x D : Int} (h : Fr p x D) {k : Int} (hk : 0 < k) : Fr p (x * k) (D * k) :=
  ⟨h.1, Int.mul_pos h.2.1 hk, by have := h.2.2; grind⟩
theorem Fr.move {p : Int × Int} {x D y E : Int} (h : Fr p x D) (hE : 0 < E) (e : x * E = y * D) : Fr p y E := by
  refine ⟨h.1, hE, ?_⟩
  have h3 := h.2.2
  have : (p.1 * E) * D = (y * p.2) * D := by grind
  exact Int.eq_of_mul_eq_mul_right (by have := h.2.1; omega) this
theorem Fr.int (c : Int) (h : -1000000000 ≤ c) (h' : c ≤ 1000000000) : Fr (c, 1) c 1 :=
  ⟨valR_mk (by simp) (by simp) h h' (by rw [gI_nat]; simp), by omega, rfl⟩
theorem Fr.self {p : Int × Int} (h : valR p = true) : Fr p p.1 p.2 := ⟨h, by have := (valR_bd h).1; omega, rfl⟩
theorem gI_split (n d : Int) (hd : 0 < d) : 1 ≤ gI n d ∧ n = gI n d * n.tdiv (gI n d) ∧ d = gI n d * d.tdiv (gI n d) ∧ 0 < d.tdiv (gI n d) := by
  have hg := gI_pos n (show d ≠ 0 by omega)
  obtain ⟨k, hk⟩ := gI_dvdl n d
  obtain ⟨m, hm⟩ := gI_dvdr n d
  have h1 : n.tdiv (gI n d) = k := by conv => lhs; arg 1; rw [hk]
                                      exact Int.mul_tdiv_cancel_left _ (by omega)
  have h2 : d.tdiv (gI n d) = m := by conv => lhs; arg 1; rw [hm]
                                      exact Int.mul_tdiv_cancel_left _ (by omega)
  rw [h1, h2]
  refine ⟨hg, hk, hm, ?_⟩
  rcases Int.lt_or_le 0 m with h | h
  · exact h
  · have : gI n d * m ≤ 0 := Int.mul_nonpos_of_nonneg_of_nonpos (by omega) h
    omega
theorem ratOf_cut {n d : Int} (hd : 0 < d) (hn : -1000000000000000000 ≤ n ∧ n ≤ 1000000000000000000) (hd' : d ≤ 1000000000000000000) : ratOf n d = cutR (n.tdiv (gI n d), d.tdiv (gI n d)) := by
  unfold ratOf
  rw [if_neg (by simp [inB]; omega), if_neg (by omega)]
theorem ratOf_same {n d x D : Int} (hd : 0 < d) (hD : 0 < D) (hn : -1000000000000000000 ≤ n ∧ n ≤ 1000000000000000000) (hd' : d ≤ 1000000000000000000) (hx : -1000000000000000000 ≤ x ∧ x ≤ 1000000000000000000) (hD' : D ≤ 1000000000000000000) (e : n * D = x * d) : ratOf n d = ratOf x D := by
  rw [ratOf_cut hd hn hd', ratOf_cut hD hx hD']
  obtain ⟨g1, g2, g3, g4⟩ := gI_split n d hd
  obtain ⟨k1, k2, k3, k4⟩ := gI_split x D hD
  have key : (n.tdiv (gI n d) * D.tdiv (gI x D)) * (gI n d * gI x D) = (x.tdiv (gI x D) * d.tdiv (gI n d)) * (gI n d * gI x D) := by
    have a1 : (n.tdiv (gI n d) * D.tdiv (gI x D)) * (gI n d * gI x D) = (gI n d * n.tdiv (gI n d)) * (gI x D * D.tdiv (gI x D)) := by grind
    have a2 : (x.tdiv (gI x D) * d.tdiv (gI n d)) * (gI n d * gI x D) = (gI x D * x.tdiv (gI x D)) * (gI n d * d.tdiv (gI n d)) := by grind
    rw [a1, a2, ← g2, ← g3, ← k2, ← k3, e]
  have hne : gI n d * gI x D ≠ 0 := Int.mul_ne_zero (by omega) (by omega)
  have := low_eq g4 k4 (gI_cancel n d hd) (gI_cancel x D hD) (Int.eq_of_mul_eq_mul_right hne key)
  rw [this.1, this.2]
theorem ratOf_fr {n d : Int} (hd : 0 < d) (h : (ratOf n d).2 = true) : Fr (ratOf n d).1 n d := by
  refine ⟨ratOf_val h, hd, ?_⟩
  unfold ratOf at h ⊢
  split at h
  · simp at h
  · next h0 =>
    rw [if_neg h0]
    split at h
    · omega
    · next h1 =>
      rw [if_neg h1]
      unfold cutR at h ⊢
      split at h
      · next h2 =>
        rw [if_pos h2]
        obtain ⟨g1, g2, g3, g4⟩ := gI_split n d hd
        simp only
        generalize n.tdiv (gI n d) = k at *
        generalize d.tdiv (gI n d) = m at *
        generalize gI n d = g at *
        subst g2; grind
      · simp at h
theorem ratOf_is {n d x D : Int} (hd : 0 < d) (hn : -1000000000000000000 ≤ n ∧ n ≤ 1000000000000000000) (hd' : d ≤ 1000000000000000000) (hD : 0 < D) (hD' : D ≤ 1000000000) (hx : -1000000000 ≤ x ∧ x ≤ 1000000000) (e : n * D = x * d) :
    ∃ r, ratOf n d = (r, true) ∧ Fr r x D := by
  have h1 := ratOf_same hd hD hn hd' (by omega) (by omega) e
  have h2 := ratOf_ok (n := x) (d := D) (by omega) hD' hx.1 hx.2
  exact ⟨(ratOf x D).1, by rw [h1, ← h2], ratOf_fr hD h2⟩
theorem bd18 {p q : Int} (h : -1000000000 ≤ p ∧ p ≤ 1000000000) (k : -1000000000 ≤ q ∧ q ≤ 1000000000) : -1000000000000000000 ≤ p * q ∧ p * q ≤ 1000000000000000000 := mul_bd h.1 h.2 k.1 k.2
theorem Fr.mul {p q : Int × Int} {x D y E z F : Int} (h : Fr p x D) (k : Fr q y E) (hF : 0 < F) (hF' : F ≤ 1000000000) (hz : -1000000000 ≤ z ∧ z ≤ 1000000000) (e : x * y * F = z * (D * E)) : ∃ r, mulR p q = (r, true) ∧ Fr r z F := by
  obtain ⟨h1, h2, h3⟩ := h
  obtain ⟨k1, k2, k3⟩ := k
  have hb := valR_bd h1
  have kb := valR_bd k1
  have hp : 0 < p.2 * q.2 := Int.mul_pos (by omega) (by omega)
  have hDE : D * E ≠ 0 := Int.mul_ne_zero (by omega) (by omega)
  unfold mulR
  rw [if_pos (by rw [h1, k1]; rfl)]
  refine ratOf_is hp (bd18 ⟨hb.2.2.1, hb.2.2.2⟩ ⟨kb.2.2.1, kb.2.2.2⟩) (bd18 ⟨by omega, hb.2.1⟩ ⟨by omega, kb.2.1⟩).2 hF hF' hz ?_
  refine Int.eq_of_mul_eq_mul_right hDE ?_
  have : p.1 * q.1 * F * (D * E) = (p.1 * D) * (q.1 * E) * F := by grind
  rw [this, h3, k3]
  have : x * p.2 * (y * q.2) * F = (x * y * F) * (p.2 * q.2) := by grind
  rw [this, e]; grind
theorem Fr.div {p q : Int × Int} {x D y E z F : Int} (h : Fr p x D) (k : Fr q y E) (hy : 0 < y) (hF : 0 < F) (hF' : F ≤ 1000000000) (hz : -1000000000 ≤ z ∧ z ≤ 1000000000) (e : x * E * F = z * (D * y)) : ∃ r, divR p q = (r, true) ∧ Fr r z F := by
  obtain ⟨h1, h2, h3⟩ := h
  obtain ⟨k1, k2, k3⟩ := k
  have hb := valR_bd h1
  have kb := valR_bd k1
  have hq : 0 < q.1 := by
    rcases Int.lt_or_le 0 q.1 with h | h
    · exact h
    · have : q.1 * E ≤ 0 := Int.mul_nonpos_of_nonpos_of_nonneg h (by omega)
      have : 0 < y * q.2 := Int.mul_pos hy (by omega)
      omega
  have hp : 0 < p.2 * q.1 := Int.mul_pos (by omega) hq
  have hDE : D * E * y ≠ 0 := Int.mul_ne_zero (Int.mul_ne_zero (by omega) (by omega)) (by omega)
  unfold divR
  rw [if_pos (by rw [h1, k1]; rfl)]
  refine ratOf_is hp (bd18 ⟨hb.2.2.1, hb.2.2.2⟩ ⟨by omega, kb.2.1⟩) (bd18 ⟨by omega, hb.2.1⟩ ⟨by omega, kb.2.2.2⟩).2 hF hF' hz ?_
  refine Int.eq_of_mul_eq_mul_right hDE ?_
  have : p.1 * q.2 * F * (D * E * y) = (p.1 * D) * (y * q.2) * E * F := by grind
  rw [this, h3, ← k3]
  have : x * p.2 * (q.1 * E) * E * F = (x * E * F) * (p.2 * q.1 * E) := by grind
  rw [this, e]; grind
theorem Fr.add {p q : Int × Int} {x D y E z F : Int} (h : Fr p x D) (k : Fr q y E) (hF : 0 < F) (hF' : F ≤ 1000000000) (hz : -1000000000 ≤ z ∧ z ≤ 1000000000) (hs : -1000000000000000000 ≤ p.1 * q.2 + q.1 * p.2 ∧ p.1 * q.2 + q.1 * p.2 ≤ 1000000000000000000) (e : (x * E + y * D) * F = z * (D * E)) : ∃ r, addR p q = (r, true) ∧ Fr r z F := by
  obtain ⟨h1, h2, h3⟩ := h
  obtain ⟨k1, k2, k3⟩ := k
  have hb := valR_bd h1
  have kb := valR_bd k1
  have hp : 0 < p.2 * q.2 := Int.mul_pos (by omega) (by omega)
  have hDE : D * E ≠ 0 := Int.mul_ne_zero (by omega) (by omega)
  unfold addR
  rw [if_pos (by rw [h1, k1]; rfl)]
  refine ratOf_is hp hs (bd18 ⟨by omega, hb.2.1⟩ ⟨by omega, kb.2.1⟩).2 hF hF' hz ?_
  refine Int.eq_of_mul_eq_mul_right hDE ?_
  have : (p.1 * q.2 + q.1 * p.2) * F * (D * E) = ((p.1 * D) * (q.2 * E) + (q.1 * E) * (p.2 * D)) * F := by grind
  rw [this, h3, k3]
  have : (x * p.2 * (q.2 * E) + y * q.2 * (p.2 * D)) * F = ((x * E + y * D) * F) * (p.2 * q.2) := by grind
  rw [this, e]; grind
theorem Fr.neg {p : Int × Int} {x D : Int} (h : Fr p x D) : Fr (-p.1, p.2) (-x) D :=
  ⟨by rw [valR_neg]; exact h.1, h.2.1, by have := h.2.2; simp only; grind⟩
theorem Fr.sub {p q : Int × Int} {x D y E z F : Int} (h : Fr p x D) (k : Fr q y E) (hF : 0 < F) (hF' : F ≤ 1000000000) (hz : -1000000000 ≤ z ∧ z ≤ 1000000000) (hs : -1000000000000000000 ≤ p.1 * q.2 - q.1 * p.2 ∧ p.1 * q.2 - q.1 * p.2 ≤ 1000000000000000000) (e : (x * E - y * D) * F = z * (D * E)) : ∃ r, subR p q = (r, true) ∧ Fr r z F := by
  rw [← subR_add]
  exact h.add k.neg hF hF' hz (by simp only; rw [Int.neg_mul]; omega) (by grind)
theorem Fr.cmp {p q : Int × Int} {x D y E : Int} (h : Fr p x D) (k : Fr q y E) : cmpR p q = if x * E < y * D then -1 else if y * D < x * E then 1 else 0 := by
  obtain ⟨h1, h2, h3⟩ := h
  obtain ⟨k1, k2, k3⟩ := k
  have hb := valR_bd h1
  have kb := valR_bd k1
  have hp : 0 < p.2 * q.2 := Int.mul_pos (by omega) (by omega)
  have hDE : 0 < D * E := Int.mul_pos h2 k2
  have key : (p.1 * q.2 - q.1 * p.2) * (D * E) = (x * E - y * D) * (p.2 * q.2) := by
    have : (p.1 * q.2 - q.1 * p.2) * (D * E) = (p.1 * D) * (q.2 * E) - (q.1 * E) * (p.2 * D) := by grind
    rw [this, h3, k3]; grind
  unfold cmpR
  rw [if_pos (by rw [h1, k1]; rfl)]
  have s1 : p.1 * q.2 < q.1 * p.2 ↔ x * E < y * D := by
    constructor
    · intro h
      have : (p.1 * q.2 - q.1 * p.2) * (D * E) < 0 := Int.mul_neg_of_neg_of_pos (by omega) hDE
      rw [key] at this
      rcases Int.lt_or_le (x * E) (y * D) with h | h
      · exact h
      · have : 0 ≤ (x * E - y * D) * (p.2 * q.2) := Int.mul_nonneg (by omega) (by omega)
        omega
    · intro h
      have : (x * E - y * D) * (p.2 * q.2) < 0 := Int.mul_neg_of_neg_of_pos (by omega) hp
      rw [← key] at this
      rcases Int.lt_or_le (p.1 * q.2) (q.1 * p.2) with h | h
      · exact h
      · have : 0 ≤ (p.1 * q.2 - q.1 * p.2) * (D * E) := Int.mul_nonneg (by omega) (by omega)
        omega
  have s2 : q.1 * p.2 < p.1 * q.2 ↔ y * D < x * E := by
    constructor
    · intro h
      have : 0 < (p.1 * q.2 - q.1 * p.2) * (D * E) := Int.mul_pos (by omega) hDE
      rw [key] at this
      rcases Int.lt_or_le (y * D) (x * E) with h | h
      · exact h
      · have : (x * E - y * D) * (p.2 * q.2) ≤ 0 := Int.mul_nonpos_of_nonpos_of_nonneg (by omega) (by omega)
        omega
    · intro h
      have : 0 < (x * E - y * D) * (p.2 * q.2) := Int.mul_pos (by omega) hp
      rw [← key] at this
      rcases Int.lt_or_le (q.1 * p.2) (p.1 * q.2) with h | h
      · exact h
      · have : (p.1 * q.2 - q.1 * p.2) * (D * E) ≤ 0 := Int.mul_nonpos_of_nonpos_of_nonneg (by omega) (by omega)
        omega
  simp only [s1, s2]
theorem Fr.size {p : Int × Int} {x D : Int} (h : Fr p x D) : p.2 ≤ D ∧ p.1.natAbs ≤ x.natAbs := by
  obtain ⟨h1, h2, h3⟩ := h
  have hb := valR_bd h1
  have hc := valR_gcd h1
  rw [gI_nat] at hc
  have hn : p.1.natAbs * D.natAbs = x.natAbs * p.2.natAbs := by rw [← Int.natAbs_mul, ← Int.natAbs_mul, h3]
  have e1 : p.2.natAbs ∣ D.natAbs := Nat.Coprime.dvd_of_dvd_mul_left hc.symm ⟨x.natAbs, by rw [hn, Nat.mul_comm]⟩
  have e2 := Nat.le_of_dvd (by omega) e1
  refine ⟨by omega, ?_⟩
  have e3 : p.1.natAbs * p.2.natAbs ≤ x.natAbs * p.2.natAbs := by rw [← hn]; exact Nat.mul_le_mul_left _ e2
  exact Nat.le_of_mul_le_mul_right e3 (by omega)
end Go.Proofs.Ytgohdmnbnhehnaa
