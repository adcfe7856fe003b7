/- BestTrades: the program. -/
import Derived.Test.YtokpmflhgehicaaTradesI
namespace Go.Proofs.Ytokpmflhgehicaa
set_option linter.unusedVariables false
set_option linter.unusedSimpArgs false
set_option maxRecDepth 100000
open Go.RowKit

set_option maxHeartbeats 4000000 in
theorem i_BestTrades {w : World} {x y s : Int} {a : Option Addr} {n cap : Nat} {G : List (List Int)} (h : IntSS w a n cap G) :
    Calls Try.prog 31 #[triple x y a n cap, .int .i64 s] w fun e w' => (∃ v, e = .returned (.tuple #[v, .int .i64 (tradeR x y G s).2, .bool (tradeOk x y G s)]) ∧ OwnI w' w.heap.size v (tradeR x y G s).1) ∧ Ext w w' := by
  obtain ⟨W, hW⟩ : ∃ W, W = (w.alloc (.cells #[.int .i64 x, .int .i64 y, .slice a n cap] 53)).alloc (.cells #[.int .i64 s] 3) := ⟨_, rfl⟩
  have hX : Ext w W := by rw [hW]; exact (Ext.alloc _ _).trans (Ext.alloc _ _)
  have HX := Lib.hid hX
  have HG := Lib.hid h
  have HV := Lib.hid (i_IsValidMarket (x := x) (y := y) ((h.ext hX).ext (Ext.drew W)))
  have hsz : W.heap.size = w.heap.size + 1 + 1 := by rw [hW]; simp
  have hbm : W.heap[w.heap.size]? = some (.cells #[.int .i64 x, .int .i64 y, .slice a n cap] 53 (0, 0)) := by rw [hW, heapA_old _ _ _ (by simp)]; exact heapA_new _ _ _ rfl
  have hbs : W.heap[w.heap.size + 1]? = some (.cells #[.int .i64 s] 3 (0, 0)) := by rw [hW]; exact heapA_new _ _ _ (by simp)
  have c0 : W.cell? ⟨w.heap.size, 0, none⟩ = some (.int .i64 x) := by rw [cell_of_row _ _ _ _ _ _ hbm]; rfl
  have c1 : W.cell? ⟨w.heap.size, 1, none⟩ = some (.int .i64 y) := by rw [cell_of_row _ _ _ _ _ _ hbm]; rfl
  have c2 : W.cell? ⟨w.heap.size, 2, none⟩ = some (.slice a n cap) := by rw [cell_of_row _ _ _ _ _ _ hbm]; rfl
  have cs := cell_of_one hbs
  have HBM := Lib.hid hbm
  have HBS := Lib.hid hbs
  have HSZ := Lib.hid hsz
  have HW := Lib.hid hW
  have hk2 : Ext W W.drew := Ext.drew W
  clear h hX hbm hbs hsz hW
  cases hv : validM x y G
  · have HN := Lib.hid (show tradeOk x y G s = false by simp [tradeOk, hv])
    rw [hv] at HV
    clear hv
    go_enter Try.func31, Try.ntmps31
    go_wp2
    rw [← HW.out]
    refine wp_region_held_drew (S := (fun w' => w'.cell? ⟨w.heap.size, 0, none⟩ = some (.int .i64 x) ∧ w'.cell? ⟨w.heap.size, 1, none⟩ = some (.int .i64 y) ∧ w'.cell? ⟨w.heap.size, 2, none⟩ = some (.slice a n cap) ∧ Ext W w')) (by kernel_rfl) ?_ (fun hHeld => ?_)
    · exact ⟨hk2.cellSome c0, hk2.cellSome c1, hk2.cellSome c2, hk2⟩
    refine wpAnyH_take (i := 0) (oi := ?_) (v := ?_) ?_ ?_ ?_ ?_ ?_ ?_ ?_ ?_
    rotate_left 2
    · simp only [List.getElem?_toArray, List.getElem?_cons_succ, List.getElem?_cons_zero]; rfl
    · kernel_rfl
    · kernel_rfl
    · kernel_rfl
    · exact fun _ _ _ h => h
    · refine Or.inl ⟨by rfl, ?_⟩; intro w hSw; (try dsimp only at hSw); go_simp; (try with_reducible rfl)
    · assumption
    try simp only [Act.put, List.setIfInBounds_toArray, List.set_cons_zero, List.set_cons_succ]
    refine wpAnyH_ready (rs := [1]) (by kernel_rfl) (by simp) ?_
    refine AllReadyH.cons (o := ?_) ?_ (fun K hK => ?_) AllReadyH.nil
    rotate_left
    · simp only [List.getElem?_toArray, List.getElem?_cons_succ, List.getElem?_cons_zero]; rfl
    go_simp
    (go_at_call 96; refine HV.out.mono ?_; rintro e w3 ⟨rfl, hx3⟩; have hk2 := hk2.trans hx3)
    go_wp2_with fail
    refine hK.out _ _ ?_ (fun hHeld => ?_)
    · exact ⟨hk2.cellSome c0, hk2.cellSome c1, hk2.cellSome c2, hk2⟩
    clear hK K
    try simp only [Act.put, List.setIfInBounds_toArray, List.set_cons_zero, List.set_cons_succ]
    refine wpAnyH_take (i := 2) (oi := ?_) (v := ?_) ?_ ?_ ?_ ?_ ?_ ?_ ?_ ?_
    rotate_left 2
    · simp only [List.getElem?_toArray, List.getElem?_cons_succ, List.getElem?_cons_zero]; rfl
    · kernel_rfl
    · kernel_rfl
    · kernel_rfl
    · exact fun _ _ _ h => h
    · refine Or.inl ⟨by rfl, ?_⟩; intro w hSw; (try dsimp only at hSw); go_simp; (try with_reducible rfl)
    · assumption
    try simp only [Act.put, List.setIfInBounds_toArray, List.set_cons_zero, List.set_cons_succ]
    refine wpAnyH_take (i := 3) (oi := ?_) (v := ?_) ?_ ?_ ?_ ?_ ?_ ?_ ?_ ?_
    rotate_left 2
    · simp only [List.getElem?_toArray, List.getElem?_cons_succ, List.getElem?_cons_zero]; rfl
    · kernel_rfl
    · kernel_rfl
    · kernel_rfl
    · exact fun _ _ _ h => h
    · refine Or.inl ⟨by rfl, ?_⟩; intro w hSw; (try dsimp only at hSw); go_simp; (try with_reducible rfl)
    · assumption
    try simp only [Act.put, List.setIfInBounds_toArray, List.set_cons_zero, List.set_cons_succ]
    refine wpAnyH_take (i := 4) (oi := ?_) (v := undef) ?_ ?_ ?_ ?_ ?_ ?_ ?_ ?_
    rotate_left
    · simp only [List.getElem?_toArray, List.getElem?_cons_succ, List.getElem?_cons_zero]; rfl
    · kernel_rfl
    · kernel_rfl
    · kernel_rfl
    · exact fun _ _ _ h => h
    · exact Or.inr ⟨by rfl, rfl⟩
    · assumption
    try simp only [Act.put, List.setIfInBounds_toArray, List.set_cons_zero, List.set_cons_succ]
    refine wpAnyH_take (i := 5) (oi := ?_) (v := undef) ?_ ?_ ?_ ?_ ?_ ?_ ?_ ?_
    rotate_left
    · simp only [List.getElem?_toArray, List.getElem?_cons_succ, List.getElem?_cons_zero]; rfl
    · kernel_rfl
    · kernel_rfl
    · kernel_rfl
    · exact fun _ _ _ h => h
    · exact Or.inr ⟨by rfl, rfl⟩
    · assumption
    try simp only [Act.put, List.setIfInBounds_toArray, List.set_cons_zero, List.set_cons_succ]
    refine wpAnyH_take (i := 6) (oi := ?_) (v := undef) ?_ ?_ ?_ ?_ ?_ ?_ ?_ ?_
    rotate_left
    · simp only [List.getElem?_toArray, List.getElem?_cons_succ, List.getElem?_cons_zero]; rfl
    · kernel_rfl
    · kernel_rfl
    · kernel_rfl
    · exact fun _ _ _ h => h
    · exact Or.inr ⟨by rfl, rfl⟩
    · assumption
    try simp only [Act.put, List.setIfInBounds_toArray, List.set_cons_zero, List.set_cons_succ]
    refine wpAnyH_take (i := 7) (oi := ?_) (v := undef) ?_ ?_ ?_ ?_ ?_ ?_ ?_ ?_
    rotate_left
    · simp only [List.getElem?_toArray, List.getElem?_cons_succ, List.getElem?_cons_zero]; rfl
    · kernel_rfl
    · kernel_rfl
    · kernel_rfl
    · exact fun _ _ _ h => h
    · exact Or.inr ⟨by rfl, rfl⟩
    · assumption
    try simp only [Act.put, List.setIfInBounds_toArray, List.set_cons_zero, List.set_cons_succ]
    refine wpAnyH_take (i := 8) (oi := ?_) (v := undef) ?_ ?_ ?_ ?_ ?_ ?_ ?_ ?_
    rotate_left
    · simp only [List.getElem?_toArray, List.getElem?_cons_succ, List.getElem?_cons_zero]; rfl
    · kernel_rfl
    · kernel_rfl
    · kernel_rfl
    · exact fun _ _ _ h => h
    · exact Or.inr ⟨by rfl, rfl⟩
    · assumption
    try simp only [Act.put, List.setIfInBounds_toArray, List.set_cons_zero, List.set_cons_succ]
    refine wpAnyH_take (i := 9) (oi := ?_) (v := undef) ?_ ?_ ?_ ?_ ?_ ?_ ?_ ?_
    rotate_left
    · simp only [List.getElem?_toArray, List.getElem?_cons_succ, List.getElem?_cons_zero]; rfl
    · kernel_rfl
    · kernel_rfl
    · kernel_rfl
    · exact fun _ _ _ h => h
    · exact Or.inr ⟨by rfl, rfl⟩
    · assumption
    try simp only [Act.put, List.setIfInBounds_toArray, List.set_cons_zero, List.set_cons_succ]
    refine wpAnyH_take (i := 10) (oi := ?_) (v := undef) ?_ ?_ ?_ ?_ ?_ ?_ ?_ ?_
    rotate_left
    · simp only [List.getElem?_toArray, List.getElem?_cons_succ, List.getElem?_cons_zero]; rfl
    · kernel_rfl
    · kernel_rfl
    · kernel_rfl
    · exact fun _ _ _ h => h
    · exact Or.inr ⟨by rfl, rfl⟩
    · assumption
    try simp only [Act.put, List.setIfInBounds_toArray, List.set_cons_zero, List.set_cons_succ]
    refine wpAnyH_take (i := 11) (oi := ?_) (v := undef) ?_ ?_ ?_ ?_ ?_ ?_ ?_ ?_
    rotate_left
    · simp only [List.getElem?_toArray, List.getElem?_cons_succ, List.getElem?_cons_zero]; rfl
    · kernel_rfl
    · kernel_rfl
    · kernel_rfl
    · exact fun _ _ _ h => h
    · exact Or.inr ⟨by rfl, rfl⟩
    · assumption
    try simp only [Act.put, List.setIfInBounds_toArray, List.set_cons_zero, List.set_cons_succ]
    refine wpAnyH_take (i := 12) (oi := ?_) (v := undef) ?_ ?_ ?_ ?_ ?_ ?_ ?_ ?_
    rotate_left
    · simp only [List.getElem?_toArray, List.getElem?_cons_succ, List.getElem?_cons_zero]; rfl
    · kernel_rfl
    · kernel_rfl
    · kernel_rfl
    · exact fun _ _ _ h => h
    · exact Or.inr ⟨by rfl, rfl⟩
    · assumption
    try simp only [Act.put, List.setIfInBounds_toArray, List.set_cons_zero, List.set_cons_succ]
    refine wpAnyH_take (i := 13) (oi := ?_) (v := undef) ?_ ?_ ?_ ?_ ?_ ?_ ?_ ?_
    rotate_left
    · simp only [List.getElem?_toArray, List.getElem?_cons_succ, List.getElem?_cons_zero]; rfl
    · kernel_rfl
    · kernel_rfl
    · kernel_rfl
    · exact fun _ _ _ h => h
    · exact Or.inr ⟨by rfl, rfl⟩
    · assumption
    try simp only [Act.put, List.setIfInBounds_toArray, List.set_cons_zero, List.set_cons_succ]
    refine wpAnyH_take (i := 14) (oi := ?_) (v := ?_) ?_ ?_ ?_ ?_ ?_ ?_ ?_ ?_
    rotate_left 2
    · simp only [List.getElem?_toArray, List.getElem?_cons_succ, List.getElem?_cons_zero]; rfl
    · kernel_rfl
    · kernel_rfl
    · kernel_rfl
    · exact fun _ _ _ h => h
    · refine Or.inl ⟨by rfl, ?_⟩; intro w hSw; (try dsimp only at hSw); go_simp; (try with_reducible rfl)
    · assumption
    try simp only [Act.put, List.setIfInBounds_toArray, List.set_cons_zero, List.set_cons_succ]
    refine wpAnyH_done (by kernel_rfl) ?_ _
    go_wp2
    rw [tradeR_not HN.out, HN.out]
    refine bodyPost_ret (v := .tuple #[.slice none 0 0, .int .i64 0, .bool false]) (by simp [results, Try.results31, go_sem]) rfl ⟨⟨_, rfl, OwnI.nil _ _⟩, HX.out.trans hk2⟩
  rw [hv] at HV
  obtain ⟨S, B, rfl, rfl, hM⟩ := validM_good hv
  have hsb := hM.sb
  have hcn := cntC_nat (S + B) hsb
  have hN := cN_le (S + B) hsb
  have hcn' : cntC ((S : Int) + (B : Int)) = (cN (S + B) : Int) := by rw [← hcn]; simp
  have HC := Lib.hid hcn'
  have HM := Lib.hid hM
  have eSB : IntKind.i64.wrap ((S : Int) + (B : Int)) = (S : Int) + (B : Int) := by rw [IntKind.wrap_i64]; omega
  have eN : IntKind.i64.wrap ((cN (S + B) : Int) - 1) = (cN (S + B) : Int) - 1 := by rw [IntKind.wrap_i64]; omega
  cases hin : inB s 0 ((cN (S + B) : Int) - 1)
  · have HIN := Lib.hid hin
    have HN := Lib.hid (show tradeOk (S : Int) (B : Int) G s = false by simp [tradeOk, hv, hcn', hin])
    clear hv hin hcn' hcn hM
    go_enter Try.func31, Try.ntmps31
    go_wp2
    rw [← HW.out]
    go_region_held3 (fun w' => w'.cell? ⟨w.heap.size, 0, none⟩ = some (.int .i64 (S : Int)) ∧ w'.cell? ⟨w.heap.size, 1, none⟩ = some (.int .i64 (B : Int)) ∧ w'.cell? ⟨w.heap.size, 2, none⟩ = some (.slice a n cap) ∧ w'.cell? ⟨w.heap.size + 1, 0, none⟩ = some (.int .i64 s) ∧ Ext W w')
      (exact ⟨hk2.cellSome c0, hk2.cellSome c1, hk2.cellSome c2, hk2.cellSome cs, hk2⟩)
      (first
        | (go_at_call 96; refine HV.out.mono ?_; rintro e w3 ⟨rfl, hx3⟩; have hk2 := hk2.trans hx3)
        | (go_at_call 98; refine (i_CountCoalitions _ _).mono ?_; rw [HC.out]; rintro e w' ⟨rfl, rfl⟩)
        | (go_at_call 97; refine (i_within _ _ _ _).mono ?_; rw [HIN.out]; rintro e w' ⟨rfl, rfl⟩))
    go_wp2
    rw [tradeR_not HN.out, HN.out]
    refine bodyPost_ret (v := .tuple #[.slice none 0 0, .int .i64 0, .bool false]) (by simp [results, Try.results31, go_sem]) rfl ⟨⟨_, rfl, OwnI.nil _ _⟩, HX.out.trans hk2⟩
  · have HIN := Lib.hid hin
    have HOK := Lib.hid (show tradeOk (S : Int) (B : Int) G s = true by simp [tradeOk, hv, hcn', hin])
    obtain ⟨t, rfl⟩ : ∃ t : Nat, s = t := ⟨s.toNat, by unfold inB at hin; simp at hin; omega⟩
    have ht : t < 32 := by unfold inB at hin; simp at hin; omega
    have hmk := mk_ints S (by omega)
    clear hv hin hcn' hcn hM hN
    go_enter Try.func31, Try.ntmps31
    go_wp2
    rw [← HW.out]
    go_region_held3 (fun w' => w'.cell? ⟨w.heap.size, 0, none⟩ = some (.int .i64 (S : Int)) ∧ w'.cell? ⟨w.heap.size, 1, none⟩ = some (.int .i64 (B : Int)) ∧ w'.cell? ⟨w.heap.size, 2, none⟩ = some (.slice a n cap) ∧ w'.cell? ⟨w.heap.size + 1, 0, none⟩ = some (.int .i64 (t : Int)) ∧ Ext W w')
      (exact ⟨hk2.cellSome c0, hk2.cellSome c1, hk2.cellSome c2, hk2.cellSome cs, hk2⟩)
      (first
        | (go_at_call 96; refine HV.out.mono ?_; rintro e w3 ⟨rfl, hx3⟩; have hk2 := hk2.trans hx3)
        | (go_at_call 98; refine (i_CountCoalitions _ _).mono ?_; rw [HC.out]; rintro e w' ⟨rfl, rfl⟩)
        | (go_at_call 97; refine (i_within _ _ _ _).mono ?_; rw [HIN.out]; rintro e w' ⟨rfl, rfl⟩))
    have d0 := hk2.cellSome c0
    have ds := hk2.cellSome cs
    have hlt3 : w.heap.size + 1 < w3.heap.size := World.block_lt_of_cell? _ _ ds
    have hltm : w.heap.size < w3.heap.size := by omega
    have X3 := Lib.hid (HX.out.trans hk2)
    have HM3 := Lib.hid ((hk2.block _ (by have := HSZ.out; omega)).trans HBM.out)
    have HS3 := Lib.hid ((hk2.block _ (by have := HSZ.out; omega)).trans HBS.out)
    clear hk2 c0 c1 c2 cs
    have hS : StT w (((((w3.alloc (.cells #[.slice none 0 0] 34)).alloc (.cells #[.int .i64 (-1)] 3)).alloc (.cells (intCells (List.replicate S 0)) 3)).alloc (.cells #[.slice (some ⟨w3.heap.size + 1 + 1, 0, none⟩) S S] 34)).alloc
        (.cells #[.func (.func 99) #[] (capsT w.heap.size (w.heap.size + 1) w3.heap.size (w3.heap.size + 1) (w3.heap.size + 1 + 1 + 1) (w3.heap.size + 1 + 1 + 1 + 1))] 120))
        S B t a n cap w.heap.size (w.heap.size + 1) w3.heap.size (w3.heap.size + 1) (w3.heap.size + 1 + 1) (w3.heap.size + 1 + 1 + 1) (w3.heap.size + 1 + 1 + 1 + 1) (w3.heap.size + 1 + 1 + 1 + 1 + 1) none 0 0 ⟨List.replicate S 0, [], -1⟩ := by
      have hx : Ext w3 (((((w3.alloc (.cells #[.slice none 0 0] 34)).alloc (.cells #[.int .i64 (-1)] 3)).alloc (.cells (intCells (List.replicate S 0)) 3)).alloc (.cells #[.slice (some ⟨w3.heap.size + 1 + 1, 0, none⟩) S S] 34)).alloc
        (.cells #[.func (.func 99) #[] (capsT w.heap.size (w.heap.size + 1) w3.heap.size (w3.heap.size + 1) (w3.heap.size + 1 + 1 + 1) (w3.heap.size + 1 + 1 + 1 + 1))] 120)) :=
        (((((Ext.alloc _ _).trans (Ext.alloc _ _)).trans (Ext.alloc _ _)).trans (Ext.alloc _ _)).trans (Ext.alloc _ _))
      refine ⟨by simp; omega, ?_, ?_, ?_, ?_, ?_, ?_, ?_, OwnI.nil _ _, by simp, X3.out.trans hx⟩
      · exact (hx.block _ (by omega)).trans HM3.out
      · exact (hx.block _ (by omega)).trans HS3.out
      · repeat (first | exact heapA_new _ _ _ (by simp) | rw [heapA_old _ _ _ (by simp; omega)] | rw [heapA_old _ _ _ (by simp)])
      · repeat (first | exact heapA_new _ _ _ (by simp) | rw [heapA_old _ _ _ (by simp; omega)] | rw [heapA_old _ _ _ (by simp)])
      · unfold Row
        repeat (first | exact heapA_new _ _ _ (by simp) | rw [heapA_old _ _ _ (by simp; omega)] | rw [heapA_old _ _ _ (by simp)])
      · repeat (first | exact heapA_new _ _ _ (by simp) | rw [heapA_old _ _ _ (by simp; omega)] | rw [heapA_old _ _ _ (by simp)])
      · repeat (first | exact heapA_new _ _ _ (by simp) | rw [heapA_old _ _ _ (by simp; omega)] | rw [heapA_old _ _ _ (by simp)])
    have T1 := Lib.hid (i_walk HM.out ht HG.out _ _ _ _ _ _ _ _ S 0 0 (t : Int) 0 t _ _ _ _ _ rfl rfl (by omega) ht (by omega) (by simp) hS)
    have hcf : ∀ (args : Array Value) (w : World), (callFunc 99 args).run Try.prog w = .ok (.enter 99 args) w := go_BestTrades1
    have csW := cell_of_one hS.hs
    have hq1 : w.heap.size ≠ w3.heap.size := by omega
    have hq2 : w.heap.size ≠ w3.heap.size + 1 := by omega
    have hq3 : w.heap.size ≠ w3.heap.size + 1 + 1 := by omega
    have hq4 : w.heap.size ≠ w3.heap.size + 1 + 1 + 1 := by omega
    have hq5 : w.heap.size + 1 ≠ w3.heap.size := by omega
    have hq6 : w.heap.size < w3.heap.size + 1 + 1 + 1 := by omega
    have hq7 : w.heap.size < w3.heap.size + 1 + 1 := by omega
    have hq8 : w.heap.size < w3.heap.size + 1 := by omega
    clear hS
    go_wp2_with fail
    refine T1.out.mono ?_
    rintro e w7 ⟨rfl, a5, n5, c5, hS7⟩
    have HS7 := Lib.hid hS7
    have cb := cell_of_one hS7.hb
    have co := cell_of_one hS7.ho
    have hF := walkF_best S B G t hsb S t [] 0 ⟨List.replicate S 0, [], -1⟩ (Nat.le_refl _) (by simp) ht (fun j _ => by simp [hasI])
    have hbd := bestF_bd S B G t HM.out.bd S []
    unfold Found at hF
    obtain ⟨f1, f2, f3⟩ := hF
    simp only [Nat.sub_self, List.take_zero, List.nil_append, Int.zero_add] at f3
    have f4 : (walkF S B G t S t 0 ⟨List.replicate S 0, [], -1⟩).best = (bestF S B G t S []).1 ∧ (walkF S B G t S t 0 ⟨List.replicate S 0, [], -1⟩).most = (bestF S B G t S []).2 := by
      rcases f3 with ⟨_, g2, g3⟩ | ⟨g1, _⟩
      · exact ⟨g2, g3⟩
      · omega
    have HF := Lib.hid f4
    obtain ⟨mo, hmo⟩ : ∃ m, m = (walkF S B G t S t 0 ⟨List.replicate S 0, [], -1⟩).most := ⟨_, rfl⟩
    rw [← hmo] at co
    have HMO := Lib.hid hmo
    clear hS7 f1 f2 f3 f4 hbd hmo hmk hcf
    go_wp2
    go_quiet (fail)
    go_wp2
    rw [HOK.out, tradeR_ok HOK.out]
    refine bodyPost_ret (v := .tuple #[.slice a5 n5 c5, .int .i64 mo, .bool true]) (by simp [results, Try.results31, go_sem]) rfl ⟨⟨_, by rw [← HF.out.2, ← HMO.out], ?_⟩, HS7.out.bel.trans (Drew.ext ⟨_, rfl⟩)⟩
    rw [← HF.out.1]
    exact (HS7.out.own.ext (Drew.ext ⟨_, rfl⟩)).mono (by omega)
end Go.Proofs.Ytokpmflhgehicaa
