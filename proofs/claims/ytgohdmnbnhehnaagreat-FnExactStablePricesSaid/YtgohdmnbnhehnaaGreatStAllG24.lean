import Derived.Test.YtgohdmnbnhehnaaGreatStAllG23
import Derived.Test.YtgohdmnbnhehnaaGreatStAllG22
import Derived.Test.YtgohdmnbnhehnaaGreatStAllG2
namespace Go.Proofs.YtgohdmnbnhehnaaGreat
set_option linter.unusedVariables false
set_option linter.unusedSimpArgs false
set_option maxRecDepth 100000
open Go.RowKit
set_option maxHeartbeats 4000000 in
theorem i_BestTrades {w : World} {x y s : Int} {a : Option Addr} {n cap : Nat} {G : List (List Int)} (h : IntSS w a n cap G) :
    Calls Tryz.prog 145 #[triple x y a n cap, .int .i64 s] w fun e w' => (∃ v, e = .returned (.tuple #[v, .int .i64 (tradeR x y G s).2, .bool (tradeOk x y G s)]) ∧ OwnI w' w.heap.size v (tradeR x y G s).1) ∧ Ext w w' := by
  obtain ⟨W, hW⟩ : ∃ W, W = (w.alloc (.cells #[.int .i64 x, .int .i64 y, .slice a n cap] 33)).alloc (.cells #[.int .i64 s] 3) := ⟨_, rfl⟩
  have hX : Ext w W := by rw [hW]; exact (Ext.alloc _ _).trans (Ext.alloc _ _)
  have HX := Lib.hid hX
  have HG := Lib.hid h
  have HV := Lib.hid (i_IsValidMarket (x := x) (y := y) ((h.ext hX).ext (Ext.drew W)))
  have hsz : W.heap.size = w.heap.size + 1 + 1 := by rw [hW]; simp
  have hbm : W.heap[w.heap.size]? = some (.cells #[.int .i64 x, .int .i64 y, .slice a n cap] 33 (0, 0)) := by rw [hW, heapA_old _ _ _ (by simp)]; exact heapA_new _ _ _ rfl
  have hbs : W.heap[w.heap.size + 1]? = some (.cells #[.int .i64 s] 3 (0, 0)) := by rw [hW]; exact heapA_new _ _ _ (by simp)
  have c0 : W.cell? ⟨w.heap.size, 0, none⟩ = some (.int .i64 x) := by rw [cell_of_row _ _ _ _ _ _ hbm]; rfl
  have c1 : W.cell? ⟨w.heap.size, 1, none⟩ = some (.int .i64 y) := by rw [cell_of_row _ _ _ _ _ _ hbm]; rfl
  have c2 : W.cell? ⟨w.heap.size, 2, none⟩ = some (.slice a n cap) := by rw [cell_of_row _ _ _ _ _ _ hbm]; rfl
  have cs := cell_of_one hbs
  have HBM := Lib.hid hbm
  have HBS := Lib.hid hbs
  have HSZ := Lib.hid hsz
  have HW := Lib.hid hW
  have hk2 : Ext W W.drew := Ext.drew W
  clear h hX hbm hbs hsz hW
  cases hv : validM x y G
  · have HN := Lib.hid (show tradeOk x y G s = false by simp [tradeOk, hv])
    rw [hv] at HV
    clear hv
    go_enter Tryz.func145, Tryz.ntmps145
    go_wp2
    rw [← HW.out]
    refine wp_region_held_drew (S := (fun w' => w'.cell? ⟨w.heap.size, 0, none⟩ = some (.int .i64 x) ∧ w'.cell? ⟨w.heap.size, 1, none⟩ = some (.int .i64 y) ∧ w'.cell? ⟨w.heap.size, 2, none⟩ = some (.slice a n cap) ∧ Ext W w')) (by kernel_rfl) ?_ (fun hHeld => ?_)
    · exact ⟨hk2.cellSome c0, hk2.cellSome c1, hk2.cellSome c2, hk2⟩
    refine tk (i := 0) (h := ?_)
    try simp only [Act.put, sA, sB, sC]
    refine rd (i := 1) (h := fun K hK => ?_)
    go_simp
    (go_at_call 142; refine HV.out.mono ?_; rintro e w3 ⟨rfl, hx3⟩; have hk2 := hk2.trans hx3)
    go_wp2_with fail
    refine hK.out _ _ ?_ (fun hHeld => ?_)
    · exact ⟨hk2.cellSome c0, hk2.cellSome c1, hk2.cellSome c2, hk2⟩
    clear hK K
    try simp only [Act.put, sA, sB, sC]
    refine tk (i := 2) (h := ?_)
    try simp only [Act.put, sA, sB, sC]
    refine tk (i := 3) (h := ?_)
    try simp only [Act.put, sA, sB, sC]
    refine sk (i := 4) (h := ?_)
    try simp only [Act.put, sA, sB, sC]
    refine sk (i := 5) (h := ?_)
    try simp only [Act.put, sA, sB, sC]
    refine sk (i := 6) (h := ?_)
    try simp only [Act.put, sA, sB, sC]
    refine sk (i := 7) (h := ?_)
    try simp only [Act.put, sA, sB, sC]
    refine sk (i := 8) (h := ?_)
    try simp only [Act.put, sA, sB, sC]
    refine sk (i := 9) (h := ?_)
    try simp only [Act.put, sA, sB, sC]
    refine sk (i := 10) (h := ?_)
    try simp only [Act.put, sA, sB, sC]
    refine sk (i := 11) (h := ?_)
    try simp only [Act.put, sA, sB, sC]
    refine sk (i := 12) (h := ?_)
    try simp only [Act.put, sA, sB, sC]
    refine sk (i := 13) (h := ?_)
    try simp only [Act.put, sA, sB, sC]
    refine tk (i := 14) (h := ?_)
    try simp only [Act.put, sA, sB, sC]
    refine wpAnyH_done (by kernel_rfl) ?_ _
    go_wp2
    rw [tradeR_not HN.out, HN.out]
    refine bodyPost_ret (v := .tuple #[.slice none 0 0, .int .i64 0, .bool false]) (by simp [results, Tryz.results145, go_sem]) rfl ⟨⟨_, rfl, OwnI.nil _ _⟩, HX.out.trans hk2⟩
  rw [hv] at HV
  obtain ⟨S, B, rfl, rfl, hM⟩ := validM_good hv
  have hsb := hM.sb
  have hcn := cntC_nat (S + B) hsb
  have hN := cN_le (S + B) hsb
  have hcn' : cntC ((S : Int) + (B : Int)) = (cN (S + B) : Int) := by rw [← hcn]; simp
  have HC := Lib.hid hcn'
  have HM := Lib.hid hM
  have eSB : IntKind.i64.wrap ((S : Int) + (B : Int)) = (S : Int) + (B : Int) := by rw [IntKind.wrap_i64]; omega
  have eN : IntKind.i64.wrap ((cN (S + B) : Int) - 1) = (cN (S + B) : Int) - 1 := by rw [IntKind.wrap_i64]; omega
  cases hin : inB s 0 ((cN (S + B) : Int) - 1)
  · have HIN := Lib.hid hin
    have HN := Lib.hid (show tradeOk (S : Int) (B : Int) G s = false by simp [tradeOk, hv, hcn', hin])
    clear hv hin hcn' hcn hM
    go_enter Tryz.func145, Tryz.ntmps145
    go_wp2
    rw [← HW.out]
    go_region_held3 (fun w' => w'.cell? ⟨w.heap.size, 0, none⟩ = some (.int .i64 (S : Int)) ∧ w'.cell? ⟨w.heap.size, 1, none⟩ = some (.int .i64 (B : Int)) ∧ w'.cell? ⟨w.heap.size, 2, none⟩ = some (.slice a n cap) ∧ w'.cell? ⟨w.heap.size + 1, 0, none⟩ = some (.int .i64 s) ∧ Ext W w')
      (exact ⟨hk2.cellSome c0, hk2.cellSome c1, hk2.cellSome c2, hk2.cellSome cs, hk2⟩)
      (first
        | (go_at_call 142; refine HV.out.mono ?_; rintro e w3 ⟨rfl, hx3⟩; have hk2 := hk2.trans hx3)
        | (go_at_call 65; refine (i_CountCoalitions _ _).mono ?_; rw [HC.out]; rintro e w' ⟨rfl, rfl⟩)
        | (go_at_call 62; refine (i_within _ _ _ _).mono ?_; rw [HIN.out]; rintro e w' ⟨rfl, rfl⟩))
    go_wp2
    rw [tradeR_not HN.out, HN.out]
    refine bodyPost_ret (v := .tuple #[.slice none 0 0, .int .i64 0, .bool false]) (by simp [results, Tryz.results145, go_sem]) rfl ⟨⟨_, rfl, OwnI.nil _ _⟩, HX.out.trans hk2⟩
  · have HIN := Lib.hid hin
    have HOK := Lib.hid (show tradeOk (S : Int) (B : Int) G s = true by simp [tradeOk, hv, hcn', hin])
    obtain ⟨t, rfl⟩ : ∃ t : Nat, s = t := ⟨s.toNat, by unfold inB at hin; simp at hin; omega⟩
    have ht : t < 32 := by unfold inB at hin; simp at hin; omega
    have hmk := mk_ints S (by omega)
    clear hv hin hcn' hcn hM hN
    go_enter Tryz.func145, Tryz.ntmps145
    go_wp2
    rw [← HW.out]
    go_region_held3 (fun w' => w'.cell? ⟨w.heap.size, 0, none⟩ = some (.int .i64 (S : Int)) ∧ w'.cell? ⟨w.heap.size, 1, none⟩ = some (.int .i64 (B : Int)) ∧ w'.cell? ⟨w.heap.size, 2, none⟩ = some (.slice a n cap) ∧ w'.cell? ⟨w.heap.size + 1, 0, none⟩ = some (.int .i64 (t : Int)) ∧ Ext W w')
      (exact ⟨hk2.cellSome c0, hk2.cellSome c1, hk2.cellSome c2, hk2.cellSome cs, hk2⟩)
      (first
        | (go_at_call 142; refine HV.out.mono ?_; rintro e w3 ⟨rfl, hx3⟩; have hk2 := hk2.trans hx3)
        | (go_at_call 65; refine (i_CountCoalitions _ _).mono ?_; rw [HC.out]; rintro e w' ⟨rfl, rfl⟩)
        | (go_at_call 62; refine (i_within _ _ _ _).mono ?_; rw [HIN.out]; rintro e w' ⟨rfl, rfl⟩))
    have d0 := hk2.cellSome c0
    have ds := hk2.cellSome cs
    have hlt3 : w.heap.size + 1 < w3.heap.size := World.block_lt_of_cell? _ _ ds
    have hltm : w.heap.size < w3.heap.size := by omega
    have X3 := Lib.hid (HX.out.trans hk2)
    have HM3 := Lib.hid ((hk2.block _ (by have := HSZ.out; omega)).trans HBM.out)
    have HS3 := Lib.hid ((hk2.block _ (by have := HSZ.out; omega)).trans HBS.out)
    clear hk2 c0 c1 c2 cs
    have hS : StT w (((((w3.alloc (.cells #[.slice none 0 0] 22)).alloc (.cells #[.int .i64 (-1)] 3)).alloc (.cells (intCells (List.replicate S 0)) 3)).alloc (.cells #[.slice (some ⟨w3.heap.size + 1 + 1, 0, none⟩) S S] 22)).alloc
        (.cells #[.func (.func 203) #[] (capsT w.heap.size (w.heap.size + 1) w3.heap.size (w3.heap.size + 1) (w3.heap.size + 1 + 1 + 1) (w3.heap.size + 1 + 1 + 1 + 1))] 197))
        S B t a n cap w.heap.size (w.heap.size + 1) w3.heap.size (w3.heap.size + 1) (w3.heap.size + 1 + 1) (w3.heap.size + 1 + 1 + 1) (w3.heap.size + 1 + 1 + 1 + 1) (w3.heap.size + 1 + 1 + 1 + 1 + 1) none 0 0 ⟨List.replicate S 0, [], -1⟩ := by
      have hx : Ext w3 (((((w3.alloc (.cells #[.slice none 0 0] 22)).alloc (.cells #[.int .i64 (-1)] 3)).alloc (.cells (intCells (List.replicate S 0)) 3)).alloc (.cells #[.slice (some ⟨w3.heap.size + 1 + 1, 0, none⟩) S S] 22)).alloc
        (.cells #[.func (.func 203) #[] (capsT w.heap.size (w.heap.size + 1) w3.heap.size (w3.heap.size + 1) (w3.heap.size + 1 + 1 + 1) (w3.heap.size + 1 + 1 + 1 + 1))] 197)) :=
        (((((Ext.alloc _ _).trans (Ext.alloc _ _)).trans (Ext.alloc _ _)).trans (Ext.alloc _ _)).trans (Ext.alloc _ _))
      refine ⟨by simp; omega, ?_, ?_, ?_, ?_, ?_, ?_, ?_, OwnI.nil _ _, by simp, X3.out.trans hx⟩
      · exact (hx.block _ (by omega)).trans HM3.out
      · exact (hx.block _ (by omega)).trans HS3.out
      · repeat (first | exact heapA_new _ _ _ (by simp) | rw [heapA_old _ _ _ (by simp; omega)] | rw [heapA_old _ _ _ (by simp)])
      · repeat (first | exact heapA_new _ _ _ (by simp) | rw [heapA_old _ _ _ (by simp; omega)] | rw [heapA_old _ _ _ (by simp)])
      · unfold Row
        repeat (first | exact heapA_new _ _ _ (by simp) | rw [heapA_old _ _ _ (by simp; omega)] | rw [heapA_old _ _ _ (by simp)])
      · repeat (first | exact heapA_new _ _ _ (by simp) | rw [heapA_old _ _ _ (by simp; omega)] | rw [heapA_old _ _ _ (by simp)])
      · repeat (first | exact heapA_new _ _ _ (by simp) | rw [heapA_old _ _ _ (by simp; omega)] | rw [heapA_old _ _ _ (by simp)])
    have T1 := Lib.hid (i_walk HM.out ht HG.out _ _ _ _ _ _ _ _ S 0 0 (t : Int) 0 t _ _ _ _ _ rfl rfl (by omega) ht (by omega) (by simp) hS)
    have hcf : ∀ (args : Array Value) (w : World), (callFunc 203 args).run Tryz.prog w = .ok (.enter 203 args) w := go_BestTrades1
    have csW := cell_of_one hS.hs
    have hq1 : w.heap.size ≠ w3.heap.size := by omega
    have hq2 : w.heap.size ≠ w3.heap.size + 1 := by omega
    have hq3 : w.heap.size ≠ w3.heap.size + 1 + 1 := by omega
    have hq4 : w.heap.size ≠ w3.heap.size + 1 + 1 + 1 := by omega
    have hq5 : w.heap.size + 1 ≠ w3.heap.size := by omega
    have hq6 : w.heap.size < w3.heap.size + 1 + 1 + 1 := by omega
    have hq7 : w.heap.size < w3.heap.size + 1 + 1 := by omega
    have hq8 : w.heap.size < w3.heap.size + 1 := by omega
    clear hS
    go_wp2_with fail
    refine T1.out.mono ?_
    rintro e w7 ⟨rfl, a5, n5, c5, hS7⟩
    have HS7 := Lib.hid hS7
    have cb := cell_of_one hS7.hb
    have co := cell_of_one hS7.ho
    have hF := walkF_best S B G t hsb S t [] 0 ⟨List.replicate S 0, [], -1⟩ (Nat.le_refl _) (by simp) ht (fun j _ => by simp [hasI])
    have hbd := bestF_bd S B G t HM.out.bd S []
    unfold Found at hF
    obtain ⟨f1, f2, f3⟩ := hF
    simp only [Nat.sub_self, List.take_zero, List.nil_append, Int.zero_add] at f3
    have f4 : (walkF S B G t S t 0 ⟨List.replicate S 0, [], -1⟩).best = (bestF S B G t S []).1 ∧ (walkF S B G t S t 0 ⟨List.replicate S 0, [], -1⟩).most = (bestF S B G t S []).2 := by
      rcases f3 with ⟨_, g2, g3⟩ | ⟨g1, _⟩
      · exact ⟨g2, g3⟩
      · omega
    have HF := Lib.hid f4
    obtain ⟨mo, hmo⟩ : ∃ m, m = (walkF S B G t S t 0 ⟨List.replicate S 0, [], -1⟩).most := ⟨_, rfl⟩
    rw [← hmo] at co
    have HMO := Lib.hid hmo
    clear hS7 f1 f2 f3 f4 hbd hmo hmk hcf
    go_wp2
    go_quiet (fail)
    go_wp2
    rw [HOK.out, tradeR_ok HOK.out]
    refine bodyPost_ret (v := .tuple #[.slice a5 n5 c5, .int .i64 mo, .bool true]) (by simp [results, Tryz.results145, go_sem]) rfl ⟨⟨_, by rw [← HF.out.2, ← HMO.out], ?_⟩, HS7.out.bel.trans (Drew.ext ⟨_, rfl⟩)⟩
    rw [← HF.out.1]
    exact (HS7.out.own.ext (Drew.ext ⟨_, rfl⟩)).mono (by omega)
end Go.Proofs.YtgohdmnbnhehnaaGreat
namespace Go.Proofs.YtgohdmnbnhehnaaGreat
set_option linter.unusedVariables false
set_option linter.unusedSimpArgs false
set_option maxRecDepth 100000
open Go.RowKit
def asgF (S B : Nat) (G : List (List Int)) (s : Nat) : Int := (bestF S B G s S []).2
def asgP (x y : Int) (G : List (List Int)) : Nat := if validM x y G = true then (x + y).toNat else 0
def asgL (x y : Int) (G : List (List Int)) : List Int := if validM x y G = true then rowF (asgF x.toNat y.toNat G) (cN (x + y).toNat) else []
theorem bestF_zero (S B : Nat) (G : List (List Int)) : ∀ (r : Nat) (taken : List Int), (bestF S B G 0 r taken).2 = 0
  | 0, _ => rfl
  | r + 1, taken => by
    rw [bestF_succ]
    have hno : ∀ k, bestTo S B G 0 r taken k = (-1 :: (bestF S B G 0 r taken).1, (bestF S B G 0 r taken).2) := by
      intro k
      induction k with
      | zero => rfl
      | succ k ih => rw [bestTo_succ, if_neg (by simp [freeJ, bit]), ih]
    rw [hno]
    exact bestF_zero S B G r taken
theorem asgF_bd {S B : Nat} {G : List (List Int)} (hM : GoodM S B G) (s : Nat) : -500 ≤ asgF S B G s ∧ asgF S B G s ≤ 500 := by
  have := bestF_bd S B G s hM.bd S []
  have := hM.sb
  unfold asgF
  omega
theorem trade_ok {S B s : Nat} {G : List (List Int)} (hv : validM (S : Int) (B : Int) G = true) (hsb : S + B ≤ 5) (hs : s < cN (S + B)) : tradeOk (S : Int) (B : Int) G (s : Int) = true := by
  have hcn := cntC_nat (S + B) hsb
  have hcn' : cntC ((S : Int) + (B : Int)) = (cN (S + B) : Int) := by rw [← hcn]; simp
  unfold tradeOk inB
  rw [hv, hcn']
  simp
  omega
theorem go_AssignmentGame1 : IsGo Tryz.prog 144 := isGo Tryz.func144 (by kernel_rfl) (by kernel_rfl)
set_option maxHeartbeats 1000000 in
theorem i_AssignmentGame1 {w : World} {S B s bm : Nat} {a : Option Addr} {n cap : Nat} {G : List (List Int)} (h : IntSS w a n cap G) (hm : w.heap[bm]? = some (.cells #[.int .i64 (S : Int), .int .i64 (B : Int), .slice a n cap] 33 (0, 0)))
    (hv : validM (S : Int) (B : Int) G = true) (hsb : S + B ≤ 5) (hs : s < cN (S + B)) :
    Calls Tryz.prog 144 #[.int .i64 (s : Int), .pointer (some ⟨bm, 0, none⟩)] w fun e w' => e = .returned (.int .i64 (asgF S B G s)) ∧ Ext w w' := by
  have HB := Lib.hid (i_BestTrades (x := (S : Int)) (y := (B : Int)) (s := (s : Int)) h)
  have HR := Lib.hid (show (tradeR (S : Int) (B : Int) G (s : Int)).2 = asgF S B G s by rw [tradeR_ok (trade_ok hv hsb hs)]; rfl)
  have c0 : w.cell? ⟨bm, 0, none⟩ = some (.int .i64 (S : Int)) := by rw [cell_of_row _ _ _ _ _ _ hm]; rfl
  have c1 : w.cell? ⟨bm, 1, none⟩ = some (.int .i64 (B : Int)) := by rw [cell_of_row _ _ _ _ _ _ hm]; rfl
  have c2 : w.cell? ⟨bm, 2, none⟩ = some (.slice a n cap) := by rw [cell_of_row _ _ _ _ _ _ hm]; rfl
  clear h hm hv hs
  go_enter Tryz.func144, Tryz.ntmps144
  go_wp2_with fail
  refine HB.out.mono ?_
  rw [HR.out]
  rintro e w1 ⟨⟨v, rfl, ho⟩, hx⟩
  go_wp2
  go_ret
  exact ⟨rfl, hx⟩
set_option maxHeartbeats 4000000 in
theorem i_AssignmentGame {w : World} {x y : Int} {a : Option Addr} {n cap : Nat} {G : List (List Int)} (h : IntSS w a n cap G) :
    Calls Tryz.prog 74 #[triple x y a n cap] w fun e w' => GameV w' w.heap.size e (asgP x y G) (asgL x y G) (validM x y G) ∧ Ext w w' := by
  have HX := Lib.hid ((Ext.alloc w (.cells #[.int .i64 x, .int .i64 y, .slice a n cap] 33)).trans (Ext.alloc _ (.cells #[.int .i64 0, .slice none 0 0] 47)))
  have HV := Lib.hid (i_IsValidMarket (x := x) (y := y) (h.ext HX.out))
  have HI := Lib.hid (h.ext HX.out)
  clear h
  cases hv : validM x y G
  · rw [hv] at HV
    have HVV := Lib.hid hv
    clear hv
    go_enter Tryz.func74, Tryz.ntmps74
    go_wp2_with fail
    refine HV.out.mono ?_
    rintro e w1 ⟨rfl, hx⟩
    have r0 : w1.cell? ⟨w.heap.size + 1, 0, none⟩ = some (.int .i64 0) := hx.cellSome (by simp)
    have r1 : w1.cell? ⟨w.heap.size + 1, 1, none⟩ = some (.slice none 0 0) := hx.cellSome (by simp)
    have f0 : w1.frozen? ⟨w.heap.size + 1, 0, none⟩ = false := (hx.frozens _ _ (by simp)).trans (by simp)
    have f1 : w1.frozen? ⟨w.heap.size + 1, 1, none⟩ = false := (hx.frozens _ _ (by simp)).trans (by simp)
    have HX1 := Lib.hid (HX.out.trans hx)
    clear hx
    go_wp2
    refine bodyPost_ret (v := .tuple #[.agg #[.int .i64 0, .slice none 0 0], .bool false]) (by simp [results, Tryz.results74, go_sem, r0, r1]) rfl ⟨⟨.slice none 0 0, ?_, ?_⟩, ?_⟩
    · unfold asgP; rw [HVV.out]; rfl
    · unfold asgL; rw [HVV.out]; exact ⟨rfl, .inl ⟨rfl, rfl⟩⟩
    · exact (HX1.out.setCell (by simp) _).setCell (by simp) _
  · rw [hv] at HV
    obtain ⟨S, B, rfl, rfl, hM⟩ := validM_good hv
    have hsb := hM.sb
    have hN := cN_le (S + B) hsb
    have h1 : 1 ≤ S + B := by have := hM.s1; omega
    have HVV := Lib.hid hv
    have HM := Lib.hid hM
    have hSB : (S : Int) + (B : Int) = ((S + B : Nat) : Int) := by simp
    have HSB := Lib.hid hSB
    clear hv hM hSB
    go_enter Tryz.func74, Tryz.ntmps74
    go_wp2_with fail
    refine HV.out.mono ?_
    rintro e w1 ⟨rfl, hx⟩
    have c0 : w1.cell? ⟨w.heap.size, 0, none⟩ = some (.int .i64 (S : Int)) := hx.cellSome (by simp)
    have c1 : w1.cell? ⟨w.heap.size, 1, none⟩ = some (.int .i64 (B : Int)) := hx.cellSome (by simp)
    have HB := Lib.hid (show w1.heap[w.heap.size]? = some (.cells #[.int .i64 (S : Int), .int .i64 (B : Int), .slice a n cap] 33 (0, 0)) from (hx.block _ (by simp; omega)).trans (by rw [heapA_old _ _ _ (by simp)]; exact heapA_new _ _ _ rfl))
    have HX1 := Lib.hid hx
    have HI1 := Lib.hid (HI.out.ext hx)
    clear hx
    have hs1 : w.heap.size < w1.heap.size := World.block_lt_of_cell? _ _ c0
    have HT : Hid (Tells Tryz.prog w1 144 #[.pointer (some ⟨w.heap.size, 0, none⟩)] (cN (S + B)) (asgF S B G)) := Lib.hid fun s w2 hs k =>
      i_AssignmentGame1 (HI1.out.ext k) ((k.block _ (lt_of_block HB.out)).trans HB.out) HVV.out hsb hs
    have HMA := Lib.hid (i_made h1 hsb go_AssignmentGame1 HT.out (bestF_zero S B G S []) (fun s _ => asgF_bd HM.out s))
    rw [← HSB.out] at HMA
    go_wp2_with fail
    refine HMA.out.mono ?_
    rintro e w2 ⟨⟨v, rfl, ho⟩, hx⟩
    obtain ⟨a2, n2, c2, rfl, HN2⟩ := ho.var
    have HX2 := Lib.hid (HX1.out.trans hx)
    have r0 : w2.cell? ⟨w.heap.size + 1, 0, none⟩ = some (.int .i64 0) := HX2.out.cellSome (by simp)
    have r1 : w2.cell? ⟨w.heap.size + 1, 1, none⟩ = some (.slice none 0 0) := HX2.out.cellSome (by simp)
    have f0 : w2.frozen? ⟨w.heap.size + 1, 0, none⟩ = false := (HX2.out.frozens _ _ (by simp)).trans (by simp)
    have f1 : w2.frozen? ⟨w.heap.size + 1, 1, none⟩ = false := (HX2.out.frozens _ _ (by simp)).trans (by simp)
    have HO := Lib.hid ho
    have hsz1 := HX1.out.size
    simp at hsz1
    clear ho hx
    go_wp2
    have hp : asgP (S : Int) (B : Int) G = S + B := by unfold asgP; rw [HVV.out, if_pos rfl]; omega
    have hl : asgL (S : Int) (B : Int) G = rowF (asgF S B G) (cN (S + B)) := by
      unfold asgL; rw [HVV.out, if_pos rfl]
      have e : ((S : Int) + (B : Int)).toNat = S + B := by omega
      rw [e]; rfl
    rw [hp, hl]
    refine bodyPost_ret (v := .tuple #[.agg #[.int .i64 ((S + B : Nat) : Int), .slice a2 n2 c2], .bool true]) (by simp [results, Tryz.results74, go_sem, r0, r1]) rfl ⟨⟨.slice a2 n2 c2, rfl, ?_⟩, ?_⟩
    · refine HO.out.mono (by omega) |>.keep fun j hj => ?_
      have := (HO.out.lt j hj).1
      rw [heap_setCell_other _ _ _ _ (by simp; omega), heap_setCell_other _ _ _ _ (by simp; omega)]
    · exact ((HX.out.trans HX2.out).setCell (by simp) _).setCell (by simp) _
set_option maxHeartbeats 4000000 in
theorem s_AssignmentGame {w : World} {x y : Int} {a : Option Addr} {n cap : Nat} {G : List (List Int)} (h : IntSS w a n cap G) :
    Calls Tryz.prog 71 #[triple x y a n cap] w fun e w' => GameV w' w.heap.size e (asgP x y G) (asgL x y G) (validM x y G) ∧ Ext w w' := by
  have HX := Lib.hid ((Ext.alloc w (.cells #[.int .i64 x, .int .i64 y, .slice a n cap] 33)).trans (Ext.alloc _ (.cells #[.int .i64 0, .slice none 0 0] 47)))
  have HV := Lib.hid (s_IsValidMarket (x := x) (y := y) (h.ext HX.out))
  have HI := Lib.hid (h.ext HX.out)
  clear h
  cases hv : validM x y G
  · rw [hv] at HV
    have HVV := Lib.hid hv
    clear hv
    go_enter Tryz.func71, Tryz.ntmps71
    go_wp2_with fail
    refine HV.out.mono ?_
    rintro e w1 ⟨rfl, hx⟩
    have r0 : w1.cell? ⟨w.heap.size + 1, 0, none⟩ = some (.int .i64 0) := hx.cellSome (by simp)
    have r1 : w1.cell? ⟨w.heap.size + 1, 1, none⟩ = some (.slice none 0 0) := hx.cellSome (by simp)
    have f0 : w1.frozen? ⟨w.heap.size + 1, 0, none⟩ = false := (hx.frozens _ _ (by simp)).trans (by simp)
    have f1 : w1.frozen? ⟨w.heap.size + 1, 1, none⟩ = false := (hx.frozens _ _ (by simp)).trans (by simp)
    have HX1 := Lib.hid (HX.out.trans hx)
    clear hx
    go_wp2
    refine bodyPost_ret (v := .tuple #[.agg #[.int .i64 0, .slice none 0 0], .bool false]) (by simp [results, Tryz.results71, go_sem, r0, r1]) rfl ⟨⟨.slice none 0 0, ?_, ?_⟩, ?_⟩
    · unfold asgP; rw [HVV.out]; rfl
    · unfold asgL; rw [HVV.out]; exact ⟨rfl, .inl ⟨rfl, rfl⟩⟩
    · exact (HX1.out.setCell (by simp) _).setCell (by simp) _
  · rw [hv] at HV
    obtain ⟨S, B, rfl, rfl, hM⟩ := validM_good hv
    have hsb := hM.sb
    have hN := cN_le (S + B) hsb
    have HVV := Lib.hid hv
    have HM := Lib.hid hM
    have hcn := cntC_nat (S + B) hsb
    have HC := Lib.hid (show cntC ((S : Int) + (B : Int)) = (cN (S + B) : Int) by rw [← hcn]; simp)
    clear hv hM hcn
    go_enter Tryz.func71, Tryz.ntmps71
    go_wp2_with fail
    refine HV.out.mono ?_
    rintro e w1 ⟨rfl, hx⟩
    have c0 : w1.cell? ⟨w.heap.size, 0, none⟩ = some (.int .i64 (S : Int)) := hx.cellSome (by simp)
    have c1 : w1.cell? ⟨w.heap.size, 1, none⟩ = some (.int .i64 (B : Int)) := hx.cellSome (by simp)
    have hs1 : w.heap.size < w1.heap.size := World.block_lt_of_cell? _ _ c0
    have hs2 : w.heap.size + 1 < w1.heap.size := by have := hx.size; simp at this; omega
    have HX1 := Lib.hid hx
    have HI1 := Lib.hid (HI.out.ext hx)
    clear hx
    go_wp2_with (first | (go_at_call 58; refine (s_CountCoalitions _ _).mono ?_; rw [HC.out]; rintro e w' ⟨rfl, rfl⟩))
    go_loopw [6] (fun i wr => ∃ (k : Nat) (a1 : Option Addr) (n1 c1 : Nat), k ≤ cN (S + B) ∧ i = .int .i64 (k : Int) ∧ Hid (OwnI wr (w1.heap.size + 1) (.slice a1 n1 c1) (rowF (asgF S B G) k)) ∧ Hid (wr.heap[w1.heap.size]? = some (.cells #[.int .i64 ((S : Int) + (B : Int)), .slice a1 n1 c1] 47 (0, 0))) ∧ Hid (Ext w1 wr)) (fun i _ => cN (S + B) - (intOf i).toNat)
    case atStart =>
      refine ⟨0, none, 0, 0, Nat.zero_le _, rfl, Lib.hid (by unfold rowF; exact ⟨rfl, .inl ⟨rfl, rfl⟩⟩), Lib.hid ?_, Lib.hid ?_⟩
      · exact heapA_new _ _ _ (by simp)
      · exact Ext.alloc _ _
    case round =>
      obtain ⟨k, a1, n1, p1, hk, rfl, HO, HB, HX2⟩ := hrel
      have hsz := lt_of_block HB.out
      have c0 : wr.cell? ⟨w.heap.size, 0, none⟩ = some (.int .i64 (S : Int)) := (HX1.out.trans HX2.out).cellSome (by simp)
      have c1' : wr.cell? ⟨w.heap.size, 1, none⟩ = some (.int .i64 (B : Int)) := (HX1.out.trans HX2.out).cellSome (by simp)
      have c2' : wr.cell? ⟨w.heap.size, 2, none⟩ = some (.slice a n cap) := (HX1.out.trans HX2.out).cellSome (by simp)
      have hwr : w.heap.size < wr.heap.size := by omega
      by_cases hlt : k < cN (S + B)
      · have HIr := Lib.hid ((HI1.out.ext HX2.out).ext (Ext.alloc _ (.cells #[] 3)))
        have HF := Lib.hid (show (bestF S B G k S []).2 = asgF S B G k from rfl)
        go_wp2_with (first
          | (go_at_call 139; refine (s_l19Best HM.out (show k < 32 by omega) S 0 0 rfl (by omega) _ a n cap _ 0 0 [] HIr.out (OwnI.made' wr 0 _ rfl (by omega)).ints (by simp)).mono ?_; rw [HF.out]; rintro e w4 ⟨⟨v4, rfl, ho4⟩, hx4⟩; have X4 := Lib.hid ((Ext.alloc wr (.cells #[] 3)).trans hx4); have HO4 := Lib.hid (HO.out.ext X4.out); have HB4 := Lib.hid ((X4.out.block _ hsz).trans HB.out); have hg1 := two_cell1 HB4.out; have hsz4 := lt_of_block HB4.out; clear ho4 hx4)
          | (at_builtin; refine append_ints rfl _ _ rfl (w1.heap.size + 1) (.slice a1 n1 p1) _ rfl (HO4.out.ext (Ext.alloc _ _)) _ 1 _ [asgF S B G k] rfl (Ints.one' _ _ _ _ rfl) (by rw [rowF_len]; omega) (by simp; omega) ?_; intro v3 w5 ho3 hg3 hn3; obtain ⟨a3, n3, c3, rfl, HN3⟩ := ho3.var; have HO3 := Lib.hid ho3; have HX3 := Lib.hid (ext_grown ((HX2.out.trans X4.out).trans (Ext.alloc _ _)) hg3 (fun j hj => by have := (HO4.out.lt j hj).1; omega)); have HB3 := Lib.hid ((hg3.block _ (by simp; omega) (fun e => by have := (HO4.out.lt _ e.symm).1; omega)).trans (((Ext.alloc w4 _).block _ hsz4).trans HB4.out)); have cg3 := two_cell1 HB3.out; have fg3 := frozen_of_row w5 w1.heap.size 1 _ _ HB3.out; clear ho3 hg3 hn3))
        go_roundw
        case rel =>
          refine ⟨k + 1, a3, n3, c3, by omega, by go_num, Lib.hid ?_, Lib.hid (two_set HB3.out), Lib.hid (HX3.out.setCell (by simp) _)⟩
          rw [rowF_succ]
          exact HO3.out.keep fun j hj => heap_setCell_other _ _ _ _ (by have := (HO3.out.lt j hj).1; simp; omega)
        case measure => simp [intOf]; omega
      · have hkn : k = cN (S + B) := by omega
        subst hkn
        have hg0 := two_cell0 HB.out
        have hg1 := two_cell1 HB.out
        have r0 : wr.cell? ⟨w.heap.size + 1, 0, none⟩ = some (.int .i64 0) := (HX1.out.trans HX2.out).cellSome (by simp)
        have r1 : wr.cell? ⟨w.heap.size + 1, 1, none⟩ = some (.slice none 0 0) := (HX1.out.trans HX2.out).cellSome (by simp)
        have f0 : wr.frozen? ⟨w.heap.size + 1, 0, none⟩ = false := ((HX1.out.trans HX2.out).frozens _ _ (by simp)).trans (by simp)
        have f1 : wr.frozen? ⟨w.heap.size + 1, 1, none⟩ = false := ((HX1.out.trans HX2.out).frozens _ _ (by simp)).trans (by simp)
        go_wp2
        have hp : asgP (S : Int) (B : Int) G = S + B := by unfold asgP; rw [HVV.out, if_pos rfl]; omega
        have hl : asgL (S : Int) (B : Int) G = rowF (asgF S B G) (cN (S + B)) := by
          unfold asgL; rw [HVV.out, if_pos rfl]
          have e : ((S : Int) + (B : Int)).toNat = S + B := by omega
          rw [e]; rfl
        rw [hp, hl]
        refine bodyPost_ret (v := .tuple #[.agg #[.int .i64 ((S : Int) + (B : Int)), .slice a1 n1 p1], .bool true]) (by simp [results, Tryz.results71, go_sem, r0, r1]) rfl ⟨⟨.slice a1 n1 p1, by simp, ?_⟩, ?_⟩
        · refine HO.out.mono (by omega) |>.keep fun j hj => ?_
          have := (HO.out.lt j hj).1
          rw [heap_setCell_other _ _ _ _ (by simp; omega), heap_setCell_other _ _ _ _ (by simp; omega)]
        · exact ((HX.out.trans (HX1.out.trans HX2.out)).setCell (by simp) _).setCell (by simp) _
end Go.Proofs.YtgohdmnbnhehnaaGreat
namespace Go.Proofs.YtgohdmnbnhehnaaGreat
set_option linter.unusedVariables false
set_option linter.unusedSimpArgs false
set_option maxRecDepth 100000
open Go.RowKit
theorem codeI_one (g : Int) (r : LpR) : codeI true g r = 1 ↔ (stabI g r).isSome = true := by
  unfold codeI stabI
  rw [if_neg (by simp)]
  by_cases h : r.status = 1
  · rw [if_neg (fun hn => hn h), if_pos h]
    by_cases h2 : 0 < cmpR (negR r.value) (g, 1)
    · rw [if_pos h2, if_pos h2]; simp
    · rw [if_neg h2, if_neg h2]
      split <;> simp
  · rw [if_pos h, if_neg h]; simp
theorem codeS_one (g : Int) (r : LpR) : codeS true g r = 1 ↔ (stabS g r).isSome = true := by
  unfold codeS stabS
  rw [if_neg (by simp)]
  by_cases h : r.status = 1
  · rw [if_neg (fun hn => hn h), if_pos h]
    cases h2 : (slackR g r).2
    · simp
    · rw [if_neg (by simp), if_pos rfl]
      by_cases h3 : (slackR g r).1.1 < 0
      · rw [if_pos h3, if_pos h3]; simp
      · rw [if_neg h3, if_neg h3]
        split <;> simp
  · rw [if_pos h, if_neg h]; simp
theorem code_same (ok : Bool) (g : Int) (r : LpR) : codeI ok g r = 1 ↔ codeS ok g r = 1 := by
  cases ok
  · unfold codeI codeS; simp
  · rw [codeI_one, codeS_one, stab_same]
def mktR (x y : Int) (G : List (List Int)) : LpR := solveG boundI (coreA (asgP x y G : Int).toNat (asgL x y G).length) (coreB (asgP x y G : Int).toNat) (coreC (asgL x y G))
def mktG (x y : Int) (G : List (List Int)) : Int := grandV (asgP x y G) (asgL x y G)
def stabOk (x y : Int) (G : List (List Int)) : Bool := validM x y G && decide (codeI (gameOk (asgP x y G) (asgL x y G)) (mktG x y G) (mktR x y G) = 1)
def stabL (x y : Int) (G : List (List Int)) : List (Int × Int) := if stabOk x y G = true then ptR (mktG x y G) (mktR x y G) else []
theorem stabOk_S (x y : Int) (G : List (List Int)) : stabOk x y G = (validM x y G && decide (codeS (gameOk (asgP x y G) (asgL x y G)) (mktG x y G) (mktR x y G) = 1)) := by
  unfold stabOk
  congr 1
  exact decide_eq_decide.2 (code_same _ _ _)
theorem stabL_len (x y : Int) (G : List (List Int)) : (stabL x y G).length ≤ 5 := by
  unfold stabL
  split
  · next h =>
    unfold stabOk at h
    simp only [Bool.and_eq_true, decide_eq_true_eq] at h
    have h1 := h.2
    unfold codeI at h1
    split at h1
    · cases h1
    · next hg =>
      split at h1
      · cases h1
      · next hs =>
        obtain ⟨q, hpq, hq1, hq5, _⟩ := gameOk_len (by simpa using hg)
        have hs2 : (mktR x y G).status = 1 := by simpa using hs
        have hv := solveG_val (bound := boundI) (A := coreA (asgP x y G : Int).toNat (asgL x y G).length) (B := coreB (asgP x y G : Int).toNat) (C := coreC (asgL x y G)) hs2
        unfold ptR negY
        rw [List.length_set, List.length_map]
        unfold mktR
        rw [hv.2.2.2.1]
        unfold coreB
        rw [List.length_replicate, hpq, Int.toNat_natCast]
        exact hq5
  · simp
theorem stabL_no {x y : Int} {G : List (List Int)} (h : stabOk x y G = false) : stabL x y G = [] := by unfold stabL; rw [if_neg (by rw [h]; simp)]
theorem stabL_yes {x y : Int} {G : List (List Int)} (h : stabOk x y G = true) : stabL x y G = ptR (mktG x y G) (mktR x y G) := by unfold stabL; rw [if_pos h]
theorem ret_tupZ {v : Value} {a b : Bool} (h : a = b) : Ending.returned (.tuple #[v, .bool a]) = .returned (.tuple #[v, .bool b]) := by rw [h]
theorem OwnR.madeZ (w : World) (base n : Nat) (hn : n = w.heap.size) (hb : base ≤ w.heap.size) : OwnR (w.alloc (.cells #[] 85)) base (.slice (some ⟨n, 0, none⟩) 0 0) [] := by subst hn; exact OwnR.made w base hb
set_option maxHeartbeats 4000000 in
theorem i_StablePrices {w : World} {x y : Int} {a : Option Addr} {n cap : Nat} {G : List (List Int)} (h : IntSS w a n cap G) :
    Calls Tryz.prog 17 #[triple x y a n cap] w fun e w' => (∃ v, e = .returned (.tuple #[v, .bool (stabOk x y G)]) ∧ OwnR w' w.heap.size v (stabL x y G)) ∧ Ext w w' := by
  have HX := Lib.hid (Ext.alloc w (.cells #[.int .i64 x, .int .i64 y, .slice a n cap] 33))
  have HA := Lib.hid (i_AssignmentGame (x := x) (y := y) (h.ext HX.out))
  have HOK := Lib.hid (show stabOk x y G = (validM x y G && decide (codeI (gameOk (asgP x y G) (asgL x y G)) (mktG x y G) (mktR x y G) = 1)) from rfl)
  clear h
  go_enter Tryz.func17, Tryz.ntmps17
  go_wp2_with fail
  refine HA.out.mono ?_
  rintro e w1 ⟨⟨v, rfl, ho⟩, hx⟩
  obtain ⟨a1, n1, p1, rfl, HN1⟩ := ho.var
  obtain ⟨P, hP⟩ : ∃ P : Int, P = (asgP x y G : Int) := ⟨_, rfl⟩
  obtain ⟨V, hV⟩ : ∃ V, V = asgL x y G := ⟨_, rfl⟩
  obtain ⟨vm, hvm⟩ : ∃ z, z = validM x y G := ⟨_, rfl⟩
  rw [← hV] at ho HN1
  rw [← hP, ← hvm]
  obtain ⟨w2, hw2⟩ : ∃ E, E = w1.alloc (.cells #[.int .i64 P, .slice a1 n1 p1] 47) := ⟨_, rfl⟩
  have hx2 : Ext w1 w2 := by rw [hw2]; exact Ext.alloc _ _
  have X2 := Lib.hid ((HX.out.trans hx).trans hx2)
  have c0 : w2.cell? ⟨w1.heap.size, 0, none⟩ = some (.int .i64 P) := by rw [hw2]; simp
  have c1 : w2.cell? ⟨w1.heap.size, 1, none⟩ = some (.slice a1 n1 p1) := by rw [hw2]; simp
  have HF := Lib.hid (i_FindCore (p := P) (ho.ext hx2).ints)
  have HR := Lib.hid (show mktR x y G = solveG boundI (coreA P.toNat n1) (coreB P.toNat) (coreC V) by rw [← HN1.out, hP, hV]; rfl)
  have HG := Lib.hid (show mktG x y G = grandV P V by rw [hP, hV]; rfl)
  rw [← HR.out, ← HG.out] at HF
  rw [← hP, ← hV, ← hvm] at HOK
  obtain ⟨code, hcode⟩ : ∃ c, c = codeI (gameOk P V) (mktG x y G) (mktR x y G) := ⟨_, rfl⟩
  rw [← hcode] at HF HOK
  clear hx hx2 ho hP hV hvm hcode
  go_upto_region 2 with fail
  rw [← hw2]
  clear hw2
  go_wp2_with fail
  refine HF.out.mono ?_
  rintro e w3 ⟨⟨pa, pn, pc, wa, wn, wc, rfl, hpt⟩, hx⟩
  have X3 := Lib.hid (X2.out.trans hx)
  obtain ⟨w4, hw4⟩ : ∃ E, E = w3.alloc (.cells #[.int .i64 code, .slice pa pn pc, .slice wa wn wc] 98) := ⟨_, rfl⟩
  have hx4 : Ext w3 w4 := by rw [hw4]; exact Ext.alloc _ _
  have X4 := Lib.hid (X3.out.trans hx4)
  obtain ⟨d0, d1, d2, df⟩ := cbox3 (show w4.heap[w3.heap.size]? = some (.cells #[.int .i64 code, .slice pa pn pc, .slice wa wn wc] 98 (0, 0)) by rw [hw4]; exact heapA_new _ _ _ rfl)
  have HPT := Lib.hid (fun (hc : code = 1) => ((hpt hc).ext hx4).mono (show w.heap.size ≤ w2.heap.size from X2.out.size))
  have hsz4 := X4.out.size
  go_upto_region 3 with fail
  rw [← hw4]
  clear hw4 hx4 hx hpt c0 c1
  cases vm
  · have HN := Lib.hid (show stabOk x y G = false by rw [HOK.out]; rfl)
    have HNL := Lib.hid (stabL_no HN.out)
    go_wp2_with fail
    go_ret2
    exact ⟨⟨_, ret_tupZ (by rw [HN.out]), by rw [HNL.out]; exact OwnR.nil _ _⟩, X4.out⟩
  by_cases hc : code = 1
  · have HN := Lib.hid (show stabOk x y G = true by rw [HOK.out, hc]; rfl)
    have HNL := Lib.hid (stabL_yes HN.out)
    have HPP := Lib.hid (HPT.out hc)
    subst hc
    go_wp2_with fail
    go_ret2
    exact ⟨⟨_, ret_tupZ (by rw [HN.out]), by rw [HNL.out]; exact HPP.out⟩, X4.out⟩
  · have HN := Lib.hid (show stabOk x y G = false by rw [HOK.out, decide_eq_false hc]; rfl)
    have HNL := Lib.hid (stabL_no HN.out)
    have hcb : (code != 1) = true := by simp [hc]
    go_wp2_with fail
    go_ret2
    exact ⟨⟨_, ret_tupZ (by rw [HN.out]), by rw [HNL.out]; exact OwnR.nil _ _⟩, X4.out⟩
set_option maxHeartbeats 4000000 in
theorem s_StablePrices {w : World} {x y : Int} {a : Option Addr} {n cap : Nat} {G : List (List Int)} (h : IntSS w a n cap G) :
    Calls Tryz.prog 15 #[triple x y a n cap] w fun e w' => (∃ v, e = .returned (.tuple #[v, .bool (stabOk x y G)]) ∧ OwnR w' w.heap.size v (stabL x y G)) ∧ Ext w w' := by
  have HX := Lib.hid (Ext.alloc w (.cells #[.int .i64 x, .int .i64 y, .slice a n cap] 33))
  have HA := Lib.hid (s_AssignmentGame (x := x) (y := y) (h.ext HX.out))
  have HOK := Lib.hid (show stabOk x y G = (validM x y G && decide (codeS (gameOk (asgP x y G) (asgL x y G)) (mktG x y G) (mktR x y G) = 1)) from stabOk_S _ _ _)
  clear h
  go_enter Tryz.func15, Tryz.ntmps15
  go_wp2_with fail
  refine HA.out.mono ?_
  rintro e w1 ⟨⟨v, rfl, ho⟩, hx⟩
  obtain ⟨a1, n1, p1, rfl, HN1⟩ := ho.var
  obtain ⟨P, hP⟩ : ∃ P : Int, P = (asgP x y G : Int) := ⟨_, rfl⟩
  obtain ⟨V, hV⟩ : ∃ V, V = asgL x y G := ⟨_, rfl⟩
  obtain ⟨vm, hvm⟩ : ∃ z, z = validM x y G := ⟨_, rfl⟩
  rw [← hV] at ho HN1
  rw [← hP, ← hvm]
  obtain ⟨w2, hw2⟩ : ∃ E, E = w1.alloc (.cells #[.int .i64 P, .slice a1 n1 p1] 47) := ⟨_, rfl⟩
  have hx2 : Ext w1 w2 := by rw [hw2]; exact Ext.alloc _ _
  have X2 := Lib.hid ((HX.out.trans hx).trans hx2)
  have c0 : w2.cell? ⟨w1.heap.size, 0, none⟩ = some (.int .i64 P) := by rw [hw2]; simp
  have c1 : w2.cell? ⟨w1.heap.size, 1, none⟩ = some (.slice a1 n1 p1) := by rw [hw2]; simp
  have HF := Lib.hid (s_FindCore (p := P) (ho.ext hx2).ints)
  have HR := Lib.hid (show mktR x y G = solveG boundI (coreA P.toNat n1) (coreB P.toNat) (coreC V) by rw [← HN1.out, hP, hV]; rfl)
  have HG := Lib.hid (show mktG x y G = grandV P V by rw [hP, hV]; rfl)
  rw [← HR.out, ← HG.out] at HF
  rw [← hP, ← hV, ← hvm] at HOK
  obtain ⟨code, hcode⟩ : ∃ c, c = codeS (gameOk P V) (mktG x y G) (mktR x y G) := ⟨_, rfl⟩
  rw [← hcode] at HF HOK
  clear hx hx2 ho hP hV hvm hcode
  go_upto_region 2 with fail
  rw [← hw2]
  clear hw2
  go_wp2_with fail
  refine HF.out.mono ?_
  rintro e w3 ⟨⟨pa, pn, pc, wa, wn, wc, rfl, hpt⟩, hx⟩
  have X3 := Lib.hid (X2.out.trans hx)
  obtain ⟨w4, hw4⟩ : ∃ E, E = w3.alloc (.cells #[.int .i64 code, .slice pa pn pc, .slice wa wn wc] 98) := ⟨_, rfl⟩
  have hx4 : Ext w3 w4 := by rw [hw4]; exact Ext.alloc _ _
  have X4 := Lib.hid (X3.out.trans hx4)
  obtain ⟨d0, d1, d2, df⟩ := cbox3 (show w4.heap[w3.heap.size]? = some (.cells #[.int .i64 code, .slice pa pn pc, .slice wa wn wc] 98 (0, 0)) by rw [hw4]; exact heapA_new _ _ _ rfl)
  have HPT := Lib.hid (fun (hc : code = 1) => ((hpt hc).ext hx4).mono (show w.heap.size ≤ w2.heap.size from X2.out.size))
  have hsz4 := X4.out.size
  go_upto_region 3 with fail
  rw [← hw4]
  clear hw4 hx4 hx hpt c0 c1
  cases vm
  · have HN := Lib.hid (show stabOk x y G = false by rw [HOK.out]; rfl)
    have HNL := Lib.hid (stabL_no HN.out)
    go_wp2_with fail
    go_ret2
    exact ⟨⟨_, ret_tupZ (by rw [HN.out]), by rw [HNL.out]; exact OwnR.madeZ _ _ _ (by simp) (by omega)⟩, X4.out.trans (Ext.alloc _ _)⟩
  by_cases hc : code = 1
  · have HN := Lib.hid (show stabOk x y G = true by rw [HOK.out, hc]; rfl)
    have HNL := Lib.hid (stabL_yes HN.out)
    have HPP := Lib.hid (HPT.out hc)
    subst hc
    go_wp2_with fail
    go_ret2
    exact ⟨⟨_, ret_tupZ (by rw [HN.out]), by rw [HNL.out]; exact HPP.out⟩, X4.out⟩
  · have HN := Lib.hid (show stabOk x y G = false by rw [HOK.out, decide_eq_false hc]; rfl)
    have HNL := Lib.hid (stabL_no HN.out)
    have hcb : (code != 1) = true := by simp [hc]
    go_wp2_with fail
    go_ret2
    exact ⟨⟨_, ret_tupZ (by rw [HN.out]), by rw [HNL.out]; exact OwnR.madeZ _ _ _ (by simp) (by omega)⟩, X4.out.trans (Ext.alloc _ _)⟩
end Go.Proofs.YtgohdmnbnhehnaaGreat
namespace Go.Proofs.YtgohdmnbnhehnaaGreat
set_option linter.unusedVariables false
open Go.RowKit
theorem cnt_smallZ : ∀ L : List (List Int), (∀ l ∈ L, l.length ≤ 1048576) → cnt L ≤ 1048576 * L.length
  | [], _ => by simp [cnt]
  | l :: L, h => by
    have h1 := cnt_smallZ L (fun m hm => h m (by simp [hm]))
    have h2 := h l (by simp)
    have h3 : cnt (l :: L) = (l.length : Int) + cnt L := by simp [cnt]
    rw [h3, List.length_cons]
    omega
set_option maxHeartbeats 4000000 in
theorem l_FnExactStablePrices {w : World} {x y : Int} {a : Option Addr} {n cap : Nat} {l : List (List Int)} (h : IntSS w a n cap l) :
    Calls Tryz.prog 4 #[triple x y a n cap] w fun e w' => e = .returned (.bool true) ∧ Ext w w' := by
  have hm : n ≤ 9223372036854775807 := Nat.le_trans h.hcap h.hmax
  have HL := Lib.hid h.hlen
  have h1 := h.alloc (.cells #[.int .i64 x, .int .i64 y, .slice a n cap] 28)
  have HX := Lib.hid (Ext.alloc w (.cells #[.int .i64 x, .int .i64 y, .slice a n cap] 28))
  by_cases hlt : szSS 1048576 l < 0
  · go_enter Tryz.func4, Tryz.ntmps4
    go_wp2_with fail
    refine (l_szMarket _ _ _ h1 (by omega) (by omega)).mono ?_
    rintro e w1 ⟨rfl, hx⟩
    have HX1 := Lib.hid (HX.out.trans hx)
    clear hx
    go_wp2
    go_ret
    exact ⟨rfl, HX1.out⟩
  · have hsz := szSS_le (L := l) (by omega)
    have hb : n ≤ 1048576 := by have := HL.out; omega
    have HBB := Lib.hid (show ∀ r ∈ l, r.length ≤ 1099511627776 from fun r hr => by have := hsz.2 r hr; omega)
    have hcnt := cnt_smallZ l hsz.2
    have hcnt0 := cnt_nonneg l
    obtain ⟨z, hz⟩ : ∃ z, z = cnt l := ⟨_, rfl⟩
    rw [← hz] at hcnt hcnt0
    have hz1 : z ≤ 1099511627776 := by have := hsz.1; omega
    have HZ := Lib.hid hz
    have hlen := stabL_len x y l
    clear hsz hcnt hz
    go_enter Tryz.func4, Tryz.ntmps4
    go_wp2_with fail
    refine (l_szMarket _ _ _ h1 (by omega) (by omega)).mono ?_
    rintro e w1 ⟨rfl, hx⟩
    have c0 : w1.cell? ⟨w.heap.size, 0, none⟩ = some (.int .i64 x) := hx.cellSome (by simp)
    have c1 : w1.cell? ⟨w.heap.size, 1, none⟩ = some (.int .i64 y) := hx.cellSome (by simp)
    have c2 : w1.cell? ⟨w.heap.size, 2, none⟩ = some (.slice a n cap) := hx.cellSome (by simp)
    have HX1 := Lib.hid (HX.out.trans hx)
    have h2 := h1.ext hx
    clear hx h1 h
    -- the reference's answer
    go_wp2_with fail
    refine (l_toMarketO h2 (by omega) HBB.out).mono ?_
    rintro e w2 ⟨b, rfl, hrow, hx⟩
    have X12 := Lib.hid hx
    clear hx
    go_wp2_with fail
    refine (s_StablePrices (x := x) (y := y) (hrow.intss)).mono ?_
    rintro e w3 ⟨⟨v0, rfl, ho⟩, hx⟩
    obtain ⟨a0, n0, p0, rfl, N0⟩ := ho.var
    have X13 := Lib.hid (X12.out.trans hx)
    have O0 := Lib.hid ho
    have c0' := X13.out.cellSome c0
    have c1' := X13.out.cellSome c1
    have c2' := X13.out.cellSome c2
    have c0'' := Lib.hid c0'
    have c1'' := Lib.hid c1'
    have c2'' := Lib.hid c2'
    have HX3 := Lib.hid (HX1.out.trans X13.out)
    have H3 := Lib.hid (h2.ext X13.out)
    clear hx ho hrow c0 c1 c2 h2
    -- the program's answer
    go_wp2_with fail
    refine (l_toMarketO H3.out (by omega) HBB.out).mono ?_
    rintro e w4 ⟨b2, rfl, hrow, hx⟩
    have c0 := hx.cellSome c0'
    have c1 := hx.cellSome c1'
    have c2 := hx.cellSome c2'
    have X34 := Lib.hid hx
    have hlt4 : w.heap.size < w4.heap.size := World.block_lt_of_cell? _ _ c0
    have hlt3 : w.heap.size < w3.heap.size := World.block_lt_of_cell? _ _ c0'
    have R2 := Lib.hid (hrow.top.ext (Ext.alloc _ (.cells #[.int .i64 x, .int .i64 y, .slice (some ⟨b2, 0, none⟩) n n] 33)))
    have HI := Lib.hid (i_StablePrices (x := x) (y := y) R2.out.own.intss)
    clear hx hrow c0' c1' c2'
    go_wp2_with fail
    refine HI.out.mono ?_
    rintro e w5 ⟨⟨v1, rfl, ho⟩, hx⟩
    obtain ⟨a1, n1, p1, rfl, N1⟩ := ho.var
    have c0' : w5.cell? ⟨w.heap.size, 0, none⟩ = some (.int .i64 x) := hx.cellSome ((Ext.alloc _ _).cellSome c0)
    have c1' : w5.cell? ⟨w.heap.size, 1, none⟩ = some (.int .i64 y) := hx.cellSome ((Ext.alloc _ _).cellSome c1)
    have c2' : w5.cell? ⟨w.heap.size, 2, none⟩ = some (.slice a n cap) := hx.cellSome ((Ext.alloc _ _).cellSome c2)
    have d0 : w5.cell? ⟨w4.heap.size, 0, none⟩ = some (.int .i64 x) := hx.cellSome (by simp)
    have d1 : w5.cell? ⟨w4.heap.size, 1, none⟩ = some (.int .i64 y) := hx.cellSome (by simp)
    have d2 : w5.cell? ⟨w4.heap.size, 2, none⟩ = some (.slice (some ⟨b2, 0, none⟩) n n) := hx.cellSome (by simp)
    have X35 := Lib.hid ((X34.out.trans (Ext.alloc _ _)).trans hx)
    have R3 := Lib.hid (R2.out.ext hx)
    have O1 := Lib.hid ho
    clear ho hx c0 c1 c2
    -- they are equal
    have HE := Lib.hid (l_eqRatS O1.out.rats (O0.out.ext X35.out).rats)
    rw [decide_eq_true rfl] at HE
    go_wp2_with fail
    refine HE.out.mono ?_
    rintro e w6 ⟨rfl, hx⟩
    have c0 := hx.cellSome c0'
    have c1 := hx.cellSome c1'
    have c2 := hx.cellSome c2'
    have d0' := hx.cellSome d0
    have d1' := hx.cellSome d1
    have d2' := hx.cellSome d2
    have X36 := Lib.hid (X35.out.trans hx)
    have R4 := Lib.hid (R3.out.ext hx)
    have O2 := Lib.hid (O1.out.ext hx)
    clear hx c0' c1' c2' d0 d1 d2
    -- the argument is as before
    go_wp2_with fail
    have hk : Ext w6 w6.drew := Ext.drew w6
    have H6 := Lib.hid ((H3.out.ext X36.out).ext hk)
    have R5 := Lib.hid (R4.out.ext hk)
    go_region_held3 (fun w' => w'.cell? ⟨w.heap.size, 0, none⟩ = some (.int .i64 x) ∧ w'.cell? ⟨w.heap.size, 1, none⟩ = some (.int .i64 y) ∧ w'.cell? ⟨w.heap.size, 2, none⟩ = some (.slice a n cap) ∧ w'.cell? ⟨w4.heap.size, 0, none⟩ = some (.int .i64 x) ∧ w'.cell? ⟨w4.heap.size, 1, none⟩ = some (.int .i64 y) ∧ w'.cell? ⟨w4.heap.size, 2, none⟩ = some (.slice (some ⟨b2, 0, none⟩) n n) ∧ Ext w6 w')
      (exact ⟨hk.cellSome c0, hk.cellSome c1, hk.cellSome c2, hk.cellSome d0', hk.cellSome d1', hk.cellSome d2', hk⟩)
      (first
        | (go_at_call 16; refine (l_toMarketO H6.out (by omega) HBB.out).mono ?_; rintro e w7 ⟨b3, rfl, hrow, hx6⟩; have hk := hk.trans hx6)
        | (go_at_call 19; refine (l_eqMarket (R5.out.ext hx6).own.intss hrow.intss).mono ?_; rintro e w8 ⟨rfl, hx7⟩; have hk := hk.trans hx7))
    have c0 := hk.cellSome c0
    have c1 := hk.cellSome c1
    have c2 := hk.cellSome c2
    have d0 := hk.cellSome d0'
    have d1 := hk.cellSome d1'
    have d2 := hk.cellSome d2'
    have X37 := Lib.hid (X36.out.trans hk)
    have R6 := Lib.hid (R4.out.ext hk)
    have O3 := Lib.hid (O2.out.ext hk)
    clear hk d0' d1' d2' H6 R5
    -- the argument is marked
    go_wp2_with fail
    refine (l_markMarket (x := x) (y := y) R6.out X37.out.size 1 (by omega) (by rw [← HZ.out]; omega)).mono ?_
    rw [← HZ.out]
    rintro e w10 ⟨rfl, hbl, hf⟩
    have X310 := Lib.hid (show Ext w3 w10 from Below.trans X37.out hbl)
    have O4 := Lib.hid (O3.out.keep fun k hk => hf k (by have h1 := (O3.out.lt k hk).1; simp at h1; omega) (O3.out.lt k hk).2)
    have c0 := X310.out.cellSome c0''.out
    have c1 := X310.out.cellSome c1''.out
    have c2 := X310.out.cellSome c2''.out
    clear hbl hf d0 d1 d2
    have HE := Lib.hid (l_eqRatS O4.out.rats (O0.out.ext X310.out).rats)
    rw [decide_eq_true rfl] at HE
    have hn1 : n1 ≤ 1048576 := by have := N1.out; omega
    have hneg : ¬ (1 + z < 0) := by omega
    go_wp2_with fail
    refine HE.out.mono ?_
    rintro e w11 ⟨rfl, hx⟩
    have c0' := hx.cellSome c0
    have c1' := hx.cellSome c1
    have c2' := hx.cellSome c2
    have X311 := Lib.hid (X310.out.trans hx)
    have O5 := Lib.hid (O4.out.ext hx)
    clear hx c0 c1 c2
    -- the answer is marked
    go_wp2_with fail
    refine (l_markRatS O5.out 1 (by omega) (by omega)).mono ?_
    rintro e w12 ⟨rfl, ho, hg, _⟩
    have X312 := Lib.hid (ext_grown X311.out hg fun k hk => by have h1 := (O5.out.lt k hk).1; have h2 := X34.out.size; simp at h1; omega)
    have O6 := Lib.hid ho
    have c0 := X312.out.cellSome c0''.out
    have c1 := X312.out.cellSome c1''.out
    have c2 := X312.out.cellSome c2''.out
    clear ho hg c0' c1' c2'
    have hneg1 : ¬ (1 + 2 * (n1 : Int) < 0) := by omega
    have hne : ((1 + 2 * (n1 : Int)) != (1 + 2 * (n1 : Int))) = false := by simp
    go_wp2_with fail
    refine (l_heldRatS 1 O6.out.rats (by omega) (by omega)).mono ?_
    rintro e w13 ⟨rfl, rfl⟩
    -- once more
    have H12 := Lib.hid (H3.out.ext X312.out)
    go_wp2_with fail
    refine (l_toMarketO H12.out (by omega) HBB.out).mono ?_
    rintro e w14 ⟨b4, rfl, hrow, hx⟩
    have X314 := Lib.hid (X312.out.trans hx)
    have O7 := Lib.hid (O6.out.ext hx)
    have R7 := Lib.hid (hrow.intss)
    clear hx hrow
    go_wp2_with fail
    refine (i_StablePrices (x := x) (y := y) R7.out).mono ?_
    rintro e w15 ⟨⟨v2, rfl, ho⟩, hx⟩
    obtain ⟨a2, n2, p2, rfl, N2⟩ := ho.var
    have X315 := Lib.hid (X314.out.trans hx)
    have O8 := Lib.hid (O7.out.ext hx)
    have O9 := Lib.hid ho
    clear ho hx
    have HE := Lib.hid (l_eqRatS O9.out.rats (O0.out.ext X315.out).rats)
    rw [decide_eq_true rfl] at HE
    go_wp2_with fail
    refine HE.out.mono ?_
    rintro e w16 ⟨rfl, hx⟩
    have X316 := Lib.hid (X315.out.trans hx)
    have O10 := Lib.hid (O8.out.ext hx)
    clear hx
    go_wp2_with fail
    refine (l_heldRatS 1 O10.out.rats (by omega) (by omega)).mono ?_
    rintro e w17 ⟨rfl, rfl⟩
    go_wp2
    go_ret
    exact ⟨rfl, HX3.out.trans X316.out⟩
end Go.Proofs.YtgohdmnbnhehnaaGreat
