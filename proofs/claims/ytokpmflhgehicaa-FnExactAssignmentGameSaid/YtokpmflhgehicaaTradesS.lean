/- BestTrades: the reference. -/
import Derived.Test.YtokpmflhgehicaaTradesM
import Derived.Test.YtokpmflhgehicaaAppend
import Derived.Deep.RegionLaw
import Derived.Deep.RegionHeld3
namespace Go.Proofs.Ytokpmflhgehicaa
set_option linter.unusedVariables false
set_option linter.unusedSimpArgs false
set_option maxRecDepth 100000
open Go.RowKit

theorem OwnI.lit1 (w : World) (base : Nat) (x : Int) (hb : base ≤ w.heap.size) : OwnI (w.alloc (.cells #[.int .i64 x] 3)) base (.slice (some ⟨w.heap.size, 0, none⟩) 1 1) [x] :=
  World.ownsRow_lit w #[.int .i64 x] 1 hb (by simp [maxLen]) rfl
theorem Ints.one' (w : World) (x : Int) (t : TypeId) (n : Nat) (hn : n = w.heap.size) : Ints (w.alloc (.cells #[.int .i64 x] t)) (some ⟨n, 0, none⟩) 1 1 [x] := by
  subst hn
  exact Ints.one w x t
theorem OwnI.made' (w : World) (base n : Nat) (hn : n = w.heap.size) (hb : base ≤ w.heap.size) : OwnI (w.alloc (.cells #[] 3)) base (.slice (some ⟨n, 0, none⟩) 0 0) [] := by
  subst hn
  exact OwnI.made w base hb
/-- What a valid market is. -/
structure GoodM (S B : Nat) (G : List (List Int)) : Prop where
  s1 : 1 ≤ S
  b1 : 1 ≤ B
  sb : S + B ≤ 5
  rows : G.length = S
  row : ∀ i, i < S → (G[i]?.getD []).length = B
  bd : ∀ i j, 0 ≤ gain G i j ∧ gain G i j ≤ 100
theorem validM_good {x y : Int} {G : List (List Int)} (h : validM x y G = true) : ∃ S B : Nat, x = S ∧ y = B ∧ GoodM S B G := by
  simp only [validM, Bool.and_eq_true, decide_eq_true_eq, List.all_eq_true] at h
  obtain ⟨⟨⟨⟨⟨h1, h2⟩, h3⟩, h4⟩, h5⟩, h6⟩ := h
  refine ⟨x.toNat, y.toNat, by omega, by omega, by omega, by omega, by omega, by omega, fun i hi => ?_, fun i j => ?_⟩
  · have hl : i < G.length := by omega
    have := (h6 _ (List.getElem_mem hl)).2
    simp [hl]; omega
  · unfold gain
    by_cases hl : i < G.length
    · have := (h6 _ (List.getElem_mem hl)).1
      simp only [List.getElem?_eq_getElem hl, Option.getD_some]
      by_cases hj : j < G[i].length
      · have := this _ (List.getElem_mem hj)
        simp only [inB, Bool.and_eq_true, decide_eq_true_eq] at this
        simpa [hj] using this
      · simp [List.getElem?_eq_none (by omega : G[i].length ≤ j)]
    · simp [List.getElem?_eq_none (by omega : G.length ≤ i)]

theorem Ints.grown1 {w w' : World} {row : Option Nat} {b : Nat} {x : Int} (h : Ints w (some ⟨b, 0, none⟩) 1 1 [x]) (hg : w.grownBy w' row) (hne : row ≠ some b) : Ints w' (some ⟨b, 0, none⟩) 1 1 [x] := by
  obtain ⟨b', off, e, hc⟩ := h.at (k := 0) (by omega)
  simp only [Option.some.injEq, Addr.mk.injEq, and_true] at e
  obtain ⟨rfl, rfl⟩ := e
  have hb := hg.block b (World.block_lt_of_cell? w _ hc) (fun e => hne e.symm)
  refine ⟨rfl, Nat.le_refl _, by omega, fun k hk => ⟨b, 0, rfl, fun k hk => ?_⟩⟩
  obtain rfl : k = 0 := by omega
  rw [← hc]
  simp [World.cell?, hb]

set_option maxHeartbeats 8000000 in
theorem s_l19Best {S B s : Nat} {G : List (List Int)} (hM : GoodM S B G) (hs : s < 32) : ∀ (r i : Nat) (ii : Int), ii = (i : Int) → i + r = S → ∀ (w : World) (a : Option Addr) (n cap : Nat) (ta : Option Addr) (tn tc : Nat) (taken : List Int),
    IntSS w a n cap G → Ints w ta tn tc taken → taken.length ≤ i →
    Calls Try.prog 94 #[triple S B a n cap, .int .i64 (s : Int), .int .i64 ii, .slice ta tn tc] w fun e w' =>
      (∃ v, e = .returned (.tuple #[v, .int .i64 (bestF S B G s r taken).2]) ∧ OwnI w' w.heap.size v (bestF S B G s r taken).1) ∧ Ext w w' := by
  have hsb := hM.sb
  intro r
  induction r with
  | zero =>
    intro i ii hii hi w a n cap ta tn tc taken hG hT hl
    subst hii
    have heq : ((i : Int) == (S : Int)) = true := by simp; omega
    have HX := Lib.hid (Ext.alloc w (.cells #[.int .i64 (S : Int), .int .i64 (B : Int), .slice a n cap] 53))
    have HZ := Lib.hid (show bestF S B G s 0 taken = ([], 0) from rfl)
    clear hG hT hl hi
    go_enter Try.func94, Try.ntmps94
    go_wp2
    rw [HZ.out]
    refine bodyPost_ret (v := .tuple #[.slice (some ⟨w.heap.size + 1, 0, none⟩) 0 0, .int .i64 0]) (by simp [results, Try.results94, go_sem]) rfl ⟨⟨_, rfl, OwnI.made' _ _ _ (by simp) (by simp)⟩, HX.out.trans (Ext.alloc _ _)⟩
  | succ r ih =>
    intro i ii hii hi w a n cap ta tn tc taken hG hT hl
    subst hii
    have heq : ((i : Int) == (S : Int)) = false := by simp; omega
    have hiS : i < S := by omega
    have hi' : S - (r + 1) = i := by omega
    have HX := Lib.hid (Ext.alloc w (.cells #[.int .i64 (S : Int), .int .i64 (B : Int), .slice a n cap] 53))
    have HG := Lib.hid (hG.ext HX.out)
    have HT := Lib.hid (hT.ext HX.out)
    have HTL := Lib.hid hT.hlen
    have htl : tn ≤ 5 := by have := hT.hlen; omega
    have HNS := Lib.hid (show n = S by have := hG.hlen; have := hM.rows; omega)
    have HI := Lib.hid hi'
    have HSUM := Lib.hid hi
    have HL := Lib.hid hl
    have HIH := Lib.hid ih
    have HM := Lib.hid hM
    have hn := hG.hcap
    have hm := hG.hmax
    clear hG hT hl hi ih hi' hM
    go_enter Try.func94, Try.ntmps94
    go_wp2_with fail
    refine (HIH.out (i + 1) ((i : Int) + 1) (by simp) (by have := HSUM.out; omega) _ a n cap ta tn tc taken HG.out HT.out (by have := HL.out; omega)).mono ?_
    rintro e w1 ⟨⟨v0, rfl, ho⟩, hx⟩
    obtain ⟨a0, n0, p0, rfl, N0⟩ := ho.var
    have hbd0 := bestF_bd S B G s HM.out.bd r taken
    have hn0 : n0 = r := by have := N0.out; omega
    have X1 := Lib.hid hx
    have O0 := Lib.hid ho
    have hsz1 := hx.size
    simp at hsz1
    clear hx ho
    obtain ⟨b0, hb0⟩ : ∃ b, b = (bestF S B G s r taken).2 := ⟨_, rfl⟩
    obtain ⟨l0, hl0⟩ : ∃ l, l = (bestF S B G s r taken).1 := ⟨_, rfl⟩
    rw [← hb0, ← hl0] at hbd0
    rw [← hl0] at O0
    have HB0 := Lib.hid hb0
    have HL0 := Lib.hid hl0
    obtain ⟨hll, hb1, hb2⟩ := hbd0
    have HN0 := Lib.hid hn0
    have HLL := Lib.hid hll
    rw [← hb0]
    clear hb0 hl0 hn0 hll
    go_wp2_with (first
      | (at_builtin; refine append_ints rfl _ _ rfl (w.heap.size + 1) _ [(-1 : Int)] rfl (OwnI.lit1 _ _ _ (by omega)) _ n0 _ l0 rfl (O0.out.ext (Ext.alloc _ _)).ints (by have := HN0.out; have := HSUM.out; simp; omega) (by simp; omega) ?_; intro v2 w2 ho hg hnear; obtain ⟨a2, n2, c2, rfl, HN2⟩ := ho.var; have HO2 := Lib.hid ho; have X2 := Lib.hid (ext_grown (X1.out.trans (Ext.alloc _ _)) hg (fun j hj => by have := Option.some.inj (show some w1.heap.size = some j from hj); simp; omega)); clear ho hg hnear))
    have HBB := Lib.hid (fun k => bestTo_bd S B G s HM.out.bd r taken k)
    go_loopw [11, 12, 13] (fun t o j wr => ∃ (k : Nat) (a1 : Option Addr) (n1 p1 : Nat), k ≤ B ∧ j = .int .i64 (k : Int) ∧ t = .int .i64 (bestTo S B G s r taken k).2 ∧ o = .slice a1 n1 p1 ∧ Hid (OwnI wr (w.heap.size + 1) (.slice a1 n1 p1) (bestTo S B G s r taken k).1) ∧ Hid (Ext (w.alloc (.cells #[.int .i64 (S : Int), .int .i64 (B : Int), .slice a n cap] 53)) wr)) (fun _ _ j _ => B - (intOf j).toNat)
    case atStart => exact ⟨0, a2, n2, c2, Nat.zero_le _, rfl, by rw [bestTo_zero, ← HB0.out], rfl, Lib.hid (by rw [bestTo_zero, ← HL0.out]; exact HO2.out), Lib.hid X2.out⟩
    case round =>
      obtain ⟨k, a1, n1, p1, hk, rfl, rfl, rfl, HO3, HX3⟩ := hrel
      have hbb := HBB.out k
      obtain ⟨T, hT⟩ : ∃ T, T = (bestTo S B G s r taken k).2 := ⟨_, rfl⟩
      obtain ⟨Q, hQ⟩ : ∃ Q, Q = (bestTo S B G s r taken k).1 := ⟨_, rfl⟩
      rw [← hT]
      rw [← hT, ← hQ] at hbb
      rw [← hQ] at HO3
      obtain ⟨hql, ht1, ht2⟩ := hbb
      have HT1 := Lib.hid hT
      have HQ1 := Lib.hid hQ
      have HQL := Lib.hid hql
      clear hT hQ hql
      have c0 : wr.cell? ⟨w.heap.size, 0, none⟩ = some (.int .i64 (S : Int)) := HX3.out.cellSome (by simp)
      have c1 : wr.cell? ⟨w.heap.size, 1, none⟩ = some (.int .i64 (B : Int)) := HX3.out.cellSome (by simp)
      have c2' : wr.cell? ⟨w.heap.size, 2, none⟩ = some (.slice a n cap) := HX3.out.cellSome (by simp)
      have hr5 : r < 5 := by have := HSUM.out; omega
      by_cases hlt : k < B
      · have HP1 := Lib.hid (hasP_bit (s : Int) i (by omega) (by omega))
        have HP2 := Lib.hid (show hasP (s : Int) ((S : Int) + (k : Int)) = bit (s : Int) (S + k) by have := hasP_bit (s : Int) (S + k) (by omega) (by omega); simpa using this)
        have HTw := Lib.hid (HT.out.ext HX3.out)
        have HGw := Lib.hid (HG.out.ext HX3.out)
        cases hbi : bit (s : Int) i
        · have HF := Lib.hid (show freeJ S s taken (S - (r + 1)) k = false by unfold freeJ; rw [HI.out, hbi]; rfl)
          rw [hbi] at HP1
          clear hbi
          go_wp2_with (first | (go_at_call 104; refine (s_HasPlayer _ _ _ (by omega)).mono ?_; rw [HP1.out]; rintro e w' ⟨rfl, rfl⟩))
          go_roundw
          case rel => exact ⟨k + 1, a1, n1, p1, by omega, by go_num, by rw [bestTo_succ, HF.out, if_neg (by simp), ← HT1.out], rfl, Lib.hid (by rw [bestTo_succ, HF.out, if_neg (by simp), ← HQ1.out]; exact HO3.out), HX3⟩
          case measure => simp [intOf]; omega
        · cases hbj : bit (s : Int) (S + k)
          · have HF := Lib.hid (show freeJ S s taken (S - (r + 1)) k = false by unfold freeJ; rw [HI.out, hbi, hbj]; rfl)
            rw [hbi] at HP1
            rw [hbj] at HP2
            clear hbi hbj
            go_wp2_with (first | (go_at_call 104; refine (s_HasPlayer _ _ _ (by omega)).mono ?_; (first | rw [HP1.out] | rw [HP2.out]); rintro e w' ⟨rfl, rfl⟩))
            go_roundw
            case rel => exact ⟨k + 1, a1, n1, p1, by omega, by go_num, by rw [bestTo_succ, HF.out, if_neg (by simp), ← HT1.out], rfl, Lib.hid (by rw [bestTo_succ, HF.out, if_neg (by simp), ← HQ1.out]; exact HO3.out), HX3⟩
            case measure => simp [intOf]; omega
          · have HH := Lib.hid (s_l1HasInt (k : Int) HTw.out)
            cases hhas : hasI taken (k : Int)
            · have HF := Lib.hid (show freeJ S s taken (S - (r + 1)) k = true by unfold freeJ; rw [HI.out, hbi, hbj, hhas]; rfl)
              rw [hbi] at HP1
              rw [hbj] at HP2
              rw [hhas] at HH
              have hiG : i < n := by have := HNS.out; omega
              obtain ⟨gb, goff, ga, gn, gc, hga, hgc, hgr⟩ := HGw.out.at hiG
              have hgn : k < gn := by have h1 := hgr.hlen; have h2 := HM.out.row i hiS; omega
              obtain ⟨rb, roff, hra, hrc⟩ := hgr.at hgn
              have hgk := HM.out.bd i k
              obtain ⟨y, hy⟩ : ∃ y, y = gain G i k := ⟨_, rfl⟩
              have hrc : wr.cell? ⟨rb, roff + k, none⟩ = some (.int .i64 y) := by rw [hy]; exact hrc
              rw [← hy] at hgk
              have HY := Lib.hid hy
              have hgcap := hgr.hcap
              have hgmax := hgr.hmax
              clear hbi hbj hhas hgr hy
              subst hga hra
              have hbm := bestF_bd S B G s HM.out.bd r (taken ++ [(k : Int)])
              obtain ⟨sm, hsm⟩ : ∃ b, b = (bestF S B G s r (taken ++ [(k : Int)])).2 := ⟨_, rfl⟩
              obtain ⟨lm, hlm⟩ : ∃ l, l = (bestF S B G s r (taken ++ [(k : Int)])).1 := ⟨_, rfl⟩
              rw [← hsm, ← hlm] at hbm
              obtain ⟨hlml, hsm1, hsm2⟩ := hbm
              have HSM := Lib.hid hsm
              have HLM := Lib.hid hlm
              have HLML := Lib.hid hlml
              clear hsm hlm hlml
              go_wp2_with (first
                | (go_at_call 104; refine (s_HasPlayer _ _ _ (by omega)).mono ?_; (first | rw [HP1.out] | rw [HP2.out]); rintro e w' ⟨rfl, rfl⟩)
                | (go_at_call 159; refine HH.out.mono ?_; rintro e w' ⟨rfl, rfl⟩))
              have HKEEP := Lib.hid (fun (w' : World) (h : Ext wr w') => (⟨h.cellSome c0, h.cellSome c1, h.cellSome c2', h⟩ : w'.cell? ⟨w.heap.size, 0, none⟩ = some (.int .i64 (S : Int)) ∧ w'.cell? ⟨w.heap.size, 1, none⟩ = some (.int .i64 (B : Int)) ∧ w'.cell? ⟨w.heap.size, 2, none⟩ = some (.slice (some ⟨gb, goff, none⟩) n cap) ∧ Ext wr w'))
              have HW1 := Lib.hid (show IntKind.i64.wrap ((i : Int) + 1) = (i : Int) + 1 by rw [IntKind.wrap_i64]; omega)
              have hk2 : Ext wr wr.drew := Ext.drew wr
              have hka : Ext wr (wr.alloc (.cells #[] 3)).drew := (Ext.alloc _ _).trans (Ext.drew _)
              have hkb : Ext wr (wr.alloc (.cells #[.int .i64 (k : Int)] 3)).drew := (Ext.alloc _ _).trans (Ext.drew _)
              have hkab : Ext wr ((wr.alloc (.cells #[] 3)).alloc (.cells #[.int .i64 (k : Int)] 3)).drew := ((Ext.alloc _ _).trans (Ext.alloc _ _)).trans (Ext.drew _)
              have hkba : Ext wr ((wr.alloc (.cells #[.int .i64 (k : Int)] 3)).alloc (.cells #[] 3)).drew := ((Ext.alloc _ _).trans (Ext.alloc _ _)).trans (Ext.drew _)
              have HOA := Lib.hid (show OwnI (wr.alloc (.cells #[] 3)).drew wr.heap.size (.slice (some ⟨wr.heap.size, 0, none⟩) 0 0) [] from (OwnI.made' wr _ _ rfl (Nat.le_refl _)).ext (Ext.drew _))
              have HOAB := Lib.hid (show OwnI ((wr.alloc (.cells #[] 3)).alloc (.cells #[.int .i64 (k : Int)] 3)).drew wr.heap.size (.slice (some ⟨wr.heap.size, 0, none⟩) 0 0) [] from ((OwnI.made' wr _ _ rfl (Nat.le_refl _)).ext (Ext.alloc _ _)).ext (Ext.drew _))
              have HOBA := Lib.hid (show OwnI ((wr.alloc (.cells #[.int .i64 (k : Int)] 3)).alloc (.cells #[] 3)).drew wr.heap.size (.slice (some ⟨wr.heap.size + 1, 0, none⟩) 0 0) [] from (OwnI.made' (wr.alloc (.cells #[.int .i64 (k : Int)] 3)) wr.heap.size _ (by simp) (by simp)).ext (Ext.drew _))
              have HJAB := Lib.hid (show Ints ((wr.alloc (.cells #[] 3)).alloc (.cells #[.int .i64 (k : Int)] 3)).drew (some ⟨wr.heap.size + 1, 0, none⟩) 1 1 [(k : Int)] from (Ints.one' (wr.alloc (.cells #[] 3)) (k : Int) 3 (wr.heap.size + 1) (by simp)).ext (Ext.drew _))
              have HJBA := Lib.hid (show Ints ((wr.alloc (.cells #[.int .i64 (k : Int)] 3)).alloc (.cells #[] 3)).drew (some ⟨wr.heap.size, 0, none⟩) 1 1 [(k : Int)] from ((Ints.one' wr (k : Int) 3 wr.heap.size rfl).ext (Ext.alloc _ _)).ext (Ext.drew _))
              go_region_held3 (fun w' => w'.cell? ⟨w.heap.size, 0, none⟩ = some (.int .i64 (S : Int)) ∧ w'.cell? ⟨w.heap.size, 1, none⟩ = some (.int .i64 (B : Int)) ∧ w'.cell? ⟨w.heap.size, 2, none⟩ = some (.slice (some ⟨gb, goff, none⟩) n cap) ∧ Ext wr w')
                (first
                  | with_reducible exact HKEEP.out _ hk2
                  | with_reducible exact HKEEP.out _ hka
                  | with_reducible exact HKEEP.out _ hkb
                  | with_reducible exact HKEEP.out _ hkab
                  | with_reducible exact HKEEP.out _ hkba
                  | with_reducible exact HKEEP.out _ (hk2.trans (Ext.alloc _ _)))
                (first
                  | (refine step_of_wp _ (by rfl) ?_
                     refine wp_append_ints _ _ (by rfl) wr.heap.size (.slice (some ⟨wr.heap.size, 0, none⟩) 0 0) [] (by rfl) (by with_reducible exact HOA.out) ta tn tc taken (by rfl) (HTw.out.ext hka) (by simp; omega) (by simp) ?_
                     intro v2 w3 ho hg hnear
                     have hk2 : Ext wr w3 := ext_grown hka hg (fun j hj => by have := Option.some.inj (show some wr.heap.size = some j from hj); omega)
                     rw [List.nil_append] at ho
                     obtain ⟨A2, N2, C2, rfl, HN2'⟩ := ho.var
                     have HO4 := Lib.hid (ho.ext (Ext.alloc _ (.cells #[.int .i64 (k : Int)] 3)))
                     have HJ := Lib.hid (Ints.one' w3 (k : Int) 3 w3.heap.size rfl)
                     have HB4 := Lib.hid (hk2.trans (Ext.alloc _ (.cells #[.int .i64 (k : Int)] 3)))
                     clear ho hg hnear)
                  | (refine step_of_wp _ (by rfl) ?_
                     refine wp_append_ints _ _ (by rfl) wr.heap.size (.slice (some ⟨wr.heap.size, 0, none⟩) 0 0) [] (by rfl) (by with_reducible exact HOAB.out) ta tn tc taken (by rfl) (HTw.out.ext hkab) (by simp; omega) (by simp; omega) ?_
                     intro v2 w3 ho hg hnear
                     have hk2 : Ext wr w3 := ext_grown hkab hg (fun j hj => by have := Option.some.inj (show some wr.heap.size = some j from hj); omega)
                     rw [List.nil_append] at ho
                     obtain ⟨A2, N2, C2, rfl, HN2'⟩ := ho.var
                     have HO4 := Lib.hid ho
                     have HJ := Lib.hid (HJAB.out.grown1 hg (by simp [Value.ownBlock]))
                     have HB4 := Lib.hid hk2
                     clear ho hg hnear)
                  | (refine step_of_wp _ (by rfl) ?_
                     refine wp_append_ints _ _ (by rfl) wr.heap.size (.slice (some ⟨wr.heap.size + 1, 0, none⟩) 0 0) [] (by rfl) (by with_reducible exact HOBA.out) ta tn tc taken (by rfl) (HTw.out.ext hkba) (by simp; omega) (by simp; omega) ?_
                     intro v2 w3 ho hg hnear
                     have hk2 : Ext wr w3 := ext_grown hkba hg (fun j hj => by have := Option.some.inj (show some (wr.heap.size + 1) = some j from hj); omega)
                     rw [List.nil_append] at ho
                     obtain ⟨A2, N2, C2, rfl, HN2'⟩ := ho.var
                     have HO4 := Lib.hid ho
                     have HJ := Lib.hid (HJBA.out.grown1 hg (by simp [Value.ownBlock]))
                     have HB4 := Lib.hid hk2
                     clear ho hg hnear)
                  | (refine step_of_wp _ (by rfl) ?_
                     refine wp_append_ints _ _ (by rfl) wr.heap.size (.slice A2 N2 C2) taken (by rfl) (by with_reducible exact HO4.out) _ 1 1 [(k : Int)] (by rfl) HJ.out (by have := HTL.out; omega) (by have := HB4.out.size; simp at this ⊢; omega) ?_
                     intro v3 w4 ho hg hnear
                     have hk2 : Ext wr w4 := ext_grown HB4.out hg (fun j hj => (HO4.out.lt j hj).1)
                     obtain ⟨A3, N3, C3, rfl, HN3'⟩ := ho.var
                     have HO5 := Lib.hid ho
                     clear ho hg hnear)
                  | (go_at_call 94; rw [HW1.out]; refine (HIH.out (i + 1) ((i : Int) + 1) (by simp) (by have := HSUM.out; omega) _ (some ⟨gb, goff, none⟩) n cap A3 N3 C3 (taken ++ [(k : Int)]) (HGw.out.ext hk2) HO5.out.ints (by have := HL.out; simp; omega)).mono ?_; rw [← HSM.out, ← HLM.out]; rintro e w5 ⟨⟨v5, rfl, ho⟩, hx⟩; obtain ⟨a5, n5, c5, rfl, N5⟩ := ho.var; have HO6 := Lib.hid ho; have hk2 := hk2.trans hx; have hsz6 := hx.size; clear ho hx))
              all_goals
                have X5 := Lib.hid (HX3.out.trans hk2)
                have O3 := Lib.hid (HO3.out.ext hk2)
                replace c0 := hk2.cellSome c0
                replace c1 := hk2.cellSome c1
                replace c2' := hk2.cellSome c2'
                replace hgc := hk2.cellSome hgc
                replace hrc := hk2.cellSome hrc
                have hszw : w.heap.size + 1 ≤ w5.heap.size := by have := X5.out.size; simpa using this
                clear hk2 hka hkb hkab hkba HOA HOAB HOBA HJAB HJBA HKEEP
                by_cases hgt : T < sm + y
                · have HGT := Lib.hid hgt
                  go_wp2_with (first
                    | (at_builtin; refine append_ints rfl _ _ rfl (w.heap.size + 1) _ [(k : Int)] rfl (OwnI.lit1 _ _ _ (by omega)) _ n5 _ lm rfl (HO6.out.ext (Ext.alloc _ _)).ints (by have := N5.out; have := HLML.out; simp; omega) (by simp; omega) ?_; intro v6 w6 ho hg hnear; obtain ⟨a6, n6, c6, rfl, HN6⟩ := ho.var; have HO7 := Lib.hid ho; have X6 := Lib.hid (ext_grown (X5.out.trans (Ext.alloc _ _)) hg (fun j hj => by have := Option.some.inj (show some w5.heap.size = some j from hj); simp; omega)); clear ho hg hnear))
                  go_roundw
                  case rel =>
                    have hb : bestTo S B G s r taken (k + 1) = ((k : Int) :: lm, sm + y) := by rw [bestTo_succ, HF.out, if_pos rfl, ← HSM.out, ← HLM.out, HI.out, ← HY.out, ← HT1.out, if_pos (by have := HGT.out; omega)]
                    exact ⟨k + 1, a6, n6, c6, by omega, by go_num, by rw [hb], rfl, Lib.hid (by rw [hb]; simpa using HO7.out), X6⟩
                  case measure => simp [intOf]; omega
                · have HGT := Lib.hid hgt
                  go_wp2
                  go_roundw
                  case rel =>
                    have hb : bestTo S B G s r taken (k + 1) = bestTo S B G s r taken k := by rw [bestTo_succ, HF.out, if_pos rfl, ← HSM.out, ← HLM.out, HI.out, ← HY.out, ← HT1.out, if_neg (by have := HGT.out; omega)]
                    exact ⟨k + 1, a1, n1, p1, by omega, by go_num, by rw [hb, ← HT1.out], rfl, Lib.hid (by rw [hb, ← HQ1.out]; exact O3.out), X5⟩
                  case measure => simp [intOf]; omega
            · have HF := Lib.hid (show freeJ S s taken (S - (r + 1)) k = false by unfold freeJ; rw [HI.out, hbi, hbj, hhas]; rfl)
              rw [hbi] at HP1
              rw [hbj] at HP2
              rw [hhas] at HH
              clear hbi hbj hhas
              go_wp2_with (first
                | (go_at_call 104; refine (s_HasPlayer _ _ _ (by omega)).mono ?_; (first | rw [HP1.out] | rw [HP2.out]); rintro e w' ⟨rfl, rfl⟩)
                | (go_at_call 159; refine HH.out.mono ?_; rintro e w' ⟨rfl, rfl⟩))
              go_roundw
              case rel => exact ⟨k + 1, a1, n1, p1, by omega, by go_num, by rw [bestTo_succ, HF.out, if_neg (by simp), ← HT1.out], rfl, Lib.hid (by rw [bestTo_succ, HF.out, if_neg (by simp), ← HQ1.out]; exact HO3.out), HX3⟩
              case measure => simp [intOf]; omega
      · go_wp2
        have hkB : k = B := by omega
        subst hkB
        refine bodyPost_ret (v := .tuple #[.slice a1 n1 p1, .int .i64 T]) (by simp [results, Try.results94, go_sem]) rfl ⟨⟨_, by rw [bestF_succ, HT1.out], ?_⟩, HX.out.trans HX3.out⟩
        rw [bestF_succ, ← HQ1.out]
        exact HO3.out.mono (by omega)
end Go.Proofs.Ytokpmflhgehicaa
