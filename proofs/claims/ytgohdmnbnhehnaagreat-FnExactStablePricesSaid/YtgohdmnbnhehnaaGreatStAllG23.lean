import Derived.Test.YtgohdmnbnhehnaaGreatStAllG22
import Derived.Test.YtgohdmnbnhehnaaGreatStAllG1
import Derived.Deep.RegionLaw
import Derived.Deep.RegionHeld3
import Derived.Test.YtgohdmnbnhehnaaGreatStAllG3
import Derived.Laws.EntriesVeiled
namespace Go.Proofs.YtgohdmnbnhehnaaGreat
set_option linter.unusedVariables false
set_option linter.unusedSimpArgs false
set_option maxRecDepth 100000
open Go.RowKit
theorem OwnI.lit1 (w : World) (base : Nat) (x : Int) (hb : base ≤ w.heap.size) : OwnI (w.alloc (.cells #[.int .i64 x] 3)) base (.slice (some ⟨w.heap.size, 0, none⟩) 1 1) [x] :=
  World.ownsRow_lit w #[.int .i64 x] 1 hb (by simp [maxLen]) rfl
theorem Ints.one' (w : World) (x : Int) (t : TypeId) (n : Nat) (hn : n = w.heap.size) : Ints (w.alloc (.cells #[.int .i64 x] t)) (some ⟨n, 0, none⟩) 1 1 [x] := by
  subst hn
  exact Ints.one w x t
theorem OwnI.made' (w : World) (base n : Nat) (hn : n = w.heap.size) (hb : base ≤ w.heap.size) : OwnI (w.alloc (.cells #[] 3)) base (.slice (some ⟨n, 0, none⟩) 0 0) [] := by
  subst hn
  exact OwnI.made w base hb
structure GoodM (S B : Nat) (G : List (List Int)) : Prop where
  s1 : 1 ≤ S
  b1 : 1 ≤ B
  sb : S + B ≤ 5
  rows : G.length = S
  row : ∀ i, i < S → (G[i]?.getD []).length = B
  bd : ∀ i j, 0 ≤ gain G i j ∧ gain G i j ≤ 100
theorem validM_good {x y : Int} {G : List (List Int)} (h : validM x y G = true) : ∃ S B : Nat, x = S ∧ y = B ∧ GoodM S B G := by
  simp only [validM, Bool.and_eq_true, decide_eq_true_eq, List.all_eq_true] at h
  obtain ⟨⟨⟨⟨⟨h1, h2⟩, h3⟩, h4⟩, h5⟩, h6⟩ := h
  refine ⟨x.toNat, y.toNat, by omega, by omega, by omega, by omega, by omega, by omega, fun i hi => ?_, fun i j => ?_⟩
  · have hl : i < G.length := by omega
    have := (h6 _ (List.getElem_mem hl)).2
    simp [hl]; omega
  · unfold gain
    by_cases hl : i < G.length
    · have := (h6 _ (List.getElem_mem hl)).1
      simp only [List.getElem?_eq_getElem hl, Option.getD_some]
      by_cases hj : j < G[i].length
      · have := this _ (List.getElem_mem hj)
        simp only [inB, Bool.and_eq_true, decide_eq_true_eq] at this
        simpa [hj] using this
      · simp [List.getElem?_eq_none (by omega : G[i].length ≤ j)]
    · simp [List.getElem?_eq_none (by omega : G.length ≤ i)]
theorem Ints.grown1 {w w' : World} {row : Option Nat} {b : Nat} {x : Int} (h : Ints w (some ⟨b, 0, none⟩) 1 1 [x]) (hg : w.grownBy w' row) (hne : row ≠ some b) : Ints w' (some ⟨b, 0, none⟩) 1 1 [x] := by
  obtain ⟨b', off, e, hc⟩ := h.at (k := 0) (by omega)
  simp only [Option.some.injEq, Addr.mk.injEq, and_true] at e
  obtain ⟨rfl, rfl⟩ := e
  have hb := hg.block b (World.block_lt_of_cell? w _ hc) (fun e => hne e.symm)
  refine ⟨rfl, Nat.le_refl _, by omega, fun k hk => ⟨b, 0, rfl, fun k hk => ?_⟩⟩
  obtain rfl : k = 0 := by omega
  rw [← hc]
  simp [World.cell?, hb]
set_option maxHeartbeats 8000000 in
theorem s_l19Best {S B s : Nat} {G : List (List Int)} (hM : GoodM S B G) (hs : s < 32) : ∀ (r i : Nat) (ii : Int), ii = (i : Int) → i + r = S → ∀ (w : World) (a : Option Addr) (n cap : Nat) (ta : Option Addr) (tn tc : Nat) (taken : List Int),
    IntSS w a n cap G → Ints w ta tn tc taken → taken.length ≤ i →
    Calls Tryz.prog 139 #[triple S B a n cap, .int .i64 (s : Int), .int .i64 ii, .slice ta tn tc] w fun e w' =>
      (∃ v, e = .returned (.tuple #[v, .int .i64 (bestF S B G s r taken).2]) ∧ OwnI w' w.heap.size v (bestF S B G s r taken).1) ∧ Ext w w' := by
  have hsb := hM.sb
  intro r
  induction r with
  | zero =>
    intro i ii hii hi w a n cap ta tn tc taken hG hT hl
    subst hii
    have heq : ((i : Int) == (S : Int)) = true := by simp; omega
    have HX := Lib.hid (Ext.alloc w (.cells #[.int .i64 (S : Int), .int .i64 (B : Int), .slice a n cap] 33))
    have HZ := Lib.hid (show bestF S B G s 0 taken = ([], 0) from rfl)
    clear hG hT hl hi
    go_enter Tryz.func139, Tryz.ntmps139
    go_wp2
    rw [HZ.out]
    refine bodyPost_ret (v := .tuple #[.slice (some ⟨w.heap.size + 1, 0, none⟩) 0 0, .int .i64 0]) (by simp [results, Tryz.results139, go_sem]) rfl ⟨⟨_, rfl, OwnI.made' _ _ _ (by simp) (by simp)⟩, HX.out.trans (Ext.alloc _ _)⟩
  | succ r ih =>
    intro i ii hii hi w a n cap ta tn tc taken hG hT hl
    subst hii
    have heq : ((i : Int) == (S : Int)) = false := by simp; omega
    have hiS : i < S := by omega
    have hi' : S - (r + 1) = i := by omega
    have HX := Lib.hid (Ext.alloc w (.cells #[.int .i64 (S : Int), .int .i64 (B : Int), .slice a n cap] 33))
    have HG := Lib.hid (hG.ext HX.out)
    have HT := Lib.hid (hT.ext HX.out)
    have HTL := Lib.hid hT.hlen
    have htl : tn ≤ 5 := by have := hT.hlen; omega
    have HNS := Lib.hid (show n = S by have := hG.hlen; have := hM.rows; omega)
    have HI := Lib.hid hi'
    have HSUM := Lib.hid hi
    have HL := Lib.hid hl
    have HIH := Lib.hid ih
    have HM := Lib.hid hM
    have hn := hG.hcap
    have hm := hG.hmax
    clear hG hT hl hi ih hi' hM
    go_enter Tryz.func139, Tryz.ntmps139
    go_wp2_with fail
    refine (HIH.out (i + 1) ((i : Int) + 1) (by simp) (by have := HSUM.out; omega) _ a n cap ta tn tc taken HG.out HT.out (by have := HL.out; omega)).mono ?_
    rintro e w1 ⟨⟨v0, rfl, ho⟩, hx⟩
    obtain ⟨a0, n0, p0, rfl, N0⟩ := ho.var
    have hbd0 := bestF_bd S B G s HM.out.bd r taken
    have hn0 : n0 = r := by have := N0.out; omega
    have X1 := Lib.hid hx
    have O0 := Lib.hid ho
    have hsz1 := hx.size
    simp at hsz1
    clear hx ho
    obtain ⟨b0, hb0⟩ : ∃ b, b = (bestF S B G s r taken).2 := ⟨_, rfl⟩
    obtain ⟨l0, hl0⟩ : ∃ l, l = (bestF S B G s r taken).1 := ⟨_, rfl⟩
    rw [← hb0, ← hl0] at hbd0
    rw [← hl0] at O0
    have HB0 := Lib.hid hb0
    have HL0 := Lib.hid hl0
    obtain ⟨hll, hb1, hb2⟩ := hbd0
    have HN0 := Lib.hid hn0
    have HLL := Lib.hid hll
    rw [← hb0]
    clear hb0 hl0 hn0 hll
    go_wp2_with (first
      | (at_builtin; refine append_ints rfl _ _ rfl (w.heap.size + 1) _ [(-1 : Int)] rfl (OwnI.lit1 _ _ _ (by omega)) _ n0 _ l0 rfl (O0.out.ext (Ext.alloc _ _)).ints (by have := HN0.out; have := HSUM.out; simp; omega) (by simp; omega) ?_; intro v2 w2 ho hg hnear; obtain ⟨a2, n2, c2, rfl, HN2⟩ := ho.var; have HO2 := Lib.hid ho; have X2 := Lib.hid (ext_grown (X1.out.trans (Ext.alloc _ _)) hg (fun j hj => by have := Option.some.inj (show some w1.heap.size = some j from hj); simp; omega)); clear ho hg hnear))
    have HBB := Lib.hid (fun k => bestTo_bd S B G s HM.out.bd r taken k)
    go_loopw [11, 12, 13] (fun t o j wr => ∃ (k : Nat) (a1 : Option Addr) (n1 p1 : Nat), k ≤ B ∧ j = .int .i64 (k : Int) ∧ t = .int .i64 (bestTo S B G s r taken k).2 ∧ o = .slice a1 n1 p1 ∧ Hid (OwnI wr (w.heap.size + 1) (.slice a1 n1 p1) (bestTo S B G s r taken k).1) ∧ Hid (Ext (w.alloc (.cells #[.int .i64 (S : Int), .int .i64 (B : Int), .slice a n cap] 33)) wr)) (fun _ _ j _ => B - (intOf j).toNat)
    case atStart => exact ⟨0, a2, n2, c2, Nat.zero_le _, rfl, by rw [bestTo_zero, ← HB0.out], rfl, Lib.hid (by rw [bestTo_zero, ← HL0.out]; exact HO2.out), Lib.hid X2.out⟩
    case round =>
      obtain ⟨k, a1, n1, p1, hk, rfl, rfl, rfl, HO3, HX3⟩ := hrel
      have hbb := HBB.out k
      obtain ⟨T, hT⟩ : ∃ T, T = (bestTo S B G s r taken k).2 := ⟨_, rfl⟩
      obtain ⟨Q, hQ⟩ : ∃ Q, Q = (bestTo S B G s r taken k).1 := ⟨_, rfl⟩
      rw [← hT]
      rw [← hT, ← hQ] at hbb
      rw [← hQ] at HO3
      obtain ⟨hql, ht1, ht2⟩ := hbb
      have HT1 := Lib.hid hT
      have HQ1 := Lib.hid hQ
      have HQL := Lib.hid hql
      clear hT hQ hql
      have c0 : wr.cell? ⟨w.heap.size, 0, none⟩ = some (.int .i64 (S : Int)) := HX3.out.cellSome (by simp)
      have c1 : wr.cell? ⟨w.heap.size, 1, none⟩ = some (.int .i64 (B : Int)) := HX3.out.cellSome (by simp)
      have c2' : wr.cell? ⟨w.heap.size, 2, none⟩ = some (.slice a n cap) := HX3.out.cellSome (by simp)
      have hr5 : r < 5 := by have := HSUM.out; omega
      by_cases hlt : k < B
      · have HP1 := Lib.hid (hasP_bit (s : Int) i (by omega) (by omega))
        have HP2 := Lib.hid (show hasP (s : Int) ((S : Int) + (k : Int)) = bit (s : Int) (S + k) by have := hasP_bit (s : Int) (S + k) (by omega) (by omega); simpa using this)
        have HTw := Lib.hid (HT.out.ext HX3.out)
        have HGw := Lib.hid (HG.out.ext HX3.out)
        cases hbi : bit (s : Int) i
        · have HF := Lib.hid (show freeJ S s taken (S - (r + 1)) k = false by unfold freeJ; rw [HI.out, hbi]; rfl)
          rw [hbi] at HP1
          clear hbi
          go_wp2_with (first | (go_at_call 60; refine (s_HasPlayer _ _ _ (by omega)).mono ?_; rw [HP1.out]; rintro e w' ⟨rfl, rfl⟩))
          go_roundw
          case rel => exact ⟨k + 1, a1, n1, p1, by omega, by go_num, by rw [bestTo_succ, HF.out, if_neg (by simp), ← HT1.out], rfl, Lib.hid (by rw [bestTo_succ, HF.out, if_neg (by simp), ← HQ1.out]; exact HO3.out), HX3⟩
          case measure => simp [intOf]; omega
        · cases hbj : bit (s : Int) (S + k)
          · have HF := Lib.hid (show freeJ S s taken (S - (r + 1)) k = false by unfold freeJ; rw [HI.out, hbi, hbj]; rfl)
            rw [hbi] at HP1
            rw [hbj] at HP2
            clear hbi hbj
            go_wp2_with (first | (go_at_call 60; refine (s_HasPlayer _ _ _ (by omega)).mono ?_; (first | rw [HP1.out] | rw [HP2.out]); rintro e w' ⟨rfl, rfl⟩))
            go_roundw
            case rel => exact ⟨k + 1, a1, n1, p1, by omega, by go_num, by rw [bestTo_succ, HF.out, if_neg (by simp), ← HT1.out], rfl, Lib.hid (by rw [bestTo_succ, HF.out, if_neg (by simp), ← HQ1.out]; exact HO3.out), HX3⟩
            case measure => simp [intOf]; omega
          · have HH := Lib.hid (s_l1HasInt (k : Int) HTw.out)
            cases hhas : hasI taken (k : Int)
            · have HF := Lib.hid (show freeJ S s taken (S - (r + 1)) k = true by unfold freeJ; rw [HI.out, hbi, hbj, hhas]; rfl)
              rw [hbi] at HP1
              rw [hbj] at HP2
              rw [hhas] at HH
              have hiG : i < n := by have := HNS.out; omega
              obtain ⟨gb, goff, ga, gn, gc, hga, hgc, hgr⟩ := HGw.out.at hiG
              have hgn : k < gn := by have h1 := hgr.hlen; have h2 := HM.out.row i hiS; omega
              obtain ⟨rb, roff, hra, hrc⟩ := hgr.at hgn
              have hgk := HM.out.bd i k
              obtain ⟨y, hy⟩ : ∃ y, y = gain G i k := ⟨_, rfl⟩
              have hrc : wr.cell? ⟨rb, roff + k, none⟩ = some (.int .i64 y) := by rw [hy]; exact hrc
              rw [← hy] at hgk
              have HY := Lib.hid hy
              have hgcap := hgr.hcap
              have hgmax := hgr.hmax
              clear hbi hbj hhas hgr hy
              subst hga hra
              have hbm := bestF_bd S B G s HM.out.bd r (taken ++ [(k : Int)])
              obtain ⟨sm, hsm⟩ : ∃ b, b = (bestF S B G s r (taken ++ [(k : Int)])).2 := ⟨_, rfl⟩
              obtain ⟨lm, hlm⟩ : ∃ l, l = (bestF S B G s r (taken ++ [(k : Int)])).1 := ⟨_, rfl⟩
              rw [← hsm, ← hlm] at hbm
              obtain ⟨hlml, hsm1, hsm2⟩ := hbm
              have HSM := Lib.hid hsm
              have HLM := Lib.hid hlm
              have HLML := Lib.hid hlml
              clear hsm hlm hlml
              go_wp2_with (first
                | (go_at_call 60; refine (s_HasPlayer _ _ _ (by omega)).mono ?_; (first | rw [HP1.out] | rw [HP2.out]); rintro e w' ⟨rfl, rfl⟩)
                | (go_at_call 199; refine HH.out.mono ?_; rintro e w' ⟨rfl, rfl⟩))
              have HKEEP := Lib.hid (fun (w' : World) (h : Ext wr w') => (⟨h.cellSome c0, h.cellSome c1, h.cellSome c2', h⟩ : w'.cell? ⟨w.heap.size, 0, none⟩ = some (.int .i64 (S : Int)) ∧ w'.cell? ⟨w.heap.size, 1, none⟩ = some (.int .i64 (B : Int)) ∧ w'.cell? ⟨w.heap.size, 2, none⟩ = some (.slice (some ⟨gb, goff, none⟩) n cap) ∧ Ext wr w'))
              have HW1 := Lib.hid (show IntKind.i64.wrap ((i : Int) + 1) = (i : Int) + 1 by rw [IntKind.wrap_i64]; omega)
              have hk2 : Ext wr wr.drew := Ext.drew wr
              have hka : Ext wr (wr.alloc (.cells #[] 3)).drew := (Ext.alloc _ _).trans (Ext.drew _)
              have hkb : Ext wr (wr.alloc (.cells #[.int .i64 (k : Int)] 3)).drew := (Ext.alloc _ _).trans (Ext.drew _)
              have hkab : Ext wr ((wr.alloc (.cells #[] 3)).alloc (.cells #[.int .i64 (k : Int)] 3)).drew := ((Ext.alloc _ _).trans (Ext.alloc _ _)).trans (Ext.drew _)
              have hkba : Ext wr ((wr.alloc (.cells #[.int .i64 (k : Int)] 3)).alloc (.cells #[] 3)).drew := ((Ext.alloc _ _).trans (Ext.alloc _ _)).trans (Ext.drew _)
              have HOA := Lib.hid (show OwnI (wr.alloc (.cells #[] 3)).drew wr.heap.size (.slice (some ⟨wr.heap.size, 0, none⟩) 0 0) [] from (OwnI.made' wr _ _ rfl (Nat.le_refl _)).ext (Ext.drew _))
              have HOAB := Lib.hid (show OwnI ((wr.alloc (.cells #[] 3)).alloc (.cells #[.int .i64 (k : Int)] 3)).drew wr.heap.size (.slice (some ⟨wr.heap.size, 0, none⟩) 0 0) [] from ((OwnI.made' wr _ _ rfl (Nat.le_refl _)).ext (Ext.alloc _ _)).ext (Ext.drew _))
              have HOBA := Lib.hid (show OwnI ((wr.alloc (.cells #[.int .i64 (k : Int)] 3)).alloc (.cells #[] 3)).drew wr.heap.size (.slice (some ⟨wr.heap.size + 1, 0, none⟩) 0 0) [] from (OwnI.made' (wr.alloc (.cells #[.int .i64 (k : Int)] 3)) wr.heap.size _ (by simp) (by simp)).ext (Ext.drew _))
              have HJAB := Lib.hid (show Ints ((wr.alloc (.cells #[] 3)).alloc (.cells #[.int .i64 (k : Int)] 3)).drew (some ⟨wr.heap.size + 1, 0, none⟩) 1 1 [(k : Int)] from (Ints.one' (wr.alloc (.cells #[] 3)) (k : Int) 3 (wr.heap.size + 1) (by simp)).ext (Ext.drew _))
              have HJBA := Lib.hid (show Ints ((wr.alloc (.cells #[.int .i64 (k : Int)] 3)).alloc (.cells #[] 3)).drew (some ⟨wr.heap.size, 0, none⟩) 1 1 [(k : Int)] from ((Ints.one' wr (k : Int) 3 wr.heap.size rfl).ext (Ext.alloc _ _)).ext (Ext.drew _))
              go_region_held3 (fun w' => w'.cell? ⟨w.heap.size, 0, none⟩ = some (.int .i64 (S : Int)) ∧ w'.cell? ⟨w.heap.size, 1, none⟩ = some (.int .i64 (B : Int)) ∧ w'.cell? ⟨w.heap.size, 2, none⟩ = some (.slice (some ⟨gb, goff, none⟩) n cap) ∧ Ext wr w')
                (first
                  | with_reducible exact HKEEP.out _ hk2
                  | with_reducible exact HKEEP.out _ hka
                  | with_reducible exact HKEEP.out _ hkb
                  | with_reducible exact HKEEP.out _ hkab
                  | with_reducible exact HKEEP.out _ hkba
                  | with_reducible exact HKEEP.out _ (hk2.trans (Ext.alloc _ _)))
                (first
                  | (refine step_of_wp _ (by rfl) ?_
                     refine wp_append_ints _ _ (by rfl) wr.heap.size (.slice (some ⟨wr.heap.size, 0, none⟩) 0 0) [] (by rfl) (by with_reducible exact HOA.out) ta tn tc taken (by rfl) (HTw.out.ext hka) (by simp; omega) (by simp) ?_
                     intro v2 w3 ho hg hnear
                     have hk2 : Ext wr w3 := ext_grown hka hg (fun j hj => by have := Option.some.inj (show some wr.heap.size = some j from hj); omega)
                     rw [List.nil_append] at ho
                     obtain ⟨A2, N2, C2, rfl, HN2'⟩ := ho.var
                     have HO4 := Lib.hid (ho.ext (Ext.alloc _ (.cells #[.int .i64 (k : Int)] 3)))
                     have HJ := Lib.hid (Ints.one' w3 (k : Int) 3 w3.heap.size rfl)
                     have HB4 := Lib.hid (hk2.trans (Ext.alloc _ (.cells #[.int .i64 (k : Int)] 3)))
                     clear ho hg hnear)
                  | (refine step_of_wp _ (by rfl) ?_
                     refine wp_append_ints _ _ (by rfl) wr.heap.size (.slice (some ⟨wr.heap.size, 0, none⟩) 0 0) [] (by rfl) (by with_reducible exact HOAB.out) ta tn tc taken (by rfl) (HTw.out.ext hkab) (by simp; omega) (by simp; omega) ?_
                     intro v2 w3 ho hg hnear
                     have hk2 : Ext wr w3 := ext_grown hkab hg (fun j hj => by have := Option.some.inj (show some wr.heap.size = some j from hj); omega)
                     rw [List.nil_append] at ho
                     obtain ⟨A2, N2, C2, rfl, HN2'⟩ := ho.var
                     have HO4 := Lib.hid ho
                     have HJ := Lib.hid (HJAB.out.grown1 hg (by simp [Value.ownBlock]))
                     have HB4 := Lib.hid hk2
                     clear ho hg hnear)
                  | (refine step_of_wp _ (by rfl) ?_
                     refine wp_append_ints _ _ (by rfl) wr.heap.size (.slice (some ⟨wr.heap.size + 1, 0, none⟩) 0 0) [] (by rfl) (by with_reducible exact HOBA.out) ta tn tc taken (by rfl) (HTw.out.ext hkba) (by simp; omega) (by simp; omega) ?_
                     intro v2 w3 ho hg hnear
                     have hk2 : Ext wr w3 := ext_grown hkba hg (fun j hj => by have := Option.some.inj (show some (wr.heap.size + 1) = some j from hj); omega)
                     rw [List.nil_append] at ho
                     obtain ⟨A2, N2, C2, rfl, HN2'⟩ := ho.var
                     have HO4 := Lib.hid ho
                     have HJ := Lib.hid (HJBA.out.grown1 hg (by simp [Value.ownBlock]))
                     have HB4 := Lib.hid hk2
                     clear ho hg hnear)
                  | (refine step_of_wp _ (by rfl) ?_
                     refine wp_append_ints _ _ (by rfl) wr.heap.size (.slice A2 N2 C2) taken (by rfl) (by with_reducible exact HO4.out) _ 1 1 [(k : Int)] (by rfl) HJ.out (by have := HTL.out; omega) (by have := HB4.out.size; simp at this ⊢; omega) ?_
                     intro v3 w4 ho hg hnear
                     have hk2 : Ext wr w4 := ext_grown HB4.out hg (fun j hj => (HO4.out.lt j hj).1)
                     obtain ⟨A3, N3, C3, rfl, HN3'⟩ := ho.var
                     have HO5 := Lib.hid ho
                     clear ho hg hnear)
                  | (go_at_call 139; rw [HW1.out]; refine (HIH.out (i + 1) ((i : Int) + 1) (by simp) (by have := HSUM.out; omega) _ (some ⟨gb, goff, none⟩) n cap A3 N3 C3 (taken ++ [(k : Int)]) (HGw.out.ext hk2) HO5.out.ints (by have := HL.out; simp; omega)).mono ?_; rw [← HSM.out, ← HLM.out]; rintro e w5 ⟨⟨v5, rfl, ho⟩, hx⟩; obtain ⟨a5, n5, c5, rfl, N5⟩ := ho.var; have HO6 := Lib.hid ho; have hk2 := hk2.trans hx; have hsz6 := hx.size; clear ho hx))
              all_goals
                have X5 := Lib.hid (HX3.out.trans hk2)
                have O3 := Lib.hid (HO3.out.ext hk2)
                replace c0 := hk2.cellSome c0
                replace c1 := hk2.cellSome c1
                replace c2' := hk2.cellSome c2'
                replace hgc := hk2.cellSome hgc
                replace hrc := hk2.cellSome hrc
                have hszw : w.heap.size + 1 ≤ w5.heap.size := by have := X5.out.size; simpa using this
                clear hk2 hka hkb hkab hkba HOA HOAB HOBA HJAB HJBA HKEEP
                by_cases hgt : T < sm + y
                · have HGT := Lib.hid hgt
                  go_wp2_with (first
                    | (at_builtin; refine append_ints rfl _ _ rfl (w.heap.size + 1) _ [(k : Int)] rfl (OwnI.lit1 _ _ _ (by omega)) _ n5 _ lm rfl (HO6.out.ext (Ext.alloc _ _)).ints (by have := N5.out; have := HLML.out; simp; omega) (by simp; omega) ?_; intro v6 w6 ho hg hnear; obtain ⟨a6, n6, c6, rfl, HN6⟩ := ho.var; have HO7 := Lib.hid ho; have X6 := Lib.hid (ext_grown (X5.out.trans (Ext.alloc _ _)) hg (fun j hj => by have := Option.some.inj (show some w5.heap.size = some j from hj); simp; omega)); clear ho hg hnear))
                  go_roundw
                  case rel =>
                    have hb : bestTo S B G s r taken (k + 1) = ((k : Int) :: lm, sm + y) := by rw [bestTo_succ, HF.out, if_pos rfl, ← HSM.out, ← HLM.out, HI.out, ← HY.out, ← HT1.out, if_pos (by have := HGT.out; omega)]
                    exact ⟨k + 1, a6, n6, c6, by omega, by go_num, by rw [hb], rfl, Lib.hid (by rw [hb]; simpa using HO7.out), X6⟩
                  case measure => simp [intOf]; omega
                · have HGT := Lib.hid hgt
                  go_wp2
                  go_roundw
                  case rel =>
                    have hb : bestTo S B G s r taken (k + 1) = bestTo S B G s r taken k := by rw [bestTo_succ, HF.out, if_pos rfl, ← HSM.out, ← HLM.out, HI.out, ← HY.out, ← HT1.out, if_neg (by have := HGT.out; omega)]
                    exact ⟨k + 1, a1, n1, p1, by omega, by go_num, by rw [hb, ← HT1.out], rfl, Lib.hid (by rw [hb, ← HQ1.out]; exact O3.out), X5⟩
                  case measure => simp [intOf]; omega
            · have HF := Lib.hid (show freeJ S s taken (S - (r + 1)) k = false by unfold freeJ; rw [HI.out, hbi, hbj, hhas]; rfl)
              rw [hbi] at HP1
              rw [hbj] at HP2
              rw [hhas] at HH
              clear hbi hbj hhas
              go_wp2_with (first
                | (go_at_call 60; refine (s_HasPlayer _ _ _ (by omega)).mono ?_; (first | rw [HP1.out] | rw [HP2.out]); rintro e w' ⟨rfl, rfl⟩)
                | (go_at_call 199; refine HH.out.mono ?_; rintro e w' ⟨rfl, rfl⟩))
              go_roundw
              case rel => exact ⟨k + 1, a1, n1, p1, by omega, by go_num, by rw [bestTo_succ, HF.out, if_neg (by simp), ← HT1.out], rfl, Lib.hid (by rw [bestTo_succ, HF.out, if_neg (by simp), ← HQ1.out]; exact HO3.out), HX3⟩
              case measure => simp [intOf]; omega
      · go_wp2
        have hkB : k = B := by omega
        subst hkB
        refine bodyPost_ret (v := .tuple #[.slice a1 n1 p1, .int .i64 T]) (by simp [results, Tryz.results139, go_sem]) rfl ⟨⟨_, by rw [bestF_succ, HT1.out], ?_⟩, HX.out.trans HX3.out⟩
        rw [bestF_succ, ← HQ1.out]
        exact HO3.out.mono (by omega)
end Go.Proofs.YtgohdmnbnhehnaaGreat
namespace Go.Proofs.YtgohdmnbnhehnaaGreat
set_option linter.unusedVariables false
set_option linter.unusedSimpArgs false
set_option maxRecDepth 100000
open Go.RowKit
def tradeOk (x y : Int) (G : List (List Int)) (s : Int) : Bool := validM x y G && inB s 0 (cntC (x + y) - 1)
def tradeR (x y : Int) (G : List (List Int)) (s : Int) : List Int × Int := if tradeOk x y G s = true then bestF x.toNat y.toNat G s.toNat x.toNat [] else ([], 0)
theorem tradeR_not {x y : Int} {G : List (List Int)} {s : Int} (h : tradeOk x y G s = false) : tradeR x y G s = ([], 0) := by simp [tradeR, h]
theorem tradeR_ok {S B s : Nat} {G : List (List Int)} (h : tradeOk (S : Int) (B : Int) G (s : Int) = true) : tradeR (S : Int) (B : Int) G (s : Int) = bestF S B G s S [] := by simp [tradeR, h]
end Go.Proofs.YtgohdmnbnhehnaaGreat
namespace Go.Proofs.YtgohdmnbnhehnaaGreat
set_option linter.unusedVariables false
open Go.RowKit
theorem heap_setCell_one {w : World} {b : Nat} {v u : Value} {t : TypeId} (h : w.heap[b]? = some (.cells #[v] t (0, 0))) : (w.setCell ⟨b, 0, none⟩ u).heap[b]? = some (.cells #[u] t (0, 0)) := one_setCell h
section
variable {w w' : World} {base bn bN bo bw n m c m' c' : Nat} {p : List Int} {L : List (List Int)} {a a' : Option Addr} {vs : List Value}
end
end Go.Proofs.YtgohdmnbnhehnaaGreat
namespace Go.Proofs.YtgohdmnbnhehnaaGreat
set_option linter.unusedVariables false
set_option linter.unusedSimpArgs false
set_option maxRecDepth 100000
open Go.RowKit
theorem bit_test0t (s : Int) (k : Nat) (h : 0 ≤ s) (h' : s ≤ 9223372036854775807) : (bits BinOp.and IntKind.i64 (s / 2 ^ k) 1 == 0) = !bit s k := by
  have h1 := div_pow s k h
  rw [and_one _ h1.1 (by omega)]
  unfold bit
  have : s / 2 ^ k % 2 = 0 ∨ s / 2 ^ k % 2 = 1 := by omega
  rcases this with h | h <;> simp [h]
theorem kwrap_powt (k : Nat) (h : k ≤ 5) : IntKind.i64.wrap ((2 : Int) ^ k) = 2 ^ k := by
  have := pow_pos k
  have := pow_le5 k h
  rw [IntKind.wrap_i64]; omega
abbrev capsT (bm bs bb bo bx bw : Nat) : Array Value := #[.pointer (some ⟨bm, 0, none⟩), .pointer (some ⟨bo, 0, none⟩), .pointer (some ⟨bx, 0, none⟩), .pointer (some ⟨bb, 0, none⟩), .pointer (some ⟨bw, 0, none⟩), .pointer (some ⟨bs, 0, none⟩)]
structure StT (w0 w : World) (S B s : Nat) (a : Option Addr) (n cap bm bs bb bo br bx bw base : Nat) (a1 : Option Addr) (n1 c1 : Nat) (st : Srch) : Prop where
  ord : w0.heap.size ≤ bm ∧ bm < bs ∧ bs < bb ∧ bb < bo ∧ bo < br ∧ br < bx ∧ bx < bw ∧ bw < base ∧ base ≤ w.heap.size
  hm : w.heap[bm]? = some (.cells #[.int .i64 (S : Int), .int .i64 (B : Int), .slice a n cap] 33 (0, 0))
  hs : w.heap[bs]? = some (.cells #[.int .i64 (s : Int)] 3 (0, 0))
  hb : w.heap[bb]? = some (.cells #[.slice a1 n1 c1] 22 (0, 0))
  ho : w.heap[bo]? = some (.cells #[.int .i64 st.most] 3 (0, 0))
  hr : Row w br 3 st.now
  hx : w.heap[bx]? = some (.cells #[.slice (some ⟨br, 0, none⟩) S S] 22 (0, 0))
  hw : w.heap[bw]? = some (.cells #[.func (.func 203) #[] (capsT bm bs bb bo bx bw)] 197 (0, 0))
  own : OwnI w base (.slice a1 n1 c1) st.best
  len : st.now.length = S
  bel : Ext w0 w
section
variable {w0 w w1 : World} {S B s : Nat} {a : Option Addr} {n cap bm bs bb bo br bx bw base : Nat} {a1 : Option Addr} {n1 c1 : Nat} {st : Srch}
theorem StT.ext (h : StT w0 w S B s a n cap bm bs bb bo br bx bw base a1 n1 c1 st) (hx : Ext w w1) : StT w0 w1 S B s a n cap bm bs bb bo br bx bw base a1 n1 c1 st :=
  ⟨by have := h.ord; have := hx.size; omega, (hx.block _ (lt_of_block h.hm)).trans h.hm, (hx.block _ (lt_of_block h.hs)).trans h.hs, (hx.block _ (lt_of_block h.hb)).trans h.hb, (hx.block _ (lt_of_block h.ho)).trans h.ho, h.hr.ext hx, (hx.block _ (lt_of_block h.hx)).trans h.hx, (hx.block _ (lt_of_block h.hw)).trans h.hw, h.own.ext hx, h.len, h.bel.trans hx⟩
theorem StT.setNow (h : StT w0 w S B s a n cap bm bs bb bo br bx bw base a1 n1 c1 st) (i : Nat) (x : Int) : StT w0 (w.setCell ⟨br, i, none⟩ (.int .i64 x)) S B s a n cap bm bs bb bo br bx bw base a1 n1 c1 ⟨st.now.set i x, st.best, st.most⟩ := by
  have ho := h.ord
  have hne : ∀ k, k ≠ br → (w.setCell ⟨br, i, none⟩ (.int .i64 x)).heap[k]? = w.heap[k]? := fun k hk => heap_setCell_other w _ k _ hk
  refine ⟨by simp; omega, ?_, ?_, ?_, ?_, h.hr.set i x, ?_, ?_, h.own.keep fun k hk => hne k (by have := (h.own.lt k hk).1; omega), by simpa using h.len, h.bel.setCell (by simp; omega) _⟩
  · rw [hne _ (by omega)]; exact h.hm
  · rw [hne _ (by omega)]; exact h.hs
  · rw [hne _ (by omega)]; exact h.hb
  · rw [hne _ (by omega)]; exact h.ho
  · rw [hne _ (by omega)]; exact h.hx
  · rw [hne _ (by omega)]; exact h.hw
theorem StT.setBest (h0 : StT w0 w S B s a n cap bm bs bb bo br bx bw base a1 n1 c1 st) (hx : Ext w w1) {a2 : Option Addr} {n2 c2 : Nat} {l : List Int} (hl : OwnI w1 w.heap.size (.slice a2 n2 c2) l) (x : Int) :
    StT w0 ((w1.setCell ⟨bb, 0, none⟩ (.slice a2 n2 c2)).setCell ⟨bo, 0, none⟩ (.int .i64 x)) S B s a n cap bm bs bb bo br bx bw base a2 n2 c2 ⟨st.now, l, x⟩ := by
  have h := h0.ext hx
  have ho := h.ord
  have ho0 := h0.ord
  have hne : ∀ k, k ≠ bb → k ≠ bo → ((w1.setCell ⟨bb, 0, none⟩ (.slice a2 n2 c2)).setCell ⟨bo, 0, none⟩ (.int .i64 x)).heap[k]? = w1.heap[k]? := fun k hk hk2 => (heap_setCell_other _ _ k _ hk2).trans (heap_setCell_other _ _ k _ hk)
  refine ⟨by simp; omega, ?_, ?_, ?_, ?_, ?_, ?_, ?_, (hl.mono (by omega)).keep fun k hk => hne k ?_ ?_, h.len, (h.bel.setCell (by simp; omega) _).setCell (by simp; omega) _⟩
  · rw [hne _ (by omega) (by omega)]; exact h.hm
  · rw [hne _ (by omega) (by omega)]; exact h.hs
  · rw [heap_setCell_other _ _ _ _ (by simp; omega)]; exact heap_setCell_one h.hb
  · exact heap_setCell_one ((heap_setCell_other _ _ _ _ (by simp; omega)).trans h.ho)
  · exact (h.hr.other (by simp; omega) _).other (by simp; omega) _
  · rw [hne _ (by omega) (by omega)]; exact h.hx
  · rw [hne _ (by omega) (by omega)]; exact h.hw
  · have := (hl.lt k hk).1; omega
  · have := (hl.lt k hk).1; omega
end
def StF (w0 : World) (S B s : Nat) (a : Option Addr) (n cap bm bs bb bo br bx bw base : Nat) (st : Srch) (w : World) : Prop := ∃ a1 n1 c1, StT w0 w S B s a n cap bm bs bb bo br bx bw base a1 n1 c1 st
theorem go_BestTrades1 : IsGo Tryz.prog 203 := isGo Tryz.func203 (by kernel_rfl) (by kernel_rfl)
set_option maxHeartbeats 8000000 in
theorem i_walk {w0 : World} {S B s : Nat} {G : List (List Int)} {a : Option Addr} {n cap : Nat} (hM : GoodM S B G) (hs : s < 32) (hG : IntSS w0 a n cap G) (bm bs bb bo br bx bw base : Nat) :
    ∀ (r i : Nat) (ii li sum : Int) (left : Nat) (w : World) (a1 : Option Addr) (n1 c1 : Nat) (st : Srch), ii = (i : Int) → li = (left : Int) → i + r = S → left < 32 → 0 ≤ sum → sum ≤ 100 * i →
    StT w0 w S B s a n cap bm bs bb bo br bx bw base a1 n1 c1 st →
    Calls Tryz.prog 203 #[.int .i64 ii, .int .i64 li, .int .i64 sum, .pointer (some ⟨bm, 0, none⟩), .pointer (some ⟨bo, 0, none⟩), .pointer (some ⟨bx, 0, none⟩), .pointer (some ⟨bb, 0, none⟩), .pointer (some ⟨bw, 0, none⟩), .pointer (some ⟨bs, 0, none⟩)] w fun e w' =>
      e = .returned (.tuple #[]) ∧ StF w0 S B s a n cap bm bs bb bo br bx bw base (walkF S B G s r left sum st) w' := by
  have hsb := hM.sb
  have hcf : ∀ (args : Array Value) (w : World), (callFunc 203 args).run Tryz.prog w = .ok (.enter 203 args) w := go_BestTrades1
  intro r
  induction r with
  | zero =>
    intro i ii li sum left w a1 n1 c1 st hii hli hi hleft hs0 hs1 hS
    subst hii hli
    have heq : ((i : Int) == (S : Int)) = true := by simp; omega
    have cm : w.cell? ⟨bm, 0, none⟩ = some (.int .i64 (S : Int)) := by rw [cell_of_row _ _ _ _ _ _ hS.hm]; rfl
    have co := cell_of_one hS.ho
    have fo := free_of_one hS.ho
    have cb := cell_of_one hS.hb
    have fb := free_of_one hS.hb
    have cx := cell_of_one hS.hx
    have hne1 : bb ≠ bo := by have := hS.ord; omega
    have hne2 : bo ≠ bb := by have := hS.ord; omega
    have HS := Lib.hid hS
    have HI := Lib.hid hi
    by_cases hgt : st.most < sum
    · have HZ := Lib.hid (show walkF S B G s 0 left sum st = ⟨st.now, st.now, sum⟩ by simp [walkF, hgt])
      have HN := Lib.hid (hS.hr.ints (n := S) (cap := S) hS.len (Nat.le_refl _) (by omega))
      clear hS hi
      go_enter Tryz.func203, Tryz.ntmps203
      go_wp2_with fail
      refine (clone_ints HN.out (by omega)).mono ?_
      rintro e w1 ⟨v, rfl, ho, hx⟩
      obtain ⟨a2, n2, c2, rfl, HN2⟩ := ho.var
      have hS1 := HS.out.ext hx
      have co := cell_of_one hS1.ho
      have fo := free_of_one hS1.ho
      have cb := cell_of_one hS1.hb
      have fb := free_of_one hS1.hb
      have HX := Lib.hid hx
      have HO := Lib.hid ho
      clear hx ho hS1
      go_wp2
      refine bodyPost_ret (results_none rfl _ _ _) rfl ?_
      rw [HZ.out]
      exact ⟨rfl, a2, n2, c2, HS.out.setBest HX.out HO.out sum⟩
    · have HZ := Lib.hid (show walkF S B G s 0 left sum st = st by simp [walkF, hgt])
      clear hS hi
      go_enter Tryz.func203, Tryz.ntmps203
      go_wp2
      refine bodyPost_ret (results_none rfl _ _ _) rfl ?_
      rw [HZ.out]
      exact ⟨rfl, a1, n1, c1, HS.out⟩
  | succ r ih =>
    intro i ii li sum left w a1 n1 c1 st hii hli hi hleft hs0 hs1 hS
    subst hii hli
    have heq : ((i : Int) == (S : Int)) = false := by simp; omega
    have hiS : i < S := by omega
    have hi' : S - (r + 1) = i := by omega
    have hord := hS.ord
    have cm0 : w.cell? ⟨bm, 0, none⟩ = some (.int .i64 (S : Int)) := by rw [cell_of_row _ _ _ _ _ _ hS.hm]; rfl
    have cx := cell_of_one hS.hx
    have hn := hS.hr.cell (k := i) (by rw [hS.len]; exact hiS)
    obtain ⟨y0, hy0⟩ : ∃ y, y = st.now[i]?.getD 0 := ⟨_, rfl⟩
    rw [← hy0] at hn
    have fn := hS.hr.free i
    have HS1 := Lib.hid (hS.setNow i (-1))
    have cw1 := cell_of_one HS1.out.hw
    have HI := Lib.hid hi'
    have HSUM := Lib.hid hi
    have HIH := Lib.hid ih
    have HMM := Lib.hid hM
    have hb0 := bit_test0t (s : Int) i (by omega) (by omega)
    have hn5 : S ≤ 5 := by omega
    clear hS hi hi' ih hy0
    go_enter Tryz.func203, Tryz.ntmps203
    go_wp2_with fail
    refine (HIH.out (i + 1) ((i : Int) + 1) (left : Int) sum left _ a1 n1 c1 _ (by simp) rfl (by have := HSUM.out; omega) hleft hs0 (by simp; omega) HS1.out).mono ?_
    rintro e w2 ⟨rfl, a2, n2, c2, hS2⟩
    have HS2 := Lib.hid hS2
    have cs2 := cell_of_one hS2.hs
    clear hS2 hn fn cx cm0 cw1
    cases hbi : bit (s : Int) i
    · rw [hbi] at hb0
      have HBI := Lib.hid hbi
      clear hbi
      go_wp2
      refine bodyPost_ret (results_none rfl _ _ _) rfl ?_
      rw [walkF_not _ _ _ _ (by rw [HI.out]; exact HBI.out), HI.out]
      exact ⟨rfl, a2, n2, c2, HS2.out⟩
    · rw [hbi] at hb0
      have HBI := Lib.hid hbi
      have cm1 : w2.cell? ⟨bm, 1, none⟩ = some (.int .i64 (B : Int)) := by rw [cell_of_row _ _ _ _ _ _ HS2.out.hm]; rfl
      have HZ := Lib.hid (walkF_to S B G s (r := r) (left := left) (sum := sum) (st := st) (by rw [HI.out]; exact HBI.out))
      clear hbi
      go_wp2
      go_loopw [39] (fun j wr => ∃ (k : Nat), k ≤ B ∧ j = .int .i64 (k : Int) ∧ StF w0 S B s a n cap bm bs bb bo br bx bw base (walkTo S B G s r left sum st k) wr) (fun j _ => B - (intOf j).toNat)
      case atStart => exact ⟨0, Nat.zero_le _, rfl, a2, n2, c2, by rw [walkTo_zero, HI.out]; exact HS2.out⟩
      case round =>
        obtain ⟨k, hk, rfl, a3, n3, c3, hS3⟩ := hrel
        have HS3 := Lib.hid hS3
        have cm0 : wr.cell? ⟨bm, 0, none⟩ = some (.int .i64 (S : Int)) := by rw [cell_of_row _ _ _ _ _ _ hS3.hm]; rfl
        have cx := cell_of_one hS3.hx
        by_cases hlt : k < B
        · have hbt := bit_test (left : Int) (S + k) (by omega) (by omega)
          cases hbl : bit (left : Int) (S + k)
          · rw [hbl] at hbt
            have HBL := Lib.hid hbl
            clear hbl hS3
            go_wp2
            go_roundw
            case rel => exact ⟨k + 1, by omega, by go_num, a3, n3, c3, by rw [walkTo_succ, HBL.out, if_neg (by simp)]; exact HS3.out⟩
            case measure => simp [intOf]; omega
          · rw [hbl] at hbt
            have HBL := Lib.hid hbl
            have hord3 := hS3.ord
            have hn3 := hS3.hr.cell (k := i) (by rw [hS3.len]; exact hiS)
            obtain ⟨y3, hy3⟩ : ∃ y, y = (walkTo S B G s r left sum st k).now[i]?.getD 0 := ⟨_, rfl⟩
            rw [← hy3] at hn3
            have fn3 := hS3.hr.free i
            have hS4 := hS3.setNow i (k : Int)
            have HS4 := Lib.hid hS4
            have hiG : i < n := by have := hG.hlen; have := HMM.out.rows; omega
            have hncap := hG.hcap
            have hnmax := hG.hmax
            obtain ⟨gb, goff, ga, gn, gc, hga, hgc0, hgr⟩ := hG.at hiG
            have hgn : k < gn := by have h1 := hgr.hlen; have h2 := HMM.out.row i hiS; omega
            obtain ⟨rb, roff, hra, hrc0⟩ := hgr.at hgn
            have hgk := HMM.out.bd i k
            obtain ⟨y, hy⟩ : ∃ y, y = gain G i k := ⟨_, rfl⟩
            have hrc0 : w0.cell? ⟨rb, roff + k, none⟩ = some (.int .i64 y) := by rw [hy]; exact hrc0
            have hgc := hS4.bel.cellSome hgc0
            have hrc := hS4.bel.cellSome hrc0
            have HGC := Lib.hid hgc0
            have HRC := Lib.hid hrc0
            rw [← hy] at hgk
            have HY := Lib.hid hy
            have hgcap := hgr.hcap
            have hgmax := hgr.hmax
            have cw4 := cell_of_one hS4.hw
            have cm40 : (wr.setCell ⟨br, i, none⟩ (.int .i64 (k : Int))).cell? ⟨bm, 0, none⟩ = some (.int .i64 (S : Int)) := by rw [cell_of_row _ _ _ _ _ _ hS4.hm]; rfl
            have cm42 : (wr.setCell ⟨br, i, none⟩ (.int .i64 (k : Int))).cell? ⟨bm, 2, none⟩ = some (.slice a n cap) := by rw [cell_of_row _ _ _ _ _ _ hS4.hm]; rfl
            subst hga hra
            obtain ⟨w4, hw4⟩ : ∃ w4, w4 = wr.setCell ⟨br, i, none⟩ (.int .i64 (k : Int)) := ⟨_, rfl⟩
            have HW4 := Lib.hid hw4
            rw [← hw4] at hgc hrc cw4 cm40 cm42 HS4
            clear hbl hS3 hS4 hgr hy hy3 hw4 hord3 hgc0 hrc0
            have hk2 : Ext w4 w4.drew := Ext.drew w4
            have ecut := tcut hleft (show S + k < 5 by omega) HBL.out
            obtain ⟨u, hu⟩ : ∃ u : Nat, u = left - 2 ^ (S + k) := ⟨_, rfl⟩
            have hu32 : u < 32 := by rw [hu]; exact Nat.lt_of_le_of_lt (Nat.sub_le _ _) hleft
            rw [← hu] at ecut
            have HU := Lib.hid hu
            have eSk : IntKind.i64.wrap ((S : Int) + (k : Int)) = (S : Int) + (k : Int) := by rw [IntKind.wrap_i64]; omega
            have eI : IntKind.i64.wrap ((i : Int) + 1) = (i : Int) + 1 := by rw [IntKind.wrap_i64]; omega
            have eSum : IntKind.i64.wrap (sum + y) = sum + y := by rw [IntKind.wrap_i64]; omega
            have HPow := Lib.hid (kwrap_powt (S + k) (by omega))
            have HTN := Lib.hid (show ((S : Int) + (k : Int)).toNat = S + k by omega)
            have HCut := Lib.hid ecut
            clear hu ecut
            go_wp2
            rw [← HW4.out]
            go_region_held3 (fun w' => w'.cell? ⟨bw, 0, none⟩ = some (.func (.func 203) #[] (capsT bm bs bb bo bx bw)) ∧ w'.cell? ⟨bm, 0, none⟩ = some (.int .i64 (S : Int)) ∧ w'.cell? ⟨bm, 2, none⟩ = some (.slice (some ⟨gb, goff, none⟩) n cap) ∧ w'.cell? ⟨gb, goff + i, none⟩ = some (.slice (some ⟨rb, roff, none⟩) gn gc) ∧ w'.cell? ⟨rb, roff + k, none⟩ = some (.int .i64 y))
              (first
                | exact ⟨hk2.cellSome cw4, hk2.cellSome cm40, hk2.cellSome cm42, hk2.cellSome hgc, hk2.cellSome hrc⟩
                | exact ⟨cell_of_one HS5.out.hw, by rw [cell_of_row _ _ _ _ _ _ HS5.out.hm]; rfl, by rw [cell_of_row _ _ _ _ _ _ HS5.out.hm]; rfl, HS5.out.bel.cellSome HGC.out, HS5.out.bel.cellSome HRC.out⟩)
              (first
                | (rw [HTN.out, HPow.out, HCut.out]
                   have T1 := HIH.out (i + 1) ((i : Int) + 1) (u : Int) (sum + y) u _ a3 n3 c3 _ (by simp) rfl (by have := HSUM.out; omega) hu32 (by omega) (by simp; omega) (HS4.out.ext hk2)
                   with_reducible refine T1.mono ?_
                   rintro e w5 ⟨rfl, a5, n5, c5, hS5⟩
                   have HS5 := Lib.hid hS5
                   clear hS5 T1))
            go_wp2
            go_roundw
            case rel => exact ⟨k + 1, by omega, by go_num, a5, n5, c5, by rw [walkTo_succ, HBL.out, if_pos rfl, HI.out, ← HY.out, ← HU.out]; exact HS5.out⟩
            case measure => simp [intOf]; omega
        · have hkB : k = B := by omega
          subst hkB
          clear hS3
          go_wp2
          go_end0
          rw [HZ.out]
          exact ⟨rfl, a3, n3, c3, HS3.out⟩
end Go.Proofs.YtgohdmnbnhehnaaGreat
