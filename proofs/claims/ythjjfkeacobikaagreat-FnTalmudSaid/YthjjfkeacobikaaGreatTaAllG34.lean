import Derived.Test.YthjjfkeacobikaaGreatTaAllG15
import Derived.Test.YthjjfkeacobikaaGreatTaAllG1
set_option linter.unusedVariables false
set_option linter.unusedSimpArgs false
namespace Go.Proofs.YthjjfkeacobikaaGreat
set_option maxRecDepth 100000
open Go.RowKit
theorem mapH_snoc {L : List (Int × Int)} {k : Nat} {x y p q : Int} (h : k < L.length) (hx : L[k]?.getD (0, 0) = (x, y)) (hp : halfR (x, y) = (p, q)) : (L.take k).map halfR ++ [(p, q)] = (L.take (k + 1)).map halfR := by
 rw [take_snocR h, List.map_append, hx, ← hp]; rfl
set_option maxHeartbeats 4000000 in
theorem s_l18Half {w : World} {a : Option Addr} {n cap : Nat} {L : List (Int × Int)} (h : Rats w a n cap L) (hbig : n ≤ 1048576) :
 Calls Tryz.prog 118 #[.slice a n cap] w fun e w' => (∃ v, e = .returned v ∧ OwnR w' w.heap.size v (L.map halfR)) ∧ Ext w w' := by
 have HL := Lib.hid h.hlen
 have hmax := h.hmax
 have hcap := h.hcap
 have HB := Lib.hid h
 clear h
 have HO := Lib.hid (OwnR.made w w.heap.size (Nat.le_refl _))
 go_enter Tryz.func118, Tryz.ntmps118
 go_wp2_with fail
 go_loopg [3, 4] n (fun gk o i wr => ∃ (k : Nat) (a1 : Option Addr) (n1 p1 : Nat), Hid (gk + k = n) ∧ i = .int .i64 (k : Int) ∧ o = .slice a1 n1 p1 ∧ Hid (OwnR wr w.heap.size (.slice a1 n1 p1) ((L.take k).map halfR)) ∧ Hid (Ext w wr))
 case atStart => exact ⟨0, _, _, _, Lib.hid (by omega), rfl, rfl, HO, Lib.hid (Ext.alloc _ _)⟩
 case round =>
  obtain ⟨k, a1, n1, p1, HK, rfl, rfl, HO1, HX1⟩ := hrel
  have hszr := HX1.out.size
  by_cases hlt : k < n
  ·obtain ⟨bb, boff, bx, by', hb, hbx, hbc0, hbc1⟩ := (HB.out.ext HX1.out).at hlt
   subst hb
   obtain ⟨p, q, ok, hm⟩ : ∃ p q ok, divR (bx, by') (2, 1) = ((p, q), ok) := ⟨_, _, _, rfl⟩
   have HM := Lib.hid hm
   have HBX := Lib.hid hbx
   have HH := Lib.hid (show halfR (bx, by') = (p, q) by unfold halfR; rw [hm])
   have HLT := Lib.hid (show ((L.take k).map halfR).length = k by rw [List.length_map, List.length_take]; have := HL.out; omega)
   clear hbx hm
   go_upto_region 5 with fail
   go_cut [5, 6] (fun sx so wx => ∃ g : Nat, sx = .pointer (some ⟨g, 0, none⟩) ∧ so = .bool ok ∧ Hid (Boxed wr wx g p q))
   case first =>
    have hk2 : Ext wr wr.drew := Ext.drew wr
    have hka : Ext wr (wr.alloc (.cells #[.int .i64 0, .int .i64 0] 43)).drew := (Ext.alloc _ _).trans (Ext.drew _)
    have HKEEP := Lib.hid (fun (w' : World) (h : Ext wr w') => (⟨h.cellSome hbc0, h.cellSome hbc1, h⟩ : w'.cell? ⟨bb, boff + k * 2, none⟩ = some (.int .i64 bx) ∧ w'.cell? ⟨bb, boff + k * 2 + 1, none⟩ = some (.int .i64 by') ∧ Ext wr w'))
    go_region_held3 (fun w' => w'.cell? ⟨bb, boff + k * 2, none⟩ = some (.int .i64 bx) ∧ w'.cell? ⟨bb, boff + k * 2 + 1, none⟩ = some (.int .i64 by') ∧ Ext wr w')
     (first
       | with_reducible exact HKEEP.out _ hk2
       | with_reducible exact HKEEP.out _ hka
       | with_reducible exact HKEEP.out _ ((hk2.setCell (by first | (simp; done) | (simp; omega)) _).setCell (by first | (simp; done) | (simp; omega)) _)
       | with_reducible exact HKEEP.out _ (hk2.trans (Ext.alloc _ _))
       | with_reducible exact HKEEP.out _ (hBB.put _ _).ext)
     (first
       | (go_at_call 86
          (with_reducible refine (s_l3Int 2 _).mono ?_)
          rintro e w2 ⟨rfl, hx_w2⟩
          first | (with_reducible have hBB := Boxed.grow hBB hx_w2) | (with_reducible have hBB := Boxed.firstD hx_w2) | (with_reducible have hBB := Boxed.laterD hk2 hx_w2) | skip
          first | (have b0_ := hBB.c0; have b1_ := hBB.c1; have fb_ := hBB.free) | skip
          have hk2 : Ext wr w2 := by first | with_reducible exact hk2.trans hx_w2 | with_reducible exact hka.trans hx_w2 | with_reducible exact (hk2.trans (Ext.alloc _ _)).trans hx_w2
          have hk2s := hk2.size)
       | (go_at_call 183
          (with_reducible refine (s_DivRat bx by' 2 1 _).mono ?_)
          rw [HM.out]
          rintro e w3 ⟨rfl, hx_w3⟩
          first | (with_reducible have hBB := Boxed.grow hBB hx_w3) | (with_reducible have hBB := Boxed.firstD hx_w3) | (with_reducible have hBB := Boxed.laterD hk2 hx_w3) | skip
          first | (have b0_ := hBB.c0; have b1_ := hBB.c1; have fb_ := hBB.free) | skip
          have hk2 : Ext wr w3 := by first | with_reducible exact hk2.trans hx_w3 | with_reducible exact hka.trans hx_w3 | with_reducible exact (hk2.trans (Ext.alloc _ _)).trans hx_w3
          have hk2s := hk2.size)
       | fail)
    all_goals (go_wp2_with fail; go_meet; first | exact ⟨_, rfl, rfl, Lib.hid (hBB.put _ _)⟩ | exact ⟨_, rfl, rfl, Lib.hid (Boxed.new hk2 _ _)⟩ | exact ⟨_, rfl, rfl, Lib.hid (Boxed.new' hk2 _ _ (by simp))⟩)
   obtain ⟨g, rfl, rfl, HB1⟩ := hcut
   have g0 := HB1.out.c0
   have g1 := HB1.out.c1
   have X2 := Lib.hid (HX1.out.trans HB1.out.ext)
   have HO2 := Lib.hid (HO1.out.ext HB1.out.ext)
   clear hbc0 hbc1
   have hszc := X2.out.size
   go_wp2_with (first
    | (at_builtin; refine append_rats rfl _ _ rfl w.heap.size (.slice a1 n1 p1) _ rfl (HO2.out.ext (Ext.alloc _ _)) _ 1 _ [(p, q)] rfl (Rats.one' _ _ _ _ _ (by simp)) (by rw [HLT.out]; omega) (by simp; omega) ?_; intro v2 w4 ho hg hnear; obtain ⟨a2, n2, c2, rfl, HN2⟩ := ho.var; have HO4 := Lib.hid ho; have X5 := Lib.hid (ext_grown (X2.out.trans (Ext.alloc _ _)) hg (fun j hj => (HO2.out.lt j hj).1)); clear ho hg hnear))
   go_roundg (gk - 1)
   case measure => have := HK.out; omega
   case rel => exact ⟨k + 1, a2, n2, c2, Lib.hid (by have := HK.out; omega), by go_num, rfl, Lib.hid (by rw [← mapH_snoc (by have := HL.out; omega) HBX.out HH.out]; exact HO4.out), X5⟩
  ·have hkn : k = n := by have := HK.out; omega
   subst hkn
   have HT := Lib.hid (show L.take k = L from List.take_of_length_le (by rw [HL.out]; exact Nat.le_refl _))
   go_wp2_with fail
   go_ret
   exact ⟨⟨_, rfl, by have := HO1.out; rw [HT.out] at this; exact this⟩, HX1.out⟩
set_option maxHeartbeats 4000000 in
theorem s_TalmudShares {w : World} {x : Int} {a : Option Addr} {n cap : Nat} {C : List Int} (h : Ints w a n cap C) :
 Calls Tryz.prog 44 #[pair x a n cap] w fun e w' => (∃ v, e = .returned (.tuple #[v, .bool (validPair 0 x C)]) ∧ OwnR w' w.heap.size v (talL x C)) ∧ Ext w w' := by
 have HL := Lib.hid h.hlen
 have hmax := h.hmax
 have hcap := h.hcap
 have HX := Lib.hid (Ext.alloc w (.cells #[.int .i64 x, .slice a n cap] 66))
 have HC := Lib.hid (h.ext HX.out)
 have HV := Lib.hid (s_IsValidClaims (x := x) HC.out)
 clear h
 cases hv : validPair 0 x C
 ·have HN := Lib.hid (show talL x C = [] by unfold talL; rw [hv]; rfl)
  rw [hv] at HV
  clear hv
  go_enter Tryz.func44, Tryz.ntmps44
  go_wp2_with fail
  refine HV.out.mono ?_
  rintro e w1 ⟨rfl, hx⟩
  have HX1 := Lib.hid (HX.out.trans hx)
  have HM2 := Lib.hid (OwnR.made w1 w.heap.size HX1.out.size)
  clear hx
  go_wp2_with fail
  refine bodyPost_ret (v := .tuple #[.slice (some ⟨w1.heap.size, 0, none⟩) 0 0, .bool false]) (by simp [results, Tryz.results44, go_sem]) rfl ⟨⟨_, rfl, by rw [HN.out]; exact HM2.out⟩, HX1.out.trans (Ext.alloc _ _)⟩
 ·rw [hv] at HV
  have hvc := valid_claims hv
  have hn5 : n ≤ 5 := by have := HL.out; omega
  obtain ⟨_, _, hx0, hxs, hs0, hs5, _⟩ := hvc
  have HVV := Lib.hid hv
  have HTA := Lib.hid (tal_award hv)
  have HTL := Lib.hid (tal_less hv)
  have HTN := Lib.hid (talH_len hv)
  obtain ⟨S, hS⟩ : ∃ S, S = sumW C := ⟨_, rfl⟩
  rw [← hS] at hs0 hs5 hxs
  have HS := Lib.hid hS
  clear hv hS
  have hw2 : IntKind.i64.wrap (2 * x) = 2 * x := by rw [IntKind.wrap_i64]; omega
  have hwS : IntKind.i64.wrap (S - x) = S - x := by rw [IntKind.wrap_i64]; omega
  have hwS2 : IntKind.i64.wrap (2 * (S - x)) = 2 * (S - x) := by rw [IntKind.wrap_i64]; omega
  by_cases hlow : 2 * x ≤ S
  case' neg =>
   have HA := Lib.hid (show talA x C = 2 * (S - x) by unfold talA; rw [← HS.out, if_neg hlow])
   have HLL := Lib.hid (show talL x C = (lessL C (talH x C)).getD [] by unfold talL; rw [if_pos HVV.out, ← HS.out, if_neg hlow])
  case' pos =>
   have HA := Lib.hid (show talA x C = 2 * x by unfold talA; rw [← HS.out, if_pos hlow])
   have HLL := Lib.hid (show talL x C = talH x C by unfold talL; rw [if_pos HVV.out, ← HS.out, if_pos hlow])
  all_goals
   go_enter Tryz.func44, Tryz.ntmps44
   go_wp2_with fail
   refine HV.out.mono ?_
   rintro e w1 ⟨rfl, hx⟩
   have HX1 := Lib.hid (HX.out.trans hx)
   have c0 : w1.cell? ⟨w.heap.size, 0, none⟩ = some (.int .i64 x) := hx.cellSome (by simp)
   have c1 : w1.cell? ⟨w.heap.size, 1, none⟩ = some (.slice a n cap) := hx.cellSome (by simp)
   have HC1 := Lib.hid (HC.out.ext hx)
   clear hx
   go_wp2_with fail
   refine (s_l18Sum HC1.out).mono ?_
   rw [← HS.out]
   rintro e w2 ⟨rfl, rfl⟩
  ·-- half of what the claims come to, at most
   have hk2 : Ext w1 w1.drew := Ext.drew w1
   have hka := hk2
   have HKEEP := Lib.hid (fun (w' : World) (h : Ext w1 w') => (⟨h.cellSome c0, h.cellSome c1, h⟩ : w'.cell? ⟨w.heap.size, 0, none⟩ = some (.int .i64 x) ∧ w'.cell? ⟨w.heap.size, 1, none⟩ = some (.slice a n cap) ∧ Ext w1 w'))
   go_wp2_with fail
   go_region_held3 (fun w' => w'.cell? ⟨w.heap.size, 0, none⟩ = some (.int .i64 x) ∧ w'.cell? ⟨w.heap.size, 1, none⟩ = some (.slice a n cap) ∧ Ext w1 w')
    (with_reducible exact HKEEP.out _ hk2)
    (first
      | (go_at_call 86
         (with_reducible refine (s_l3Int (2 * x) _).mono ?_)
         rintro e w2 ⟨rfl, hx_w2⟩
         have hk2 : Ext w1 w2 := hk2.trans hx_w2
         have hs_w2 := hk2.size)
      | (go_at_call 117
         (with_reducible refine (s_EqualAwards (x := 2 * x) (y := 1) (HC1.out.ext hk2)).mono ?_)
         rintro e w3 ⟨⟨v, rfl, ho⟩, hx_w3⟩
         obtain ⟨a1, n1, p1, rfl, HN1⟩ := ho.var
         have HO3 := Lib.hid ho
         clear ho
         have hk2 : Ext w1 w3 := hk2.trans hx_w3
         have hs_w3 := hk2.size)
      | fail)
   clear HKEEP hka
   have HX3 := Lib.hid (HX1.out.trans hk2)
   have HH := Lib.hid (s_l18Half HO3.out.rats (by have := HN1.out; have := HTA.out.2.1; rw [HA.out] at this; have := HL.out; omega))
   clear hk2
   go_wp2_with fail
   refine HH.out.mono ?_
   rintro e w4 ⟨⟨v, rfl, ho⟩, hx⟩
   have HO4 := Lib.hid (ho.mono HX3.out.size)
   have HX4 := Lib.hid (HX3.out.trans hx)
   clear ho hx
   go_wp2_with fail
   refine bodyPost_ret (v := .tuple #[v, .bool true]) (by simp [results, Tryz.results44, go_sem]) rfl ⟨⟨v, rfl, by rw [HLL.out]; unfold talH; rw [HA.out]; exact HO4.out⟩, HX4.out⟩
  ·-- more than half
   have hk2 : Ext w1 w1.drew := Ext.drew w1
   have hka := hk2
   have HKEEP := Lib.hid (fun (w' : World) (h : Ext w1 w') => (⟨h.cellSome c0, h.cellSome c1, h⟩ : w'.cell? ⟨w.heap.size, 0, none⟩ = some (.int .i64 x) ∧ w'.cell? ⟨w.heap.size, 1, none⟩ = some (.slice a n cap) ∧ Ext w1 w'))
   go_wp2_with fail
   go_region_held3 (fun w' => w'.cell? ⟨w.heap.size, 0, none⟩ = some (.int .i64 x) ∧ w'.cell? ⟨w.heap.size, 1, none⟩ = some (.slice a n cap) ∧ Ext w1 w')
    (with_reducible exact HKEEP.out _ hk2)
    (first
      | (go_at_call 86
         (with_reducible refine (s_l3Int (2 * (S - x)) _).mono ?_)
         rintro e w2 ⟨rfl, hx_w2⟩
         have hk2 : Ext w1 w2 := hk2.trans hx_w2
         have hs_w2 := hk2.size)
      | (go_at_call 117
         (with_reducible refine (s_EqualAwards (x := 2 * (S - x)) (y := 1) (HC1.out.ext hk2)).mono ?_)
         rintro e w3 ⟨⟨v, rfl, ho⟩, hx_w3⟩
         obtain ⟨a1, n1, p1, rfl, HN1⟩ := ho.var
         have HO3 := Lib.hid ho
         clear ho
         have hk2 : Ext w1 w3 := hk2.trans hx_w3
         have hs_w3 := hk2.size)
      | fail)
   clear HKEEP hka
   have HX3 := Lib.hid (HX1.out.trans hk2)
   have c03 := hk2.cellSome c0
   have c13 := hk2.cellSome c1
   have HC3 := Lib.hid (HC1.out.ext hk2)
   have HN3 := Lib.hid (show n1 = n by have := HN1.out; have := HTA.out.2.1; rw [HA.out] at this; have := HL.out; omega)
   have HH := Lib.hid (s_l18Half HO3.out.rats (by have := HN3.out; omega))
   clear hk2 c0 c1
   have hk2 : Ext w3 w3.drew := Ext.drew w3
   have hka := hk2
   have HKEEP := Lib.hid (fun (w' : World) (h : Ext w3 w') => (⟨h.cellSome c03, h.cellSome c13, h⟩ : w'.cell? ⟨w.heap.size, 0, none⟩ = some (.int .i64 x) ∧ w'.cell? ⟨w.heap.size, 1, none⟩ = some (.slice a n cap) ∧ Ext w3 w'))
   go_wp2_with fail
   go_region_held3 (fun w' => w'.cell? ⟨w.heap.size, 0, none⟩ = some (.int .i64 x) ∧ w'.cell? ⟨w.heap.size, 1, none⟩ = some (.slice a n cap) ∧ Ext w3 w')
    (with_reducible exact HKEEP.out _ hk2)
    (first
      | (go_at_call 118
         (with_reducible refine (s_l18Half (HO3.out.rats.ext hk2) (by have := HN3.out; omega)).mono ?_)
         rintro e w4 ⟨⟨v, rfl, ho⟩, hx_w4⟩
         obtain ⟨a2, n2, p2, rfl, HN2⟩ := ho.var
         have HO4 := Lib.hid ho
         clear ho
         have hk2 : Ext w3 w4 := hk2.trans hx_w4
         have hs_w4 := hk2.size)
      | (go_at_call 119
         (with_reducible refine (s_l18Lose (HC3.out.ext hk2) HO4.out.rats (by have h1 := HN2.out; have h2 := HN1.out; have h3 := HN3.out; rw [List.length_map] at h1; omega) (by omega)).mono ?_)
         rintro e w5 ⟨⟨v, rfl, ho⟩, hx_w5⟩
         have HO5 := Lib.hid ho
         clear ho
         have hk2 : Ext w3 w5 := hk2.trans hx_w5
         have hs_w5 := hk2.size)
      | fail)
   clear HKEEP hka
   have HX5 := Lib.hid (HX3.out.trans hk2)
   have HE2 := Lib.hid (show n2 = C.length by have h1 := HN2.out; have h2 := HN1.out; have h3 := HN3.out; rw [List.length_map] at h1; have := HL.out; omega)
   go_wp2_with fail
   refine bodyPost_ret (v := .tuple #[v, .bool true]) (by simp [results, Tryz.results44, go_sem]) rfl ⟨⟨v, rfl, ?_⟩, HX5.out⟩
   rw [HLL.out, HTL.out.1]
   have := HO5.out
   rw [HE2.out] at this
   unfold talH
   rw [HA.out]
   exact this.mono (Nat.le_trans HX3.out.size hs_w4)
set_option maxHeartbeats 4000000 in
theorem i_TalmudShares {w : World} {x : Int} {a : Option Addr} {n cap : Nat} {C : List Int} (h : Ints w a n cap C) :
 Calls Tryz.prog 43 #[pair x a n cap] w fun e w' => (∃ v, e = .returned (.tuple #[v, .bool (validPair 0 x C)]) ∧ OwnR w' w.heap.size v (talL x C)) ∧ Ext w w' := by
 have HL := Lib.hid h.hlen
 have hmax := h.hmax
 have hcap := h.hcap
 have HX := Lib.hid (Ext.alloc w (.cells #[.int .i64 x, .slice a n cap] 66))
 have HC := Lib.hid (h.ext HX.out)
 have HV := Lib.hid (i_IsValidClaims (x := x) HC.out)
 clear h
 cases hv : validPair 0 x C
 ·have HN := Lib.hid (show talL x C = [] by unfold talL; rw [hv]; rfl)
  rw [hv] at HV
  clear hv
  go_enter Tryz.func43, Tryz.ntmps43
  go_wp2_with fail
  refine HV.out.mono ?_
  rintro e w1 ⟨rfl, hx⟩
  have HX1 := Lib.hid (HX.out.trans hx)
  clear hx
  go_wp2_with fail
  refine bodyPost_ret (v := .tuple #[.slice none 0 0, .bool false]) (by simp [results, Tryz.results43, go_sem]) rfl ⟨⟨_, rfl, by rw [HN.out]; exact OwnR.nil _ _⟩, HX1.out⟩
 ·rw [hv] at HV
  have hvc := valid_claims hv
  have hn5 : n ≤ 5 := by have := HL.out; omega
  obtain ⟨_, _, hx0, hxs, hs0, hs5, _⟩ := hvc
  have HVV := Lib.hid hv
  have HTA := Lib.hid (tal_award hv)
  have HTL := Lib.hid (tal_less hv)
  have HTN := Lib.hid (talH_len hv)
  obtain ⟨S, hS⟩ : ∃ S, S = sumW C := ⟨_, rfl⟩
  rw [← hS] at hs0 hs5 hxs
  have HS := Lib.hid hS
  clear hv hS
  obtain ⟨A, hA⟩ : ∃ A, A = talA x C := ⟨_, rfl⟩
  have HA := Lib.hid hA
  have HAB := Lib.hid (show (2 * x ≤ S ∧ A = 2 * x ∧ talL x C = talH x C) ∨ (¬ 2 * x ≤ S ∧ A = 2 * (S - x) ∧ talL x C = (lessL C (talH x C)).getD []) by
   rw [hA]; unfold talL talA; rw [if_pos HVV.out, ← HS.out]
   by_cases hlow : 2 * x ≤ S
   ·rw [if_pos hlow, if_pos hlow]; exact .inl ⟨hlow, rfl, rfl⟩
   ·rw [if_neg hlow, if_neg hlow]; exact .inr ⟨hlow, rfl, rfl⟩)
  obtain ⟨R, hR⟩ : ∃ R, R = awardL C A 1 := ⟨_, rfl⟩
  have HR := Lib.hid hR
  have HRL := Lib.hid (show R.length = n by rw [hR, hA, HTA.out.2.1, HL.out])
  have HRH := Lib.hid (show R.map halfR = talH x C by rw [hR, hA]; rfl)
  have HRO := Lib.hid (show ∀ i, i < n → (divR (R[i]?.getD (0, 0)) (2, 1)).2 = true by rw [hR, hA]; exact fun i hi => (HTA.out.2.2 i (by have := HL.out; omega)).1)
  have HOK := Lib.hid (show awardOk C A 1 = true by rw [hA]; exact HTA.out.1)
  clear hA hR
  have hw2 : IntKind.i64.wrap (2 * x) = 2 * x := by rw [IntKind.wrap_i64]; omega
  rcases HAB.out with ⟨hlow, hAv, hTv⟩ | ⟨hlow, hAv, hTv⟩
  case' inl => have hd : decide (2 * x ≤ S) = true := decide_eq_true hlow
  case' inr => have hd : decide (2 * x ≤ S) = false := decide_eq_false hlow
  all_goals
   have HTV := Lib.hid hTv
   subst hAv
   clear hTv
   go_enter Tryz.func43, Tryz.ntmps43
   go_wp2_with fail
   refine HV.out.mono ?_
   rintro e w1 ⟨rfl, hx⟩
   have HX1 := Lib.hid (HX.out.trans hx)
   have c0 : w1.cell? ⟨w.heap.size, 0, none⟩ = some (.int .i64 x) := hx.cellSome (by simp)
   have c1 : w1.cell? ⟨w.heap.size, 1, none⟩ = some (.slice a n cap) := hx.cellSome (by simp)
   have HC1 := Lib.hid (HC.out.ext hx)
   clear hx
   go_wp2_with fail
   refine (i_total HC1.out).mono ?_
   rw [← HS.out]
   rintro e w2 ⟨rfl, rfl⟩
   have hk2 : Ext w1 w1.drew := Ext.drew w1
   have hka := hk2
   have HKEEP := Lib.hid (fun (w' : World) (h : Ext w1 w') => (⟨h.cellSome c1, h⟩ : w'.cell? ⟨w.heap.size, 1, none⟩ = some (.slice a n cap) ∧ Ext w1 w'))
   go_wp2_with fail
   go_region_held3 (fun w' => w'.cell? ⟨w.heap.size, 1, none⟩ = some (.slice a n cap) ∧ Ext w1 w')
    (with_reducible exact HKEEP.out _ hk2)
    (first
      | (go_at_call 112
         (with_reducible refine (i_whole _ _).mono ?_)
         rintro e w2 ⟨rfl, hx_w2⟩
         have hk2 : Ext w1 w2 := hk2.trans hx_w2
         have hs_w2 := hk2.size)
      | (go_at_call 111
         (with_reducible refine (i_EqualAwards (y := 1) (HC1.out.ext hk2)).mono ?_)
         rw [HOK.out, ← HR.out]
         rintro e w3 ⟨⟨v, rfl, ho⟩, hx_w3⟩
         obtain ⟨a1, n1, p1, rfl, HN1⟩ := ho.var
         have HO3 := Lib.hid ho
         clear ho
         have hk2 : Ext w1 w3 := hk2.trans hx_w3
         have hs_w3 := hk2.size)
      | fail)
   clear HKEEP hka
   have HX3 := Lib.hid (HX1.out.trans hk2)
   have c13 := hk2.cellSome c1
   have C13 := Lib.hid c13
   have HC3 := Lib.hid (HC1.out.ext hk2)
   have hn1 : n1 = n := by rw [← HN1.out, HRL.out]
   subst hn1
   have hp1 := HO3.out.rats.hcap
   have hp2 := HO3.out.rats.hmax
   have HMD := Lib.hid (OwnR.made w3 w3.heap.size (Nat.le_refl _))
   clear hk2 c0 c1 hs_w2 hs_w3
   go_wp2_with fail
   go_loopg [9, 48] n1 (fun gk o i wr => ∃ (k : Nat) (a2 : Option Addr) (n2 p2 : Nat), Hid (gk + k = n1) ∧ i = .int .i64 (k : Int) ∧ o = .slice a2 n2 p2 ∧ Hid (OwnR wr w3.heap.size (.slice a2 n2 p2) ((R.take k).map halfR)) ∧ Hid (Ext w3 wr))
   case atStart => exact ⟨0, _, _, _, Lib.hid (by omega), rfl, rfl, HMD, Lib.hid (Ext.alloc _ _)⟩
   case round =>
    obtain ⟨k, a2, n2, p2, HK, rfl, rfl, HO4, HXr⟩ := hrel
    have hszr := HX3.out.size
    have hszr2 := HXr.out.size
    by_cases hlt : k < n1
    ·obtain ⟨bb, boff, bx, by', hb, hbx, hbc0, hbc1⟩ := (HO3.out.rats.ext HXr.out).at hlt
     subst hb
     obtain ⟨p, q, ok, hm⟩ : ∃ p q ok, divR (bx, by') (2, 1) = ((p, q), ok) := ⟨_, _, _, rfl⟩
     obtain rfl : ok = true := by have := HRO.out k hlt; rw [hbx, hm] at this; exact this
     have HM := Lib.hid hm
     have HBX := Lib.hid hbx
     have HH := Lib.hid (show halfR (bx, by') = (p, q) by unfold halfR; rw [hm])
     have HLT := Lib.hid (show ((R.take k).map halfR).length = k by rw [List.length_map, List.length_take]; have := HRL.out; omega)
     have hz0 : (wr.alloc (.cells #[.int .i64 bx, .int .i64 by'] 43)).cell? ⟨wr.heap.size, 0, none⟩ = some (.int .i64 bx) := by simp
     have hz1 : (wr.alloc (.cells #[.int .i64 bx, .int .i64 by'] 43)).cell? ⟨wr.heap.size, 1, none⟩ = some (.int .i64 by') := by simp
     clear hbx hm
     go_wp2_with fail
     generalize hwA : wr.alloc (.cells #[.int .i64 bx, .int .i64 by'] 43) = wA at hz0 hz1 ⊢
     have HXA := Lib.hid (show Ext wr wA by rw [← hwA]; exact Ext.alloc _ _)
     clear hwA
     go_upto_region 15 with fail
     go_cut [12, 13] (fun sx so wx => ∃ g : Nat, sx = .pointer (some ⟨g, 0, none⟩) ∧ so = .bool true ∧ Hid (Boxed wA wx g p q))
     case first =>
      have hk2 : Ext wA wA.drew := Ext.drew wA
      have hka : Ext wA (wA.alloc (.cells #[.int .i64 0, .int .i64 0] 43)).drew := (Ext.alloc _ _).trans (Ext.drew _)
      have HKEEP := Lib.hid (fun (w' : World) (h : Ext wA w') => (⟨h.cellSome hz0, h.cellSome hz1, h⟩ : w'.cell? ⟨wr.heap.size, 0, none⟩ = some (.int .i64 bx) ∧ w'.cell? ⟨wr.heap.size, 1, none⟩ = some (.int .i64 by') ∧ Ext wA w'))
      go_region_held3 (fun w' => w'.cell? ⟨wr.heap.size, 0, none⟩ = some (.int .i64 bx) ∧ w'.cell? ⟨wr.heap.size, 1, none⟩ = some (.int .i64 by') ∧ Ext wA w')
       (first
         | with_reducible exact HKEEP.out _ hk2
         | with_reducible exact HKEEP.out _ hka
         | with_reducible exact HKEEP.out _ ((hk2.setCell (by first | (simp; done) | (simp; omega)) _).setCell (by first | (simp; done) | (simp; omega)) _)
         | with_reducible exact HKEEP.out _ (hk2.trans (Ext.alloc _ _))
         | with_reducible exact HKEEP.out _ (hBB.put _ _).ext)
       (first
         | (go_at_call 112
            (with_reducible refine (i_whole 2 _).mono ?_)
            rintro e w4 ⟨rfl, hx_w4⟩
            first | (with_reducible have hBB := Boxed.grow hBB hx_w4) | (with_reducible have hBB := Boxed.firstD hx_w4) | (with_reducible have hBB := Boxed.laterD hk2 hx_w4) | skip
            first | (have b0_ := hBB.c0; have b1_ := hBB.c1; have fb_ := hBB.free) | skip
            have hk2 : Ext wA w4 := by first | with_reducible exact hk2.trans hx_w4 | with_reducible exact hka.trans hx_w4 | with_reducible exact (hk2.trans (Ext.alloc _ _)).trans hx_w4
            have hk2s := hk2.size)
         | (go_at_call 113
            (with_reducible refine (i_DivRat bx by' 2 1 _).mono ?_)
            rw [HM.out]
            rintro e w5 ⟨rfl, hx_w5⟩
            first | (with_reducible have hBB := Boxed.grow hBB hx_w5) | (with_reducible have hBB := Boxed.firstD hx_w5) | (with_reducible have hBB := Boxed.laterD hk2 hx_w5) | skip
            first | (have b0_ := hBB.c0; have b1_ := hBB.c1; have fb_ := hBB.free) | skip
            have hk2 : Ext wA w5 := by first | with_reducible exact hk2.trans hx_w5 | with_reducible exact hka.trans hx_w5 | with_reducible exact (hk2.trans (Ext.alloc _ _)).trans hx_w5
            have hk2s := hk2.size)
         | fail)
      all_goals (go_wp2_with fail; go_meet; first | exact ⟨_, rfl, rfl, Lib.hid (hBB.put _ _)⟩ | exact ⟨_, rfl, rfl, Lib.hid (Boxed.new hk2 _ _)⟩ | exact ⟨_, rfl, rfl, Lib.hid (Boxed.new' hk2 _ _ (by simp))⟩)
     obtain ⟨g, rfl, rfl, HB1⟩ := hcut
     have g0 := HB1.out.c0
     have g1 := HB1.out.c1
     have X2 := Lib.hid ((HXr.out.trans HXA.out).trans HB1.out.ext)
     have HO5 := Lib.hid (HO4.out.ext (HXA.out.trans HB1.out.ext))
     clear hbc0 hbc1 hz0 hz1
     have hszc := X2.out.size
     go_wp2_with (first
      | (at_builtin; refine append_rats rfl _ _ rfl w3.heap.size (.slice a2 n2 p2) _ rfl (HO5.out.ext (Ext.alloc _ _)) _ 1 _ [(p, q)] rfl (Rats.one' _ _ _ _ _ (by simp)) (by rw [HLT.out]; omega) (by simp; omega) ?_; intro v2 w6 ho hg hnear; obtain ⟨a3, n3, c3, rfl, HN3⟩ := ho.var; have HO6 := Lib.hid ho; have X6 := Lib.hid (ext_grown (X2.out.trans (Ext.alloc _ _)) hg (fun j hj => (HO5.out.lt j hj).1)); clear ho hg hnear))
     go_roundg (gk - 1)
     case measure => have := HK.out; omega
     case rel => exact ⟨k + 1, a3, n3, c3, Lib.hid (by have := HK.out; omega), by go_num, rfl, Lib.hid (by rw [← mapH_snoc (by have := HRL.out; omega) HBX.out HH.out]; exact HO6.out), X6⟩
    ·have hkn : k = n1 := by have := HK.out; omega
     subst hkn
     have HT := Lib.hid (show (R.take k).map halfR = talH x C by rw [List.take_of_length_le (by rw [HRL.out]; exact Nat.le_refl _)]; exact HRH.out)
     have c1r := HXr.out.cellSome C13.out
     have HCL := Lib.hid (i_claimsLess (HC3.out.ext HXr.out) HO4.out.rats (by omega))
     go_wp2_with fail
     first
      | (refine HCL.out.mono ?_
         rintro e w4 ⟨⟨v, rfl, ho⟩, hx⟩
         have HO5 := Lib.hid (ho.mono (Nat.le_trans hszr hszr2))
         have HX5 := Lib.hid ((HX3.out.trans HXr.out).trans hx)
         clear ho hx
         rw [HT.out, HTL.out.2] at *
         go_wp2_with fail
         refine bodyPost_ret (v := .tuple #[v, .bool true]) (by simp [results, Tryz.results43, go_sem]) rfl ⟨⟨v, rfl, by rw [HTV.out]; exact HO5.out⟩, HX5.out⟩)
      | refine bodyPost_ret (v := .tuple #[.slice a2 n2 p2, .bool true]) (by simp [results, Tryz.results43, go_sem]) rfl ⟨⟨_, rfl, by rw [HTV.out, ← HT.out]; exact HO4.out.mono hszr⟩, HX3.out.trans HXr.out⟩
set_option maxHeartbeats 1000000 in
theorem s_EqualGame {w : World} {x x' : Int} {a a' : Option Addr} {n n' cap cap' : Nat} {l l' : List Int} (h : Ints w a n cap l) (h' : Ints w a' n' cap' l') :
 Calls Tryz.prog 15 #[pair x a n cap, pair x' a' n' cap'] w fun e w' => e = .returned (.bool (decide (x = x') && decide (l = l'))) ∧ Ext w w' := by
 have he : (x == x') = decide (x = x') := by by_cases h : x = x' <;> simp [h]
 cases hd : decide (x = x')
 ·rw [hd] at he
  go_enter Tryz.func15, Tryz.ntmps15
  go_wp2_with fail
  go_ret
  exact ⟨ret_bool (by simp), (Ext.alloc _ _).trans (Ext.alloc _ _)⟩
 ·rw [hd] at he
  have hx0 : Ext w ((w.alloc (.cells #[.int .i64 x, .slice a n cap] 29)).alloc (.cells #[.int .i64 x', .slice a' n' cap'] 29)) := (Ext.alloc _ _).trans (Ext.alloc _ _)
  have HE := Lib.hid (s_l8Ints (h.ext hx0) (h'.ext hx0))
  have HX0 := Lib.hid hx0
  clear hx0 h h'
  go_enter Tryz.func15, Tryz.ntmps15
  go_wp2_with fail
  refine HE.out.mono ?_
  rintro e w1 ⟨rfl, hx⟩
  go_wp2
  go_ret
  exact ⟨ret_bool (by simp), HX0.out.trans hx.ext⟩
end Go.Proofs.YthjjfkeacobikaaGreat
