import Derived.Test.YtgohdmnbnhehnaaGreatGwAllG38
import Derived.Test.YtgohdmnbnhehnaaGreatGwAllG40
import Derived.Test.YtgohdmnbnhehnaaGreatGwAllG35
namespace Go.Proofs.YtgohdmnbnhehnaaGreat
set_option linter.unusedVariables false
set_option linter.unusedSimpArgs false
set_option maxRecDepth 100000
open Go.RowKit
def fstX (p : Int) (V : List Int) (X : List (Int × Int)) : Option (List Int) := (levS p V X).find? fun r => !balS p r
theorem find_at {f : List Int → Bool} {L : List (List Int)} {k : Nat} {r : List Int} (hr : L[k]? = some r) (h : (L.take k).all (fun r => !f r) = true) (hf : f r = true) : L.find? f = some r := by
 obtain ⟨hk, rfl⟩ := List.getElem?_eq_some_iff.1 hr
 have e : L = L.take k ++ (L[k] :: L.drop (k + 1)) := by rw [← List.drop_eq_getElem_cons hk, List.take_append_drop]
 generalize hx : L[k] = x at hf e ⊢
 rw [e, List.find?_append, List.find?_eq_none.2 (fun y hy => by have := List.all_eq_true.1 h y hy; simpa using this), List.find?_cons_of_pos hf]
 rfl
theorem find_none {f : List Int → Bool} {L : List (List Int)} (h : L.all (fun r => !f r) = true) : L.find? f = none :=
 List.find?_eq_none.2 (fun y hy => by have := List.all_eq_true.1 h y hy; simpa using this)
theorem ret_tupU {v : Value} {a b : Bool} (h : a = b) : Ending.returned (.tuple #[v, .bool a]) = .returned (.tuple #[v, .bool b]) := by rw [h]
set_option maxHeartbeats 4000000 in
theorem i_FirstUnbalanced {w : World} {p : Int} {a : Option Addr} {n cap : Nat} {V : List Int} (h : Ints w a n cap V) {b : Option Addr} {m mcap : Nat} {X : List (Int × Int)} (hx : Rats w b m mcap X) :
 Calls Tryz.prog 37 #[pair p a n cap, .slice b m mcap] w fun e w' => (∃ v, e = .returned (.tuple #[v, .bool (fstX p V X).isSome]) ∧ OwnI w' w.heap.size v ((fstX p V X).getD [])) ∧ Ext w w' := by
 obtain ⟨W, hW⟩ : ∃ W, W = w.alloc (.cells #[.int .i64 p, .slice a n cap] 47) := ⟨_, rfl⟩
 have hX : Ext w W := by rw [hW]; exact Ext.alloc _ _
 have k0 : W.cell? ⟨w.heap.size, 0, none⟩ = some (.int .i64 p) := by rw [hW]; simp
 have k1 : W.cell? ⟨w.heap.size, 1, none⟩ = some (.slice a n cap) := by rw [hW]; simp
 have K0 := Lib.hid k0
 have HX := Lib.hid hX
 have HE := Lib.hid (i_LevelsOf (p := p) (h.ext hX) (hx.ext hX))
 obtain ⟨L, hL⟩ : ∃ L, L = levS p V X := ⟨_, rfl⟩
 have HBD := Lib.hid (levS_bd p V X)
 have HFX := Lib.hid (show fstX p V X = L.find? (fun r => !balS p r) by rw [hL]; rfl)
 rw [← hL] at HE HBD
 clear h hx hX hL
 go_enter Tryz.func37, Tryz.ntmps37
 go_upto_region 1 with fail
 rw [← hW]
 clear hW
 go_wp2_with fail
 refine HE.out.mono ?_
 rintro e w1 ⟨⟨v, rfl, ho⟩, hx1⟩
 obtain ⟨vs, hov, hrw⟩ := ho
 obtain ⟨a1, n1, c1, rfl, HN⟩ := hov.var
 have HV := Lib.hid hov
 have HR := Lib.hid hrw
 have HNL := Lib.hid (show L.length = n1 by rw [← hrw.len]; exact HN.out)
 have X1 := Lib.hid hx1
 have hn1 : n1 ≤ 32 := by have h1 := HBD.out.1; have h2 := HNL.out; omega
 clear hov hrw hx1 HN
 go_wp2_with fail
 go_loopg [12] n1 (fun gk ii wr => ∃ (k : Nat), Hid (gk + k = n1) ∧ ii = .int .i64 (k : Int) ∧ Hid ((L.take k).all (fun r => !!balS p r) = true) ∧ Hid (Ext w1 wr))
 case atStart => exact ⟨0, Lib.hid (by omega), rfl, Lib.hid rfl, Lib.hid (Ext.refl _)⟩
 case round =>
  obtain ⟨g1, h_g1⟩ : ∃ x, x = gk := ⟨_, rfl⟩
  subst h_g1
  obtain ⟨wr, h_wr⟩ : ∃ x, x = wr := ⟨_, rfl⟩
  subst h_wr
  obtain ⟨k, HK, rfl, HT, XR⟩ := hrel
  by_cases hlt : k < n1
  ·have hkl : k < L.length := by rw [HNL.out]; exact hlt
   obtain ⟨g, hg, _, hcl⟩ := (HV.out.ext XR.out).cell hlt
   have hrow := (HR.out.ext XR.out).row k hkl
   have hc := hcl k hlt
   obtain ⟨r, hr⟩ : ∃ r, L[k]? = some r := ⟨_, List.getElem?_eq_getElem hkl⟩
   rw [hr, Option.getD_some] at hrow
   have hkv : k < vs.length := by rw [HR.out.len]; exact hkl
   rw [List.getElem?_eq_getElem hkv] at hc
   rw [List.getElem?_eq_getElem hkv, Option.getD_some] at hrow
   obtain ⟨ra, rn, rc, hrv, HRN⟩ := hrow.var
   rw [hrv] at hc hrow
   subst hg
   have HRO := Lib.hid hrow
   have hbd := HBD.out.2 r (List.mem_of_getElem? hr)
   have HRR := Lib.hid hr
   have c0 := (X1.out.trans XR.out).cellSome K0.out
   have HB := i_IsBalancedSet (x := p) hrow.ints hbd.2 (by have h1 := hrow.ints.hlen; have := hbd.1; omega)
   rw [bal_same] at HB
   obtain ⟨bb, hbb⟩ : ∃ b, b = balS p r := ⟨_, rfl⟩
   rw [← hbb] at HB
   have HB := Lib.hid HB
   have HBB := Lib.hid hbb
   clear hrow hbd hrv HRN hbb hr hkv hcl
   go_wp2_with fail
   refine HB.out.mono ?_
   rintro e w2 ⟨rfl, hx2⟩
   have X2 := Lib.hid (XR.out.trans hx2)
   have HRO2 := Lib.hid (HRO.out.ext hx2)
   clear hx2 c0
   cases bb
   ·have HF := Lib.hid (show fstX p V X = some r by rw [HFX.out]; exact find_at HRR.out HT.out (by rw [← HBB.out]; rfl))
    go_wp2_with fail
    go_ret2
    exact ⟨⟨_, ret_tupU (by rw [HF.out]; rfl), by rw [HF.out]; exact HRO2.out.mono HX.out.size⟩, HX.out.trans (X1.out.trans X2.out)⟩
   ·have HT2 := Lib.hid (show (L.take (k + 1)).all (fun r => !!balS p r) = true by
     rw [List.take_succ_eq_append_getElem hkl, List.all_append, HT.out]
     have h1 := HRR.out
     rw [List.getElem?_eq_getElem hkl] at h1
     simp only [Option.some.injEq] at h1
     rw [h1]
     simp [← HBB.out])
    go_wp2_with fail
    go_roundg (g1 - 1)
    case measure => have := HK.out; omega
    case rel => exact ⟨k + 1, Lib.hid (by have := HK.out; omega), by go_num, HT2, X2⟩
  ·have HF := Lib.hid (show fstX p V X = none by
    have h1 := HT.out
    rw [List.take_of_length_le (by rw [HNL.out]; have := HK.out; omega)] at h1
    rw [HFX.out]; exact find_none h1)
   go_wp2_with fail
   go_ret2
   exact ⟨⟨_, ret_tupU (by rw [HF.out]; rfl), by rw [HF.out]; exact OwnI.nil _ _⟩, HX.out.trans (X1.out.trans XR.out)⟩
set_option maxHeartbeats 4000000 in
theorem s_FirstUnbalanced {w : World} {p : Int} {a : Option Addr} {n cap : Nat} {V : List Int} (h : Ints w a n cap V) {b : Option Addr} {m mcap : Nat} {X : List (Int × Int)} (hx : Rats w b m mcap X) :
 Calls Tryz.prog 36 #[pair p a n cap, .slice b m mcap] w fun e w' => (∃ v, e = .returned (.tuple #[v, .bool (fstX p V X).isSome]) ∧ OwnI w' w.heap.size v ((fstX p V X).getD [])) ∧ Ext w w' := by
 obtain ⟨W, hW⟩ : ∃ W, W = w.alloc (.cells #[.int .i64 p, .slice a n cap] 47) := ⟨_, rfl⟩
 have hX : Ext w W := by rw [hW]; exact Ext.alloc _ _
 have k0 : W.cell? ⟨w.heap.size, 0, none⟩ = some (.int .i64 p) := by rw [hW]; simp
 have k1 : W.cell? ⟨w.heap.size, 1, none⟩ = some (.slice a n cap) := by rw [hW]; simp
 have K0 := Lib.hid k0
 have HX := Lib.hid hX
 have HE := Lib.hid (s_LevelsOf (p := p) (h.ext hX) (hx.ext hX))
 obtain ⟨L, hL⟩ : ∃ L, L = levS p V X := ⟨_, rfl⟩
 have HBD := Lib.hid (levS_bd p V X)
 have HFX := Lib.hid (show fstX p V X = L.find? (fun r => !balS p r) by rw [hL]; rfl)
 rw [← hL] at HE HBD
 clear h hx hX hL
 go_enter Tryz.func36, Tryz.ntmps36
 go_upto_region 1 with fail
 rw [← hW]
 clear hW
 go_wp2_with fail
 refine HE.out.mono ?_
 rintro e w1 ⟨⟨v, rfl, ho⟩, hx1⟩
 obtain ⟨vs, hov, hrw⟩ := ho
 obtain ⟨a1, n1, c1, rfl, HN⟩ := hov.var
 have HV := Lib.hid hov
 have HR := Lib.hid hrw
 have HNL := Lib.hid (show L.length = n1 by rw [← hrw.len]; exact HN.out)
 have X1 := Lib.hid hx1
 have hn1 : n1 ≤ 32 := by have h1 := HBD.out.1; have h2 := HNL.out; omega
 clear hov hrw hx1 HN
 go_wp2_with fail
 go_loopg [7] n1 (fun gk ii wr => ∃ (k : Nat), Hid (gk + k = n1) ∧ ii = .int .i64 (k : Int) ∧ Hid ((L.take k).all (fun r => !!balS p r) = true) ∧ Hid (Ext w1 wr))
 case atStart => exact ⟨0, Lib.hid (by omega), rfl, Lib.hid rfl, Lib.hid (Ext.refl _)⟩
 case round =>
  obtain ⟨g1, h_g1⟩ : ∃ x, x = gk := ⟨_, rfl⟩
  subst h_g1
  obtain ⟨wr, h_wr⟩ : ∃ x, x = wr := ⟨_, rfl⟩
  subst h_wr
  obtain ⟨k, HK, rfl, HT, XR⟩ := hrel
  by_cases hlt : k < n1
  ·have hkl : k < L.length := by rw [HNL.out]; exact hlt
   obtain ⟨g, hg, _, hcl⟩ := (HV.out.ext XR.out).cell hlt
   have hrow := (HR.out.ext XR.out).row k hkl
   have hc := hcl k hlt
   obtain ⟨r, hr⟩ : ∃ r, L[k]? = some r := ⟨_, List.getElem?_eq_getElem hkl⟩
   rw [hr, Option.getD_some] at hrow
   have hkv : k < vs.length := by rw [HR.out.len]; exact hkl
   rw [List.getElem?_eq_getElem hkv] at hc
   rw [List.getElem?_eq_getElem hkv, Option.getD_some] at hrow
   obtain ⟨ra, rn, rc, hrv, HRN⟩ := hrow.var
   rw [hrv] at hc hrow
   subst hg
   have HRO := Lib.hid hrow
   have hbd := HBD.out.2 r (List.mem_of_getElem? hr)
   have HRR := Lib.hid hr
   have c0 := (X1.out.trans XR.out).cellSome K0.out
   have HBD2 := Lib.hid hbd
   obtain ⟨bb, hbb⟩ : ∃ b, b = balS p r := ⟨_, rfl⟩
   have HBB := Lib.hid hbb
   clear hrow hbd hrv HRN hbb hr hkv hcl
   have c0k := c0
   have hck := hc
   cases bb
   all_goals
    have HBC := Lib.hid (fun (w' : World) (hk : Ext wr w') => s_IsBalancedSet (x := p) (HRO.out.ext hk).ints HBD2.out.2 (by have h1 := HRO.out.ints.hlen; have := HBD2.out.1; omega))
    rw [← HBB.out] at HBC
    have hk2 : Ext wr wr.drew := Ext.drew wr
    have hka := hk2
    have HKEEP := Lib.hid (fun (w' : World) (h : Ext wr w') => (⟨h.cellSome c0k, h.cellSome hck, h⟩ : w'.cell? ⟨w.heap.size, 0, none⟩ = some (.int .i64 p) ∧ w'.cell? ⟨g, k, none⟩ = some (.slice ra rn rc) ∧ Ext wr w'))
    go_wp2_with fail
    go_region_held3 (fun w' => w'.cell? ⟨w.heap.size, 0, none⟩ = some (.int .i64 p) ∧ w'.cell? ⟨g, k, none⟩ = some (.slice ra rn rc) ∧ Ext wr w')
     (with_reducible exact HKEEP.out _ hk2)
     (first
       | (go_at_call 10
          (with_reducible refine (HBC.out _ (by first | with_reducible exact hk2 | with_reducible exact hka | with_reducible exact hk2.trans (Ext.alloc _ _))).mono ?_)
          rintro e w2 ⟨rfl, hx_w2⟩
          have hk2 : Ext wr w2 := hk2.trans hx_w2
          have hs_w2 := hk2.size)
       | fail)
    clear HKEEP hka
    have X2 := Lib.hid (XR.out.trans hk2)
    have HRO2 := Lib.hid (HRO.out.ext hk2)
    have hc := hk2.cellSome hck
    clear c0 c0k hck HBC
   ·have HF := Lib.hid (show fstX p V X = some r by rw [HFX.out]; exact find_at HRR.out HT.out (by rw [← HBB.out]; rfl))
    go_wp2_with fail
    go_ret2
    exact ⟨⟨_, ret_tupU (by rw [HF.out]; rfl), by rw [HF.out]; exact HRO2.out.mono HX.out.size⟩, HX.out.trans (X1.out.trans X2.out)⟩
   ·have HT2 := Lib.hid (show (L.take (k + 1)).all (fun r => !!balS p r) = true by
     rw [List.take_succ_eq_append_getElem hkl, List.all_append, HT.out]
     have h1 := HRR.out
     rw [List.getElem?_eq_getElem hkl] at h1
     simp only [Option.some.injEq] at h1
     rw [h1]
     simp [← HBB.out])
    go_wp2_with fail
    go_roundg (g1 - 1)
    case measure => have := HK.out; omega
    case rel => exact ⟨k + 1, Lib.hid (by have := HK.out; omega), by go_num, HT2, X2⟩
  ·have HF := Lib.hid (show fstX p V X = none by
    have h1 := HT.out
    rw [List.take_of_length_le (by rw [HNL.out]; have := HK.out; omega)] at h1
    rw [HFX.out]; exact find_none h1)
   go_wp2_with fail
   go_ret2
   exact ⟨⟨_, ret_tupU (by rw [HF.out]; rfl), by rw [HF.out]; exact OwnI.madeS _ _ _ rfl (by have := (HX.out.trans (X1.out.trans XR.out)).size; omega)⟩, (HX.out.trans (X1.out.trans XR.out)).trans (Ext.alloc _ _)⟩
end Go.Proofs.YtgohdmnbnhehnaaGreat
