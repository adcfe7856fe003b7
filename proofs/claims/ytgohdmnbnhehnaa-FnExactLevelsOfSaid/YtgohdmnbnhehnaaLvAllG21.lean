import Derived.Test.YtgohdmnbnhehnaaLvAllG23
import Derived.Test.YtgohdmnbnhehnaaLvAllG25
import Derived.Test.YtgohdmnbnhehnaaLvAllG20
import Derived.Test.YtgohdmnbnhehnaaLvAllG6
import Derived.Test.YtgohdmnbnhehnaaLvAllG4
import Derived.Test.YtgohdmnbnhehnaaLvAllG2
namespace Go.Proofs.Ytgohdmnbnhehnaa
set_option linter.unusedVariables false
open Go.RowKit
theorem lev_cnt (p : Int) (V : List Int) (X : List (Int × Int)) : cnt (levS p V X) ≤ 1024 := by
 obtain ⟨h1, h2⟩ := levS_bd p V X
 have : ∀ L : List (List Int), (∀ r ∈ L, r.length ≤ 32) → cnt L ≤ 32 * (L.length : Int) := by
  intro L
  induction L with
  | nil => intro _; simp [cnt]
  | cons r L ih =>
    intro h
    have h3 := h r (by simp)
    have h4 := ih fun x hx => h x (by simp [hx])
    simp only [cnt, List.map_cons, List.sum_cons, List.length_cons] at *
    omega
 have := this (levS p V X) fun r hr => (h2 r hr).1
 omega
set_option maxHeartbeats 8000000 in
theorem l_FnExactLevelsOf {w : World} {x : Int} {a a' : Option Addr} {n n' cap cap' : Nat} {l : List Int} {l' : List (Int × Int)} (h : Ints w a n cap l) (h' : Rats w a' n' cap' l') :
 Calls Try.prog 7 #[pair x a n cap, .slice a' n' cap'] w fun e w' => e = .returned (.bool true) ∧ Ext w w' := by
 have hm : n ≤ 9223372036854775807 := Nat.le_trans h.hcap h.hmax
 have hm' : n' ≤ 9223372036854775807 := Nat.le_trans h'.hcap h'.hmax
 have hz := szF_le 1048576 n (by omega) (by omega)
 have HX := Lib.hid (Ext.alloc w (.cells #[.int .i64 x, .slice a n cap] 64))
 have HA := Lib.hid (h.ext HX.out)
 have HB := Lib.hid (h'.ext HX.out)
 have HL := Lib.hid h.hlen
 have HL' := Lib.hid h'.hlen
 clear h h'
 by_cases hlt : szF 1048576 n < 0
 ·go_enter Try.func7, Try.ntmps7
  go_wp2_with fail
  refine (l_szGame _ _ _ _ _ _ (by omega) (by omega) hm).mono ?_
  rintro e w1 ⟨rfl, hx⟩
  have HX1 := Lib.hid (HX.out.trans hx)
  clear hx
  go_wp2
  go_ret
  exact ⟨rfl, HX1.out⟩
 have hb : n ≤ 1048576 := by omega
 have hlt0 : (0 : Int) ≤ szF 1048576 n := by omega
 obtain ⟨s1, hs1⟩ : ∃ s, s = szF 1048576 n := ⟨_, rfl⟩
 rw [← hs1] at hlt hz hlt0
 have HS1 := Lib.hid hs1
 have hz2 := szF_le s1 n' (by omega) (by omega)
 clear hs1
 by_cases hlt2 : szF s1 n' < 0
 ·go_enter Try.func7, Try.ntmps7
  go_wp2_with fail
  refine (l_szGame _ _ _ _ _ _ (by omega) (by omega) hm).mono ?_
  rw [← HS1.out]
  rintro e w1 ⟨rfl, hx⟩
  have HX1 := Lib.hid (HX.out.trans hx)
  clear hx
  go_wp2_with fail
  refine (l_szRatS _ _ _ _ _ (by omega) (by omega) hm').mono ?_
  rintro e w2 ⟨rfl, rfl⟩
  go_wp2
  go_ret
  exact ⟨rfl, HX1.out⟩
 have hb' : n' ≤ 1048576 := by omega
 have hz0 := cnt_nonneg (levS x l l')
 have hz1 := lev_cnt x l l'
 obtain ⟨z, hzz⟩ : ∃ z, z = cnt (levS x l l') := ⟨_, rfl⟩
 rw [← hzz] at hz0 hz1
 have HZ := Lib.hid hzz
 clear hzz
 go_enter Try.func7, Try.ntmps7
 go_wp2_with fail
 refine (l_szGame _ _ _ _ _ _ (by omega) (by omega) hm).mono ?_
 rw [← HS1.out]
 rintro e w1 ⟨rfl, hx⟩
 have c0 : w1.cell? ⟨w.heap.size, 0, none⟩ = some (.int .i64 x) := hx.cellSome (by simp)
 have c1 : w1.cell? ⟨w.heap.size, 1, none⟩ = some (.slice a n cap) := hx.cellSome (by simp)
 have X1 := Lib.hid hx
 clear hx
 go_wp2_with fail
 refine (l_szRatS _ _ _ _ _ (by omega) (by omega) hm').mono ?_
 rintro e w1' ⟨rfl, rfl⟩
 go_wp2_with fail
 refine (l_toGame (HA.out.ext X1.out) (by omega)).mono ?_
 rintro e w2 ⟨b1, rfl, hrow, hbb, hx⟩
 have X2 := Lib.hid (X1.out.trans hx)
 have R1 := Lib.hid (hrow.ints HL.out (Nat.le_refl _) hm)
 replace c0 := hx.cellSome c0
 replace c1 := hx.cellSome c1
 clear hx hrow hbb
 go_wp2_with fail
 refine (l_toRatS (HB.out.ext X2.out) (by omega)).mono ?_
 rintro e w3 ⟨b2, rfl, hrow, hbb, hx⟩
 have X3 := Lib.hid (X2.out.trans hx)
 have R1' := Lib.hid (R1.out.ext hx)
 have R2 := Lib.hid (hrow.rats HL'.out (Nat.le_refl _) hm')
 replace c0 := hx.cellSome c0
 replace c1 := hx.cellSome c1
 clear hx hrow hbb
 go_wp2_with fail
 refine (s_LevelsOf R1'.out R2.out).mono ?_
 rintro e w4 ⟨⟨v0, rfl, ho⟩, hx⟩
 obtain ⟨a0, n0, p0, rfl, N0⟩ := ho.var
 have X4 := Lib.hid (X3.out.trans hx)
 have O0 := Lib.hid ho
 replace c0 := hx.cellSome c0
 replace c1 := hx.cellSome c1
 clear hx ho
 have HA4 := Lib.hid (HA.out.ext X4.out)
 have HB4 := Lib.hid (HB.out.ext X4.out)
 have Hc0 := Lib.hid c0
 have Hc1 := Lib.hid c1
 go_wp2_with fail
 refine (l_toGame HA4.out (by omega)).mono ?_
 rintro e w5 ⟨bG, rfl, hrow, hbb, hx⟩
 replace c0 := hx.cellSome c0
 replace c1 := hx.cellSome c1
 have hlt5 : w.heap.size < w5.heap.size := World.block_lt_of_cell? _ _ c0
 have hxb := Ext.alloc w5 (.cells #[.int .i64 x, .slice (some ⟨bG, 0, none⟩) n n] 26)
 have Jc0 := Lib.hid (hxb.cellSome c0)
 have Jc1 := Lib.hid (hxb.cellSome c1)
 have X45 := Lib.hid (hx.trans hxb)
 have BG := Lib.hid hbb
 have LG := Lib.hid hrow.lt
 have RG := Lib.hid ((hrow.own hbb HL.out (by omega)).ext hxb)
 clear hx hrow hbb hxb
 go_wp2_with fail
 refine (l_toRatS (HB4.out.ext X45.out) (by omega)).mono ?_
 rintro e w6 ⟨bO, rfl, hrow, hbb, hx⟩
 clear c0 c1
 have c0 := hx.cellSome Jc0.out
 have c1 := hx.cellSome Jc1.out
 have d0 : w6.cell? ⟨w5.heap.size, 0, none⟩ = some (.int .i64 x) := hx.cellSome (by simp)
 have d1 : w6.cell? ⟨w5.heap.size, 1, none⟩ = some (.slice (some ⟨bG, 0, none⟩) n n) := hx.cellSome (by simp)
 have hlt56 : w5.heap.size < w6.heap.size := World.block_lt_of_cell? _ _ d0
 have X46 := Lib.hid (X45.out.trans hx)
 have BO := Lib.hid (show w5.heap.size + 1 ≤ bO by simpa using hbb)
 have LO := Lib.hid hrow.lt
 have RG6 := Lib.hid (RG.out.ext hx)
 have RO := Lib.hid (hrow.own hbb HL'.out (by omega))
 clear hx hrow hbb
 have HI := Lib.hid (i_LevelsOf (p := x) RG6.out.ints RO.out.rats)
 go_wp2_with fail
 refine HI.out.mono ?_
 rintro e w7 ⟨⟨v1, rfl, ho⟩, hx⟩
 obtain ⟨a1, n1, p1, rfl, N1⟩ := ho.var
 replace c0 := hx.cellSome c0
 replace c1 := hx.cellSome c1
 replace d0 := hx.cellSome d0
 replace d1 := hx.cellSome d1
 have X47 := Lib.hid (X46.out.trans hx)
 have RG7 := Lib.hid (RG6.out.ext hx)
 have RO7 := Lib.hid (RO.out.ext hx)
 have O1 := Lib.hid ho
 clear hx ho
 have HE := Lib.hid (l_eqIntSS O1.out.intss (O0.out.ext X47.out).intss)
 rw [decide_eq_true rfl] at HE
 go_wp2_with fail
 refine HE.out.mono ?_
 rintro e w8 ⟨rfl, hx⟩
 replace c0 := hx.ext.cellSome c0
 replace c1 := hx.ext.cellSome c1
 replace d0 := hx.ext.cellSome d0
 replace d1 := hx.ext.cellSome d1
 have X48 := Lib.hid (X47.out.trans hx.ext)
 have RG8 := Lib.hid (RG7.out.ext hx.ext)
 have RO8 := Lib.hid (RO7.out.ext hx.ext)
 have O2 := Lib.hid (O1.out.ext hx.ext)
 clear hx
 go_wp2_with fail
 have hk : Ext w8 w8.drew := Ext.drew w8
 have H8 := Lib.hid ((HA4.out.ext X48.out).ext hk)
 have RG9 := Lib.hid (RG8.out.ext hk)
 go_region_held3 (fun w' => w'.cell? ⟨w.heap.size, 0, none⟩ = some (.int .i64 x) ∧ w'.cell? ⟨w.heap.size, 1, none⟩ = some (.slice a n cap) ∧ w'.cell? ⟨w5.heap.size, 0, none⟩ = some (.int .i64 x) ∧ w'.cell? ⟨w5.heap.size, 1, none⟩ = some (.slice (some ⟨bG, 0, none⟩) n n) ∧ Ext w8 w')
  (exact ⟨hk.cellSome c0, hk.cellSome c1, hk.cellSome d0, hk.cellSome d1, hk⟩)
  (first
    | (go_at_call 46; refine (l_toGame H8.out (by omega)).mono ?_; rintro e w9 ⟨b3, rfl, hrow, hbb, hx6⟩; have hk := hk.trans hx6)
    | (go_at_call 50; refine (l_eqGame (RG9.out.ext hx6).ints (hrow.ints HL.out (Nat.le_refl _) hm)).mono ?_; rintro e w10 ⟨rfl, hx7⟩; have hk := hk.trans hx7))
 replace c0 := hk.cellSome c0
 replace c1 := hk.cellSome c1
 replace d0 := hk.cellSome d0
 replace d1 := hk.cellSome d1
 have X410 := Lib.hid (X48.out.trans hk)
 have RG10 := Lib.hid (RG8.out.ext hk)
 have RO10 := Lib.hid (RO8.out.ext hk)
 have O3 := Lib.hid (O2.out.ext hk)
 clear hk H8 RG9
 go_wp2_with fail
 refine (l_toRatS (HB4.out.ext X410.out) (by omega)).mono ?_
 rintro e w11 ⟨b5, rfl, hrow, hbb, hx⟩
 have HE := Lib.hid (l_eqRatS (RO10.out.ext hx).rats (hrow.rats HL'.out (Nat.le_refl _) hm'))
 rw [decide_eq_true rfl] at HE
 replace c0 := hx.cellSome c0
 replace c1 := hx.cellSome c1
 replace d0 := hx.cellSome d0
 replace d1 := hx.cellSome d1
 have X411 := Lib.hid (X410.out.trans hx)
 have RG11 := Lib.hid (RG10.out.ext hx)
 have RO11 := Lib.hid (RO10.out.ext hx)
 have O4 := Lib.hid (O3.out.ext hx)
 clear hx hrow hbb
 go_wp2_with fail
 refine HE.out.mono ?_
 rintro e w12 ⟨rfl, hx⟩
 replace c0 := hx.cellSome c0
 replace c1 := hx.cellSome c1
 replace d0 := hx.cellSome d0
 replace d1 := hx.cellSome d1
 have X412 := Lib.hid (X411.out.trans hx)
 have RG12 := Lib.hid (RG11.out.ext hx)
 have RO12 := Lib.hid (RO11.out.ext hx)
 have O5 := Lib.hid (O4.out.ext hx)
 clear hx
 go_wp2_with fail
 refine (l_markGame (x := x) RG12.out 1 (by omega) (by omega)).mono ?_
 rintro e w13 ⟨rfl, _, hg⟩
 have hne : ∀ k : Nat, k ≠ bG → (Value.slice (some ⟨bG, 0, none⟩) n n).ownBlock ≠ some k := fun k hk e => hk (Option.some.inj (show some bG = some k from e)).symm
 have X413 := Lib.hid (ext_grown X412.out hg fun k hk => by have := Option.some.inj (show some bG = some k from hk); have := BG.out; omega)
 have O6 := Lib.hid (On.here (O5.out.on.keep hg.size fun k h1 hk => hg.block k hk fun e => by have := Option.some.inj (show some k = some bG from e); have := LG.out; omega))
 have RO13 := Lib.hid (RO12.out.keep fun k hk => hg.block k (RO12.out.lt k hk).2 fun e => by have h1 := Option.some.inj (show some bO = some k from hk); have := Option.some.inj (show some k = some bG from e); have := LG.out; have := BO.out; omega)
 clear hg hne d0 d1 c0 c1
 go_wp2_with fail
 refine (l_markRatS RO13.out (1 + (n : Int)) (by omega) (by omega)).mono ?_
 rintro e w14 ⟨rfl, _, hg, _⟩
 have X414 := Lib.hid (ext_grown X413.out hg fun k hk => by have := Option.some.inj (show some bO = some k from hk); have := BO.out; have := X45.out.size; simp at this; omega)
 have O7 := Lib.hid (On.here (O6.out.on.keep hg.size fun k h1 hk => hg.block k hk fun e => by have := Option.some.inj (show some k = some bO from e); have := LO.out; omega))
 clear hg
 have c0 := X414.out.cellSome Hc0.out
 have c1 := X414.out.cellSome Hc1.out
 have HE := Lib.hid (l_eqIntSS O7.out.intss (O0.out.ext X414.out).intss)
 rw [decide_eq_true rfl] at HE
 have hneg : ¬ (1 + (n : Int) + 2 * (n' : Int) < 0) := by omega
 go_wp2_with fail
 refine HE.out.mono ?_
 rintro e w15 ⟨rfl, hx⟩
 have X415 := Lib.hid (X414.out.trans hx.ext)
 have O8 := Lib.hid (O7.out.ext hx.ext)
 clear hx c0 c1
 go_wp2_with fail
 refine (l_markIntSS O8.out 1 (by omega) (by rw [← HZ.out]; omega)).mono ?_
 rw [← HZ.out]
 rintro e w16 ⟨rfl, ho, hg, _⟩
 have X416 := Lib.hid (X415.out.trans_below (Below.mono hg X46.out.size))
 have O9 := Lib.hid ho
 clear ho hg
 have c0 := X416.out.cellSome Hc0.out
 have c1 := X416.out.cellSome Hc1.out
 have hneg1 : ¬ (1 + z < 0) := by omega
 have hne : ((1 + z) != (1 + z)) = false := by simp
 go_wp2_with fail
 refine (l_heldIntSS 1 O9.out.intss (by omega) (by rw [← HZ.out]; omega)).mono ?_
 rw [← HZ.out]
 rintro e w17 ⟨rfl, rfl⟩
 go_wp2_with fail
 refine (l_toGame (HA4.out.ext X416.out) (by omega)).mono ?_
 rintro e w18 ⟨b6, rfl, hrow, hbb, hx⟩
 have X418 := Lib.hid (X416.out.trans hx)
 have O10 := Lib.hid (O9.out.ext hx)
 have R7 := Lib.hid (hrow.ints HL.out (Nat.le_refl _) hm)
 clear hx hrow hbb
 go_wp2_with fail
 refine (l_toRatS (HB4.out.ext X418.out) (by omega)).mono ?_
 rintro e w19 ⟨b7, rfl, hrow, hbb, hx⟩
 have X419 := Lib.hid (X418.out.trans hx)
 have O11 := Lib.hid (O10.out.ext hx)
 have R8 := Lib.hid (R7.out.ext hx)
 have R9 := Lib.hid (hrow.rats HL'.out (Nat.le_refl _) hm')
 clear hx hrow hbb
 go_wp2_with fail
 refine (i_LevelsOf R8.out R9.out).mono ?_
 rintro e w20 ⟨⟨v2, rfl, ho⟩, hx⟩
 obtain ⟨a2, n2, p2, rfl, N2⟩ := ho.var
 have X420 := Lib.hid (X419.out.trans hx)
 have O12 := Lib.hid (O11.out.ext hx)
 have O13 := Lib.hid ho
 clear ho hx
 have HE := Lib.hid (l_eqIntSS O13.out.intss (O0.out.ext X420.out).intss)
 rw [decide_eq_true rfl] at HE
 go_wp2_with fail
 refine HE.out.mono ?_
 rintro e w21 ⟨rfl, hx⟩
 have X421 := Lib.hid (X420.out.trans hx.ext)
 have O14 := Lib.hid (O12.out.ext hx.ext)
 clear hx
 go_wp2_with fail
 refine (l_heldIntSS 1 O14.out.intss (by omega) (by rw [← HZ.out]; omega)).mono ?_
 rw [← HZ.out]
 rintro e w22 ⟨rfl, rfl⟩
 go_wp2
 go_ret
 exact ⟨rfl, HX.out.trans (X4.out.trans X421.out)⟩
end Go.Proofs.Ytgohdmnbnhehnaa
