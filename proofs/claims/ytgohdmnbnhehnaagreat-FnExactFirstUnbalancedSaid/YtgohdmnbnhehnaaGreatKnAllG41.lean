import Derived.Test.YtgohdmnbnhehnaaGreatKnAllG39
import Derived.Test.YtgohdmnbnhehnaaGreatKnAllG6
import Derived.Test.YtgohdmnbnhehnaaGreatKnAllG4
import Derived.Test.YtgohdmnbnhehnaaGreatKnAllG2
import Derived.Test.YtgohdmnbnhehnaaGreatRows
namespace Go.Proofs.YtgohdmnbnhehnaaGreat
set_option linter.unusedVariables false
open Go.RowKit
theorem fst_len (p : Int) (V : List Int) (X : List (Int × Int)) : ((fstX p V X).getD []).length ≤ 32 := by
 cases h : fstX p V X with
 | none => simp
 | some r => exact ((levS_bd p V X).2 r (List.mem_of_find?_eq_some h)).1
set_option maxHeartbeats 8000000 in
theorem l_FnExactFirstUnbalanced {w : World} {x : Int} {a a' : Option Addr} {n n' cap cap' : Nat} {l : List Int} {l' : List (Int × Int)} (h : Ints w a n cap l) (h' : Rats w a' n' cap' l') :
 Calls Tryz.prog 7 #[pair x a n cap, .slice a' n' cap'] w fun e w' => e = .returned (.bool true) ∧ Ext w w' := by
 have hm : n ≤ 9223372036854775807 := Nat.le_trans h.hcap h.hmax
 have hm' : n' ≤ 9223372036854775807 := Nat.le_trans h'.hcap h'.hmax
 have hz := szF_le 1048576 n (by omega) (by omega)
 have HX := Lib.hid (Ext.alloc w (.cells #[.int .i64 x, .slice a n cap] 41))
 have HA := Lib.hid (h.ext HX.out)
 have HB := Lib.hid (h'.ext HX.out)
 have HL := Lib.hid h.hlen
 have HL' := Lib.hid h'.hlen
 clear h h'
 by_cases hlt : szF 1048576 n < 0
 ·go_enter Tryz.func7, Tryz.ntmps7
  go_wp2_with fail
  refine (l_szGame _ _ _ _ _ _ (by omega) (by omega) hm).mono ?_
  rintro e w1 ⟨rfl, hx⟩
  have HX1 := Lib.hid (HX.out.trans hx)
  clear hx
  go_wp2
  go_ret
  exact ⟨rfl, HX1.out⟩
 have hb : n ≤ 1048576 := by omega
 have hlt0 : (0 : Int) ≤ szF 1048576 n := by omega
 obtain ⟨s1, hs1⟩ : ∃ s, s = szF 1048576 n := ⟨_, rfl⟩
 rw [← hs1] at hlt hz hlt0
 have HS1 := Lib.hid hs1
 have hz2 := szF_le s1 n' (by omega) (by omega)
 clear hs1
 by_cases hlt2 : szF s1 n' < 0
 ·go_enter Tryz.func7, Tryz.ntmps7
  go_wp2_with fail
  refine (l_szGame _ _ _ _ _ _ (by omega) (by omega) hm).mono ?_
  rw [← HS1.out]
  rintro e w1 ⟨rfl, hx⟩
  have HX1 := Lib.hid (HX.out.trans hx)
  clear hx
  go_wp2_with fail
  refine (l_szRatS _ _ _ _ _ (by omega) (by omega) hm').mono ?_
  rintro e w2 ⟨rfl, rfl⟩
  go_wp2
  go_ret
  exact ⟨rfl, HX1.out⟩
 have hb' : n' ≤ 1048576 := by omega
 have hlen := fst_len x l l'
 go_enter Tryz.func7, Tryz.ntmps7
 go_wp2_with fail
 refine (l_szGame _ _ _ _ _ _ (by omega) (by omega) hm).mono ?_
 rw [← HS1.out]
 rintro e w1 ⟨rfl, hx⟩
 have c0 : w1.cell? ⟨w.heap.size, 0, none⟩ = some (.int .i64 x) := hx.cellSome (by simp)
 have c1 : w1.cell? ⟨w.heap.size, 1, none⟩ = some (.slice a n cap) := hx.cellSome (by simp)
 have X1 := Lib.hid hx
 clear hx
 go_wp2_with fail
 refine (l_szRatS _ _ _ _ _ (by omega) (by omega) hm').mono ?_
 rintro e w1' ⟨rfl, rfl⟩
 go_wp2_with fail
 refine (l_toGame (HA.out.ext X1.out) (by omega)).mono ?_
 rintro e w2 ⟨b1, rfl, hrow, hbb, hx⟩
 have X2 := Lib.hid (X1.out.trans hx)
 have R1 := Lib.hid (hrow.ints HL.out (Nat.le_refl _) hm)
 replace c0 := hx.cellSome c0
 replace c1 := hx.cellSome c1
 clear hx hrow hbb
 go_wp2_with fail
 refine (l_toRatS (HB.out.ext X2.out) (by omega)).mono ?_
 rintro e w3 ⟨b2, rfl, hrow, hbb, hx⟩
 have X3 := Lib.hid (X2.out.trans hx)
 have R1' := Lib.hid (R1.out.ext hx)
 have R2 := Lib.hid (hrow.rats HL'.out (Nat.le_refl _) hm')
 replace c0 := hx.cellSome c0
 replace c1 := hx.cellSome c1
 clear hx hrow hbb
 go_wp2_with fail
 refine (s_FirstUnbalanced R1'.out R2.out).mono ?_
 rintro e w4 ⟨⟨v0, rfl, ho⟩, hx⟩
 obtain ⟨a0, n0, p0, rfl, N0⟩ := ho.var
 have X4 := Lib.hid (X3.out.trans hx)
 have O0 := Lib.hid ho
 replace c0 := hx.cellSome c0
 replace c1 := hx.cellSome c1
 clear hx ho
 have HA4 := Lib.hid (HA.out.ext X4.out)
 have HB4 := Lib.hid (HB.out.ext X4.out)
 have Hc0 := Lib.hid c0
 have Hc1 := Lib.hid c1
 go_wp2_with fail
 refine (l_toGame HA4.out (by omega)).mono ?_
 rintro e w5 ⟨bG, rfl, hrow, hbb, hx⟩
 replace c0 := hx.cellSome c0
 replace c1 := hx.cellSome c1
 have hlt5 : w.heap.size < w5.heap.size := World.block_lt_of_cell? _ _ c0
 have hxb := Ext.alloc w5 (.cells #[.int .i64 x, .slice (some ⟨bG, 0, none⟩) n n] 47)
 have Jc0 := Lib.hid (hxb.cellSome c0)
 have Jc1 := Lib.hid (hxb.cellSome c1)
 have X45 := Lib.hid (hx.trans hxb)
 have BG := Lib.hid hbb
 have LG := Lib.hid hrow.lt
 have RG := Lib.hid ((hrow.own hbb HL.out (by omega)).ext hxb)
 clear hx hrow hbb hxb
 go_wp2_with fail
 refine (l_toRatS (HB4.out.ext X45.out) (by omega)).mono ?_
 rintro e w6 ⟨bO, rfl, hrow, hbb, hx⟩
 clear c0 c1
 have c0 := hx.cellSome Jc0.out
 have c1 := hx.cellSome Jc1.out
 have d0 : w6.cell? ⟨w5.heap.size, 0, none⟩ = some (.int .i64 x) := hx.cellSome (by simp)
 have d1 : w6.cell? ⟨w5.heap.size, 1, none⟩ = some (.slice (some ⟨bG, 0, none⟩) n n) := hx.cellSome (by simp)
 have hlt56 : w5.heap.size < w6.heap.size := World.block_lt_of_cell? _ _ d0
 have X46 := Lib.hid (X45.out.trans hx)
 have BO := Lib.hid (show w5.heap.size + 1 ≤ bO by simpa using hbb)
 have LO := Lib.hid hrow.lt
 have RG6 := Lib.hid (RG.out.ext hx)
 have RO := Lib.hid (hrow.own hbb HL'.out (by omega))
 clear hx hrow hbb
 have HI := Lib.hid (i_FirstUnbalanced (p := x) RG6.out.ints RO.out.rats)
 go_wp2_with fail
 refine HI.out.mono ?_
 rintro e w7 ⟨⟨v1, rfl, ho⟩, hx⟩
 obtain ⟨a1, n1, p1, rfl, N1⟩ := ho.var
 replace c0 := hx.cellSome c0
 replace c1 := hx.cellSome c1
 replace d0 := hx.cellSome d0
 replace d1 := hx.cellSome d1
 have X47 := Lib.hid (X46.out.trans hx)
 have RG7 := Lib.hid (RG6.out.ext hx)
 have RO7 := Lib.hid (RO.out.ext hx)
 have O1 := Lib.hid ho
 clear hx ho
 have HE := Lib.hid (l_eqIntS O1.out.ints (O0.out.ext X47.out).ints)
 rw [decide_eq_true rfl] at HE
 go_wp2_with fail
 refine HE.out.mono ?_
 rintro e w8 ⟨rfl, hx⟩
 replace c0 := hx.ext.cellSome c0
 replace c1 := hx.ext.cellSome c1
 replace d0 := hx.ext.cellSome d0
 replace d1 := hx.ext.cellSome d1
 have X48 := Lib.hid (X47.out.trans hx.ext)
 have RG8 := Lib.hid (RG7.out.ext hx.ext)
 have RO8 := Lib.hid (RO7.out.ext hx.ext)
 have O2 := Lib.hid (O1.out.ext hx.ext)
 clear hx
 go_wp2_with fail
 have hk : Ext w8 w8.drew := Ext.drew w8
 have H8 := Lib.hid ((HA4.out.ext X48.out).ext hk)
 have RG9 := Lib.hid (RG8.out.ext hk)
 go_region_held3 (fun w' => w'.cell? ⟨w.heap.size, 0, none⟩ = some (.int .i64 x) ∧ w'.cell? ⟨w.heap.size, 1, none⟩ = some (.slice a n cap) ∧ w'.cell? ⟨w5.heap.size, 0, none⟩ = some (.int .i64 x) ∧ w'.cell? ⟨w5.heap.size, 1, none⟩ = some (.slice (some ⟨bG, 0, none⟩) n n) ∧ Ext w8 w')
  (exact ⟨hk.cellSome c0, hk.cellSome c1, hk.cellSome d0, hk.cellSome d1, hk⟩)
  (first
    | (go_at_call 25; refine (l_toGame H8.out (by omega)).mono ?_; rintro e w9 ⟨b3, rfl, hrow, hbb, hx6⟩; have hk := hk.trans hx6)
    | (go_at_call 28; refine (l_eqGame (RG9.out.ext hx6).ints (hrow.ints HL.out (Nat.le_refl _) hm)).mono ?_; rintro e w10 ⟨rfl, hx7⟩; have hk := hk.trans hx7))
 replace c0 := hk.cellSome c0
 replace c1 := hk.cellSome c1
 replace d0 := hk.cellSome d0
 replace d1 := hk.cellSome d1
 have X410 := Lib.hid (X48.out.trans hk)
 have RG10 := Lib.hid (RG8.out.ext hk)
 have RO10 := Lib.hid (RO8.out.ext hk)
 have O3 := Lib.hid (O2.out.ext hk)
 clear hk H8 RG9
 go_wp2_with fail
 refine (l_toRatS (HB4.out.ext X410.out) (by omega)).mono ?_
 rintro e w11 ⟨b5, rfl, hrow, hbb, hx⟩
 have HE := Lib.hid (l_eqRatS (RO10.out.ext hx).rats (hrow.rats HL'.out (Nat.le_refl _) hm'))
 rw [decide_eq_true rfl] at HE
 replace c0 := hx.cellSome c0
 replace c1 := hx.cellSome c1
 replace d0 := hx.cellSome d0
 replace d1 := hx.cellSome d1
 have X411 := Lib.hid (X410.out.trans hx)
 have RG11 := Lib.hid (RG10.out.ext hx)
 have RO11 := Lib.hid (RO10.out.ext hx)
 have O4 := Lib.hid (O3.out.ext hx)
 clear hx hrow hbb
 go_wp2_with fail
 refine HE.out.mono ?_
 rintro e w12 ⟨rfl, hx⟩
 replace c0 := hx.cellSome c0
 replace c1 := hx.cellSome c1
 replace d0 := hx.cellSome d0
 replace d1 := hx.cellSome d1
 have X412 := Lib.hid (X411.out.trans hx)
 have RG12 := Lib.hid (RG11.out.ext hx)
 have RO12 := Lib.hid (RO11.out.ext hx)
 have O5 := Lib.hid (O4.out.ext hx)
 clear hx
 go_wp2_with fail
 refine (l_markGame (x := x) RG12.out 1 (by omega) (by omega)).mono ?_
 rintro e w13 ⟨rfl, _, hg⟩
 have hne : ∀ k : Nat, k ≠ bG → (Value.slice (some ⟨bG, 0, none⟩) n n).ownBlock ≠ some k := fun k hk e => hk (Option.some.inj (show some bG = some k from e)).symm
 have X413 := Lib.hid (ext_grown X412.out hg fun k hk => by have := Option.some.inj (show some bG = some k from hk); have := BG.out; omega)
 have O6 := Lib.hid (O5.out.keep fun k hk => hg.block k (O5.out.lt k hk).2 fun e => by have h1 := (O5.out.lt k hk).1; have := Option.some.inj (show some k = some bG from e); have := LG.out; omega)
 have RO13 := Lib.hid (RO12.out.keep fun k hk => hg.block k (RO12.out.lt k hk).2 fun e => by have h1 := Option.some.inj (show some bO = some k from hk); have := Option.some.inj (show some k = some bG from e); have := LG.out; have := BO.out; omega)
 clear hg hne d0 d1 c0 c1
 go_wp2_with fail
 refine (l_markRatS RO13.out (1 + (n : Int)) (by omega) (by omega)).mono ?_
 rintro e w14 ⟨rfl, _, hg, _⟩
 have X414 := Lib.hid (ext_grown X413.out hg fun k hk => by have := Option.some.inj (show some bO = some k from hk); have := BO.out; have := X45.out.size; simp at this; omega)
 have O7 := Lib.hid (O6.out.keep fun k hk => hg.block k (O6.out.lt k hk).2 fun e => by have h1 := (O6.out.lt k hk).1; have := Option.some.inj (show some k = some bO from e); have := LO.out; omega)
 clear hg
 have c0 := X414.out.cellSome Hc0.out
 have c1 := X414.out.cellSome Hc1.out
 have HE := Lib.hid (l_eqIntS O7.out.ints (O0.out.ext X414.out).ints)
 rw [decide_eq_true rfl] at HE
 have hn1 : n1 ≤ 1048576 := by have := N1.out; omega
 have hneg : ¬ (1 + (n : Int) + 2 * (n' : Int) < 0) := by omega
 go_wp2_with fail
 refine HE.out.mono ?_
 rintro e w15 ⟨rfl, hx⟩
 have X415 := Lib.hid (X414.out.trans hx.ext)
 have O8 := Lib.hid (O7.out.ext hx.ext)
 clear hx c0 c1
 go_wp2_with fail
 refine (l_markIntS O8.out 1 (by omega) (by omega)).mono ?_
 rintro e w16 ⟨rfl, ho, hg, _⟩
 have X416 := Lib.hid (ext_grown X415.out hg fun k hk => by have h1 := (O8.out.lt k hk).1; have := X46.out.size; omega)
 have O9 := Lib.hid ho
 clear ho hg
 have c0 := X416.out.cellSome Hc0.out
 have c1 := X416.out.cellSome Hc1.out
 have hneg1 : ¬ (1 + (n1 : Int) < 0) := by omega
 have hne : ((1 + (n1 : Int)) != (1 + (n1 : Int))) = false := by simp
 go_wp2_with fail
 refine (l_heldIntS 1 O9.out.ints (by omega) (by omega)).mono ?_
 rintro e w17 ⟨rfl, rfl⟩
 go_wp2_with fail
 refine (l_toGame (HA4.out.ext X416.out) (by omega)).mono ?_
 rintro e w18 ⟨b6, rfl, hrow, hbb, hx⟩
 have X418 := Lib.hid (X416.out.trans hx)
 have O10 := Lib.hid (O9.out.ext hx)
 have R7 := Lib.hid (hrow.ints HL.out (Nat.le_refl _) hm)
 clear hx hrow hbb
 go_wp2_with fail
 refine (l_toRatS (HB4.out.ext X418.out) (by omega)).mono ?_
 rintro e w19 ⟨b7, rfl, hrow, hbb, hx⟩
 have X419 := Lib.hid (X418.out.trans hx)
 have O11 := Lib.hid (O10.out.ext hx)
 have R8 := Lib.hid (R7.out.ext hx)
 have R9 := Lib.hid (hrow.rats HL'.out (Nat.le_refl _) hm')
 clear hx hrow hbb
 go_wp2_with fail
 refine (i_FirstUnbalanced R8.out R9.out).mono ?_
 rintro e w20 ⟨⟨v2, rfl, ho⟩, hx⟩
 obtain ⟨a2, n2, p2, rfl, N2⟩ := ho.var
 have X420 := Lib.hid (X419.out.trans hx)
 have O12 := Lib.hid (O11.out.ext hx)
 have O13 := Lib.hid ho
 clear ho hx
 have HE := Lib.hid (l_eqIntS O13.out.ints (O0.out.ext X420.out).ints)
 rw [decide_eq_true rfl] at HE
 go_wp2_with fail
 refine HE.out.mono ?_
 rintro e w21 ⟨rfl, hx⟩
 have X421 := Lib.hid (X420.out.trans hx.ext)
 have O14 := Lib.hid (O12.out.ext hx.ext)
 clear hx
 go_wp2_with fail
 refine (l_heldIntS 1 O14.out.ints (by omega) (by omega)).mono ?_
 rintro e w22 ⟨rfl, rfl⟩
 go_wp2
 go_ret
 exact ⟨rfl, HX.out.trans (X4.out.trans X421.out)⟩
end Go.Proofs.YtgohdmnbnhehnaaGreat
namespace Go.Proofs.YtgohdmnbnhehnaaGreat.fnExactFirstUnbalanced
open Go.Proofs.YtgohdmnbnhehnaaGreat
open Go.ChangeShapes Go.WideShapes Go.ChangeAt Go.RowKit Go.Joins
open Go.ChangeMaps (open_string shut_string)
set_option linter.unusedVariables false
theorem own : ownKnob Tryz.prog.godebug = none := by kernel_rfl
theorem laidOut : laidOutB Tryz.prog = true := by kernel_rfl
set_option maxRecDepth 100000 in
theorem lifted (os : Os) (started : os.Started) (H : Type) (enc : TypeId × Value → H) :
 ReturnsInHanded {} Tryz.checked os 7 .any (Rows.fnExactFirstUnbalancedSpec.pre6 enc Tryz.prog Tryz.f7 Rows.fnExactFirstUnbalancedRow.domain false) (Rows.fnExactFirstUnbalancedSpec.post enc Tryz.prog Tryz.f7 false true false false) := by
 refine returnsInHanded_of_change (C := Tryz.checked) own started (by kernel_rfl) Tryz.func7
  (ChangeSpec.witness6 (enc := enc) (C := Tryz.checked) false ⟨#[], #[.agg #[.int .i64 0, .slice none 0 0], .slice none 0 0], []⟩ 8 (by kernel_rfl) (by kernel_rfl) (by kernel_rfl) (by kernel_rfl)) ?_
 intro W base args ds gs before hval0 hW hcnd _
 have hval : ∀ (j : Nat) t v, Tryz.f7.params[j]? = some t → args[j]? = some v → Value.okWide Tryz.prog W .any base t v := hval0
 have hW' := hW
 obtain ⟨p, q, hA0, hV, rfl, hfz, hnd⟩ := hW
 have hA : DataW.TrodAll enc Tryz.prog W 0 (fun _ => true) true Tryz.f7.params.toList args.toList ds p := hA0
 rw [Tryz.params7] at hA hval
 obtain ⟨v0, vs0, d0, ds0, p0, q0, hargs, rfl, rfl, h0, r0⟩ := trodAll_cons hA
 obtain ⟨v1, vs1, d1, ds1, p1, q1, rfl, rfl, rfl, h1, r1⟩ := trodAll_cons r0
 obtain ⟨rfl, rfl, rfl⟩ := trodAll_nil r1
 obtain rfl : args = #[v0, v1] := by cases args; simp_all
 obtain ⟨rfl, rfl⟩ := trodVars_none hV
 have k0 := h0
 have lt0 : ∀ x ∈ p0, x.block < W.heap.size := by obtain ⟨m, hm⟩ := k0; exact DataW.trod_lt m _ _ _ hm
 obtain ⟨u0, s0, y0, z0, m0, rfl, _, _, hy0, hz0⟩ := open_agg2 Tryz.underlying41 (by kernel_rfl) (by kernel_rfl) (hval 0 41 v0 rfl rfl) h0
 obtain ⟨x0, e0, _, wf0⟩ := DataW.trod_int Tryz.underlying3 hy0
 obtain ⟨a0, n0, c0, l0, rfl, I0⟩ := open_Ints Tryz.underlying22 Tryz.underlying3 (by kernel_rfl) hz0
 obtain rfl : u0 = .int .i64 x0 := by simpa using e0
 have k1 := h1
 have lt1 : ∀ x ∈ p1, x.block < W.heap.size := by obtain ⟨m, hm⟩ := k1; exact DataW.trod_lt m _ _ _ hm
 obtain ⟨a1, n1, c1, rfl⟩ := okWide_slice Tryz.underlying54 (hval 1 54 v1 rfl rfl)
 obtain ⟨a1', n1', c1', l1, e1, I1⟩ : ∃ a n c l, Value.slice a1 n1 c1 = .slice a n c ∧ Rats W a n c l := by obtain ⟨fuel, hf⟩ := h1; exact open_Rats Tryz.underlying54 Tryz.underlying115 (by kernel_rfl) (by kernel_rfl) (by kernel_rfl) (by kernel_rfl) (by kernel_rfl) Tryz.underlying3 Tryz.underlying3 (by simpa [Value.cells] using hf)
 obtain ⟨rfl, rfl, rfl⟩ : a1 = a1' ∧ n1 = n1' ∧ c1 = c1' := by simpa using e1
 clear hA0 hval0
 refine (l_FnExactFirstUnbalanced I0 I1).mono fun e W' ⟨he, bel⟩ => ?_
 subst he
 exact ⟨_, rfl, _, _, _, [], _, [], hW', trodAll_mk1 (shut_bool Tryz.underlying4 _), (trodAll_cons_mk (Below.trod laidOut (by kernel_rfl) (of_decide_eq_true (by kernel_rfl)) k0 bel lt0) (trodAll_cons_mk (Below.trod laidOut (by kernel_rfl) (of_decide_eq_true (by kernel_rfl)) k1 bel lt1) trodAll_mk0)), rfl, bel.frame _, fun h => by cases h⟩
theorem over : Rows.fnExactFirstUnbalancedRow.holds Tryz.pinned (OpenSpec.ofChange Rows.fnExactFirstUnbalancedSpec) :=
 OpenClaim.holds_of_wide 7 Tryz.f7 rfl rfl rfl rfl rfl rfl rfl ⟨rfl, rfl, rfl, rfl, rfl⟩ rfl rfl rfl rfl rfl (by kernel_rfl) Tryz.func7 (by kernel_rfl)
  (of_decide_eq_true (by kernel_rfl)) (by unfold Func.isWrapper; first | (rw [if_pos (by decide +kernel)]; kernel_rfl) | (rw [if_neg (by decide +kernel)]; exact ⟨rfl, rfl⟩))
  (fun os started H enc _ => lifted os started H enc)
theorem proved : Rows.FnExactFirstUnbalancedSaid := over
#print axioms proved
end Go.Proofs.YtgohdmnbnhehnaaGreat.fnExactFirstUnbalanced
