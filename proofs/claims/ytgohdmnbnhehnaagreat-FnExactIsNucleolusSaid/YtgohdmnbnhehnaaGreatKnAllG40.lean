import Derived.Test.YtgohdmnbnhehnaaGreatKnAllG39
import Derived.Test.YtgohdmnbnhehnaaGreatKnAllG6
import Derived.Test.YtgohdmnbnhehnaaGreatKnAllG4
import Derived.Test.YtgohdmnbnhehnaaGreatKnAllG2
import Derived.Test.YtgohdmnbnhehnaaGreatRows
namespace Go.Proofs.YtgohdmnbnhehnaaGreat
set_option linter.unusedVariables false
set_option linter.unusedSimpArgs false
set_option maxRecDepth 100000
open Go.RowKit
def kohlB (p : Int) (V : List Int) (X : List (Int × Int)) : Bool := (allX p V X).isSome && !(fstX p V X).isSome
theorem runT_isSome {f : Nat → Option (Int × Int)} : ∀ {m : Nat}, (runT f m).isSome = true ↔ ∀ i, i < m → (f i).isSome = true
 | 0 => by simp [runT]
 | m + 1 => by
   simp only [runT]
   cases h : runT f m with
   | none =>
     simp only [Option.bind_none, Option.isSome_none, Bool.false_eq_true, false_iff]
     intro h2
     have := (runT_isSome (f := f) (m := m)).2 fun i hi => h2 i (by omega)
     rw [h] at this; cases this
   | some l =>
     have ih := (runT_isSome (f := f) (m := m)).1 (by rw [h]; rfl)
     simp only [Option.bind_some, Option.isSome_map]
     constructor
     ·intro h2 i hi
      by_cases him : i = m
      ·rw [him]; exact h2
      ·exact ih i (by omega)
     ·intro h2; exact h2 m (by omega)
theorem excS_zero {p : Int} {V : List Int} {X : List (Int × Int)} (h : payP p V X = true) : (excS V X 0).isSome = true := by
 obtain ⟨q, _, _, _, _, h0, _⟩ := gameOk_len (payP_game h)
 have e : shareP X 0 = some (0, 1) := by
  unfold shareP
  rw [show memI ((0 : Nat) : Int) 5 = [] by decide]
  rfl
 unfold excS
 rw [e, h0]
 rfl
theorem excS_grand {p : Int} {V : List Int} {X : List (Int × Int)} (h : payP p V X = true) : (excS V X (V.length - 1)).isSome = true := by
 obtain ⟨hg, _, _, hs⟩ := payP_parts h
 obtain ⟨q, _, _, h5, _, _, hb⟩ := gameOk_len hg
 unfold excS
 rw [hs]
 show (excR _ (grandV p V, 1)).isSome = true
 rw [grandV_ok hg]
 obtain ⟨x, hx⟩ : ∃ x, x = V[V.length - 1]?.getD 0 := ⟨_, rfl⟩
 rw [← hx]
 have hbx := getD_bd hb (V.length - 1)
 rw [← hx] at hbx
 unfold excR
 rw [subR_self (val_ints x (by omega) (by omega))]
 rfl
theorem excX_whole (p : Int) (V : List Int) (X : List (Int × Int)) : (excX p V X 0 V.length).isSome = (allX p V X).isSome := by
 unfold excX allX
 cases h : payP p V X
 ·rfl
 ·rw [if_pos rfl, if_pos rfl]
  obtain ⟨q, _, h1, h5, hlen, _, _⟩ := gameOk_len (payP_game h)
  have hq : ∀ q : Fin 6, 1 ≤ q.val → 2 ≤ cN q.val := by decide
  have hn := hq ⟨q, by omega⟩ h1
  simp only at hn
  rw [Bool.eq_iff_iff]
  unfold excL
  rw [runT_isSome, runT_isSome]
  constructor
  ·intro h2 i hi
   have := h2 (1 + i) (by omega)
   rwa [Nat.zero_add] at this
  ·intro h2 i hi
   rw [Nat.zero_add]
   by_cases h0 : i = 0
   ·rw [h0]; exact excS_zero h
   ·by_cases h9 : i = V.length - 1
    ·rw [h9]; exact excS_grand h
    ·have := h2 (i - 1) (by omega)
     rwa [show 1 + (i - 1) = i by omega] at this
set_option maxHeartbeats 1000000 in
theorem i_IsNucleolus {w : World} {p : Int} {a : Option Addr} {n cap : Nat} {V : List Int} (h : Ints w a n cap V) {b : Option Addr} {m mcap : Nat} {X : List (Int × Int)} (hx : Rats w b m mcap X) :
 Calls Tryz.prog 35 #[pair p a n cap, .slice b m mcap] w fun e w' => e = .returned (.bool (kohlB p V X)) ∧ Ext w w' := by
 have HX := Lib.hid (Ext.alloc w (.cells #[.int .i64 p, .slice a n cap] 47))
 have HE0 := i_excesses (p := p) (h.ext HX.out) (hx.ext HX.out) 0 n ((n : Int) - 1) (fun _ => by omega)
 have hsm := excX_whole p V X
 rw [h.hlen] at hsm
 rw [hsm] at HE0
 have HE := Lib.hid HE0
 have HI := Lib.hid (h.ext HX.out)
 have HR := Lib.hid (hx.ext HX.out)
 have hcap := h.hcap
 have hmax := h.hmax
 clear h hx HE0 hsm
 obtain ⟨A, hA⟩ : ∃ A, A = (allX p V X).isSome := ⟨_, rfl⟩
 obtain ⟨B, hB⟩ : ∃ B, B = (fstX p V X).isSome := ⟨_, rfl⟩
 have HQ := Lib.hid (show kohlB p V X = (A && !B) by rw [hA, hB]; rfl)
 have HB := Lib.hid hB
 rw [← hA] at HE
 clear hA hB
 go_enter Tryz.func35, Tryz.ntmps35
 go_wp2_with fail
 refine HE.out.mono ?_
 rintro e w1 ⟨⟨v, rfl, _⟩, hx1⟩
 have c0 : w1.cell? ⟨w.heap.size, 0, none⟩ = some (.int .i64 p) := hx1.cellSome (by simp)
 have c1 : w1.cell? ⟨w.heap.size, 1, none⟩ = some (.slice a n cap) := hx1.cellSome (by simp)
 have X1 := Lib.hid hx1
 have HF := Lib.hid (i_FirstUnbalanced (p := p) (HI.out.ext hx1) (HR.out.ext hx1))
 rw [← HB.out] at HF
 clear hx1
 go_wp2_with fail
 refine HF.out.mono ?_
 rintro e w2 ⟨⟨v2, rfl, _⟩, hx2⟩
 have X2 := Lib.hid (HX.out.trans (X1.out.trans hx2))
 clear hx2
 cases A
 all_goals
  go_wp2_with fail
  go_ret
  exact ⟨ret_bool (by rw [HQ.out]; rfl), X2.out⟩
set_option maxHeartbeats 1000000 in
theorem s_IsNucleolus {w : World} {p : Int} {a : Option Addr} {n cap : Nat} {V : List Int} (h : Ints w a n cap V) {b : Option Addr} {m mcap : Nat} {X : List (Int × Int)} (hx : Rats w b m mcap X) :
 Calls Tryz.prog 33 #[pair p a n cap, .slice b m mcap] w fun e w' => e = .returned (.bool (kohlB p V X)) ∧ Ext w w' := by
 have HX := Lib.hid (Ext.alloc w (.cells #[.int .i64 p, .slice a n cap] 47))
 have HE := Lib.hid (s_FirstUnbalanced (p := p) (h.ext HX.out) (hx.ext HX.out))
 have HI := Lib.hid (h.ext HX.out)
 have HR := Lib.hid (hx.ext HX.out)
 clear h hx
 obtain ⟨A, hA⟩ : ∃ A, A = (allX p V X).isSome := ⟨_, rfl⟩
 obtain ⟨B, hB⟩ : ∃ B, B = (fstX p V X).isSome := ⟨_, rfl⟩
 obtain ⟨C, hC⟩ : ∃ C, C = payP p V X := ⟨_, rfl⟩
 have HQ := Lib.hid (show kohlB p V X = (C && (A && !B)) by
  unfold kohlB
  rw [← hA, ← hB]
  cases hc : C
  ·have := allX_not (p := p) (V := V) (X := X) (by rw [← hC, hc])
   rw [this] at hA
   rw [hA]; rfl
  ·rfl)
 have HA := Lib.hid hA
 have HC := Lib.hid hC
 rw [← hB] at HE
 clear hA hB hC
 go_enter Tryz.func33, Tryz.ntmps33
 go_wp2_with fail
 refine HE.out.mono ?_
 rintro e w1 ⟨⟨v, rfl, _⟩, hx1⟩
 have c0 : w1.cell? ⟨w.heap.size, 0, none⟩ = some (.int .i64 p) := hx1.cellSome (by simp)
 have c1 : w1.cell? ⟨w.heap.size, 1, none⟩ = some (.slice a n cap) := hx1.cellSome (by simp)
 have X1 := Lib.hid hx1
 have HF := Lib.hid (s_l11All (p := p) (HI.out.ext hx1) (HR.out.ext hx1))
 rw [← HA.out] at HF
 clear hx1
 go_wp2_with fail
 refine HF.out.mono ?_
 rintro e w2 ⟨⟨v2, rfl, _⟩, hx2⟩
 have X2 := Lib.hid (X1.out.trans hx2)
 replace c0 := hx2.cellSome c0
 replace c1 := hx2.cellSome c1
 have HP := Lib.hid (s_IsPayoff (p := p) (HI.out.ext X2.out) (HR.out.ext X2.out))
 rw [← HC.out] at HP
 clear hx2
 go_wp2_with fail
 refine HP.out.mono ?_
 rintro e w3 ⟨rfl, hx3⟩
 have X3 := Lib.hid (HX.out.trans (X2.out.trans hx3))
 clear hx3 c0 c1
 cases C
 all_goals
  cases A
 all_goals
  go_wp2_with fail
  go_ret
  exact ⟨ret_bool (by rw [HQ.out]; rfl), X3.out⟩
set_option maxHeartbeats 4000000 in
theorem l_FnExactIsNucleolus {w : World} {x : Int} {a a' : Option Addr} {n n' cap cap' : Nat} {l : List Int} {l' : List (Int × Int)} (h : Ints w a n cap l) (h' : Rats w a' n' cap' l') :
 Calls Tryz.prog 6 #[pair x a n cap, .slice a' n' cap'] w fun e w' => e = .returned (.bool true) ∧ Ext w w' := by
 have hm : n ≤ 9223372036854775807 := Nat.le_trans h.hcap h.hmax
 have hm' : n' ≤ 9223372036854775807 := Nat.le_trans h'.hcap h'.hmax
 have hz := szF_le 1048576 n (by omega) (by omega)
 have HX := Lib.hid (Ext.alloc w (.cells #[.int .i64 x, .slice a n cap] 41))
 have HA := Lib.hid (h.ext HX.out)
 have HB := Lib.hid (h'.ext HX.out)
 have HL := Lib.hid h.hlen
 have HL' := Lib.hid h'.hlen
 clear h h'
 by_cases hlt : szF 1048576 n < 0
 ·go_enter Tryz.func6, Tryz.ntmps6
  go_wp2_with fail
  refine (l_szGame _ _ _ _ _ _ (by omega) (by omega) hm).mono ?_
  rintro e w1 ⟨rfl, hx⟩
  have HX1 := Lib.hid (HX.out.trans hx)
  clear hx
  go_wp2
  go_ret
  exact ⟨rfl, HX1.out⟩
 have hb : n ≤ 1048576 := by omega
 have hlt0 : (0 : Int) ≤ szF 1048576 n := by omega
 obtain ⟨s1, hs1⟩ : ∃ s, s = szF 1048576 n := ⟨_, rfl⟩
 rw [← hs1] at hlt hz hlt0
 have HS1 := Lib.hid hs1
 have hz2 := szF_le s1 n' (by omega) (by omega)
 clear hs1
 by_cases hlt2 : szF s1 n' < 0
 ·go_enter Tryz.func6, Tryz.ntmps6
  go_wp2_with fail
  refine (l_szGame _ _ _ _ _ _ (by omega) (by omega) hm).mono ?_
  rw [← HS1.out]
  rintro e w1 ⟨rfl, hx⟩
  have HX1 := Lib.hid (HX.out.trans hx)
  clear hx
  go_wp2_with fail
  refine (l_szRatS _ _ _ _ _ (by omega) (by omega) hm').mono ?_
  rintro e w2 ⟨rfl, rfl⟩
  go_wp2
  go_ret
  exact ⟨rfl, HX1.out⟩
 have hb' : n' ≤ 1048576 := by omega
 go_enter Tryz.func6, Tryz.ntmps6
 go_wp2_with fail
 refine (l_szGame _ _ _ _ _ _ (by omega) (by omega) hm).mono ?_
 rw [← HS1.out]
 rintro e w1 ⟨rfl, hx⟩
 have c0 : w1.cell? ⟨w.heap.size, 0, none⟩ = some (.int .i64 x) := hx.cellSome (by simp)
 have c1 : w1.cell? ⟨w.heap.size, 1, none⟩ = some (.slice a n cap) := hx.cellSome (by simp)
 have X1 := Lib.hid hx
 clear hx
 go_wp2_with fail
 refine (l_szRatS _ _ _ _ _ (by omega) (by omega) hm').mono ?_
 rintro e w1' ⟨rfl, rfl⟩
 go_wp2_with fail
 refine (l_toGame (HA.out.ext X1.out) (by omega)).mono ?_
 rintro e w2 ⟨b1, rfl, hrow, hbb, hx⟩
 have X2 := Lib.hid (X1.out.trans hx)
 have R1 := Lib.hid (hrow.ints HL.out (Nat.le_refl _) hm)
 replace c0 := hx.cellSome c0
 replace c1 := hx.cellSome c1
 clear hx hrow hbb
 go_wp2_with fail
 refine (l_toRatS (HB.out.ext X2.out) (by omega)).mono ?_
 rintro e w3 ⟨b2, rfl, hrow, hbb, hx⟩
 have X3 := Lib.hid (X2.out.trans hx)
 have R1' := Lib.hid (R1.out.ext hx)
 have R2 := Lib.hid (hrow.rats HL'.out (Nat.le_refl _) hm')
 replace c0 := hx.cellSome c0
 replace c1 := hx.cellSome c1
 clear hx hrow hbb
 go_wp2_with fail
 refine (s_IsNucleolus R1'.out R2.out).mono ?_
 rintro e w4 ⟨rfl, hx⟩
 have X4 := Lib.hid (X3.out.trans hx)
 replace c0 := hx.cellSome c0
 replace c1 := hx.cellSome c1
 clear hx
 have HA4 := Lib.hid (HA.out.ext X4.out)
 have HB4 := Lib.hid (HB.out.ext X4.out)
 have Hc0 := Lib.hid c0
 have Hc1 := Lib.hid c1
 go_wp2_with fail
 refine (l_toGame HA4.out (by omega)).mono ?_
 rintro e w5 ⟨bG, rfl, hrow, hbb, hx⟩
 replace c0 := hx.cellSome c0
 replace c1 := hx.cellSome c1
 have hlt5 : w.heap.size < w5.heap.size := World.block_lt_of_cell? _ _ c0
 have hxb := Ext.alloc w5 (.cells #[.int .i64 x, .slice (some ⟨bG, 0, none⟩) n n] 47)
 have Jc0 := Lib.hid (hxb.cellSome c0)
 have Jc1 := Lib.hid (hxb.cellSome c1)
 have X45 := Lib.hid (hx.trans hxb)
 have BG := Lib.hid hbb
 have LG := Lib.hid hrow.lt
 have RG := Lib.hid ((hrow.own hbb HL.out (by omega)).ext hxb)
 clear hx hrow hbb hxb
 go_wp2_with fail
 refine (l_toRatS (HB4.out.ext X45.out) (by omega)).mono ?_
 rintro e w6 ⟨bO, rfl, hrow, hbb, hx⟩
 clear c0 c1
 have c0 := hx.cellSome Jc0.out
 have c1 := hx.cellSome Jc1.out
 have d0 : w6.cell? ⟨w5.heap.size, 0, none⟩ = some (.int .i64 x) := hx.cellSome (by simp)
 have d1 : w6.cell? ⟨w5.heap.size, 1, none⟩ = some (.slice (some ⟨bG, 0, none⟩) n n) := hx.cellSome (by simp)
 have hlt56 : w5.heap.size < w6.heap.size := World.block_lt_of_cell? _ _ d0
 have X46 := Lib.hid (X45.out.trans hx)
 have BO := Lib.hid (show w5.heap.size + 1 ≤ bO by simpa using hbb)
 have LO := Lib.hid hrow.lt
 have RG6 := Lib.hid (RG.out.ext hx)
 have RO := Lib.hid (hrow.own hbb HL'.out (by omega))
 clear hx hrow hbb
 have HI := Lib.hid (i_IsNucleolus (p := x) RG6.out.ints RO.out.rats)
 go_wp2_with fail
 refine HI.out.mono ?_
 rintro e w7 ⟨rfl, hx⟩
 replace c0 := hx.cellSome c0
 replace c1 := hx.cellSome c1
 replace d0 := hx.cellSome d0
 replace d1 := hx.cellSome d1
 have X47 := Lib.hid (X46.out.trans hx)
 have RG7 := Lib.hid (RG6.out.ext hx)
 have RO7 := Lib.hid (RO.out.ext hx)
 clear hx
 have hne : (kohlB x l l' != kohlB x l l') = false := by cases kohlB x l l' <;> rfl
 go_wp2_with fail
 have hk : Ext w7 w7.drew := Ext.drew w7
 have H8 := Lib.hid ((HA4.out.ext X47.out).ext hk)
 have RG9 := Lib.hid (RG7.out.ext hk)
 go_region_held3 (fun w' => w'.cell? ⟨w.heap.size, 0, none⟩ = some (.int .i64 x) ∧ w'.cell? ⟨w.heap.size, 1, none⟩ = some (.slice a n cap) ∧ w'.cell? ⟨w5.heap.size, 0, none⟩ = some (.int .i64 x) ∧ w'.cell? ⟨w5.heap.size, 1, none⟩ = some (.slice (some ⟨bG, 0, none⟩) n n) ∧ Ext w7 w')
  (exact ⟨hk.cellSome c0, hk.cellSome c1, hk.cellSome d0, hk.cellSome d1, hk⟩)
  (first
    | (go_at_call 25; refine (l_toGame H8.out (by omega)).mono ?_; rintro e w9 ⟨b3, rfl, hrow, hbb, hx6⟩; have hk := hk.trans hx6)
    | (go_at_call 28; refine (l_eqGame (RG9.out.ext hx6).ints (hrow.ints HL.out (Nat.le_refl _) hm)).mono ?_; rintro e w10 ⟨rfl, hx7⟩; have hk := hk.trans hx7))
 replace c0 := hk.cellSome c0
 replace c1 := hk.cellSome c1
 replace d0 := hk.cellSome d0
 replace d1 := hk.cellSome d1
 have X410 := Lib.hid (X47.out.trans hk)
 have RG10 := Lib.hid (RG7.out.ext hk)
 have RO10 := Lib.hid (RO7.out.ext hk)
 clear hk H8 RG9
 go_wp2_with fail
 refine (l_toRatS (HB4.out.ext X410.out) (by omega)).mono ?_
 rintro e w11 ⟨b5, rfl, hrow, hbb, hx⟩
 have HE := Lib.hid (l_eqRatS (RO10.out.ext hx).rats (hrow.rats HL'.out (Nat.le_refl _) hm'))
 rw [decide_eq_true rfl] at HE
 replace c0 := hx.cellSome c0
 replace c1 := hx.cellSome c1
 replace d0 := hx.cellSome d0
 replace d1 := hx.cellSome d1
 have X411 := Lib.hid (X410.out.trans hx)
 have RG11 := Lib.hid (RG10.out.ext hx)
 have RO11 := Lib.hid (RO10.out.ext hx)
 clear hx hrow hbb
 go_wp2_with fail
 refine HE.out.mono ?_
 rintro e w12 ⟨rfl, hx⟩
 replace c0 := hx.cellSome c0
 replace c1 := hx.cellSome c1
 replace d0 := hx.cellSome d0
 replace d1 := hx.cellSome d1
 have X412 := Lib.hid (X411.out.trans hx)
 have RG12 := Lib.hid (RG11.out.ext hx)
 have RO12 := Lib.hid (RO11.out.ext hx)
 clear hx
 go_wp2
 go_ret
 exact ⟨rfl, HX.out.trans (X4.out.trans X412.out)⟩
end Go.Proofs.YtgohdmnbnhehnaaGreat
namespace Go.Proofs.YtgohdmnbnhehnaaGreat.fnExactIsNucleolus
open Go.Proofs.YtgohdmnbnhehnaaGreat
open Go.ChangeShapes Go.WideShapes Go.ChangeAt Go.RowKit Go.Joins
open Go.ChangeMaps (open_string shut_string)
set_option linter.unusedVariables false
theorem own : ownKnob Tryz.prog.godebug = none := by kernel_rfl
theorem laidOut : laidOutB Tryz.prog = true := by kernel_rfl
set_option maxRecDepth 100000 in
theorem lifted (os : Os) (started : os.Started) (H : Type) (enc : TypeId × Value → H) :
 ReturnsInHanded {} Tryz.checked os 6 .any (Rows.fnExactIsNucleolusSpec.pre6 enc Tryz.prog Tryz.f6 Rows.fnExactIsNucleolusRow.domain false) (Rows.fnExactIsNucleolusSpec.post enc Tryz.prog Tryz.f6 false true false false) := by
 refine returnsInHanded_of_change (C := Tryz.checked) own started (by kernel_rfl) Tryz.func6
  (ChangeSpec.witness6 (enc := enc) (C := Tryz.checked) false ⟨#[], #[.agg #[.int .i64 0, .slice none 0 0], .slice none 0 0], []⟩ 8 (by kernel_rfl) (by kernel_rfl) (by kernel_rfl) (by kernel_rfl)) ?_
 intro W base args ds gs before hval0 hW hcnd _
 have hval : ∀ (j : Nat) t v, Tryz.f6.params[j]? = some t → args[j]? = some v → Value.okWide Tryz.prog W .any base t v := hval0
 have hW' := hW
 obtain ⟨p, q, hA0, hV, rfl, hfz, hnd⟩ := hW
 have hA : DataW.TrodAll enc Tryz.prog W 0 (fun _ => true) true Tryz.f6.params.toList args.toList ds p := hA0
 rw [Tryz.params6] at hA hval
 obtain ⟨v0, vs0, d0, ds0, p0, q0, hargs, rfl, rfl, h0, r0⟩ := trodAll_cons hA
 obtain ⟨v1, vs1, d1, ds1, p1, q1, rfl, rfl, rfl, h1, r1⟩ := trodAll_cons r0
 obtain ⟨rfl, rfl, rfl⟩ := trodAll_nil r1
 obtain rfl : args = #[v0, v1] := by cases args; simp_all
 obtain ⟨rfl, rfl⟩ := trodVars_none hV
 have k0 := h0
 have lt0 : ∀ x ∈ p0, x.block < W.heap.size := by obtain ⟨m, hm⟩ := k0; exact DataW.trod_lt m _ _ _ hm
 obtain ⟨u0, s0, y0, z0, m0, rfl, _, _, hy0, hz0⟩ := open_agg2 Tryz.underlying41 (by kernel_rfl) (by kernel_rfl) (hval 0 41 v0 rfl rfl) h0
 obtain ⟨x0, e0, _, wf0⟩ := DataW.trod_int Tryz.underlying3 hy0
 obtain ⟨a0, n0, c0, l0, rfl, I0⟩ := open_Ints Tryz.underlying22 Tryz.underlying3 (by kernel_rfl) hz0
 obtain rfl : u0 = .int .i64 x0 := by simpa using e0
 have k1 := h1
 have lt1 : ∀ x ∈ p1, x.block < W.heap.size := by obtain ⟨m, hm⟩ := k1; exact DataW.trod_lt m _ _ _ hm
 obtain ⟨a1, n1, c1, rfl⟩ := okWide_slice Tryz.underlying54 (hval 1 54 v1 rfl rfl)
 obtain ⟨a1', n1', c1', l1, e1, I1⟩ : ∃ a n c l, Value.slice a1 n1 c1 = .slice a n c ∧ Rats W a n c l := by obtain ⟨fuel, hf⟩ := h1; exact open_Rats Tryz.underlying54 Tryz.underlying115 (by kernel_rfl) (by kernel_rfl) (by kernel_rfl) (by kernel_rfl) (by kernel_rfl) Tryz.underlying3 Tryz.underlying3 (by simpa [Value.cells] using hf)
 obtain ⟨rfl, rfl, rfl⟩ : a1 = a1' ∧ n1 = n1' ∧ c1 = c1' := by simpa using e1
 clear hA0 hval0
 refine (l_FnExactIsNucleolus I0 I1).mono fun e W' ⟨he, bel⟩ => ?_
 subst he
 exact ⟨_, rfl, _, _, _, [], _, [], hW', trodAll_mk1 (shut_bool Tryz.underlying4 _), (trodAll_cons_mk (Below.trod laidOut (by kernel_rfl) (of_decide_eq_true (by kernel_rfl)) k0 bel lt0) (trodAll_cons_mk (Below.trod laidOut (by kernel_rfl) (of_decide_eq_true (by kernel_rfl)) k1 bel lt1) trodAll_mk0)), rfl, bel.frame _, fun h => by cases h⟩
theorem over : Rows.fnExactIsNucleolusRow.holds Tryz.pinned (OpenSpec.ofChange Rows.fnExactIsNucleolusSpec) :=
 OpenClaim.holds_of_wide 6 Tryz.f6 rfl rfl rfl rfl rfl rfl rfl ⟨rfl, rfl, rfl, rfl, rfl⟩ rfl rfl rfl rfl rfl (by kernel_rfl) Tryz.func6 (by kernel_rfl)
  (of_decide_eq_true (by kernel_rfl)) (by unfold Func.isWrapper; first | (rw [if_pos (by decide +kernel)]; kernel_rfl) | (rw [if_neg (by decide +kernel)]; exact ⟨rfl, rfl⟩))
  (fun os started H enc _ => lifted os started H enc)
theorem proved : Rows.FnExactIsNucleolusSaid := over
#print axioms proved
end Go.Proofs.YtgohdmnbnhehnaaGreat.fnExactIsNucleolus
