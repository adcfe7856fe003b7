import Derived.Test.YtgohdmnbnhehnaaGreatGwAllG10
import Derived.Shelf.SlSortCmp.NoneTotal
import Derived.Test.YtgohdmnbnhehnaaGreatProg
import Derived.Test.YtgohdmnbnhehnaaGreatGwAllG14
import Derived.Test.YtgohdmnbnhehnaaGreatGwAllG6
import Derived.Test.YtgohdmnbnhehnaaGreatGwAllG4
import Derived.Test.YtgohdmnbnhehnaaGreatGwAllG17
import Derived.Lib.SliceRun
namespace Go.Proofs.YtgohdmnbnhehnaaGreat
set_option linter.unusedVariables false
set_option linter.unusedSimpArgs false
set_option maxRecDepth 100000
open Go.RowKit
structure Grw (w w' : World) : Prop where
 ext : Ext w w'
 dr : w.drawn ≤ w'.drawn
theorem Grw.trans {a b c : World} (h : Grw a b) (k : Grw b c) : Grw a c := ⟨h.ext.trans k.ext, Nat.le_trans h.dr k.dr⟩
theorem Grw.alloc (w : World) (o : Obj) : Grw w (w.alloc o) := ⟨Ext.alloc w o, Nat.le_refl _⟩
theorem Drew.grw {w w' : World} (h : Drew w w') : Grw w w' := ⟨h.ext, by obtain ⟨m, rfl⟩ := h; exact Nat.le_add_right _ _⟩
set_option maxHeartbeats 1000000 in
theorem i_ValidG (x y : Int) (w : World) :
 Calls Tryz.prog 163 #[ratV x y] w fun e w' => e = .returned (.bool (valR (x, y))) ∧ Grw w w' := by
 have HX := Lib.hid (Grw.alloc w (.cells #[.int .i64 x, .int .i64 y] 85))
 cases h1 : inB y 1 1000000000
 ·have H1 := Lib.hid h1
  clear h1
  go_enter Tryz.func163, Tryz.ntmps163
  go_wp2_with fail
  refine (i_within _ _ _ _).mono ?_
  rw [H1.out]
  rintro e w1 ⟨rfl, rfl⟩
  go_wp2
  go_ret
  exact ⟨ret_bool (by simp [valR, H1.out]), HX.out⟩
 ·have H1 := Lib.hid h1
  have hy : in18 y := by simp only [inB, Bool.and_eq_true, decide_eq_true_eq] at h1; exact ⟨by omega, by omega⟩
  clear h1
  cases h2 : inB x (-1000000000) 1000000000
  ·have H2 := Lib.hid h2
   clear h2
   go_enter Tryz.func163, Tryz.ntmps163
   go_wp2_with fail
   refine (i_within _ _ _ _).mono ?_
   rw [H1.out]
   rintro e w1 ⟨rfl, rfl⟩
   go_wp2_with fail
   refine (i_within _ _ _ _).mono ?_
   rw [H2.out]
   rintro e w1 ⟨rfl, rfl⟩
   go_wp2
   go_ret
   exact ⟨ret_bool (by simp [valR, H2.out]), HX.out⟩
  ·have H2 := Lib.hid h2
   have hx : in18 x := by simp only [inB, Bool.and_eq_true, decide_eq_true_eq] at h2; exact ⟨by omega, by omega⟩
   clear h2
   have HC := Lib.hid (i_common x y (w.alloc (.cells #[.int .i64 x, .int .i64 y] 85)) hx hy)
   go_enter Tryz.func163, Tryz.ntmps163
   go_wp2_with fail
   refine (i_within _ _ _ _).mono ?_
   rw [H1.out]
   rintro e w1 ⟨rfl, rfl⟩
   go_wp2_with fail
   refine (i_within _ _ _ _).mono ?_
   rw [H2.out]
   rintro e w1 ⟨rfl, rfl⟩
   go_wp2_with fail
   refine HC.out.mono ?_
   rintro e w1 ⟨rfl, hd⟩
   go_wp2
   go_ret
   exact ⟨ret_bool (by simp only [valR, H1.out, H2.out]; by_cases h : gI x y = 1 <;> simp [h]), HX.out.trans (Drew.grw hd)⟩
set_option maxHeartbeats 1000000 in
theorem i_CompareG (x y u v : Int) (w : World) :
 Calls Tryz.prog 123 #[ratV x y, ratV u v] w fun e w' => e = .returned (.int .i64 (cmpR (x, y) (u, v))) ∧ Grw w w' := by
 have HX := Lib.hid (show Grw w ((w.alloc (.cells #[.int .i64 x, .int .i64 y] 85)).alloc (.cells #[.int .i64 u, .int .i64 v] 85)) from (Grw.alloc _ _).trans (Grw.alloc _ _))
 cases ha : valR (x, y)
 ·have HA := Lib.hid ha
  have HR := Lib.hid (show cmpR (x, y) (u, v) = 0 by simp [cmpR, ha])
  clear ha
  go_enter Tryz.func123, Tryz.ntmps123
  go_wp2_with fail
  refine (i_ValidG x y _).mono ?_
  rw [HA.out]
  rintro e w1 ⟨rfl, hx⟩
  obtain ⟨bA, bB⟩ := box2 hx.ext
  obtain ⟨a0, a1, fa⟩ := rcell bA
  obtain ⟨b0, b1, fb⟩ := rcell bB
  have X1 := Lib.hid hx
  clear hx bA bB
  go_wp2
  go_ret
  exact ⟨ret_int HR.out.symm, HX.out.trans X1.out⟩
 cases hb : valR (u, v)
 ·have HA := Lib.hid ha
  have HB := Lib.hid hb
  have HR := Lib.hid (show cmpR (x, y) (u, v) = 0 by simp [cmpR, hb])
  clear ha hb
  go_enter Tryz.func123, Tryz.ntmps123
  go_wp2_with fail
  refine (i_ValidG x y _).mono ?_
  rw [HA.out]
  rintro e w1 ⟨rfl, hx⟩
  obtain ⟨bA, bB⟩ := box2 hx.ext
  obtain ⟨a0, a1, fa⟩ := rcell bA
  obtain ⟨b0, b1, fb⟩ := rcell bB
  have X1 := Lib.hid hx
  clear hx bA bB
  go_wp2_with fail
  refine (i_ValidG u v _).mono ?_
  rw [HB.out]
  rintro e w2 ⟨rfl, hx⟩
  clear a0 a1 fa b0 b1 fb
  have X2 := Lib.hid (X1.out.trans hx)
  obtain ⟨bA, bB⟩ := box2 X2.out.ext
  obtain ⟨a0, a1, fa⟩ := rcell bA
  obtain ⟨b0, b1, fb⟩ := rcell bB
  clear hx bA bB
  go_wp2
  go_ret
  exact ⟨ret_int HR.out.symm, HX.out.trans X2.out⟩
 have HA := Lib.hid ha
 have HB := Lib.hid hb
 obtain ⟨x1, x2, y1, y2⟩ := val_in ha
 obtain ⟨u1, u2, v1, v2⟩ := val_in hb
 have q1 : in18 (x * v) := mul_w (by omega) (by omega)
 have q2 : in18 (u * y) := mul_w (by omega) (by omega)
 obtain ⟨e1, g1⟩ := kwrap_in q1
 obtain ⟨e2, g2⟩ := kwrap_in q2
 have hR : cmpR (x, y) (u, v) = (if x * v < u * y then -1 else if u * y < x * v then 1 else 0) := by simp [cmpR, ha, hb]
 obtain ⟨P, hP⟩ : ∃ P, P = x * v := ⟨_, rfl⟩
 obtain ⟨Q, hQ⟩ : ∃ Q, Q = u * y := ⟨_, rfl⟩
 rw [← hP, ← hQ] at hR
 rw [← hP] at e1 g1
 rw [← hQ] at e2 g2
 have HR := Lib.hid hR
 have hP' := hP.symm
 have hQ' := hQ.symm
 clear ha hb hR q1 q2 hP hQ
 by_cases h1 : P < Q
 ·go_enter Tryz.func123, Tryz.ntmps123
  go_wp2_with fail
  refine (i_ValidG x y _).mono ?_
  rw [HA.out]
  rintro e w1 ⟨rfl, hx⟩
  obtain ⟨bA, bB⟩ := box2 hx.ext
  obtain ⟨a0, a1, fa⟩ := rcell bA
  obtain ⟨b0, b1, fb⟩ := rcell bB
  have X1 := Lib.hid hx
  clear hx bA bB
  go_wp2_with fail
  refine (i_ValidG u v _).mono ?_
  rw [HB.out]
  rintro e w2 ⟨rfl, hx⟩
  clear a0 a1 fa b0 b1 fb
  have X2 := Lib.hid (X1.out.trans hx)
  obtain ⟨bA, bB⟩ := box2 X2.out.ext
  obtain ⟨a0, a1, fa⟩ := rcell bA
  obtain ⟨b0, b1, fb⟩ := rcell bB
  clear hx bA bB
  go_wp2
  go_quiet (fail)
  go_wp2
  go_ret
  exact ⟨ret_int (by rw [HR.out, if_pos (by omega)]), HX.out.trans (X2.out.trans (Drew.grw ⟨_, rfl⟩))⟩
 by_cases h2 : Q < P
 ·go_enter Tryz.func123, Tryz.ntmps123
  go_wp2_with fail
  refine (i_ValidG x y _).mono ?_
  rw [HA.out]
  rintro e w1 ⟨rfl, hx⟩
  obtain ⟨bA, bB⟩ := box2 hx.ext
  obtain ⟨a0, a1, fa⟩ := rcell bA
  obtain ⟨b0, b1, fb⟩ := rcell bB
  have X1 := Lib.hid hx
  clear hx bA bB
  go_wp2_with fail
  refine (i_ValidG u v _).mono ?_
  rw [HB.out]
  rintro e w2 ⟨rfl, hx⟩
  clear a0 a1 fa b0 b1 fb
  have X2 := Lib.hid (X1.out.trans hx)
  obtain ⟨bA, bB⟩ := box2 X2.out.ext
  obtain ⟨a0, a1, fa⟩ := rcell bA
  obtain ⟨b0, b1, fb⟩ := rcell bB
  clear hx bA bB
  go_wp2
  go_quiet (fail)
  go_wp2
  go_ret
  exact ⟨ret_int (by rw [HR.out, if_neg (by omega), if_pos (by omega)]), HX.out.trans (X2.out.trans (Drew.grw ⟨_, rfl⟩))⟩
 ·go_enter Tryz.func123, Tryz.ntmps123
  go_wp2_with fail
  refine (i_ValidG x y _).mono ?_
  rw [HA.out]
  rintro e w1 ⟨rfl, hx⟩
  obtain ⟨bA, bB⟩ := box2 hx.ext
  obtain ⟨a0, a1, fa⟩ := rcell bA
  obtain ⟨b0, b1, fb⟩ := rcell bB
  have X1 := Lib.hid hx
  clear hx bA bB
  go_wp2_with fail
  refine (i_ValidG u v _).mono ?_
  rw [HB.out]
  rintro e w2 ⟨rfl, hx⟩
  clear a0 a1 fa b0 b1 fb
  have X2 := Lib.hid (X1.out.trans hx)
  obtain ⟨bA, bB⟩ := box2 X2.out.ext
  obtain ⟨a0, a1, fa⟩ := rcell bA
  obtain ⟨b0, b1, fb⟩ := rcell bB
  clear hx bA bB
  go_wp2
  go_quiet (fail)
  go_wp2
  go_ret
  exact ⟨ret_int (by rw [HR.out, if_neg (by omega), if_neg (by omega)]), HX.out.trans (X2.out.trans (Drew.grw ⟨_, rfl⟩))⟩
open Go.Shelf
def layR_ren : Go.Shelf.Ren := ⟨fun | 6 => 169 | 15 => 213 | 14 => 212 | 28 => 241 | 29 => 242 | 20 => 233 | 21 => 234 | 22 => 235 | 23 => 236 | 24 => 237 | 25 => 238 | 26 => 239 | 27 => 240 | 46 => 255 | 47 => 256 | 48 => 257 | 49 => 258 | 50 => 259 | 57 => 263 | n => n, fun | 22 => 30 | 24 => 85 | 25 => 136 | 3 => 3 | 39 => 201 | 0 => 0 | 53 => 221 | 55 => 223 | 4 => 4 | 46 => 214 | 45 => 213 | 50 => 218 | 5 => 5 | 9 => 9 | 66 => 228 | 70 => 232 | 76 => 236 | 77 => 237 | n => n, fun | n => n⟩
theorem layR : Go.Proofs.SlLaysF0.n6 Tryz.prog layR_ren := {
 mixed := by kernel_rfl
 f6 := ⟨Tryz.f169.name, by decide, Tryz.func169.trans (congrArg some (by kernel_rfl))⟩
 f14 := ⟨Tryz.f212.name, by decide, Tryz.func212.trans (congrArg some (by kernel_rfl))⟩
 f15 := Tryz.func213.trans (congrArg some (by kernel_rfl))
 f20 := ⟨Tryz.f233.name, by decide, Tryz.func233.trans (congrArg some (by kernel_rfl))⟩
 f21 := ⟨Tryz.f234.name, by decide, Tryz.func234.trans (congrArg some (by kernel_rfl))⟩
 f22 := ⟨Tryz.f235.name, by decide, Tryz.func235.trans (congrArg some (by kernel_rfl))⟩
 f23 := ⟨Tryz.f236.name, by decide, Tryz.func236.trans (congrArg some (by kernel_rfl))⟩
 f24 := ⟨Tryz.f237.name, by decide, Tryz.func237.trans (congrArg some (by kernel_rfl))⟩
 f25 := ⟨Tryz.f238.name, by decide, Tryz.func238.trans (congrArg some (by kernel_rfl))⟩
 f26 := ⟨Tryz.f239.name, by decide, Tryz.func239.trans (congrArg some (by kernel_rfl))⟩
 f27 := ⟨Tryz.f240.name, by decide, Tryz.func240.trans (congrArg some (by kernel_rfl))⟩
 f28 := Tryz.func241.trans (congrArg some (by kernel_rfl))
 f29 := Tryz.func242.trans (congrArg some (by kernel_rfl))
 f46 := ⟨Tryz.f255.name, by decide, Tryz.func255.trans (congrArg some (by kernel_rfl))⟩
 f47 := Tryz.func256.trans (congrArg some (by kernel_rfl))
 f48 := Tryz.func257.trans (congrArg some (by kernel_rfl))
 f49 := ⟨Tryz.f258.name, by decide, Tryz.func258.trans (congrArg some (by kernel_rfl))⟩
 f50 := ⟨Tryz.f259.name, by decide, Tryz.func259.trans (congrArg some (by kernel_rfl))⟩
 f57 := ⟨Tryz.f263.name, by decide, Tryz.func263.trans (congrArg some (by kernel_rfl))⟩
 t0 := Tryz.underlying0
 a0 := Tryz.isAgg0
 z0 := Tryz.sizeOf0
 v0 := Tryz.zeroValue0
 t3 := Tryz.underlying3
 a3 := Tryz.isAgg3
 z3 := Tryz.sizeOf3
 v3 := Tryz.zeroValue3
 t4 := Tryz.underlying4
 a4 := Tryz.isAgg4
 z4 := Tryz.sizeOf4
 v4 := Tryz.zeroValue4
 t5 := Tryz.underlying5
 a5 := Tryz.isAgg5
 z5 := Tryz.sizeOf5
 v5 := Tryz.zeroValue5
 t9 := Tryz.underlying9
 a9 := Tryz.isAgg9
 z9 := Tryz.sizeOf9
 v9 := Tryz.zeroValue9
 t22 := Tryz.underlying30
 a22 := Tryz.isAgg30
 z22 := Tryz.sizeOf30
 v22 := Tryz.zeroValue30
 t25 := Tryz.underlying136
 a25 := Tryz.isAgg136
 z25 := Tryz.sizeOf136
 v25 := Tryz.zeroValue136
 t39 := Tryz.underlying201
 a39 := Tryz.isAgg201
 z39 := Tryz.sizeOf201
 v39 := Tryz.zeroValue201
 t45 := Tryz.underlying213
 a45 := Tryz.isAgg213
 z45 := Tryz.sizeOf213
 v45 := Tryz.zeroValue213
 t46 := Tryz.underlying214
 a46 := Tryz.isAgg214
 z46 := Tryz.sizeOf214
 v46 := Tryz.zeroValue214
 t50 := Tryz.underlying218
 a50 := Tryz.isAgg218
 z50 := Tryz.sizeOf218
 v50 := Tryz.zeroValue218
 t53 := Tryz.underlying221
 a53 := Tryz.isAgg221
 z53 := Tryz.sizeOf221
 v53 := Tryz.zeroValue221
 t55 := Tryz.underlying223
 a55 := Tryz.isAgg223
 z55 := Tryz.sizeOf223
 v55 := Tryz.zeroValue223
 t66 := Tryz.underlying228
 a66 := Tryz.isAgg228
 z66 := Tryz.sizeOf228
 v66 := Tryz.zeroValue228
 t70 := Tryz.underlying232
 a70 := Tryz.isAgg232
 z70 := Tryz.sizeOf232
 v70 := Tryz.zeroValue232
 t76 := Tryz.underlying236
 a76 := Tryz.isAgg236
 z76 := Tryz.sizeOf236
 v76 := Tryz.zeroValue236
 t77 := Tryz.underlying237
 a77 := Tryz.isAgg237
 z77 := Tryz.sizeOf237
 v77 := Tryz.zeroValue237 }
end Go.Proofs.YtgohdmnbnhehnaaGreat
namespace Go.Proofs.YtgohdmnbnhehnaaGreat
set_option linter.unusedVariables false
set_option linter.unusedSimpArgs false
set_option maxRecDepth 100000
open Go.RowKit
abbrev VR : Type := { r : Int × Int // valR r = true }
instance : Inhabited VR := ⟨⟨(0, 1), by decide⟩⟩
def encV (x : VR) : List Value := [.int .i64 x.1.1, .int .i64 x.1.2]
def toV (x : Int × Int) : VR := if h : valR x = true then ⟨x, h⟩ else default
theorem toV_val {x : Int × Int} (h : valR x = true) : (toV x).1 = x := by unfold toV; rw [dif_pos h]
def cfV (x y : VR) : Int := cmpR y.1 x.1
theorem Grw.grow {w w' : World} (h : Grw w w') : ∃ (q : Nat) (os : Array Obj), w' = Sort.grow (w.drewN q) os := by
 obtain ⟨hx, hd⟩ := h
 obtain ⟨h1, h2, h3, h4, h5⟩ := hx
 obtain ⟨heap, tape, drawn, os, output⟩ := w
 obtain ⟨heap', tape', drawn', os', output'⟩ := w'
 simp only at h1 h2 h3 h4 h5 hd
 subst h1 h2 h3
 refine ⟨drawn' - drawn, heap'.extract heap.size heap'.size, ?_⟩
 have e1 : drawn + (drawn' - drawn) = drawn' := by omega
 have e2 : heap ++ heap'.extract heap.size heap'.size = heap' := by
  apply Array.ext_getElem?
  intro i
  by_cases hi : i < heap.size
  ·rw [Array.getElem?_append_left hi, h5 i hi]
  ·rw [Array.getElem?_append_right (by omega), Array.getElem?_extract]
   by_cases hj : i < heap'.size
   ·rw [if_pos (by omega)]; congr 1; omega
   ·rw [if_neg (by omega), Array.getElem?_eq_none (by omega)]
 unfold Sort.grow World.drewN
 simp only [e1, e2]
theorem ratL_get : ∀ (l : List (Int × Int)) (t : Nat), (ratL l)[t]? = (l[t / 2]?).map fun p => if t % 2 = 0 then Value.int .i64 p.1 else Value.int .i64 p.2
 | [], t => by simp [ratL]
 | p :: l, 0 => by simp [ratL]
 | p :: l, 1 => by simp [ratL]
 | p :: l, t + 2 => by
   have e : ratL (p :: l) = Value.int .i64 p.1 :: Value.int .i64 p.2 :: ratL l := by simp [ratL]
   rw [e, List.getElem?_cons_succ, List.getElem?_cons_succ, ratL_get l t, show (t + 2) / 2 = t / 2 + 1 by omega, List.getElem?_cons_succ, show (t + 2) % 2 = t % 2 by omega]
theorem ratL_length (l : List (Int × Int)) : (ratL l).length = l.length * 2 := by
 induction l with
 | nil => rfl
 | cons p l ih =>
   have e : ratL (p :: l) = Value.int .i64 p.1 :: Value.int .i64 p.2 :: ratL l := by simp [ratL]
   rw [e, List.length_cons, List.length_cons, List.length_cons, ih]; omega
theorem flat_ratL (d : Array VR) : (Sort.flatK encV 2 d).toList = ratL (d.toList.map (·.1)) := by
 apply List.ext_getElem?
 intro t
 rw [ratL_get]
 by_cases ht : t < d.size * 2
 ·have hk : t / 2 < d.size := by omega
  rw [Array.getElem?_toList, Array.getElem?_eq_getElem (by rw [Sort.size_flatK]; exact ht), ← getElem!_pos (Sort.flatK encV 2 d) t (by rw [Sort.size_flatK]; exact ht), Sort.get_flatK _ _ _ _ ht]
  rw [List.getElem?_map, Array.getElem?_toList, Array.getElem?_eq_getElem hk, getElem!_pos d (t / 2) hk]
  simp only [Option.map_some]
  rcases Nat.mod_two_eq_zero_or_one t with h | h
  ·rw [h]; rfl
  ·rw [h]; rfl
 ·rw [List.getElem?_eq_none (by rw [Array.length_toList, Sort.size_flatK]; omega), List.getElem?_eq_none (by rw [List.length_map, Array.length_toList]; omega)]
  rfl
theorem swoV : Sort.SWO (ltOf cfV) := by
 have hlt : ∀ x y : VR, ltOf cfV x y = !geR y.1 x.1 := fun x y => by unfold ltOf cfV geR; rw [Bool.not_not]
 refine ⟨fun x => ?_, fun x y z h k => ?_, fun x y z h k => ?_⟩
 ·rw [hlt]
  rcases geR_total x.2 x.2 with h | h <;> rw [h] <;> rfl
 ·rw [hlt, Bool.not_eq_true'] at h k ⊢
  cases hz : geR z.1 x.1 with
  | false => rfl
  | true =>
    have h2 : geR x.1 y.1 = true := (geR_total x.2 y.2).resolve_right (by rw [h]; simp)
    have := geR_trans z.2 x.2 y.2 hz h2
    rw [k] at this; cases this
 ·rw [hlt, Bool.not_eq_false'] at h k ⊢
  exact geR_trans z.2 y.2 x.2 k h
theorem totV (x y : VR) (h : ltOf cfV x y = false) (k : ltOf cfV y x = false) : x = y := by
 have hlt : ∀ x y : VR, ltOf cfV x y = !geR y.1 x.1 := fun x y => by unfold ltOf cfV geR; rw [Bool.not_not]
 rw [hlt, Bool.not_eq_false'] at h k
 exact Subtype.ext (geR_anti x.2 y.2 k h)
theorem sortV {l : List (Int × Int)} (hl : ∀ y ∈ l, valR y = true) : (((l.map toV).toArray.toList.mergeSort fun x y => !(ltOf cfV) y x).map (·.1)) = srtX l := by
 have hb : l.map (fun x => (toV x).1) = l := by
  conv => rhs; rw [← List.map_id l]
  exact List.map_congr_left fun x hx => toV_val (hl x hx)
 refine srtX_only hl ?_ ?_
 ·refine ((List.mergeSort_perm _ _).map _).trans ?_
  rw [List.toList_toArray, List.map_map]
  exact List.Perm.of_eq hb
 ·rw [List.pairwise_map]
  have := List.pairwise_mergeSort (le := fun x y : VR => !(ltOf cfV) y x) (fun a b c h k => by
   simp only [Bool.not_eq_true'] at h k ⊢
   exact swoV.ntrans _ _ _ k h) (fun a b => by
   simp only [Bool.or_eq_true, Bool.not_eq_true']
   unfold ltOf cfV
   rcases geR_total a.2 b.2 with h | h
   ·left; unfold geR at h; simpa using h
   ·right; unfold geR at h; simpa using h) (l.map toV).toArray.toList
  refine this.imp fun {a b} h => ?_
  unfold ltOf cfV at h
  unfold geR
  exact h
set_option maxHeartbeats 400000 in
theorem i_excCmp (x y : VR) (w : World) :
 Calls Tryz.prog 170 #[.agg (encV x).toArray, .agg (encV y).toArray] w fun e w' => e = .returned (.int .i64 (cfV x y)) ∧ Grw w w' := by
 obtain ⟨⟨x1, x2⟩, hx⟩ := x
 obtain ⟨⟨y1, y2⟩, hy⟩ := y
 have HG := Lib.hid ((Grw.alloc w (.cells #[.int .i64 x1, .int .i64 x2] 85)).trans (Grw.alloc _ (.cells #[.int .i64 y1, .int .i64 y2] 85)))
 show Calls Tryz.prog 170 #[.agg #[.int .i64 x1, .int .i64 x2], .agg #[.int .i64 y1, .int .i64 y2]] w fun e w' => e = .returned (.int .i64 (cmpR (y1, y2) (x1, x2))) ∧ Grw w w'
 clear hx hy
 go_enter Tryz.func170, Tryz.ntmps170
 go_wp2_with fail
 refine (i_CompareG y1 y2 x1 x2 _).mono ?_
 rintro e w1 ⟨rfl, hx1⟩
 go_wp2_with fail
 go_ret
 exact ⟨rfl, HG.out.trans hx1⟩
theorem go_ExcessVector1 : IsGo Tryz.prog 170 := isGo Tryz.func170 (by kernel_rfl) (by kernel_rfl)
theorem i_sortX {w : World} {base g n cap : Nat} {l : List (Int × Int)} (h : OwnR w base (.slice (some ⟨g, 0, none⟩) n cap) l) (hl : ∀ y ∈ l, valR y = true) (hn : n ≤ 1000000) :
 Calls Tryz.prog 169 #[.slice (some ⟨g, 0, none⟩) n cap, .func (.func 170) #[] #[]] w fun e w' =>
  e = .returned (.tuple #[]) ∧ OwnR w' base (.slice (some ⟨g, 0, none⟩) n cap) (srtX l) ∧ ∀ W0 : World, Ext W0 w → W0.heap.size ≤ g → Ext W0 w' := by
 have hlen := h.rats.hlen
 rcases h.2 with ⟨he, h0⟩ | ⟨g', cap', cur, he, hb, hg, h1, h2, hs, ht⟩
 ·cases he
 simp only [Value.slice.injEq, Option.some.injEq, Addr.mk.injEq, and_true] at he
 obtain ⟨rfl, hnl, rfl⟩ := he
 obtain ⟨d, hd⟩ : ∃ d : Array VR, d = (l.map toV).toArray := ⟨_, rfl⟩
 have hds : d.size = n := by rw [hd]; simp [hlen]
 have hdl : d.toList.map (·.1) = l := by
  rw [hd, List.toList_toArray, List.map_map]
  conv => rhs; rw [← List.map_id l]
  exact List.map_congr_left fun x hx => toV_val (hl x hx)
 have hflat : (Sort.flatK encV 2 d).toList = ratL l := by rw [flat_ratL, hdl]
 have hH : Sort.HoldsK encV 2 w g 0 d := by
  intro j hj
  rw [Sort.size_flatK] at hj
  refine ⟨?_, by simp [World.frozen?, hg]⟩
  have h3 : (cur.toList.take (l.length * 2))[j]? = (ratL l)[j]? := by rw [ht]
  rw [List.getElem?_take_of_lt (by omega)] at h3
  rw [Nat.zero_add, cell_of_row w g j cur _ _ hg, ← Array.getElem?_toList, h3, ← hflat, Array.getElem?_toList, getElem!_pos _ j (by rw [Sort.size_flatK]; exact hj), Array.getElem?_eq_getElem]
  rfl
 have hcmp : CmpLays Tryz.prog 170 #[] encV 2 cfV g 0 d.size w := fun m os dk _ x y =>
  (i_excCmp x y _).mono fun e w' ⟨he, hw⟩ => ⟨he, hw.grow⟩
 have hcon := AnyQ.slices_SortFunc_total layR 2 (fun _ => by kernel_rfl) (fun _ => by kernel_rfl) encV (fun _ => rfl) (fun x v hv => by simp [encV] at hv; rcases hv with rfl | rfl <;> rfl) cfV swoV 170 #[] g 0 cap d w go_ExcessVector1 hcmp hH (lt_of_block hg) (by omega) totV
 rw [hds] at hcon
 refine Calls.mono hcon ?_
 rintro e w' ⟨rfl, q, os, rfl⟩
 have hsz : ((d.toList.mergeSort fun x y => !(ltOf cfV) y x)).length = n := by rw [List.length_mergeSort, Array.length_toList, hds]
 have hfl : (Sort.flatK encV 2 ((d.toList.mergeSort fun x y => !(ltOf cfV) y x)).toArray).toList = ratL (srtX l) := by
  rw [flat_ratL, List.toList_toArray, hd, sortV hl]
 have hgl : g < w.heap.size := lt_of_block hg
 have hh : (sortWorldK encV 2 w g 0 q ((d.toList.mergeSort fun x y => !(ltOf cfV) y x)).toArray os).heap[g]? = some (.cells (Sort.putCells id 0 (Sort.flatK encV 2 ((d.toList.mergeSort fun x y => !(ltOf cfV) y x)).toArray) cur) 85 (0, 0)) := by
  unfold sortWorldK Sort.putRowK
  rw [Sort.heap_grow_old _ _ (by simpa using hgl)]
  simp [Sort.putRow, Sort.mapBlock, Sort.ahead, Array.getElem?_modify, hg, Sort.onCells]
 refine ⟨rfl, ⟨by rw [ratL_length, srtX_len, hlen], .inr ⟨g, cap, _, by rw [srtX_len, hlen], hb, hh, by rw [srtX_len]; exact h1, h2, by simp [Sort.putCells, hs], ?_⟩⟩, fun W0 hx hW => ?_⟩
 ·rw [← hfl]
  generalize hF : Sort.flatK encV 2 ((d.toList.mergeSort fun x y => !(ltOf cfV) y x)).toArray = F
  have hFs : F.size = n * 2 := by rw [← hF, Sort.size_flatK]; simp [hsz]
  rw [srtX_len, hlen]
  apply List.ext_getElem?
  intro j
  by_cases hj : j < n * 2
  ·rw [List.getElem?_take_of_lt hj, Array.getElem?_toList, Array.getElem?_toList]
   simp [Sort.putCells, hj, hFs, show j < cur.size by omega]
  ·rw [List.getElem?_take_eq_none (by omega), List.getElem?_eq_none (by rw [Array.length_toList]; omega)]
 ·refine ⟨hx.os, hx.tape, hx.output, ?_, fun k hk => ?_⟩
  ·have := hx.size
   unfold sortWorldK Sort.putRowK
   refine Nat.le_trans this ?_
   simp [Sort.grow, Sort.putRow, Sort.mapBlock, Sort.ahead]
  ·have hkw : k < w.heap.size := Nat.lt_of_lt_of_le hk hx.size
   unfold sortWorldK Sort.putRowK
   rw [Sort.heap_grow_old _ _ (by simpa using hkw)]
   have : g ≠ k := by omega
   rw [← hx.block k hk]
   simp [Sort.putRow, Sort.mapBlock, Sort.ahead, Array.getElem?_modify, this]
theorem run_clear_two {P : Program} (w : World) (t e ty : TypeId) (ht : P.underlying t = some (.slice e)) (hv : ∀ w, (zeroValue e).run P w = .ok (.agg #[.int .i64 0, .int .i64 0]) w) (b o n c : Nat) (hn : 0 < n)
 (hc : ∀ j, j < n * 2 → (w.cell? ⟨b, o + j, none⟩).isSome = true) (hf : ∀ j, j < n * 2 → w.frozen? ⟨b, o + j, none⟩ = false) :
 (Builtin.clear_ #[t] ty #[.slice (some ⟨b, o, none⟩) n c]).run P w = .ok (.tuple #[]) (w.setCells b o (List.replicate (n * 2) (.int .i64 0))) := by
 have hzc : (Builtin.zeroCells #[Value.int .i64 0, Value.int .i64 0] n).toList = List.replicate (n * 2) (.int .i64 0) := by
  simp only [Builtin.zeroCells]
  apply List.ext_getElem
  ·simp
  ·intro i h1 h2
   simp only [Array.toList_map, Array.toList_range, List.getElem_map, List.getElem_range, List.getElem_replicate]
   have : ∀ k, k < 2 → (#[Value.int .i64 0, Value.int .i64 0] : Array Value)[k]! = .int .i64 0 := fun k hk => by
    rcases k with _ | _ | k
    ·rfl
    ·rfl
    ·omega
   exact this _ (Nat.mod_lt _ (by decide))
 have hst := run_storeCells_cells (P := P) b o (List.replicate (n * 2) (.int .i64 0)) 0 w (by simpa using hc) (by simpa using hf) (by intro v hv'; rw [List.eq_of_mem_replicate hv']; rfl)
 simp only [Nat.add_zero] at hst
 obtain ⟨m, rfl⟩ : ∃ m, n = m + 1 := ⟨n - 1, by omega⟩
 have hzv : (Value.agg #[.int .i64 0, .int .i64 0]).cells = #[Value.int .i64 0, Value.int .i64 0] := rfl
 simp [Builtin.clear_, run_underlying ht, hv, hzv, hzc, hst]
theorem OwnR.outS {w : World} {base g n cap : Nat} {l : List (Int × Int)} (h : OwnR w base (.slice (some ⟨g, 0, none⟩) n cap) l) : base ≤ g ∧ g < w.heap.size ∧ (∀ j, w.frozen? ⟨g, j, none⟩ = false) ∧ ∀ k, k < n → w.cell? ⟨g, k * 2, none⟩ = some (.int .i64 (l[k]?.getD (0, 0)).1) ∧ w.cell? ⟨g, k * 2 + 1, none⟩ = some (.int .i64 (l[k]?.getD (0, 0)).2) := by
 rcases h.2 with ⟨he, h0⟩ | ⟨g', cap', cur, he, hb, hg, h1, h2, hs, ht⟩
 ·cases he
 ·have hgg : g' = g := by simp only [Value.slice.injEq, Option.some.injEq, Addr.mk.injEq, and_true] at he; exact he.1.symm
  subst hgg
  refine ⟨hb, lt_of_block hg, fun j => frozen_of_row w g' j cur _ hg, fun k hk => ?_⟩
  obtain ⟨xb, xo, x, y, e, hxy, hc0, hc1⟩ := h.rats.at hk
  simp only [Option.some.injEq, Addr.mk.injEq, and_true] at e
  rw [← e.1, ← e.2, Nat.zero_add] at hc0 hc1
  rw [hxy]
  exact ⟨hc0, hc1⟩
theorem OwnR.zeros {base g n cap : Nat} : ∀ (m : Nat) {k : Nat} {w : World} {M : List (Int × Int)}, k + m ≤ M.length → OwnR w base (.slice (some ⟨g, 0, none⟩) n cap) M → ∃ M', OwnR (w.setCells g (k * 2) (List.replicate (m * 2) (.int .i64 0))) base (.slice (some ⟨g, 0, none⟩) n cap) M' ∧ M'.take k = M.take k ∧ M'.length = M.length
 | 0, k, w, M, _, h => ⟨M, by simpa [World.setCells] using h, rfl, rfl⟩
 | m + 1, k, w, M, hk, h => by
   obtain ⟨M', h1, h2, h3⟩ := OwnR.zeros m (k := k + 1) (by rw [List.length_set]; omega) (h.set (k := k) (by omega) 0 0)
   rw [List.length_set] at h3
   refine ⟨M', ?_, ?_, h3⟩
   ·rw [show (m + 1) * 2 = m * 2 + 1 + 1 by omega, List.replicate_succ, List.replicate_succ]
    simp only [World.setCells]
    rw [show k * 2 + 1 + 1 = (k + 1) * 2 by omega]
    exact h1
   ·have h4 := congrArg (List.take k) h2
    rw [List.take_take, List.take_take, Nat.min_eq_left (by omega)] at h4
    rw [h4, List.take_set_of_le (Nat.le_refl _)]
theorem OwnR.takeO {w : World} {base g n cap : Nat} {M : List (Int × Int)} (h : OwnR w base (.slice (some ⟨g, 0, none⟩) n cap) M) {k : Nat} (hk : k ≤ n) : OwnR w base (.slice (some ⟨g, 0, none⟩) k cap) (M.take k) := by
 have hlen := h.rats.hlen
 rcases h.2 with ⟨he, h0⟩ | ⟨g', cap', cur, he, hb, hg, h1, h2, hs, ht⟩
 ·cases he
 ·simp only [Value.slice.injEq, Option.some.injEq, Addr.mk.injEq, and_true] at he
  obtain ⟨rfl, _, rfl⟩ := he
  have hl : (M.take k).length = k := by rw [List.length_take]; omega
  refine ⟨by rw [ratL_length], .inr ⟨g, cap, cur, by rw [hl], hb, hg, by omega, h2, hs, ?_⟩⟩
  rw [hl]
  apply List.ext_getElem?
  intro j
  rw [ratL_get]
  by_cases hj : j < k * 2
  ·rw [List.getElem?_take_of_lt hj, List.getElem?_take_of_lt (by omega), ← ratL_get, ← ht, List.getElem?_take_of_lt (by omega)]
  ·rw [List.getElem?_take_eq_none (by omega), List.getElem?_eq_none (by rw [List.length_take]; omega)]
   rfl
theorem zero_rat (w : World) : (zeroValue 85).run Tryz.prog w = .ok (.agg #[.int .i64 0, .int .i64 0]) w := rfl
theorem getP (l : List (Int × Int)) (k : Nat) : ∃ x y, l[k]?.getD (0, 0) = (x, y) := ⟨_, _, rfl⟩
theorem pair_ne {x y x' y' : Int} (h : ((x == x') && (y == y')) = false) : ¬ (x, y) = (x', y') := by
 intro e
 simp only [Prod.mk.injEq] at e
 rw [e.1, e.2] at h
 simp at h
theorem pair_eq {x y x' y' : Int} (h : ((x == x') && (y == y')) = true) : (x, y) = (x', y') := by
 simp only [Bool.and_eq_true, beq_iff_eq] at h
 rw [h.1, h.2]
set_option maxHeartbeats 8000000 in
theorem i_compactX {W0 w : World} {base g n cap : Nat} {l : List (Int × Int)} (hX : Ext W0 w) (hb : W0.heap.size ≤ base) (h : OwnR w base (.slice (some ⟨g, 0, none⟩) n cap) l) (hn : 0 < n) (hn9 : n ≤ 1000000) :
 Calls Tryz.prog 121 #[.slice (some ⟨g, 0, none⟩) n cap] w fun e w' =>
  (∃ m, e = .returned (.slice (some ⟨g, 0, none⟩) m cap) ∧ OwnR w' base (.slice (some ⟨g, 0, none⟩) m cap) (cmpT l n)) ∧ Ext W0 w' := by
 have hcap := h.rats.hcap
 have hmax := h.rats.hmax
 have HL := Lib.hid h.rats.hlen
 have HO := Lib.hid h
 have HX := Lib.hid hX
 have HBG := Lib.hid (Nat.le_trans hb h.outS.1)
 clear h hX
 by_cases hn1 : n = 1
 ·subst hn1
  have HC := Lib.hid (show cmpT l 1 = l by
   rw [cmpT_step (k := 0) (by rw [HL.out]; decide) rfl (.inl rfl), List.take_of_length_le (by rw [HL.out]; decide)])
  go_enter Tryz.func121, Tryz.ntmps121
  go_wp2_with fail
  go_ret
  exact ⟨⟨1, rfl, by rw [HC.out]; exact HO.out⟩, HX.out⟩
 have h2 : ¬ (n : Int) < 2 := by omega
 go_enter Tryz.func121, Tryz.ntmps121
 go_wp2_with fail
 go_loopg [3] (n - 1) (fun gk kk wr => ∃ k : Nat, Hid (gk + k = n) ∧ kk = .int .i64 (k : Int) ∧ Hid (0 < k) ∧ Hid (cmpT l k = l.take k) ∧ Hid (OwnR wr base (.slice (some ⟨g, 0, none⟩) n cap) l) ∧ Hid (Ext W0 wr))
 case atStart => exact ⟨1, Lib.hid (by omega), rfl, Lib.hid (by decide), Lib.hid (cmpT_step (k := 0) (by rw [HL.out]; exact hn) rfl (.inl rfl)), HO, HX⟩
 case round =>
  obtain ⟨g1, h_g1⟩ : ∃ x, x = gk := ⟨_, rfl⟩
  subst h_g1
  obtain ⟨wr, h_wr⟩ : ∃ x, x = wr := ⟨_, rfl⟩
  subst h_wr
  obtain ⟨k, HK, rfl, HP, HT, HO1, HX1⟩ := hrel
  by_cases hlt : k < n
  ·obtain ⟨m, hkm⟩ : ∃ m, k = m + 1 := ⟨k - 1, by have := HP.out; omega⟩
   obtain ⟨x, y, hxy⟩ := getP l k
   obtain ⟨x', y', hxy'⟩ := getP l m
   obtain ⟨c0, c1⟩ := HO1.out.outS.2.2.2 k hlt
   obtain ⟨d0, d1⟩ := HO1.out.outS.2.2.2 m (by omega)
   rw [hxy] at c0 c1
   rw [hxy'] at d0 d1
   have HXY := Lib.hid hxy
   have HXY' := Lib.hid (show l[k - 1]?.getD (0, 0) = (x', y') by rw [hkm]; exact hxy')
   have hmn : m < n := by omega
   have hck : ¬ cap = k := by omega
   have hw1 : IntKind.i64.wrap ((k : Int) - 1) = (m : Int) := by rw [IntKind.wrap_i64]; omega
   have hw2 : wrap64 ((k : Int) - 1) = (m : Int) := by unfold wrap64; omega
   have hw3 : (k : Int) - 1 = (m : Int) := by omega
   have hw4 : IntKind.i64.wrap (m : Int) = (m : Int) := by rw [IntKind.wrap_i64]; omega
   have hw5 : wrap64 (m : Int) = (m : Int) := by unfold wrap64; omega
   have hk2 : Ext wr wr.drew := Ext.drew wr
   have hkl : k < l.length := by rw [HL.out]; exact hlt
   have HKL := Lib.hid hkl
   clear hxy hxy' hkm hkl
   cases hx1 : (x == x')
   all_goals
    cases hy1 : (y == y')
   all_goals
    have HEQ := Lib.hid (And.intro hx1 hy1)
    go_wp2_with fail
    go_region_held3 (fun w' => w'.cell? ⟨g, k * 2, none⟩ = some (.int .i64 x) ∧ w'.cell? ⟨g, k * 2 + 1, none⟩ = some (.int .i64 y) ∧ w'.cell? ⟨g, m * 2, none⟩ = some (.int .i64 x') ∧ w'.cell? ⟨g, m * 2 + 1, none⟩ = some (.int .i64 y') ∧ Ext wr w')
     (exact ⟨hk2.cellSome c0, hk2.cellSome c1, hk2.cellSome d0, hk2.cellSome d1, hk2⟩)
     (fail)
    clear hw1 hw2 hw3 hw4 hw5 c0 c1 d0 d1 hx1 hy1
    have HO2 := Lib.hid (HO1.out.ext hk2)
    have HX2 := Lib.hid (HX1.out.trans hk2)
    clear hk2
   iterate 3
    ·have HT2 := Lib.hid (cmpT_step HKL.out HT.out (.inr (by rw [HXY.out, HXY'.out]; exact pair_ne (by rw [HEQ.out.1, HEQ.out.2]; rfl))))
     go_wp2_with fail
     go_roundg (g1 - 1)
     case measure => have := HK.out; omega
     case rel => exact ⟨k + 1, Lib.hid (by have := HK.out; omega), by go_num, Lib.hid (by omega), HT2, HO2, HX2⟩
   ·have HC0 := Lib.hid (Cmpd.start HP.out HKL.out HT.out (by rw [HXY.out, HXY'.out]; exact pair_eq (by rw [HEQ.out.1, HEQ.out.2]; rfl)))
    have hkn : k ≤ n := by omega
    go_wp2_with fail
    go_loopg [3, 5] (n - k - 1) (fun gk kk jj wr => ∃ (i j : Nat) (M : List (Int × Int)), Hid (gk + (k + j) = n) ∧ kk = .int .i64 (i : Int) ∧ jj = .int .i64 (j : Int) ∧ Hid (0 < j) ∧ Hid (Cmpd l M i (k + j)) ∧ Hid (OwnR wr base (.slice (some ⟨g, 0, none⟩) n cap) M) ∧ Hid (Ext W0 wr))
    case atStart => exact ⟨k, 1, l, Lib.hid (by omega), rfl, rfl, Lib.hid (by decide), HC0, HO2, HX2⟩
    case round =>
     obtain ⟨g2, h_g2⟩ : ∃ x, x = gk := ⟨_, rfl⟩
     subst h_g2
     obtain ⟨wr2, h_wr2⟩ : ∃ x, x = wr := ⟨_, rfl⟩
     subst h_wr2
     obtain ⟨i, j, M, HJ, rfl, rfl, HJ0, HC, HM, HX3⟩ := hrel
     have hij := HC.out.lt
     have hi0 := HC.out.pos
     by_cases hlt2 : k + j < n
     ·obtain ⟨q, hjq⟩ : ∃ q, j = q + 1 := ⟨j - 1, by have := HJ0.out; omega⟩
      obtain ⟨u, v, huv⟩ := getP l (k + j)
      obtain ⟨u', v', huv'⟩ := getP l (k + q)
      have hh1 := HC.out.hi (k + j) (by omega)
      have hh2 := HC.out.hi (k + q) (by omega)
      obtain ⟨c0, c1⟩ := HM.out.outS.2.2.2 (k + j) hlt2
      obtain ⟨d0, d1⟩ := HM.out.outS.2.2.2 (k + q) (by omega)
      rw [hh1, huv, Nat.add_mul] at c0 c1
      rw [hh2, huv', Nat.add_mul] at d0 d1
      have HUV := Lib.hid huv
      have HUV' := Lib.hid (show l[k + j - 1]?.getD (0, 0) = (u', v') by rw [hjq, show k + (q + 1) - 1 = k + q by omega]; exact huv')
      have hin : i < n := by clear HUV HUV' c0 c1 d0 d1 huv huv' hh1 hh2; omega
      have hqn : q < n - k := by omega
      have hjn : j < n - k := by omega
      have hw1 : IntKind.i64.wrap ((j : Int) - 1) = (q : Int) := by rw [IntKind.wrap_i64]; omega
      have hw2 : wrap64 ((j : Int) - 1) = (q : Int) := by unfold wrap64; omega
      have hw3 : (j : Int) - 1 = (q : Int) := by omega
      have hw4 : IntKind.i64.wrap (q : Int) = (q : Int) := by rw [IntKind.wrap_i64]; omega
      have hw5 : wrap64 (q : Int) = (q : Int) := by unfold wrap64; omega
      have hk2 : Ext wr2 wr2.drew := Ext.drew wr2
      have hjl : k + j < l.length := by rw [HL.out]; exact hlt2
      have HJL := Lib.hid hjl
      clear huv huv' hh1 hh2 hjq hjl
      cases hx1 : (u == u')
      all_goals
       cases hy1 : (v == v')
      all_goals
       have HEQ2 := Lib.hid (And.intro hx1 hy1)
       go_wp2_with fail
       go_region_held3 (fun w' => w'.cell? ⟨g, k * 2 + j * 2, none⟩ = some (.int .i64 u) ∧ w'.cell? ⟨g, k * 2 + j * 2 + 1, none⟩ = some (.int .i64 v) ∧ w'.cell? ⟨g, k * 2 + q * 2, none⟩ = some (.int .i64 u') ∧ w'.cell? ⟨g, k * 2 + q * 2 + 1, none⟩ = some (.int .i64 v') ∧ Ext wr2 w')
        (exact ⟨hk2.cellSome c0, hk2.cellSome c1, hk2.cellSome d0, hk2.cellSome d1, hk2⟩)
        (fail)
       have hfz := fun (o : Nat) => (HM.out.ext hk2).outS.2.2.1 o
       obtain ⟨wd, hwd⟩ : ∃ y, y = wr2.drew := ⟨_, rfl⟩
       rw [← hwd] at hk2 hfz ⊢
       clear hwd
       have c0 := hk2.cellSome c0
       have c1 := hk2.cellSome c1
       clear hw1 hw2 hw3 hw4 hw5 d0 d1 hx1 hy1
       have HM2 := Lib.hid (HM.out.ext hk2)
       have HX4 := Lib.hid (HX3.out.trans hk2)
       clear hk2
      iterate 3
       ·have HCN := Lib.hid (HC.out.keep HJL.out (by rw [HUV.out, HUV'.out]; exact pair_ne (by rw [HEQ2.out.1, HEQ2.out.2]; rfl)))
        rw [HUV.out] at HCN
        obtain ⟨e0, e1⟩ := HM2.out.outS.2.2.2 i hin
        have hf0 := hfz (i * 2)
        have hf1 := hfz (i * 2 + 1)
        clear hfz
        have HM3 := Lib.hid (HM2.out.set (k := i) (by rw [HC.out.len, HL.out]; exact hin) u v)
        have HX5 := Lib.hid ((HX4.out.store (i * 2) HBG.out (.int .i64 u)).store (i * 2 + 1) HBG.out (.int .i64 v))
        go_wp2_with fail
        go_roundg (g2 - 1)
        case measure => have := HJ.out; omega
        case rel => exact ⟨i + 1, j + 1, _, Lib.hid (by have := HJ.out; omega), by go_num, by go_num, Lib.hid (by omega), HCN, HM3, HX5⟩
      ·have HCN := Lib.hid (HC.out.drop HJL.out (by rw [HUV.out, HUV'.out]; exact pair_eq (by rw [HEQ2.out.1, HEQ2.out.2]; rfl)))
       go_wp2_with fail
       go_roundg (g2 - 1)
       case measure => have := HJ.out; omega
       case rel => exact ⟨i, j + 1, _, Lib.hid (by have := HJ.out; omega), rfl, by go_num, Lib.hid (by omega), HCN, HM2, HX4⟩
     ·have hkj : k + j = n := by have := HC.out.jl; have := HL.out; omega
      have hin : i < n := by omega
      have hci : ¬ cap = i := by omega
      have hin2 : i ≤ n := by omega
      have hML : M.length = n := by rw [HC.out.len, HL.out]
      have HML := Lib.hid hML
      have hcl : ∀ ty, (Builtin.clear_ #[30] ty #[.slice (some ⟨g, i * 2, none⟩) (n - i) (cap - i)]).run Tryz.prog wr2 = .ok (.tuple #[]) (wr2.setCells g (i * 2) (List.replicate ((n - i) * 2) (.int .i64 0))) := fun ty => by
       refine run_clear_two wr2 _ 85 ty Tryz.underlying30 zero_rat g (i * 2) _ _ (by omega) (fun t ht => ?_) (fun t _ => HM.out.outS.2.2.1 _)
       rcases Nat.mod_two_eq_zero_or_one t with h0 | h0
       ·have := (HM.out.outS.2.2.2 (i + t / 2) (by omega)).1
        rw [show (i + t / 2) * 2 = i * 2 + t by omega] at this
        rw [this]; rfl
       ·have := (HM.out.outS.2.2.2 (i + t / 2) (by omega)).2
        rw [show (i + t / 2) * 2 + 1 = i * 2 + t by omega] at this
        rw [this]; rfl
      obtain ⟨M', hM', hMt, _⟩ := OwnR.zeros (w := wr2) (n - i) (k := i) (by omega) HM.out
      have HT2 := Lib.hid (show M'.take i = cmpT l n by rw [hMt, HC.out.lo, hkj])
      have HMF := Lib.hid hM'
      have HXF := Lib.hid (below_setCells' g HBG.out (List.replicate ((n - i) * 2) (.int .i64 0)) (i * 2) HX3.out)
      clear hMt hM' hML
      go_wp2_with fail
      go_ret
      exact ⟨⟨i, rfl, by rw [← HT2.out]; exact HMF.out.takeO (by omega)⟩, HXF.out⟩
  ·have hkn : k = n := by have := HK.out; omega
   have HT2 := Lib.hid (show cmpT l n = l by rw [← hkn, HT.out, List.take_of_length_le (by rw [HL.out, hkn]; exact Nat.le_refl _)])
   go_wp2_with fail
   go_ret
   exact ⟨⟨n, rfl, by rw [HT2.out]; exact HO1.out⟩, HX1.out⟩
end Go.Proofs.YtgohdmnbnhehnaaGreat
