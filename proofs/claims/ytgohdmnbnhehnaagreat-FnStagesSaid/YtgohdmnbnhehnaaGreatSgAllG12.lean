import Derived.Test.YtgohdmnbnhehnaaGreatSgAllG11
import Derived.Test.YtgohdmnbnhehnaaGreatSgAllG35
import Derived.Test.YtgohdmnbnhehnaaGreatSgAllG6
import Derived.Lib.SliceRun
import Derived.Test.YtgohdmnbnhehnaaGreatSgAllG5
import Derived.Test.YtgohdmnbnhehnaaGreatSgAllG8
import Derived.Test.YtgohdmnbnhehnaaGreatSgAllG9
import Derived.Test.YtgohdmnbnhehnaaGreatSgAllG7
namespace Go.Proofs.YtgohdmnbnhehnaaGreat
set_option linter.unusedVariables false
set_option linter.unusedSimpArgs false
set_option maxRecDepth 100000
open Go.RowKit
structure Kept (p : Int → Bool) (l M : List Int) (i j : Nat) : Prop where
 len : M.length = l.length
 le : i ≤ j
 jl : j ≤ l.length
 lo : M.take i = (l.take j).filter fun x => !p x
 hi : ∀ k, j ≤ k → M[k]?.getD 0 = l[k]?.getD 0
theorem Kept.drop {p : Int → Bool} {l M : List Int} {i j : Nat} (h : Kept p l M i j) (hj : j < l.length) (hp : p (l[j]?.getD 0) = true) : Kept p l M i (j + 1) :=
 ⟨h.len, by have := h.le; omega, by omega, by rw [take_snoc hj, List.filter_append, ← h.lo]; simp [hp], fun k hk => h.hi k (by omega)⟩
theorem Kept.keep {p : Int → Bool} {l M : List Int} {i j : Nat} (h : Kept p l M i j) (hj : j < l.length) (hp : p (l[j]?.getD 0) = false) : Kept p l (M.set i (l[j]?.getD 0)) (i + 1) (j + 1) := by
 have hi : i < M.length := by have := h.le; have := h.len; omega
 refine ⟨by rw [List.length_set]; exact h.len, by have := h.le; omega, by omega, ?_, fun k hk => ?_⟩
 ·rw [take_snoc hj, List.filter_append, ← h.lo, List.take_succ_eq_append_getElem (by rw [List.length_set]; exact hi), List.take_set_of_le (Nat.le_refl _), List.getElem_set_self]
  simp [hp]
 ·have := h.le
  rw [List.getElem?_set_ne (by omega)]
  exact h.hi k (by omega)
theorem Kept.start {p : Int → Bool} {l : List Int} {i : Nat} (hi : i < l.length) (ha : (l.take i).all (fun x => !p x) = true) (hp : p (l[i]?.getD 0) = true) : Kept p l l i (i + 1) := by
 refine ⟨rfl, by omega, by omega, ?_, fun _ _ => rfl⟩
 rw [take_snoc hi, List.filter_append]
 have : (l.take i).filter (fun x => !p x) = l.take i := List.filter_eq_self.2 fun x hx => List.all_eq_true.1 ha x hx
 rw [this]; simp [hp]
theorem OwnI.zeros {base g n cap : Nat} : ∀ (m : Nat) {o : Nat} {w : World} {M : List Int}, OwnI w base (.slice (some ⟨g, 0, none⟩) n cap) M → ∃ M', OwnI (w.setCells g o (List.replicate m (.int .i64 0))) base (.slice (some ⟨g, 0, none⟩) n cap) M' ∧ M'.take o = M.take o
 | 0, _, _, M, h => ⟨M, h, rfl⟩
 | m + 1, o, w, M, h => by
   obtain ⟨M', h1, h2⟩ := OwnI.zeros m (o := o + 1) (h.set o 0)
   refine ⟨M', h1, ?_⟩
   have h3 := congrArg (List.take o) h2
   rw [List.take_take, List.take_take, Nat.min_eq_left (by omega)] at h3
   rw [h3, List.take_set_of_le (Nat.le_refl _)]
theorem OwnI.takeO {w : World} {base g n cap : Nat} {M : List Int} (h : OwnI w base (.slice (some ⟨g, 0, none⟩) n cap) M) {k : Nat} (hk : k ≤ n) : OwnI w base (.slice (some ⟨g, 0, none⟩) k cap) (M.take k) := by
 rcases h.2 with ⟨he, h0⟩ | ⟨g', cap', cur, he, hb, hg, h1, h2, hs, ht⟩
 ·cases he
 ·simp only [Value.slice.injEq, Option.some.injEq, Addr.mk.injEq, and_true] at he
  obtain ⟨rfl, rfl, rfl⟩ := he
  have hl : (M.take k).length = k := by simp; omega
  refine ⟨by simp, .inr ⟨g, cap, cur, by rw [hl], hb, hg, by omega, h2, hs, ?_⟩⟩
  rw [hl, List.map_take, ← ht, List.take_take, Nat.mul_one, Nat.mul_one, Nat.min_eq_left hk]
theorem OwnI.outS {w : World} {base g n cap : Nat} {l : List Int} (h : OwnI w base (.slice (some ⟨g, 0, none⟩) n cap) l) : base ≤ g ∧ g < w.heap.size ∧ (∀ j, w.frozen? ⟨g, j, none⟩ = false) ∧ ∀ k, k < n → w.cell? ⟨g, k, none⟩ = some (.int .i64 (l[k]?.getD 0)) := by
 rcases h.2 with ⟨he, h0⟩ | ⟨g', cap', cur, he, hb, hg, h1, h2, hs, ht⟩
 ·cases he
 ·have hgg : g' = g := by simp only [Value.slice.injEq, Option.some.injEq, Addr.mk.injEq, and_true] at he; exact he.1.symm
  subst hgg
  refine ⟨hb, lt_of_block hg, fun j => frozen_of_row w g' j cur _ hg, fun k hk => ?_⟩
  obtain ⟨b, off, e, hc⟩ := h.ints.at hk
  simp only [Option.some.injEq, Addr.mk.injEq, and_true] at e
  rw [← e.1, ← e.2, Nat.zero_add] at hc
  exact hc
theorem below_setCells' {B : Nat} {a : World} (b : Nat) (hb : B ≤ b) : ∀ (vs : List Value) (o : Nat) {w : World}, Below B a w → Below B a (w.setCells b o vs)
 | [], _, _, h => h
 | v :: r, o, w, h => below_setCells' b hb r (o + 1) (h.setCell hb v)
theorem zero_int (w : World) : (zeroValue 3).run Tryz.prog w = .ok (.int .i64 0) w := rfl
set_option maxHeartbeats 4000000 in
theorem i_deleteFunc {W0 w : World} {base g n cap : Nat} {l : List Int} {fid : FuncId} {ca : Array Value} {p : Int → Bool} (hX : Ext W0 w) (hb : W0.heap.size ≤ base) (h : OwnI w base (.slice (some ⟨g, 0, none⟩) n cap) l) (hn : 0 < n) (hg : IsGo Tryz.prog fid) (hf : Asks Tryz.prog W0 fid ca p) :
 Calls Tryz.prog 150 #[.slice (some ⟨g, 0, none⟩) n cap, .func (.func fid) #[] ca] w fun e w' =>
  (∃ m, e = .returned (.slice (some ⟨g, 0, none⟩) m cap) ∧ OwnI w' base (.slice (some ⟨g, 0, none⟩) m cap) (l.filter fun x => !p x)) ∧ Ext W0 w' := by
 have hcap := h.ints.hcap
 have hmax := h.ints.hmax
 have hcf : ∀ (args : Array Value) (w : World), (callFunc fid args).run Tryz.prog w = .ok (.enter fid args) w := hg
 have HL := Lib.hid h.ints.hlen
 have HO := Lib.hid h
 have hbg := h.outS.1
 have HBG := Lib.hid hbg
 have HF := Lib.hid hf
 have HX := Lib.hid hX
 have HIX := Lib.hid (indexFunc_ints (w := w) h.ints hg (hf.ext hX))
 clear h hf hX hg hbg
 by_cases hany : ∃ i, l.findIdx? p = some i
 ·obtain ⟨i0, hi0⟩ := hany
  have hix : indexF p l = (i0 : Int) := by unfold indexF; rw [hi0]
  obtain ⟨hil, hip, hia⟩ := List.findIdx?_eq_some_iff_getElem.1 hi0
  have hin : i0 < n := by rw [← HL.out]; exact hil
  have hall : (l.take i0).all (fun x => !p x) = true := by
   rw [List.all_eq_true]; intro x hx
   obtain ⟨j, hj, rfl⟩ := List.mem_take_iff_getElem.1 hx
   have := hia j (by omega)
   simpa using this
  have HK0 := Lib.hid (Kept.start (p := p) hil hall (by rw [List.getElem?_eq_getElem hil]; exact hip))
  rw [hix] at HIX
  clear hix hi0 hip hia hall hil
  go_enter Tryz.func150, Tryz.ntmps150
  go_wp2_with fail
  refine HIX.out.mono ?_
  rintro e w1 ⟨rfl, hx1⟩
  have HX1 := Lib.hid (HX.out.trans hx1)
  have HO1 := Lib.hid (HO.out.ext hx1)
  have hne : ((i0 : Int) == -1) = false := by simp
  clear hx1
  go_wp2_with fail
  go_loopg [5, 6] n (fun gk ii jj wr => ∃ (i j : Nat) (M : List Int), Hid (gk + j = n + i0 + 1) ∧ ii = .int .i64 (i : Int) ∧ jj = .int .i64 (j : Int) ∧ Hid (Kept p l M i j) ∧ Hid (i < j) ∧ Hid (OwnI wr base (.slice (some ⟨g, 0, none⟩) n cap) M) ∧ Hid (Ext W0 wr))
  case atStart => exact ⟨i0, i0 + 1, l, Lib.hid (by omega), rfl, by simp, HK0, Lib.hid (by omega), HO1, HX1⟩
  case round =>
   obtain ⟨g1, h_g1⟩ : ∃ x, x = gk := ⟨_, rfl⟩
   subst h_g1
   obtain ⟨wr1, h_wr1⟩ : ∃ x, x = wr := ⟨_, rfl⟩
   subst h_wr1
   obtain ⟨i, j, M, HJ, rfl, rfl, HK, HIJ, HM, HX2⟩ := hrel
   have hij := HIJ.out
   by_cases hlt : j < n
   ·have hc := HM.out.outS.2.2.2 j hlt
    rw [HK.out.hi j (Nat.le_refl _)] at hc
    obtain ⟨x, hx⟩ : ∃ x, x = l[j]?.getD 0 := ⟨_, rfl⟩
    rw [← hx] at hc
    have HXX := Lib.hid hx
    have HC := Lib.hid (HF.out x wr1 HX2.out)
    have hjl : j < l.length := by rw [HL.out]; exact hlt
    clear hx
    cases hpx : p x
    ·have HKN := Lib.hid (HK.out.keep hjl (by rw [← HXX.out]; exact hpx))
     rw [← HXX.out] at HKN
     rw [hpx] at HC
     clear hpx
     go_wp2_with fail
     refine HC.out.mono ?_
     rintro e w2 ⟨rfl, hx2⟩
     have HM2 := Lib.hid (HM.out.ext hx2)
     have hci := HM2.out.outS.2.2.2 i (by omega)
     have hfz := HM2.out.outS.2.2.1
     have hfi := hfz i
     have HM3 := Lib.hid (HM2.out.set i x)
     have HX3 := Lib.hid ((HX2.out.trans hx2).store i (Nat.le_trans hb HBG.out) (.int .i64 x))
     clear hx2 hfz
     go_wp2_with fail
     go_roundg (g1 - 1)
     case measure => have := HJ.out; omega
     case rel => exact ⟨i + 1, j + 1, _, Lib.hid (by have := HJ.out; omega), by go_num, by go_num, HKN, Lib.hid (by omega), HM3, HX3⟩
    ·have HKN := Lib.hid (HK.out.drop hjl (by rw [← HXX.out]; exact hpx))
     rw [hpx] at HC
     clear hpx
     go_wp2_with fail
     refine HC.out.mono ?_
     rintro e w2 ⟨rfl, hx2⟩
     have HM2 := Lib.hid (HM.out.ext hx2)
     have HX3 := Lib.hid (HX2.out.trans hx2)
     clear hx2
     go_wp2_with fail
     go_roundg (g1 - 1)
     case measure => have := HJ.out; omega
     case rel => exact ⟨i, j + 1, _, Lib.hid (by have := HJ.out; omega), rfl, by go_num, HKN, Lib.hid (by omega), HM2, HX3⟩
   ·have hjn : j = n := by have := HK.out.jl; have := HL.out; omega
    subst hjn
    have hcl : ∀ ty, (Builtin.clear_ #[22] ty #[.slice (some ⟨g, i, none⟩) (j - i) (cap - i)]).run Tryz.prog wr1 = .ok (.tuple #[]) (wr1.setCells g i (List.replicate (j - i) (.int .i64 0))) := fun ty => by
     refine Lib.run_clear_slice wr1 _ 3 ty _ Tryz.underlying22 zero_int rfl rfl g i _ _ (by omega) (fun k hk => ?_) (fun k hk => ?_)
     ·rw [HM.out.outS.2.2.2 (i + k) (by omega)]; rfl
     ·exact HM.out.outS.2.2.1 _
    obtain ⟨M', hM', hMt⟩ := OwnI.zeros (w := wr1) (j - i) (o := i) HM.out
    have HT := Lib.hid (show M'.take i = l.filter fun x => !p x by
     rw [hMt, HK.out.lo, List.take_of_length_le (by rw [HL.out]; exact Nat.le_refl _)])
    have HMF := Lib.hid hM'
    have HXF := Lib.hid (below_setCells' g (Nat.le_trans hb HBG.out) (List.replicate (j - i) (.int .i64 0)) i HX2.out)
    clear hMt hM'
    go_wp2_with fail
    go_ret
    exact ⟨⟨i, rfl, by rw [← HT.out]; exact HMF.out.takeO (by omega)⟩, HXF.out⟩
 ·have hix : indexF p l = -1 := by
   unfold indexF
   cases hq : l.findIdx? p with
   | none => rfl
   | some i => exact absurd ⟨i, hq⟩ hany
  have HFI := Lib.hid (show l.filter (fun x => !p x) = l by
   rw [List.filter_eq_self]; intro x hx
   cases hq : l.findIdx? p with
   | none => have := List.findIdx?_eq_none_iff.1 hq x hx; simpa using this
   | some i => exact absurd ⟨i, hq⟩ hany)
  rw [hix] at HIX
  clear hix hany
  go_enter Tryz.func150, Tryz.ntmps150
  go_wp2_with fail
  refine HIX.out.mono ?_
  rintro e w1 ⟨rfl, hx1⟩
  have HX1 := Lib.hid (HX.out.trans hx1)
  have HO1 := Lib.hid (HO.out.ext hx1)
  clear hx1
  go_wp2_with fail
  go_ret
  exact ⟨⟨n, rfl, by rw [HFI.out]; exact HO1.out⟩, HX1.out⟩
def AsksX (P : Program) (w : World) (fid : FuncId) (ca : Array Value) (p : Int × Int × Int → Bool) : Prop :=
 ∀ x y z (w1 : World), Ext w w1 → Calls P fid (#[.agg #[.int .i64 x, .int .i64 y, .int .i64 z]] ++ ca) w1 fun e w2 => e = .returned (.bool (p (x, y, z))) ∧ Ext w1 w2
set_option maxHeartbeats 1000000 in
theorem indexFunc_fixs {w : World} {a : Option Addr} {n cap : Nat} {l : List (Int × Int × Int)} {fid : FuncId} {ca : Array Value} {p : Int × Int × Int → Bool} (h : Fixs w a n cap l) (hg : IsGo Tryz.prog fid) (hf : AsksX Tryz.prog w fid ca p) :
 Calls Tryz.prog 205 #[.slice a n cap, .func (.func fid) #[] ca] w fun e w' => e = .returned (.int .i64 (indexF p l)) ∧ Ext w w' := by
 have hn := h.hcap
 have hm := h.hmax
 have hcf : ∀ (args : Array Value) (w : World), (callFunc fid args).run Tryz.prog w = .ok (.enter fid args) w := hg
 have HL := Lib.hid h.hlen
 have HI := Lib.hid h
 have HF := Lib.hid hf
 clear h hf hg
 go_enter Tryz.func205, Tryz.ntmps205
 go_wp2_with fail
 go_loopg [8] n (fun gk ii wr => ∃ k : Nat, Hid (gk + k = n) ∧ ii = .int .i64 (k : Int) ∧ Hid ((l.take k).all (fun x => !p x) = true) ∧ Hid (Ext w wr))
 case atStart => exact ⟨0, Lib.hid (by omega), rfl, Lib.hid rfl, Lib.hid (Ext.refl _)⟩
 case round =>
  obtain ⟨g1, h_g1⟩ : ∃ x, x = gk := ⟨_, rfl⟩
  subst h_g1
  obtain ⟨wr1, h_wr1⟩ : ∃ x, x = wr := ⟨_, rfl⟩
  subst h_wr1
  obtain ⟨k, HK, rfl, HA, HX⟩ := hrel
  by_cases hlt : k < n
  ·obtain ⟨b, off, x, y, z, rfl, hxy, hc0, hc1, hc2⟩ := (HI.out.ext HX.out).at hlt
   have HC := Lib.hid (HF.out x y z wr1 HX.out)
   have hkl : k < l.length := by rw [HL.out]; exact hlt
   cases hb : p (x, y, z)
   all_goals rw [hb] at HC
   ·have HT := Lib.hid (show (l.take (k + 1)).all (fun x => !p x) = true by rw [take_snocX hkl, List.all_append, HA.out, hxy]; simp [hb])
    clear hb hxy
    go_wp2_with fail
    refine HC.out.mono ?_
    rintro e w2 ⟨rfl, hx2⟩
    have HX2 := Lib.hid (HX.out.trans hx2)
    clear hx2
    go_wp2_with fail
    go_roundg (g1 - 1)
    case measure => have := HK.out; omega
    case rel => exact ⟨k + 1, Lib.hid (by have := HK.out; omega), by go_num, HT, HX2⟩
   ·have HT := Lib.hid (show indexF p l = (k : Int) from indexF_at (d := (0, 0, 0)) hkl HA.out (by rw [hxy]; exact hb))
    clear hb hxy
    go_wp2_with fail
    refine HC.out.mono ?_
    rintro e w2 ⟨rfl, hx2⟩
    have HX2 := Lib.hid (HX.out.trans hx2)
    clear hx2
    go_wp2_with fail
    go_ret
    exact ⟨ret_int HT.out.symm, HX2.out⟩
  ·have HT := Lib.hid (show l.take k = l from List.take_of_length_le (by rw [HL.out]; have := HK.out; omega))
   go_wp2_with fail
   go_ret
   exact ⟨ret_int (by rw [indexF_none]; have := HA.out; rwa [HT.out] at this), HX.out⟩
set_option maxHeartbeats 400000 in
theorem containsFunc_fixs {w : World} {a : Option Addr} {n cap : Nat} {l : List (Int × Int × Int)} {fid : FuncId} {ca : Array Value} {p : Int × Int × Int → Bool} (h : Fixs w a n cap l) (hg : IsGo Tryz.prog fid) (hf : AsksX Tryz.prog w fid ca p) :
 Calls Tryz.prog 153 #[.slice a n cap, .func (.func fid) #[] ca] w fun e w' => e = .returned (.bool (l.any p)) ∧ Ext w w' := by
 have HC := Lib.hid (indexFunc_fixs h hg hf)
 go_enter Tryz.func153, Tryz.ntmps153
 go_wp2_with fail
 refine HC.out.mono ?_
 rintro e w2 ⟨rfl, hx2⟩
 go_wp2
 all_goals go_ret; refine ⟨ret_bool ?_, hx2⟩; rw [← indexF_any]
theorem go_free11 : IsGo Tryz.prog 154 := isGo Tryz.func154 (by kernel_rfl) (by kernel_rfl)
theorem go_free1 : IsGo Tryz.prog 152 := isGo Tryz.func152 (by kernel_rfl) (by kernel_rfl)
set_option maxHeartbeats 400000 in
theorem i_free11 {w : World} (x y z s : Int) {b : Nat} (hc : w.cell? ⟨b, 0, none⟩ = some (.int .i64 s)) :
 Calls Tryz.prog 154 #[.agg #[.int .i64 x, .int .i64 y, .int .i64 z], .pointer (some ⟨b, 0, none⟩)] w fun e w' => e = .returned (.bool (x == s)) ∧ Ext w w' := by
 have HX := Lib.hid (Ext.alloc w (.cells #[.int .i64 x, .int .i64 y, .int .i64 z] 108))
 have hb : b < w.heap.size := World.block_lt_of_cell? _ _ hc
 cases hq : (x == s)
 all_goals
  go_enter Tryz.func154, Tryz.ntmps154
  go_wp2_with fail
  go_ret
  exact ⟨ret_bool rfl, HX.out⟩
set_option maxHeartbeats 400000 in
theorem i_free1 {w : World} (s : Int) {b : Nat} {a : Option Addr} {n cap : Nat} {L : List (Int × Int × Int)} (hc : w.cell? ⟨b, 0, none⟩ = some (.slice a n cap)) (h : Fixs w a n cap L) :
 Calls Tryz.prog 152 #[.int .i64 s, .pointer (some ⟨b, 0, none⟩)] w fun e w' => e = .returned (.bool (hasX L s)) ∧ Ext w w' := by
 have HX := Lib.hid (Ext.alloc w (.cells #[.int .i64 s] 3))
 have hb : b < w.heap.size := World.block_lt_of_cell? _ _ hc
 have HC := Lib.hid (containsFunc_fixs (ca := #[.pointer (some ⟨w.heap.size, 0, none⟩)]) (p := fun f => f.1 == s) (h.ext HX.out) go_free11 (fun x y z w1 hx => i_free11 x y z s (hx.cellSome (by simp))))
 clear h
 go_enter Tryz.func152, Tryz.ntmps152
 go_wp2_with fail
 refine HC.out.mono ?_
 rintro e w2 ⟨rfl, hx2⟩
 have HX2 := Lib.hid (HX.out.trans hx2)
 clear hx2
 go_wp2_with fail
 go_ret
 exact ⟨rfl, HX2.out⟩
set_option maxHeartbeats 2000000 in
theorem i_freeCoalitions {w : World} (x : Int) (a : Option Addr) (n cap : Nat) (h4 : 3 ≤ n) (hn : n ≤ 1000) {fa : Option Addr} {fn fcap : Nat} {L : List (Int × Int × Int)} (h : Fixs w fa fn fcap L) :
 Calls Tryz.prog 90 #[pair x a n cap, .slice fa fn fcap] w fun e w' => (∃ v, e = .returned v ∧ OwnI w' w.heap.size v (freeL L (n - 2))) ∧ Ext w w' := by
 obtain ⟨W, hW⟩ : ∃ W, W = (w.alloc (.cells #[.int .i64 x, .slice a n cap] 47)).alloc (.cells #[.slice fa fn fcap] 43) := ⟨_, rfl⟩
 have HWS := Lib.hid (show W.heap.size = w.heap.size + 2 by rw [hW]; simp)
 have HX0 := Lib.hid (show Ext w W by rw [hW]; exact (Ext.alloc _ _).trans (Ext.alloc _ _))
 have HWL := Lib.hid (show W.cell? ⟨w.heap.size + 1, 0, none⟩ = some (.slice fa fn fcap) by rw [hW]; simp)
 have HF := Lib.hid (h.ext HX0.out)
 have HA := Lib.hid (show Asks Tryz.prog W 152 #[.pointer (some ⟨w.heap.size + 1, 0, none⟩)] (hasX L) from fun s w1 hx => i_free1 s (hx.cellSome HWL.out) (HF.out.ext hx))
 have HC := Lib.hid (i_coalitions (w := W) 1 ((n : Int) - 2) (n - 2) (by omega) (by omega) (by omega) (by omega))
 rw [hW] at HC
 clear h
 go_enter Tryz.func90, Tryz.ntmps90
 go_wp2_with fail
 refine HC.out.mono ?_
 rw [← hW]
 clear hW
 rintro e w1 ⟨⟨v, rfl, ho⟩, hx1⟩
 obtain ⟨a1, m, c1, rfl, hm⟩ := ho.var
 have hm0 : 0 < m := by have := hm.out; rw [seqI_len] at this; omega
 obtain ⟨g, rfl, _, _, _⟩ := ho.block hm0
 have HD := Lib.hid (i_deleteFunc hx1 (Nat.le_refl _) ho hm0 go_free1 HA.out)
 clear ho hm hx1
 go_wp2_with fail
 refine HD.out.mono ?_
 rintro e w2 ⟨⟨m2, rfl, ho2⟩, hx2⟩
 have HO2 := Lib.hid ho2
 have HX2 := Lib.hid hx2
 clear ho2 hx2
 go_wp2_with fail
 go_ret
 exact ⟨⟨_, rfl, HO2.out.mono (by rw [HWS.out]; omega)⟩, HX0.out.trans HX2.out⟩
set_option maxHeartbeats 2000000 in
theorem i_minus (x y : Int) (w : World) (h0 : -9223372036854775807 ≤ x) (h1 : x ≤ 9223372036854775807) :
 Calls Tryz.prog 91 #[ratV x y] w fun e w' => e = .returned (ratV (-x) y) ∧ Ext w w' := by
 go_enter Tryz.func91, Tryz.ntmps91
 go_wp2_with fail
 refine bodyPost_ret (v := ratV (-x) y) (by simp [results, Tryz.results91, go_sem]) rfl ⟨rfl, ?_⟩
 exact (Ext.alloc _ _).trans (Ext.alloc _ _)
set_option maxHeartbeats 2000000 in
theorem s_l7Negated (x y : Int) (w : World) (h0 : -9223372036854775807 ≤ x) (h1 : x ≤ 9223372036854775807) :
 Calls Tryz.prog 83 #[ratV x y] w fun e w' => e = .returned (ratV (-x) y) ∧ Ext w w' := by
 go_enter Tryz.func83, Tryz.ntmps83
 go_wp2_with fail
 refine bodyPost_ret (v := ratV (-x) y) (by simp [results, Tryz.results83, go_sem]) rfl ⟨rfl, ?_⟩
 exact (Ext.alloc _ _).trans (Ext.alloc _ _)
theorem ratOf_fail {n d : Int} (h : (ratOf n d).2 = false) : (ratOf n d).1 = (0, 0) := by
 have hc : ∀ p, (cutR p).2 = false → (cutR p).1 = (0, 0) := fun p h => by unfold cutR at h ⊢; split at h <;> simp_all
 unfold ratOf at h ⊢
 split at h
 ·next h1 => rw [if_pos h1]
 ·next h1 =>
  rw [if_neg h1]
  split at h
  ·next h2 => rw [if_pos h2]; exact hc _ h
  ·next h2 => rw [if_neg h2]; exact hc _ h
theorem ratOf_bd9 (n d : Int) : -1000000000 ≤ (ratOf n d).1.1 ∧ (ratOf n d).1.1 ≤ 1000000000 := by
 cases h : (ratOf n d).2
 ·rw [ratOf_fail h]; simp
 ·have := valR_bd (ratOf_val h); omega
theorem subR_bd9 (a b : Int × Int) : -1000000000 ≤ (subR a b).1.1 ∧ (subR a b).1.1 ≤ 1000000000 := by
 unfold subR; split
 ·exact ratOf_bd9 _ _
 ·simp
abbrev Col := Int × Int × Bool × Int × Int
def colE : Enc Col := ⟨fun x => [.int .i64 x.1, .int .i64 x.2.1, .bool x.2.2.1, .int .i64 x.2.2.2.1, .int .i64 x.2.2.2.2], 5, fun _ => rfl, by omega, fun x u h => by simp only [List.mem_cons, List.not_mem_nil, or_false] at h; rcases h with rfl | rfl | rfl | rfl | rfl <;> rfl⟩
theorem Tryz.infoCol : (Tryz.prog.info? 130).map (fun i => (i.zero, i.size, i.bytes)) = some (some (.agg #[.int .i64 0, .int .i64 0, .bool false, .int .i64 0, .int .i64 0]), 5, 40) := by kernel_rfl
def costC (V : List Int) (f : Int × Int × Int) : Int × Int := (subR f.2 (V[f.1.toNat]?.getD 0, 1)).1
def twoC (s : Int) (c : Int × Int) : List Col := [(s, 1, false, c.1, c.2), (s, -1, false, -c.1, c.2)]
def frontC (V : List Int) (l : List Int) : List Col := l.map fun s => (s, 1, true, -(V[s.toNat]?.getD 0), 1)
def fixedC (V : List Int) (L : List (Int × Int × Int)) : List Col := L.flatMap fun f => twoC f.1 (costC V f)
def colsL (V : List Int) (L : List (Int × Int × Int)) : List Col := frontC V (freeL L (V.length - 2)) ++ fixedC V L ++ twoC ((V.length : Int) - 1) (-(V[V.length - 1]?.getD 0), 1)
def colsK (V : List Int) (L : List (Int × Int × Int)) (k : Nat) : List Col := frontC V (freeL L (V.length - 2)) ++ fixedC V (L.take k)
theorem frontC_snoc (V : List Int) {l : List Int} {k : Nat} (h : k < l.length) : frontC V (l.take k) ++ [(l[k]?.getD 0, 1, true, -(V[(l[k]?.getD 0).toNat]?.getD 0), 1)] = frontC V (l.take (k + 1)) := by
 rw [take_snoc h]; simp [frontC]
theorem frontC_len (V : List Int) (l : List Int) : (frontC V l).length = l.length := by simp [frontC]
theorem fixedC_len (V : List Int) : ∀ L : List (Int × Int × Int), (fixedC V L).length = 2 * L.length
 | [] => rfl
 | f :: L => by
   have := fixedC_len V L
   simp only [fixedC, List.flatMap_cons, List.length_append, twoC, List.length_cons, List.length_nil] at this ⊢
   omega
theorem colsK_snoc (V : List Int) {L : List (Int × Int × Int)} {k : Nat} (h : k < L.length) {f : Int × Int × Int} (e : L[k]?.getD (0, 0, 0) = f) : colsK V L k ++ twoC f.1 (costC V f) = colsK V L (k + 1) := by
 subst e
 unfold colsK fixedC
 rw [take_snocX h]
 simp
theorem OwnI.grownG {w w' : World} {base base' : Nat} {v v' : Value} {l : List Int} {α : Type} {E : Enc α} {t : TypeId} {l' : List α} (h : OwnI w base v l) (h' : OwnG E t w base' v' l') (hne : 3 ≠ t) (hg : w.grownBy w' v'.ownBlock) : OwnI w' base v l :=
 h.keep fun k hk => hg.block k (h.lt k hk).2 fun e => ownsRow_apart hne h h' k hk e.symm
set_option maxHeartbeats 8000000 in
theorem s_l16Columns {w : World} (x : Int) {a : Option Addr} {n cap : Nat} {V : List Int} (hV : Ints w a n cap V) (hVb : ∀ y ∈ V, -500 ≤ y ∧ y ≤ 500) (h2 : 2 ≤ n) (hn : n ≤ 1000) {fa : Option Addr} {fn fcap : Nat} {L : List (Int × Int × Int)} (h : Fixs w fa fn fcap L) (hL : ∀ f ∈ L, 1 ≤ f.1 ∧ f.1 + 2 ≤ n) (hfn : fn ≤ 1048576) :
 Calls Tryz.prog 109 #[pair x a n cap, .slice fa fn fcap] w fun e w' => (∃ v, e = .returned v ∧ OwnG colE 130 w' w.heap.size v (colsL V L)) ∧ Ext w w' := by
 obtain ⟨W, hW⟩ : ∃ W, W = w.alloc (.cells #[.int .i64 x, .slice a n cap] 47) := ⟨_, rfl⟩
 have HW := Lib.hid hW
 have HWS := Lib.hid (show W.heap.size = w.heap.size + 1 by rw [hW]; simp)
 have HX0 := Lib.hid (show Ext w W by rw [hW]; exact Ext.alloc _ _)
 have HWC := Lib.hid (show W.cell? ⟨w.heap.size, 1, none⟩ = some (.slice a n cap) by rw [hW]; simp)
 have HWD := Lib.hid (show W.cell? ⟨w.heap.size, 0, none⟩ = some (.int .i64 x) by rw [hW]; simp)
 have HVL := Lib.hid hV.hlen
 have hvcap := hV.hcap
 have hvmax := hV.hmax
 have hfcap := h.hcap
 have hfmax := h.hmax
 have HV := Lib.hid (hV.ext HX0.out)
 have HVB := Lib.hid hVb
 have HFL := Lib.hid h.hlen
 have HF := Lib.hid (h.ext HX0.out)
 have HLB := Lib.hid hL
 have HO := Lib.hid (OwnG.madeS colE 130 W (w.heap.size + 1) (w.heap.size + 1) HWS.out.symm (by rw [HWS.out]; exact Nat.le_refl _))
 have HFRE := Lib.hid (s_l16Free (w := W.alloc (.cells #[] 130)) x a n cap hn (HF.out.ext (Ext.alloc _ _)))
 have HML := Lib.hid (freeL_len L (n - 2))
 have HMM := Lib.hid (fun s => freeL_mem (L := L) (m := n - 2) (s := s))
 rw [hW] at HFRE
 clear h hL hV hVb
 go_enter Tryz.func109, Tryz.ntmps109
 go_wp2_with fail
 refine HFRE.out.mono ?_
 rw [← hW]
 clear hW
 rintro e w1 ⟨⟨vf, rfl, hfo⟩, hx1⟩
 obtain ⟨af, m, cf, rfl, hfm⟩ := hfo.var
 have HFO := Lib.hid (hfo.mono (base' := w.heap.size + 1) (by rw [World.size_alloc, HWS.out]; omega))
 have HFM := Lib.hid hfm.out
 have X1 := Lib.hid ((Ext.alloc W _).trans hx1)
 have HO1 := Lib.hid (HO.out.ext hx1)
 have hmcap := hfo.ints.hcap
 have hmmax := hfo.ints.hmax
 have hmb : m ≤ 1000 := by have := HML.out; have := HFM.out; omega
 clear hfo hx1 hfm HFRE
 go_wp2_with fail
 go_loopg [5, 7] m (fun gk oo ii wr => ∃ (k : Nat) (a1 : Option Addr) (n1 p1 : Nat), Hid (gk + k = m) ∧ ii = .int .i64 (k : Int) ∧ oo = .slice a1 n1 p1 ∧ Hid (OwnG colE 130 wr (w.heap.size + 1) (.slice a1 n1 p1) (frontC V ((freeL L (n - 2)).take k))) ∧ Hid (OwnI wr (w.heap.size + 1) (.slice af m cf) (freeL L (n - 2))) ∧ Hid (Ext W wr))
 case atStart => exact ⟨0, _, _, _, Lib.hid (by omega), rfl, rfl, HO1, HFO, X1⟩
 case round =>
  obtain ⟨g1, h_g1⟩ : ∃ x, x = gk := ⟨_, rfl⟩
  subst h_g1
  obtain ⟨wr1, h_wr1⟩ : ∃ x, x = wr := ⟨_, rfl⟩
  subst h_wr1
  obtain ⟨k, a1, n1, p1, HK, rfl, rfl, HOK, HFK, HX⟩ := hrel
  have hsz := HX.out.size
  rw [HWS.out] at hsz
  have hcv : wr1.cell? ⟨w.heap.size, 1, none⟩ = some (.slice a n cap) := HX.out.cellSome HWC.out
  by_cases hlt : k < m
  ·obtain ⟨b, off, he, hsc⟩ := HFK.out.ints.at hlt
   subst he
   obtain ⟨s, hs⟩ : ∃ s, s = (freeL L (n - 2))[k]?.getD 0 := ⟨_, rfl⟩
   rw [← hs] at hsc
   have hkl : k < (freeL L (n - 2)).length := by rw [HFM.out]; exact hlt
   have hsm := HMM.out s (by rw [hs, List.getElem?_eq_getElem hkl]; exact List.getElem_mem hkl)
   obtain ⟨t, rfl⟩ : ∃ t : Nat, s = t := ⟨s.toNat, by omega⟩
   have htn : t < n := by omega
   obtain ⟨vb, voff, hve, hvc⟩ := HV.out.at htn
   subst hve
   have hyb := getD_bd HVB.out t
   obtain ⟨y, hy⟩ : ∃ y, y = V[t]?.getD 0 := ⟨_, rfl⟩
   rw [← hy] at hvc hyb
   have HVC := Lib.hid hvc
   replace hvc := HX.out.cellSome hvc
   have HSN := Lib.hid (show frontC V ((freeL L (n - 2)).take k) ++ [((t : Int), 1, true, -y, 1)] = frontC V ((freeL L (n - 2)).take (k + 1)) by
    rw [← frontC_snoc V hkl, ← hs, hy]; rfl)
   have hwn : IntKind.i64.wrap (-y) = -y := by rw [IntKind.wrap_i64]; omega
   have HLK := Lib.hid (show (frontC V ((freeL L (n - 2)).take k)).length ≤ 1000 by rw [frontC_len, List.length_take]; have := HML.out; omega)
   have hk2 : Ext wr1 wr1.drew := Ext.drew wr1
   clear hs hsm hy hkl
   have HNE := Lib.hid (show some b ≠ (Value.slice a1 n1 p1).ownBlock from fun e => ownsRow_apart (by decide) HFK.out HOK.out b rfl e.symm)
   have hk1 : Ext W wr1 := HX.out
   have HKEEP := Lib.hid (fun (w' : World) (h : Ext W w') (hc : w'.cell? ⟨b, off + k, none⟩ = some (.int .i64 (t : Int))) => (⟨h.cellSome HWC.out, hc, h.cellSome HVC.out, h⟩ : w'.cell? ⟨w.heap.size, 1, none⟩ = some (.slice (some ⟨vb, voff, none⟩) n cap) ∧ w'.cell? ⟨b, off + k, none⟩ = some (.int .i64 (t : Int)) ∧ w'.cell? ⟨vb, voff + t, none⟩ = some (.int .i64 y) ∧ Ext W w'))
   go_wp2_with fail
   go_region_held3 (fun w' => w'.cell? ⟨w.heap.size, 1, none⟩ = some (.slice (some ⟨vb, voff, none⟩) n cap) ∧ w'.cell? ⟨b, off + k, none⟩ = some (.int .i64 (t : Int)) ∧ w'.cell? ⟨vb, voff + t, none⟩ = some (.int .i64 y) ∧ Ext W w')
    (first
      | with_reducible exact HKEEP.out _ (hk1.trans hk2) (hk2.cellSome hsc)
      | with_reducible exact HKEEP.out _ (hk1.trans (hk2.trans (Ext.alloc _ _))) ((hk2.trans (Ext.alloc _ _)).cellSome hsc)
      | with_reducible exact HKEEP.out _ X5.out HC5.out)
    (first
      | (go_at_call 81
         (with_reducible refine (s_l3Int _ _).mono ?_)
         rintro e w3 ⟨rfl, hx3⟩
         have hk2 : Ext wr1 w3 := hk2.trans hx3
         have hs3 := hk2.size)
      | (refine step_of_wp _ (by rfl) ?_
         refine wp_append_g colE Tryz.infoCol rfl Tryz.underlying127 (by decide) _ _ (by rfl) (w.heap.size + 1) (.slice a1 n1 p1) _ (by rfl) (HOK.out.ext (hk2.trans (Ext.alloc _ _))) _ 1 1 [((t : Int), 1, true, -y, 1)] (by rfl) (Slc.lit colE _ _ _ 1 (by rfl) _ (by rfl) _ (by rfl) (by omega)) (by have := HLK.out; omega) (by simp; omega) ?_
         intro v5 w5 ho hg hnear
         have HFN := Lib.hid ((HFK.out.ext (hk2.trans (Ext.alloc _ _))).grownG (HOK.out.ext (hk2.trans (Ext.alloc _ _))) (by decide) hg)
         have HC5 := Lib.hid (hg.cell ((hk2.trans (Ext.alloc _ _)).cellSome hsc) HNE.out)
         obtain ⟨a5, n5, p5, rfl, HN5⟩ := ho.var
         have HO5 := Lib.hid ho
         have X5 := Lib.hid (ext_grown (w0 := W) (HX.out.trans (hk2.trans (Ext.alloc _ _))) hg (fun j hj => by have := HOK.out.lt j hj; rw [HWS.out]; omega))
         clear ho hg hnear)
      | fail)
   clear hk1
   go_wp2_with fail
   go_roundg (g1 - 1)
   case measure => have := HK.out; omega
   case rel => exact ⟨k + 1, a5, n5, p5, Lib.hid (by have := HK.out; omega), by go_num, rfl, Lib.hid (by rw [← HSN.out]; exact HO5.out), HFN, X5⟩
  ·have hkm : k = m := by have := HK.out; omega
   subst hkm
   have HST := Lib.hid (show frontC V ((freeL L (n - 2)).take k) = colsK V L 0 by
    have : (freeL L (n - 2)).take k = freeL L (n - 2) := List.take_of_length_le (by rw [HFM.out]; exact Nat.le_refl _)
    rw [this]; unfold colsK; rw [HVL.out]; simp [fixedC])
   rw [HST.out] at HOK
   have HCL := Lib.hid (fun j => show (colsK V L j).length ≤ 1000 + 2 * fn by
    unfold colsK; rw [List.length_append, frontC_len, fixedC_len, List.length_take, HVL.out]; have := HML.out; have := HFL.out; omega)
   clear HFM HFK HK
   go_wp2_with fail
   go_loopg [5, 8] (fn + 1) (fun gk oo ii wr => ∃ (k : Nat) (a1 : Option Addr) (n1 p1 : Nat), Hid (gk + k = fn + 1) ∧ ii = .int .i64 (k : Int) ∧ oo = .slice a1 n1 p1 ∧ Hid (OwnG colE 130 wr (w.heap.size + 1) (.slice a1 n1 p1) (if k ≤ fn then colsK V L k else colsL V L)) ∧ Hid (Ext W wr))
   case atStart => exact ⟨0, _, _, _, Lib.hid (by omega), rfl, rfl, Lib.hid (by rw [if_pos (by omega)]; exact HOK.out), HX⟩
   case round =>
    obtain ⟨g2, h_g2⟩ : ∃ x, x = gk := ⟨_, rfl⟩
    subst h_g2
    obtain ⟨wr2, h_wr2⟩ : ∃ x, x = wr := ⟨_, rfl⟩
    subst h_wr2
    obtain ⟨k, a2, n2, p2, HK, rfl, rfl, HOK2, HX2⟩ := hrel
    have hsz2 := HX2.out.size
    rw [HWS.out] at hsz2
    have hcv2 : wr2.cell? ⟨w.heap.size, 1, none⟩ = some (.slice a n cap) := HX2.out.cellSome HWC.out
    by_cases hle : k ≤ fn
    ·rw [if_pos hle] at HOK2
     obtain ⟨u, hu⟩ : ∃ u, u = n - 1 := ⟨_, rfl⟩
     have hnu : (n : Int) - 1 = (u : Int) := by omega
     have hun : u < n := by omega
     obtain ⟨vb, voff, hve, hvc⟩ := HV.out.at hun
     subst hve
     have hyb := getD_bd HVB.out u
     obtain ⟨y, hy⟩ : ∃ y, y = V[u]?.getD 0 := ⟨_, rfl⟩
     rw [← hy] at hvc hyb
     have HVC := Lib.hid hvc
     replace hvc := HX2.out.cellSome hvc
     have HU := Lib.hid hu
     have HY := Lib.hid hy
     have hwn : IntKind.i64.wrap (-y) = -y := by rw [IntKind.wrap_i64]; omega
     clear hu hy
     go_upto_if 59 with (first | (go_at_call 81; refine (s_l3Int _ _).mono ?_; rintro e w3 ⟨rfl, hx3⟩; have hs3 := hx3.size))
     have HB0 := Lib.hid (Boxed.new hx3 (-y) 1)
     have hcv3 := hx3.cellSome hcv2
     go_cut [9, 10] (fun ss cc wx => ∃ (S : Int) (g : Nat) (p q : Int), ss = .int .i64 S ∧ cc = .pointer (some ⟨g, 0, none⟩) ∧ Hid (Boxed wr2 wx g p q) ∧ Hid (colsK V L k ++ twoC S (p, q) = if k + 1 ≤ fn then colsK V L (k + 1) else colsL V L) ∧ Hid (-1000000000 ≤ p ∧ p ≤ 1000000000))
     case first =>
      by_cases hlt2 : k < fn
      ·obtain ⟨fb, foff, c, fx, fy, hfa, hfe, hf0, hf1, hf2⟩ := HF.out.at hlt2
       subst hfa
       have hkl : k < L.length := by rw [HFL.out]; exact hlt2
       have hcm := HLB.out (c, fx, fy) (by rw [← hfe, List.getElem?_eq_getElem hkl]; exact List.getElem_mem hkl)
       simp only at hcm
       obtain ⟨t, rfl⟩ : ∃ t : Nat, c = t := ⟨c.toNat, by omega⟩
       have htn : t < n := by omega
       obtain ⟨vb', voff', hve, hvt⟩ := HV.out.at htn
       simp only [Option.some.injEq, Addr.mk.injEq, and_true] at hve
       obtain ⟨rfl, rfl⟩ := hve
       obtain ⟨z, hz⟩ : ∃ z, z = V[t]?.getD 0 := ⟨_, rfl⟩
       rw [← hz] at hvt
       obtain ⟨p, q, ok, hpq⟩ : ∃ p q ok, subR (fx, fy) (z, 1) = ((p, q), ok) := ⟨_, _, _, rfl⟩
       have HPQ := Lib.hid hpq
       have HPB := Lib.hid (show -1000000000 ≤ p ∧ p ≤ 1000000000 by have := subR_bd9 (fx, fy) (z, 1); rw [hpq] at this; exact this)
       have HSS := Lib.hid (show colsK V L k ++ twoC (t : Int) (p, q) = colsK V L (k + 1) by
        rw [← colsK_snoc V hkl hfe]; unfold costC; simp only; rw [show ((t : Int)).toNat = t by simp, ← hz, hpq])
       have XW := Lib.hid (HX2.out.trans hx3)
       replace hf0 := XW.out.cellSome hf0
       have kf1 := HX2.out.cellSome hf1
       have kf2 := HX2.out.cellSome hf2
       have kvt := HX2.out.cellSome hvt
       replace hf1 := XW.out.cellSome hf1
       replace hf2 := XW.out.cellSome hf2
       replace hvt := XW.out.cellSome hvt
       have hfl : fb < w3.heap.size := World.block_lt_of_cell? _ _ hf0
       have hvl : vb < w3.heap.size := World.block_lt_of_cell? _ _ hvt
       have hBB : Boxed wr2 (w3.alloc (.cells #[.int .i64 (-y), .int .i64 1] 85)).drew w3.heap.size (-y) 1 := HB0.out.grow (Ext.drew _)
       have hk2 := hBB.ext
       clear hfe hkl hcm hz hpq hnu hvc
       have HKEEP := Lib.hid (fun (w' : World) (h : Ext wr2 w') => (⟨h.cellSome hcv2, h.cellSome kf1, h.cellSome kf2, h.cellSome kvt, h⟩ : w'.cell? ⟨w.heap.size, 1, none⟩ = some (.slice (some ⟨vb, voff, none⟩) n cap) ∧ w'.cell? ⟨fb, foff + k * 3 + 1, none⟩ = some (.int .i64 fx) ∧ w'.cell? ⟨fb, foff + k * 3 + 2, none⟩ = some (.int .i64 fy) ∧ w'.cell? ⟨vb, voff + t, none⟩ = some (.int .i64 z) ∧ Ext wr2 w'))
       clear kf1 kf2 kvt
       go_wp2_with fail
       go_region_held3 (fun w' => w'.cell? ⟨w.heap.size, 1, none⟩ = some (.slice (some ⟨vb, voff, none⟩) n cap) ∧ w'.cell? ⟨fb, foff + k * 3 + 1, none⟩ = some (.int .i64 fx) ∧ w'.cell? ⟨fb, foff + k * 3 + 2, none⟩ = some (.int .i64 fy) ∧ w'.cell? ⟨vb, voff + t, none⟩ = some (.int .i64 z) ∧ Ext wr2 w')
        (first
          | with_reducible exact HKEEP.out _ hk2
          | with_reducible exact HKEEP.out _ (hBB.put _ _).ext)
        (first
          | (go_at_call 81
             (with_reducible refine (s_l3Int _ _).mono ?_)
             rintro e w4 ⟨rfl, hx4⟩
             have hBB := hBB.grow hx4
             have hk2 := hBB.ext
             have hb0 := hBB.c0
             have hb1 := hBB.c1
             have hbf := hBB.free)
          | (go_at_call 165
             (with_reducible refine (s_SubRat _ _ _ _ _).mono ?_)
             rw [HPQ.out]
             rintro e w5 ⟨rfl, hx5⟩
             have hBB := hBB.grow hx5
             have hk2 := hBB.ext
             have hb0 := hBB.c0
             have hb1 := hBB.c1
             have hbf := hBB.free)
          | fail)
       go_wp2_with fail
       go_meet
       exact ⟨_, _, _, _, rfl, rfl, Lib.hid (hBB.put _ _), Lib.hid (by rw [if_pos (by omega)]; exact HSS.out), HPB⟩
      ·have hkf : k = fn := by omega
       subst hkf
       go_wp2_with fail
       go_meet
       exact ⟨_, _, _, _, rfl, rfl, HB0, Lib.hid (by
        rw [if_neg (by omega)]; unfold colsK colsL; rw [List.take_of_length_le (by rw [HFL.out]; exact Nat.le_refl _), HVL.out, ← HU.out, ← HY.out]; rw [hnu]), Lib.hid (by omega)⟩
     obtain ⟨S, g, p, q, rfl, rfl, HB, HS, HPB⟩ := hcut
     have hpb := HPB.out
     have hb0 := HB.out.c0
     have hb1 := HB.out.c1
     have XC := Lib.hid (HX2.out.trans HB.out.ext)
     have HOC := Lib.hid (HOK2.out.ext HB.out.ext)
     have HNE := Lib.hid (ownsRow_ne HOC.out HB.out.cell (by decide))
     have HCK := Lib.hid (HCL.out k)
     have hk1 : Ext W wc := XC.out
     have hk2 : Ext wc wc.drew := Ext.drew wc
     have hszc := XC.out.size
     rw [HWS.out] at hszc
     have HKEEP := Lib.hid (fun (w' : World) (h : Ext W w') (h0 : w'.cell? ⟨g, 0, none⟩ = some (.int .i64 p)) (h1 : w'.cell? ⟨g, 1, none⟩ = some (.int .i64 q)) => (⟨h0, h1, h⟩ : w'.cell? ⟨g, 0, none⟩ = some (.int .i64 p) ∧ w'.cell? ⟨g, 1, none⟩ = some (.int .i64 q) ∧ Ext W w'))
     clear hcv3 hcv2 hvc hnu
     go_wp2_with fail
     go_region_held3 (fun w' => w'.cell? ⟨g, 0, none⟩ = some (.int .i64 p) ∧ w'.cell? ⟨g, 1, none⟩ = some (.int .i64 q) ∧ Ext W w')
      (first
        | with_reducible exact HKEEP.out _ (hk1.trans hk2) (hk2.cellSome hb0) (hk2.cellSome hb1)
        | with_reducible exact HKEEP.out _ (hk1.trans (hk2.trans (Ext.alloc _ _))) ((hk2.trans (Ext.alloc _ _)).cellSome hb0) ((hk2.trans (Ext.alloc _ _)).cellSome hb1)
        | with_reducible exact HKEEP.out _ X5.out HC5.out HC6.out)
      (first
        | (go_at_call 83
           (with_reducible refine (s_l7Negated _ _ _ (by omega) (by omega)).mono ?_)
           rintro e w4 ⟨rfl, hx4⟩
           have hk2 : Ext wc w4 := hk2.trans hx4
           have hs4 := hk2.size)
        | (refine step_of_wp _ (by rfl) ?_
           refine wp_append_g colE Tryz.infoCol rfl Tryz.underlying127 (by decide) _ _ (by rfl) (w.heap.size + 1) (.slice a2 n2 p2) _ (by rfl) (HOC.out.ext (hk2.trans (Ext.alloc _ _))) _ 2 2 (twoC S (p, q)) (by rfl) (Slc.lit colE _ _ _ 2 (by rfl) _ (by rfl) _ (by rfl) (by omega)) (by have := HCK.out; omega) (by simp; omega) ?_
           intro v5 w5 ho hg hnear
           have HC5 := Lib.hid (hg.cell ((hk2.trans (Ext.alloc _ _)).cellSome hb0) HNE.out)
           have HC6 := Lib.hid (hg.cell ((hk2.trans (Ext.alloc _ _)).cellSome hb1) HNE.out)
           obtain ⟨a5, n5, p5, rfl, HN5⟩ := ho.var
           have HO5 := Lib.hid ho
           have X5 := Lib.hid (ext_grown (w0 := W) (XC.out.trans (hk2.trans (Ext.alloc _ _))) hg (fun j hj => by have := HOC.out.lt j hj; rw [HWS.out]; omega))
           clear ho hg hnear)
        | fail)
     clear hk1
     go_wp2_with fail
     go_roundg (g2 - 1)
     case measure => have := HK.out; omega
     case rel => exact ⟨k + 1, a5, n5, p5, Lib.hid (by have := HK.out; omega), by go_num, rfl, Lib.hid (by rw [← HS.out]; exact HO5.out), X5⟩
    ·have hkf : k = fn + 1 := by have := HK.out; omega
     have hnle : ¬ ((k : Int) ≤ (fn : Int)) := by omega
     rw [if_neg hle] at HOK2
     go_wp2_with fail
     go_ret
     exact ⟨⟨_, rfl, HOK2.out.mono (Nat.le_succ _)⟩, HX0.out.trans HX2.out⟩
end Go.Proofs.YtgohdmnbnhehnaaGreat
