/- The library's DeleteFunc on integers; which coalitions are free yet: the program. -/
import Derived.Test.YtokpmflhgehicaaFree
import Derived.Test.YtokpmflhgehicaaMem
import Derived.Test.YtokpmflhgehicaaLpO
import Derived.Lib.SliceRun
namespace Go.Proofs.Ytokpmflhgehicaa
set_option linter.unusedVariables false
set_option linter.unusedSimpArgs false
set_option maxRecDepth 100000
open Go.RowKit

/-- What is left of l after its first j: M's first i are what is kept of the first j, and from j on M is as l. -/
structure Kept (p : Int → Bool) (l M : List Int) (i j : Nat) : Prop where
  len : M.length = l.length
  le : i ≤ j
  jl : j ≤ l.length
  lo : M.take i = (l.take j).filter fun x => !p x
  hi : ∀ k, j ≤ k → M[k]?.getD 0 = l[k]?.getD 0
theorem Kept.drop {p : Int → Bool} {l M : List Int} {i j : Nat} (h : Kept p l M i j) (hj : j < l.length) (hp : p (l[j]?.getD 0) = true) : Kept p l M i (j + 1) :=
  ⟨h.len, by have := h.le; omega, by omega, by rw [take_snoc hj, List.filter_append, ← h.lo]; simp [hp], fun k hk => h.hi k (by omega)⟩
theorem Kept.keep {p : Int → Bool} {l M : List Int} {i j : Nat} (h : Kept p l M i j) (hj : j < l.length) (hp : p (l[j]?.getD 0) = false) : Kept p l (M.set i (l[j]?.getD 0)) (i + 1) (j + 1) := by
  have hi : i < M.length := by have := h.le; have := h.len; omega
  refine ⟨by rw [List.length_set]; exact h.len, by have := h.le; omega, by omega, ?_, fun k hk => ?_⟩
  · rw [take_snoc hj, List.filter_append, ← h.lo, List.take_succ_eq_append_getElem (by rw [List.length_set]; exact hi), List.take_set_of_le (Nat.le_refl _), List.getElem_set_self]
    simp [hp]
  · have := h.le
    rw [List.getElem?_set_ne (by omega)]
    exact h.hi k (by omega)
theorem Kept.start {p : Int → Bool} {l : List Int} {i : Nat} (hi : i < l.length) (ha : (l.take i).all (fun x => !p x) = true) (hp : p (l[i]?.getD 0) = true) : Kept p l l i (i + 1) := by
  refine ⟨rfl, by omega, by omega, ?_, fun _ _ => rfl⟩
  rw [take_snoc hi, List.filter_append]
  have : (l.take i).filter (fun x => !p x) = l.take i := List.filter_eq_self.2 fun x hx => List.all_eq_true.1 ha x hx
  rw [this]; simp [hp]

theorem OwnI.zeros {base g n cap : Nat} : ∀ (m : Nat) {o : Nat} {w : World} {M : List Int}, OwnI w base (.slice (some ⟨g, 0, none⟩) n cap) M → ∃ M', OwnI (w.setCells g o (List.replicate m (.int .i64 0))) base (.slice (some ⟨g, 0, none⟩) n cap) M' ∧ M'.take o = M.take o
  | 0, _, _, M, h => ⟨M, h, rfl⟩
  | m + 1, o, w, M, h => by
    obtain ⟨M', h1, h2⟩ := OwnI.zeros m (o := o + 1) (h.set o 0)
    refine ⟨M', h1, ?_⟩
    have h3 := congrArg (List.take o) h2
    rw [List.take_take, List.take_take, Nat.min_eq_left (by omega)] at h3
    rw [h3, List.take_set_of_le (Nat.le_refl _)]
theorem OwnI.takeO {w : World} {base g n cap : Nat} {M : List Int} (h : OwnI w base (.slice (some ⟨g, 0, none⟩) n cap) M) {k : Nat} (hk : k ≤ n) : OwnI w base (.slice (some ⟨g, 0, none⟩) k cap) (M.take k) := by
  rcases h.2 with ⟨he, h0⟩ | ⟨g', cap', cur, he, hb, hg, h1, h2, hs, ht⟩
  · cases he
  · simp only [Value.slice.injEq, Option.some.injEq, Addr.mk.injEq, and_true] at he
    obtain ⟨rfl, rfl, rfl⟩ := he
    have hl : (M.take k).length = k := by simp; omega
    refine ⟨by simp, .inr ⟨g, cap, cur, by rw [hl], hb, hg, by omega, h2, hs, ?_⟩⟩
    rw [hl, List.map_take, ← ht, List.take_take, Nat.mul_one, Nat.mul_one, Nat.min_eq_left hk]
theorem OwnI.outS {w : World} {base g n cap : Nat} {l : List Int} (h : OwnI w base (.slice (some ⟨g, 0, none⟩) n cap) l) : base ≤ g ∧ g < w.heap.size ∧ (∀ j, w.frozen? ⟨g, j, none⟩ = false) ∧ ∀ k, k < n → w.cell? ⟨g, k, none⟩ = some (.int .i64 (l[k]?.getD 0)) := by
  rcases h.2 with ⟨he, h0⟩ | ⟨g', cap', cur, he, hb, hg, h1, h2, hs, ht⟩
  · cases he
  · have hgg : g' = g := by simp only [Value.slice.injEq, Option.some.injEq, Addr.mk.injEq, and_true] at he; exact he.1.symm
    subst hgg
    refine ⟨hb, lt_of_block hg, fun j => frozen_of_row w g' j cur _ hg, fun k hk => ?_⟩
    obtain ⟨b, off, e, hc⟩ := h.ints.at hk
    simp only [Option.some.injEq, Addr.mk.injEq, and_true] at e
    rw [← e.1, ← e.2, Nat.zero_add] at hc
    exact hc
theorem below_setCells' {B : Nat} {a : World} (b : Nat) (hb : B ≤ b) : ∀ (vs : List Value) (o : Nat) {w : World}, Below B a w → Below B a (w.setCells b o vs)
  | [], _, _, h => h
  | v :: r, o, w, h => below_setCells' b hb r (o + 1) (h.setCell hb v)

theorem zero_int (w : World) : (zeroValue 3).run Try.prog w = .ok (.int .i64 0) w := rfl

set_option maxHeartbeats 4000000 in
theorem i_deleteFunc {W0 w : World} {base g n cap : Nat} {l : List Int} {fid : FuncId} {ca : Array Value} {p : Int → Bool} (hX : Ext W0 w) (hb : W0.heap.size ≤ base) (h : OwnI w base (.slice (some ⟨g, 0, none⟩) n cap) l) (hn : 0 < n) (hg : IsGo Try.prog fid) (hf : Asks Try.prog W0 fid ca p) :
    Calls Try.prog 173 #[.slice (some ⟨g, 0, none⟩) n cap, .func (.func fid) #[] ca] w fun e w' =>
      (∃ m, e = .returned (.slice (some ⟨g, 0, none⟩) m cap) ∧ OwnI w' base (.slice (some ⟨g, 0, none⟩) m cap) (l.filter fun x => !p x)) ∧ Ext W0 w' := by
  have hcap := h.ints.hcap
  have hmax := h.ints.hmax
  have hcf : ∀ (args : Array Value) (w : World), (callFunc fid args).run Try.prog w = .ok (.enter fid args) w := hg
  have HL := Lib.hid h.ints.hlen
  have HO := Lib.hid h
  have hbg := h.outS.1
  have HBG := Lib.hid hbg
  have HF := Lib.hid hf
  have HX := Lib.hid hX
  have HIX := Lib.hid (indexFunc_ints (w := w) h.ints hg (hf.ext hX))
  clear h hf hX hg hbg
  by_cases hany : ∃ i, l.findIdx? p = some i
  · obtain ⟨i0, hi0⟩ := hany
    have hix : indexF p l = (i0 : Int) := by unfold indexF; rw [hi0]
    obtain ⟨hil, hip, hia⟩ := List.findIdx?_eq_some_iff_getElem.1 hi0
    have hin : i0 < n := by rw [← HL.out]; exact hil
    have hall : (l.take i0).all (fun x => !p x) = true := by
      rw [List.all_eq_true]; intro x hx
      obtain ⟨j, hj, rfl⟩ := List.mem_take_iff_getElem.1 hx
      have := hia j (by omega)
      simpa using this
    have HK0 := Lib.hid (Kept.start (p := p) hil hall (by rw [List.getElem?_eq_getElem hil]; exact hip))
    rw [hix] at HIX
    clear hix hi0 hip hia hall hil
    go_enter Try.func173, Try.ntmps173
    go_wp2_with fail
    refine HIX.out.mono ?_
    rintro e w1 ⟨rfl, hx1⟩
    have HX1 := Lib.hid (HX.out.trans hx1)
    have HO1 := Lib.hid (HO.out.ext hx1)
    have hne : ((i0 : Int) == -1) = false := by simp
    clear hx1
    go_wp2_with fail
    go_loopg [5, 6] n (fun gk ii jj wr => ∃ (i j : Nat) (M : List Int), Hid (gk + j = n + i0 + 1) ∧ ii = .int .i64 (i : Int) ∧ jj = .int .i64 (j : Int) ∧ Hid (Kept p l M i j) ∧ Hid (i < j) ∧ Hid (OwnI wr base (.slice (some ⟨g, 0, none⟩) n cap) M) ∧ Hid (Ext W0 wr))
    case atStart => exact ⟨i0, i0 + 1, l, Lib.hid (by omega), rfl, by simp, HK0, Lib.hid (by omega), HO1, HX1⟩
    case round =>
      obtain ⟨g1, h_g1⟩ : ∃ x, x = gk := ⟨_, rfl⟩
      subst h_g1
      obtain ⟨wr1, h_wr1⟩ : ∃ x, x = wr := ⟨_, rfl⟩
      subst h_wr1
      obtain ⟨i, j, M, HJ, rfl, rfl, HK, HIJ, HM, HX2⟩ := hrel
      have hij := HIJ.out
      by_cases hlt : j < n
      · have hc := HM.out.outS.2.2.2 j hlt
        rw [HK.out.hi j (Nat.le_refl _)] at hc
        obtain ⟨x, hx⟩ : ∃ x, x = l[j]?.getD 0 := ⟨_, rfl⟩
        rw [← hx] at hc
        have HXX := Lib.hid hx
        have HC := Lib.hid (HF.out x wr1 HX2.out)
        have hjl : j < l.length := by rw [HL.out]; exact hlt
        clear hx
        cases hpx : p x
        · have HKN := Lib.hid (HK.out.keep hjl (by rw [← HXX.out]; exact hpx))
          rw [← HXX.out] at HKN
          rw [hpx] at HC
          clear hpx
          go_wp2_with fail
          refine HC.out.mono ?_
          rintro e w2 ⟨rfl, hx2⟩
          have HM2 := Lib.hid (HM.out.ext hx2)
          have hci := HM2.out.outS.2.2.2 i (by omega)
          have hfz := HM2.out.outS.2.2.1
          have hfi := hfz i
          have HM3 := Lib.hid (HM2.out.set i x)
          have HX3 := Lib.hid ((HX2.out.trans hx2).store i (Nat.le_trans hb HBG.out) (.int .i64 x))
          clear hx2 hfz
          go_wp2_with fail
          go_roundg (g1 - 1)
          case measure => have := HJ.out; omega
          case rel => exact ⟨i + 1, j + 1, _, Lib.hid (by have := HJ.out; omega), by go_num, by go_num, HKN, Lib.hid (by omega), HM3, HX3⟩
        · have HKN := Lib.hid (HK.out.drop hjl (by rw [← HXX.out]; exact hpx))
          rw [hpx] at HC
          clear hpx
          go_wp2_with fail
          refine HC.out.mono ?_
          rintro e w2 ⟨rfl, hx2⟩
          have HM2 := Lib.hid (HM.out.ext hx2)
          have HX3 := Lib.hid (HX2.out.trans hx2)
          clear hx2
          go_wp2_with fail
          go_roundg (g1 - 1)
          case measure => have := HJ.out; omega
          case rel => exact ⟨i, j + 1, _, Lib.hid (by have := HJ.out; omega), rfl, by go_num, HKN, Lib.hid (by omega), HM2, HX3⟩
      · have hjn : j = n := by have := HK.out.jl; have := HL.out; omega
        subst hjn
        have hcl : ∀ ty, (Builtin.clear_ #[34] ty #[.slice (some ⟨g, i, none⟩) (j - i) (cap - i)]).run Try.prog wr1 = .ok (.tuple #[]) (wr1.setCells g i (List.replicate (j - i) (.int .i64 0))) := fun ty => by
          refine Lib.run_clear_slice wr1 _ 3 ty _ Try.underlying34 zero_int rfl rfl g i _ _ (by omega) (fun k hk => ?_) (fun k hk => ?_)
          · rw [HM.out.outS.2.2.2 (i + k) (by omega)]; rfl
          · exact HM.out.outS.2.2.1 _
        obtain ⟨M', hM', hMt⟩ := OwnI.zeros (w := wr1) (j - i) (o := i) HM.out
        have HT := Lib.hid (show M'.take i = l.filter fun x => !p x by
          rw [hMt, HK.out.lo, List.take_of_length_le (by rw [HL.out]; exact Nat.le_refl _)])
        have HMF := Lib.hid hM'
        have HXF := Lib.hid (below_setCells' g (Nat.le_trans hb HBG.out) (List.replicate (j - i) (.int .i64 0)) i HX2.out)
        clear hMt hM'
        go_wp2_with fail
        go_ret
        exact ⟨⟨i, rfl, by rw [← HT.out]; exact HMF.out.takeO (by omega)⟩, HXF.out⟩
  · have hix : indexF p l = -1 := by
      unfold indexF
      cases hq : l.findIdx? p with
      | none => rfl
      | some i => exact absurd ⟨i, hq⟩ hany
    have HFI := Lib.hid (show l.filter (fun x => !p x) = l by
      rw [List.filter_eq_self]; intro x hx
      cases hq : l.findIdx? p with
      | none => have := List.findIdx?_eq_none_iff.1 hq x hx; simpa using this
      | some i => exact absurd ⟨i, hq⟩ hany)
    rw [hix] at HIX
    clear hix hany
    go_enter Try.func173, Try.ntmps173
    go_wp2_with fail
    refine HIX.out.mono ?_
    rintro e w1 ⟨rfl, hx1⟩
    have HX1 := Lib.hid (HX.out.trans hx1)
    have HO1 := Lib.hid (HO.out.ext hx1)
    clear hx1
    go_wp2_with fail
    go_ret
    exact ⟨⟨n, rfl, by rw [HFI.out]; exact HO1.out⟩, HX1.out⟩

/-- What a function value that asks of one level answers. -/
def AsksX (P : Program) (w : World) (fid : FuncId) (ca : Array Value) (p : Int × Int × Int → Bool) : Prop :=
  ∀ x y z (w1 : World), Ext w w1 → Calls P fid (#[.agg #[.int .i64 x, .int .i64 y, .int .i64 z]] ++ ca) w1 fun e w2 => e = .returned (.bool (p (x, y, z))) ∧ Ext w1 w2

set_option maxHeartbeats 1000000 in
theorem indexFunc_fixs {w : World} {a : Option Addr} {n cap : Nat} {l : List (Int × Int × Int)} {fid : FuncId} {ca : Array Value} {p : Int × Int × Int → Bool} (h : Fixs w a n cap l) (hg : IsGo Try.prog fid) (hf : AsksX Try.prog w fid ca p) :
    Calls Try.prog 190 #[.slice a n cap, .func (.func fid) #[] ca] w fun e w' => e = .returned (.int .i64 (indexF p l)) ∧ Ext w w' := by
  have hn := h.hcap
  have hm := h.hmax
  have hcf : ∀ (args : Array Value) (w : World), (callFunc fid args).run Try.prog w = .ok (.enter fid args) w := hg
  have HL := Lib.hid h.hlen
  have HI := Lib.hid h
  have HF := Lib.hid hf
  clear h hf hg
  go_enter Try.func190, Try.ntmps190
  go_wp2_with fail
  go_loopg [8] n (fun gk ii wr => ∃ k : Nat, Hid (gk + k = n) ∧ ii = .int .i64 (k : Int) ∧ Hid ((l.take k).all (fun x => !p x) = true) ∧ Hid (Ext w wr))
  case atStart => exact ⟨0, Lib.hid (by omega), rfl, Lib.hid rfl, Lib.hid (Ext.refl _)⟩
  case round =>
    obtain ⟨g1, h_g1⟩ : ∃ x, x = gk := ⟨_, rfl⟩
    subst h_g1
    obtain ⟨wr1, h_wr1⟩ : ∃ x, x = wr := ⟨_, rfl⟩
    subst h_wr1
    obtain ⟨k, HK, rfl, HA, HX⟩ := hrel
    by_cases hlt : k < n
    · obtain ⟨b, off, x, y, z, rfl, hxy, hc0, hc1, hc2⟩ := (HI.out.ext HX.out).at hlt
      have HC := Lib.hid (HF.out x y z wr1 HX.out)
      have hkl : k < l.length := by rw [HL.out]; exact hlt
      cases hb : p (x, y, z)
      all_goals rw [hb] at HC
      · have HT := Lib.hid (show (l.take (k + 1)).all (fun x => !p x) = true by rw [take_snocX hkl, List.all_append, HA.out, hxy]; simp [hb])
        clear hb hxy
        go_wp2_with fail
        refine HC.out.mono ?_
        rintro e w2 ⟨rfl, hx2⟩
        have HX2 := Lib.hid (HX.out.trans hx2)
        clear hx2
        go_wp2_with fail
        go_roundg (g1 - 1)
        case measure => have := HK.out; omega
        case rel => exact ⟨k + 1, Lib.hid (by have := HK.out; omega), by go_num, HT, HX2⟩
      · have HT := Lib.hid (show indexF p l = (k : Int) from indexF_at (d := (0, 0, 0)) hkl HA.out (by rw [hxy]; exact hb))
        clear hb hxy
        go_wp2_with fail
        refine HC.out.mono ?_
        rintro e w2 ⟨rfl, hx2⟩
        have HX2 := Lib.hid (HX.out.trans hx2)
        clear hx2
        go_wp2_with fail
        go_ret
        exact ⟨ret_int HT.out.symm, HX2.out⟩
    · have HT := Lib.hid (show l.take k = l from List.take_of_length_le (by rw [HL.out]; have := HK.out; omega))
      go_wp2_with fail
      go_ret
      exact ⟨ret_int (by rw [indexF_none]; have := HA.out; rwa [HT.out] at this), HX.out⟩

set_option maxHeartbeats 400000 in
theorem containsFunc_fixs {w : World} {a : Option Addr} {n cap : Nat} {l : List (Int × Int × Int)} {fid : FuncId} {ca : Array Value} {p : Int × Int × Int → Bool} (h : Fixs w a n cap l) (hg : IsGo Try.prog fid) (hf : AsksX Try.prog w fid ca p) :
    Calls Try.prog 176 #[.slice a n cap, .func (.func fid) #[] ca] w fun e w' => e = .returned (.bool (l.any p)) ∧ Ext w w' := by
  have HC := Lib.hid (indexFunc_fixs h hg hf)
  go_enter Try.func176, Try.ntmps176
  go_wp2_with fail
  refine HC.out.mono ?_
  rintro e w2 ⟨rfl, hx2⟩
  go_wp2
  all_goals go_ret; refine ⟨ret_bool ?_, hx2⟩; rw [← indexF_any]

theorem go_free11 : IsGo Try.prog 177 := isGo Try.func177 (by kernel_rfl) (by kernel_rfl)
theorem go_free1 : IsGo Try.prog 175 := isGo Try.func175 (by kernel_rfl) (by kernel_rfl)
set_option maxHeartbeats 400000 in
theorem i_free11 {w : World} (x y z s : Int) {b : Nat} (hc : w.cell? ⟨b, 0, none⟩ = some (.int .i64 s)) :
    Calls Try.prog 177 #[.agg #[.int .i64 x, .int .i64 y, .int .i64 z], .pointer (some ⟨b, 0, none⟩)] w fun e w' => e = .returned (.bool (x == s)) ∧ Ext w w' := by
  have HX := Lib.hid (Ext.alloc w (.cells #[.int .i64 x, .int .i64 y, .int .i64 z] 105))
  have hb : b < w.heap.size := World.block_lt_of_cell? _ _ hc
  cases hq : (x == s)
  all_goals
    go_enter Try.func177, Try.ntmps177
    go_wp2_with fail
    go_ret
    exact ⟨ret_bool rfl, HX.out⟩
set_option maxHeartbeats 400000 in
theorem i_free1 {w : World} (s : Int) {b : Nat} {a : Option Addr} {n cap : Nat} {L : List (Int × Int × Int)} (hc : w.cell? ⟨b, 0, none⟩ = some (.slice a n cap)) (h : Fixs w a n cap L) :
    Calls Try.prog 175 #[.int .i64 s, .pointer (some ⟨b, 0, none⟩)] w fun e w' => e = .returned (.bool (hasX L s)) ∧ Ext w w' := by
  have HX := Lib.hid (Ext.alloc w (.cells #[.int .i64 s] 3))
  have hb : b < w.heap.size := World.block_lt_of_cell? _ _ hc
  have HC := Lib.hid (containsFunc_fixs (ca := #[.pointer (some ⟨w.heap.size, 0, none⟩)]) (p := fun f => f.1 == s) (h.ext HX.out) go_free11 (fun x y z w1 hx => i_free11 x y z s (hx.cellSome (by simp))))
  clear h
  go_enter Try.func175, Try.ntmps175
  go_wp2_with fail
  refine HC.out.mono ?_
  rintro e w2 ⟨rfl, hx2⟩
  have HX2 := Lib.hid (HX.out.trans hx2)
  clear hx2
  go_wp2_with fail
  go_ret
  exact ⟨rfl, HX2.out⟩

set_option maxHeartbeats 2000000 in
theorem i_freeCoalitions {w : World} (x : Int) (a : Option Addr) (n cap : Nat) (h4 : 3 ≤ n) (hn : n ≤ 1000) {fa : Option Addr} {fn fcap : Nat} {L : List (Int × Int × Int)} (h : Fixs w fa fn fcap L) :
    Calls Try.prog 132 #[pair x a n cap, .slice fa fn fcap] w fun e w' => (∃ v, e = .returned v ∧ OwnI w' w.heap.size v (freeL L (n - 2))) ∧ Ext w w' := by
  obtain ⟨W, hW⟩ : ∃ W, W = (w.alloc (.cells #[.int .i64 x, .slice a n cap] 64)).alloc (.cells #[.slice fa fn fcap] 29) := ⟨_, rfl⟩
  have HWS := Lib.hid (show W.heap.size = w.heap.size + 2 by rw [hW]; simp)
  have HX0 := Lib.hid (show Ext w W by rw [hW]; exact (Ext.alloc _ _).trans (Ext.alloc _ _))
  have HWL := Lib.hid (show W.cell? ⟨w.heap.size + 1, 0, none⟩ = some (.slice fa fn fcap) by rw [hW]; simp)
  have HF := Lib.hid (h.ext HX0.out)
  have HA := Lib.hid (show Asks Try.prog W 175 #[.pointer (some ⟨w.heap.size + 1, 0, none⟩)] (hasX L) from fun s w1 hx => i_free1 s (hx.cellSome HWL.out) (HF.out.ext hx))
  have HC := Lib.hid (i_coalitions (w := W) 1 ((n : Int) - 2) (n - 2) (by omega) (by omega) (by omega) (by omega))
  rw [hW] at HC
  clear h
  go_enter Try.func132, Try.ntmps132
  go_wp2_with fail
  refine HC.out.mono ?_
  rw [← hW]
  clear hW
  rintro e w1 ⟨⟨v, rfl, ho⟩, hx1⟩
  obtain ⟨a1, m, c1, rfl, hm⟩ := ho.var
  have hm0 : 0 < m := by have := hm.out; rw [seqI_len] at this; omega
  obtain ⟨g, rfl, _, _, _⟩ := ho.block hm0
  have HD := Lib.hid (i_deleteFunc hx1 (Nat.le_refl _) ho hm0 go_free1 HA.out)
  clear ho hm hx1
  go_wp2_with fail
  refine HD.out.mono ?_
  rintro e w2 ⟨⟨m2, rfl, ho2⟩, hx2⟩
  have HO2 := Lib.hid ho2
  have HX2 := Lib.hid hx2
  clear ho2 hx2
  go_wp2_with fail
  go_ret
  exact ⟨⟨_, rfl, HO2.out.mono (by rw [HWS.out]; omega)⟩, HX0.out.trans HX2.out⟩

end Go.Proofs.Ytokpmflhgehicaa
