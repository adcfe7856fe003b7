/- Markets of a law's own: copied into blocks of their own, and marked. -/
import Derived.Test.YtokpmflhgehicaaOwn
import Derived.Test.YtokpmflhgehicaaMarket
namespace Go.Proofs.Ytokpmflhgehicaa
set_option linter.unusedVariables false
set_option linter.unusedSimpArgs false
open Go.RowKit

/-- The first k places hold copies of the first k rows, each in a block of its own behind B and behind those before it. -/
def FilledO (w : World) (B : Nat) (vs : List Value) (L : List (List Int)) (k : Nat) : Prop :=
  ∃ f : Nat → Nat, (∀ j, j < k → vs[j]? = some (.slice (some ⟨f j, 0, none⟩) (L[j]?.getD []).length (L[j]?.getD []).length) ∧ B < f j ∧ Row w (f j) 3 (L[j]?.getD [])) ∧ ∀ i j, i < j → j < k → f i < f j
theorem FilledO.ext {w w' : World} {B : Nat} {vs : List Value} {L : List (List Int)} {k : Nat} (h : FilledO w B vs L k) (hx : Ext w w') : FilledO w' B vs L k :=
  let ⟨f, h1, h2⟩ := h; ⟨f, fun j hj => let ⟨g1, g2, g3⟩ := h1 j hj; ⟨g1, g2, g3.ext hx⟩, h2⟩
def FilledO.bl (w : World) (B : Nat) (vs : List Value) (k b : Nat) : Prop := ∃ j m, j < k ∧ vs[j]? = some (.slice (some ⟨b, 0, none⟩) m m)
theorem FilledO.lt {w : World} {B : Nat} {vs : List Value} {L : List (List Int)} {k : Nat} (h : FilledO w B vs L k) (b : Nat) (hb : FilledO.bl w B vs k b) : b < w.heap.size := by
  obtain ⟨f, h1, _⟩ := h
  obtain ⟨j, m, hj, e⟩ := hb
  obtain ⟨g1, _, g3⟩ := h1 j hj
  rw [g1] at e
  simp only [Option.some.injEq, Value.slice.injEq, Addr.mk.injEq, and_true] at e
  rw [← e.1]
  exact g3.lt
theorem FilledO.snoc {w : World} {B : Nat} {vs : List Value} {L : List (List Int)} {k : Nat} (h : FilledO w B vs L k) (hv : k < vs.length) {b m : Nat} (hb : B < b) (hm : (L[k]?.getD []).length = m) (hr : Row w b 3 (L[k]?.getD []))
    (hnew : ∀ c, FilledO.bl w B vs k c → c < b) : FilledO (w.setCell ⟨B, k, none⟩ (.slice (some ⟨b, 0, none⟩) m m)) B (vs.set k (.slice (some ⟨b, 0, none⟩) m m)) L (k + 1) := by
  obtain ⟨f, h1, h2⟩ := h
  refine ⟨fun j => if j = k then b else f j, fun j hj => ?_, fun i j hij hj => ?_⟩
  · by_cases hjk : j = k
    · subst hjk
      simp only [if_true]
      exact ⟨by simp [hv, hm], hb, hr.other (by simp; omega) _⟩
    · obtain ⟨g1, g2, g3⟩ := h1 j (by omega)
      simp only [if_neg hjk]
      exact ⟨by rw [List.getElem?_set_ne (by omega)]; exact g1, g2, g3.other (by simp; omega) _⟩
  · by_cases hjk : j = k
    · subst hjk
      have hi : ¬ i = j := by omega
      simp only [if_neg hi, if_true]
      obtain ⟨g1, _, _⟩ := h1 i (by omega)
      exact hnew _ ⟨i, _, by omega, g1⟩
    · have hi : ¬ i = k := by omega
      simp only [if_neg hi, if_neg hjk]
      exact h2 i j hij (by omega)
theorem VRow.ownV {w : World} {b : Nat} {vs : List Value} {n base : Nat} (h : VRow w b 34 vs) (hn : vs.length = n) (hm : n ≤ 1099511627776) (hb : base ≤ b := by omega) : OwnV w base (.slice (some ⟨b, 0, none⟩) n n) vs := by
  subst hn
  refine ⟨by simp, .inr ⟨b, vs.length, vs.toArray, rfl, hb, h, Nat.le_refl _, by simp [maxLen]; omega, by simp, by simp [List.take_of_length_le]⟩⟩
theorem FilledO.rows {w : World} {B n : Nat} {vs : List Value} {L : List (List Int)} (h : FilledO w B vs L n) (hL : L.length = n) (hV : vs.length = n) (hbb : ∀ l ∈ L, l.length ≤ 1099511627776) : RowsI w B vs L := by
  obtain ⟨f, h1, h2⟩ := h
  refine ⟨by omega, fun i hi => ?_, fun i j k hij hj hk => ?_⟩
  · obtain ⟨g1, g2, g3⟩ := h1 i (by omega)
    rw [g1]
    simp only [Option.getD_some]
    refine g3.own (by omega) rfl ?_
    simp only [hi, List.getElem?_eq_getElem, Option.getD_some]
    exact hbb _ (List.getElem_mem hi)
  · obtain ⟨g1, _, _⟩ := h1 i (by omega)
    obtain ⟨g1', _, _⟩ := h1 j (by omega)
    intro hk'
    rw [g1] at hk
    rw [g1'] at hk'
    have e1 := Option.some.inj (show some (f i) = some k from hk)
    have e2 := Option.some.inj (show some (f j) = some k from hk')
    have := h2 i j hij (by omega)
    omega
theorem OwnV.mono {w : World} {base base' : Nat} {v : Value} {vs : List Value} (h : OwnV w base v vs) (hb : base' ≤ base) : OwnV w base' v vs := by
  refine ⟨h.1, ?_⟩
  rcases h.2 with hn | ⟨g, cap, cur, rfl, hbb, rest⟩
  · exact .inl hn
  · exact .inr ⟨g, cap, cur, rfl, by omega, rest⟩
theorem OwnSS.mono {w : World} {base base' : Nat} {v : Value} {L : List (List Int)} (h : OwnSS w base v L) (hb : base' ≤ base) : OwnSS w base' v L :=
  let ⟨vs, h1, h2⟩ := h; ⟨vs, h1.mono hb, h2.len, fun i hi => (h2.row i hi).mono hb, h2.apart⟩
/-- .. whose rows lie before top. -/
def OwnSSt (w : World) (base top : Nat) (v : Value) (L : List (List Int)) : Prop := ∃ vs, OwnV w base v vs ∧ RowsI w base vs L ∧ ∀ i k, i < L.length → (vs[i]?.getD undef).ownBlock = some k → k < top
theorem OwnSSt.own {w : World} {base top : Nat} {v : Value} {L : List (List Int)} (h : OwnSSt w base top v L) : OwnSS w base v L := let ⟨vs, h1, h2, _⟩ := h; ⟨vs, h1, h2⟩
theorem OwnSS.top {w : World} {base : Nat} {v : Value} {L : List (List Int)} (h : OwnSS w base v L) : OwnSSt w base w.heap.size v L := let ⟨vs, h1, h2⟩ := h; ⟨vs, h1, h2, fun i k hi hk => ((h2.row i hi).lt k hk).2⟩
theorem OwnSSt.ext {w w' : World} {base top : Nat} {v : Value} {L : List (List Int)} (h : OwnSSt w base top v L) (hx : Ext w w') : OwnSSt w' base top v L := let ⟨vs, h1, h2, h3⟩ := h; ⟨vs, h1.ext hx, h2.ext hx, h3⟩

set_option maxHeartbeats 400000 in
theorem l_toIntSSo {w : World} {a : Option Addr} {n cap : Nat} {L : List (List Int)} (h : IntSS w a n cap L) (hb : n ≤ 1099511627776) (hbb : ∀ l ∈ L, l.length ≤ 1099511627776) :
    Calls Try.prog 95 #[.slice a n cap] w fun e w' => ∃ b, e = .returned (.slice (some ⟨b, 0, none⟩) n n) ∧ OwnSS w' w.heap.size (.slice (some ⟨b, 0, none⟩) n n) L ∧ Ext w w' := by
  have hn := h.hcap
  have hm := h.hmax
  have hmk := mk_slices n hb
  have HL := Lib.hid h.hlen
  go_enter Try.func95, Try.ntmps95
  go_wp2
  go_loopw [4] (fun i wr => ∃ (k : Nat) (vs : List Value), k ≤ n ∧ i = .int .i64 k ∧ Hid (vs.length = n) ∧ VRow wr w.heap.size 34 vs ∧ FilledO wr w.heap.size vs L k ∧ Ext w wr) (fun i _ => n - (intOf i).toNat)
  case atStart => exact ⟨0, List.replicate n (.slice none 0 0), Nat.zero_le _, rfl, Lib.hid (by simp), by unfold VRow; rw [heap_alloc_new]; simp, ⟨fun _ => 0, fun j hj => absurd hj (by omega), fun i j _ hj => absurd hj (by omega)⟩, Ext.alloc _ _⟩
  case round =>
    obtain ⟨k, vs, hk, rfl, HV, hrow, hfill, hx⟩ := hrel
    by_cases hlt : k < n
    · have h' := h.ext hx
      obtain ⟨b, off, a', n', c', rfl, hc, hr⟩ := h'.at hlt
      have hlen : (L[k]?.getD []).length ≤ 1099511627776 := by
        have : k < L.length := by have := HL.out; omega
        simp only [this, List.getElem?_eq_getElem, Option.getD_some]
        exact hbb _ (List.getElem_mem _)
      have hn' : n' ≤ 1099511627776 := by rw [← hr.hlen]; exact hlen
      have HR := Lib.hid hr.hlen
      clear hlen
      go_wp2_with fail
      refine (l_toIntS hr hn').mono ?_
      rintro e w1 ⟨b1, rfl, hrow1, hb1, hx1⟩
      have hrow' := hrow.ext hx1
      have hlt1 := hrow.lt
      have hold : ∃ v, w1.cell? ⟨w.heap.size, k, none⟩ = some v := by
        rw [hrow'.cell k]
        exact ⟨vs[k]'(by have := HV.out; omega), List.getElem?_eq_getElem _⟩
      obtain ⟨v0, hold⟩ := hold
      have hfree := hrow'.free k
      go_wp2
      go_roundw
      case rel =>
        refine ⟨k + 1, vs.set k (.slice (some ⟨b1, 0, none⟩) n' n'), by omega, by go_num, Lib.hid (by simp [HV.out]), hrow'.set k _, ?_, (hx.trans hx1).setCell (Nat.le_refl _) _⟩
        exact (hfill.ext hx1).snoc (by have := HV.out; omega) (by omega) HR.out hrow1 (fun b hb => by have h1 := hfill.lt b hb; omega)
      case measure => simp [intOf]; omega
    · go_wp2
      go_ret
      have hkn : k = n := by omega
      subst hkn
      exact ⟨_, rfl, ⟨vs, hrow.ownV HV.out (by omega), hfill.rows HL.out HV.out hbb⟩, hx⟩

set_option maxHeartbeats 400000 in
theorem l_markIntSSt {w : World} {base : Nat} {a : Option Addr} {n cap : Nat} {L : List (List Int)} {top : Nat} (h : OwnSSt w base top (.slice a n cap) L) (k0 : Int) (h0 : 0 ≤ k0) (h1 : k0 + cnt L ≤ 4611686018427387904) :
    Calls Try.prog 102 #[.slice a n cap, .int .i64 k0] w fun e w' => e = .returned (.int .i64 (k0 + cnt L)) ∧ Below base w w' ∧ (∀ k, top ≤ k → k < w.heap.size → w'.heap[k]? = w.heap[k]?) ∧ w'.heap.size = w.heap.size := by
  have hI := h.own.intss
  have hcap := hI.hcap
  have hmax := hI.hmax
  have HL := Lib.hid hI.hlen
  obtain ⟨vs, hv, hr, ht⟩ := h
  have HT := Lib.hid ht
  clear ht
  clear hI
  go_enter Try.func102, Try.ntmps102
  go_wp2
  go_loopw [1, 5] (fun t i wr => ∃ (k : Nat) (z : Int), k ≤ n ∧ i = .int .i64 k ∧ t = .int .i64 z ∧ Hid (z = k0 + cnt (L.take k)) ∧ OwnV wr base (.slice a n cap) vs ∧ RowsI wr base vs (markSS k0 L k) ∧ Below base w wr ∧ Hid (∀ k, top ≤ k → k < w.heap.size → wr.heap[k]? = w.heap[k]?) ∧ Hid (wr.heap.size = w.heap.size)) (fun _ i _ => n - (intOf i).toNat)
  case atStart => exact ⟨0, k0, Nat.zero_le _, rfl, rfl, Lib.hid (by simp [cnt]), hv, by simpa [markSS, numb] using hr, Below.refl _ _, Lib.hid (fun _ _ _ => rfl), Lib.hid rfl⟩
  case round =>
    obtain ⟨k, z, hk, rfl, rfl, HZ, hv', hr', hb, HTT, HS⟩ := hrel
    by_cases hlt : k < n
    · obtain ⟨g, rfl, hbg, hc⟩ := hv'.cell hlt
      have hkl : k < L.length := by have := HL.out; omega
      have hrow := hr'.row k (by rw [markSS_len _ _ _ (by omega)]; exact hkl)
      rw [markSS_lo _ _ _ _ (Nat.le_refl _) hkl] at hrow
      obtain ⟨a1, c1, he, _⟩ := hrow.form
      have hck : wr.cell? ⟨g, k, none⟩ = some (.slice a1 (L[k]?.getD []).length c1) := by
        rw [hc k hlt, ← he]
        have : k < vs.length := by rw [hr'.len, markSS_len _ _ _ (by omega)]; exact hkl
        simp [this]
      have hrow' := hrow
      rw [he] at hrow'
      have hz0 : 0 ≤ z := by rw [HZ.out]; have := cnt_nonneg (L.take k); omega
      have hz1 : z + ((L[k]?.getD []).length : Int) ≤ 4611686018427387904 := by
        rw [HZ.out]
        have := cnt_take_le L (k + 1)
        rw [cnt_take_succ L k hkl] at this
        omega
      have HR := Lib.hid hr'
      have HE := Lib.hid he
      have HV := Lib.hid hv'
      have HRW := Lib.hid hrow'
      have HB := Lib.hid hb
      obtain ⟨m, hm⟩ : ∃ m, m = (L[k]?.getD []).length := ⟨_, rfl⟩
      rw [← hm] at hck HRW hz1
      have HM := Lib.hid hm
      clear hr' hrow hrow' hc hv' hb hm he
      go_wp2_with fail
      refine (l_markIntS HRW.out z hz0 hz1).mono ?_
      rintro e w1 ⟨rfl, ho, hg, hsz⟩
      have HG := Lib.hid hg
      have HO := Lib.hid ho
      have HSZ := Lib.hid hsz
      clear hg ho hsz
      go_wp2
      go_roundw
      case rel =>
        refine ⟨k + 1, z + m, by omega, by go_num, rfl, Lib.hid ?_, ?_, ?_, ?_, Lib.hid (fun j hj hj2 => (HG.out.block j (by have := HS.out; omega) (fun e => by have h1 := HT.out k j hkl (by rw [HE.out, ← HM.out]; exact e.symm); omega)).trans (HTT.out j hj hj2)), Lib.hid ?_⟩
        · rw [cnt_take_succ L k hkl, HZ.out, HM.out]; omega
        · refine HV.out.keep fun j hj => HG.out.block j (HV.out.lt j hj).2 fun e => ?_
          exact HRW.out.apart HV.out j e.symm hj
        · refine HR.out.marked hkl ?_ ?_
          · rw [HE.out, ← HM.out, ← HZ.out]; exact HO.out
          · rw [HE.out, ← HM.out]; exact HG.out
        · have hl := fun j hj => (HRW.out.lt j hj).1
          refine HB.out.trans ⟨HG.out.os, HG.out.tape, HG.out.output, HG.out.size, fun j hj => ?_⟩
          by_cases hjs : j < wr.heap.size
          · exact HG.out.block j hjs fun e => by have := hl j e.symm; omega
          · rw [Array.getElem?_eq_none (by have := HSZ.out; omega), Array.getElem?_eq_none (by omega)]
        · rw [HSZ.out, HS.out]
      case measure => simp [intOf]; omega
    · have HR := Lib.hid hr'
      have HV := Lib.hid hv'
      have HB := Lib.hid hb
      clear hr' hv' hb
      go_wp2
      go_ret
      have hkl : k = L.length := by have := HL.out; omega
      refine ⟨ret_int ?_, HB.out, HTT.out, HS.out⟩
      rw [HZ.out, hkl, List.take_length]

set_option maxHeartbeats 400000 in
theorem l_toMarketO {w : World} {x y : Int} {a : Option Addr} {n cap : Nat} {L : List (List Int)} (h : IntSS w a n cap L) (hb : n ≤ 1099511627776) (hbb : ∀ l ∈ L, l.length ≤ 1099511627776) :
    Calls Try.prog 30 #[triple x y a n cap] w fun e w' => ∃ b, e = .returned (triple x y (some ⟨b, 0, none⟩) n n) ∧ OwnSS w' w.heap.size (.slice (some ⟨b, 0, none⟩) n n) L ∧ Ext w w' := by
  have HB := Lib.hid hbb
  clear hbb
  go_enter Try.func30, Try.ntmps30
  go_wp2_with fail
  refine (l_toIntSSo (h.ext ?hx1) hb HB.out).mono ?_
  case hx1 => exact (((Ext.alloc _ _).trans (Ext.alloc _ _)).trans (Ext.alloc _ _))
  rintro e w1 ⟨b, rfl, hrow, hx⟩
  have hcs := hx.cells
  have hfs := hx.frozens
  have HX := Lib.hid hx
  have HR := Lib.hid hrow.on
  clear hx hrow
  go_wp2
  refine bodyPost_ret (v := triple x y (some ⟨b, 0, none⟩) n n) (by simp [results, Try.results30, go_sem, hcs]) rfl ⟨b, rfl, ?_, ?_⟩
  · exact OwnSS.mono (On.here ((((HR.out.set (by simp) _).set (by simp) _).set (by simp) _).set (by simp) _)) (by simp; omega)
  · exact ((((((Ext.alloc _ _).trans (Ext.alloc _ _)).trans (Ext.alloc _ _)).trans HX.out).setCell (by simp; omega) _).setCell (by simp) _ |>.setCell (by simp) _).setCell (by simp) _


set_option maxHeartbeats 400000 in
theorem l_markMarket {w : World} {x y : Int} {base top : Nat} {a : Option Addr} {n cap : Nat} {L : List (List Int)} (h : OwnSSt w base top (.slice a n cap) L) (hb : base ≤ w.heap.size) (k0 : Int) (h0 : 0 ≤ k0) (h1 : k0 + cnt L ≤ 4611686018427387904) :
    Calls Try.prog 34 #[triple x y a n cap, .int .i64 k0] w fun e w' => e = .returned (.int .i64 (k0 + cnt L)) ∧ Below base w w' ∧ ∀ k, top ≤ k → k < w.heap.size → w'.heap[k]? = w.heap[k]? := by
  have HX := Lib.hid (Ext.alloc w (.cells #[.int .i64 x, .int .i64 y, .slice a n cap] 53))
  have HO := Lib.hid (h.ext HX.out)
  clear h
  go_enter Try.func34, Try.ntmps34
  go_wp2_with fail
  refine (l_markIntSSt HO.out k0 h0 h1).mono ?_
  rintro e w1 ⟨rfl, hbl, hf, hs⟩
  have HB := Lib.hid ((Below.mono HX.out hb).trans hbl)
  have HF := Lib.hid (fun k h1 h2 => (hf k h1 (Nat.lt_of_lt_of_le h2 HX.out.size)).trans (HX.out.block k h2))
  clear hbl hf hs
  go_wp2
  go_ret
  exact ⟨rfl, HB.out, HF.out⟩

end Go.Proofs.Ytokpmflhgehicaa
