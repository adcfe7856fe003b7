/- Linear programs in the laws: compared, marked, looked at again. -/
import Derived.Test.YtokpmflhgehicaaLpO
import Derived.Test.YtokpmflhgehicaaOwnR
namespace Go.Proofs.Ytokpmflhgehicaa
set_option linter.unusedVariables false
set_option linter.unusedSimpArgs false
open Go.RowKit

set_option maxHeartbeats 400000 in
theorem l_markIntSSv {w : World} {base : Nat} {a : Option Addr} {n cap : Nat} {L : List (List Int)} {vs : List Value} (hv : OwnV w base (.slice a n cap) vs) (hr : RowsI w base vs L) (k0 : Int) (h0 : 0 ≤ k0) (h1 : k0 + cnt L ≤ 4611686018427387904) :
    Calls Try.prog 102 #[.slice a n cap, .int .i64 k0] w fun e w' => e = .returned (.int .i64 (k0 + cnt L)) ∧ OwnV w' base (.slice a n cap) vs ∧ RowsI w' base vs (numb k0 L) ∧ (∀ j, j < w.heap.size → (∀ i, i < L.length → (vs[i]?.getD undef).ownBlock ≠ some j) → w'.heap[j]? = w.heap[j]?) ∧ Below base w w' ∧ w'.heap.size = w.heap.size := by
  have hI := OwnSS.intss ⟨vs, hv, hr⟩
  have hcap := hI.hcap
  have hmax := hI.hmax
  have HL := Lib.hid hI.hlen
  clear hI
  go_enter Try.func102, Try.ntmps102
  go_wp2
  go_loopw [1, 5] (fun t i wr => ∃ (k : Nat) (z : Int), k ≤ n ∧ i = .int .i64 k ∧ t = .int .i64 z ∧ Hid (z = k0 + cnt (L.take k)) ∧ OwnV wr base (.slice a n cap) vs ∧ RowsI wr base vs (markSS k0 L k) ∧ Hid (∀ j, j < w.heap.size → (∀ i, i < L.length → (vs[i]?.getD undef).ownBlock ≠ some j) → wr.heap[j]? = w.heap[j]?) ∧ Below base w wr ∧ Hid (wr.heap.size = w.heap.size)) (fun _ i _ => n - (intOf i).toNat)
  case atStart => exact ⟨0, k0, Nat.zero_le _, rfl, rfl, Lib.hid (by simp [cnt]), hv, by simpa [markSS, numb] using hr, Lib.hid (fun _ _ _ => rfl), Below.refl _ _, Lib.hid rfl⟩
  case round =>
    obtain ⟨k, z, hk, rfl, rfl, HZ, hv', hr', HF, hb, HS⟩ := hrel
    by_cases hlt : k < n
    · obtain ⟨g, rfl, hbg, hc⟩ := hv'.cell hlt
      have hkl : k < L.length := by have := HL.out; omega
      have hrow := hr'.row k (by rw [markSS_len _ _ _ (by omega)]; exact hkl)
      rw [markSS_lo _ _ _ _ (Nat.le_refl _) hkl] at hrow
      obtain ⟨a1, c1, he, _⟩ := hrow.form
      have hck : wr.cell? ⟨g, k, none⟩ = some (.slice a1 (L[k]?.getD []).length c1) := by
        rw [hc k hlt, ← he]
        have : k < vs.length := by rw [hr'.len, markSS_len _ _ _ (by omega)]; exact hkl
        simp [this]
      have hrow' := hrow
      rw [he] at hrow'
      have hz0 : 0 ≤ z := by rw [HZ.out]; have := cnt_nonneg (L.take k); omega
      have hz1 : z + ((L[k]?.getD []).length : Int) ≤ 4611686018427387904 := by
        rw [HZ.out]
        have := cnt_take_le L (k + 1)
        rw [cnt_take_succ L k hkl] at this
        omega
      have HR := Lib.hid hr'
      have HE := Lib.hid he
      have HV := Lib.hid hv'
      have HRW := Lib.hid hrow'
      have HB := Lib.hid hb
      obtain ⟨m, hm⟩ : ∃ m, m = (L[k]?.getD []).length := ⟨_, rfl⟩
      rw [← hm] at hck HRW hz1
      have HM := Lib.hid hm
      clear hr' hrow hrow' hc hv' hb hm he
      go_wp2_with fail
      refine (l_markIntS HRW.out z hz0 hz1).mono ?_
      rintro e w1 ⟨rfl, ho, hg, hsz⟩
      have HG := Lib.hid hg
      have HO := Lib.hid ho
      have HSZ := Lib.hid hsz
      clear hg ho hsz
      go_wp2
      go_roundw
      case rel =>
        refine ⟨k + 1, z + m, by omega, by go_num, rfl, Lib.hid ?_, ?_, ?_, Lib.hid ?_, ?_, Lib.hid ?_⟩
        · rw [cnt_take_succ L k hkl, HZ.out, HM.out]; omega
        · refine HV.out.keep fun j hj => HG.out.block j (HV.out.lt j hj).2 fun e => ?_
          exact HRW.out.apart HV.out j e.symm hj
        · refine HR.out.marked hkl ?_ ?_
          · rw [HE.out, ← HM.out, ← HZ.out]; exact HO.out
          · rw [HE.out, ← HM.out]; exact HG.out
        · intro j hj hne
          refine (HG.out.block j (by have := HS.out; omega) fun e => ?_).trans (HF.out j hj hne)
          have := hne k hkl
          rw [HE.out, ← HM.out] at this
          exact this e.symm
        · have hl := fun j hj => (HRW.out.lt j hj).1
          refine HB.out.trans ⟨HG.out.os, HG.out.tape, HG.out.output, HG.out.size, fun j hj => ?_⟩
          by_cases hjs : j < wr.heap.size
          · exact HG.out.block j hjs fun e => by have := hl j e.symm; omega
          · rw [Array.getElem?_eq_none (by have := HSZ.out; omega), Array.getElem?_eq_none (by omega)]
        · rw [HSZ.out, HS.out]
      case measure => simp [intOf]; omega
    · have HR := Lib.hid hr'
      have HV := Lib.hid hv'
      have HB := Lib.hid hb
      clear hr' hv' hb
      go_wp2
      go_ret
      have hkl : k = L.length := by have := HL.out; omega
      refine ⟨ret_int ?_, HV.out, ?_, HF.out, HB.out, HS.out⟩
      · rw [HZ.out, hkl, List.take_length]
      · have := HR.out
        rwa [hkl, markSS_all] at this


/-- A linear program whose parts can be read. -/
structure LpI (w : World) (a : Option Addr) (na ca : Nat) (b : Option Addr) (nb cb : Nat) (c : Option Addr) (nc cc : Nat) (A : List (List Int)) (B : List Int) (C : List (Int × Int)) : Prop where
  a : IntSS w a na ca A
  b : Ints w b nb cb B
  c : Rats w c nc cc C
theorem LpI.ext {w w' : World} {a : Option Addr} {na ca : Nat} {b : Option Addr} {nb cb : Nat} {c : Option Addr} {nc cc : Nat} {A : List (List Int)} {B : List Int} {C : List (Int × Int)} (h : LpI w a na ca b nb cb c nc cc A B C) (hx : Ext w w') : LpI w' a na ca b nb cb c nc cc A B C := ⟨h.a.ext hx, h.b.ext hx, h.c.ext hx⟩
abbrev lpV (a : Option Addr) (na ca : Nat) (b : Option Addr) (nb cb : Nat) (c : Option Addr) (nc cc : Nat) : Value := .agg #[.slice a na ca, .slice b nb cb, .slice c nc cc]

set_option maxHeartbeats 1000000 in
theorem l_eqLP {w : World} {a : Option Addr} {na ca : Nat} {b : Option Addr} {nb cb : Nat} {c : Option Addr} {nc cc : Nat} {a' : Option Addr} {na' ca' : Nat} {b' : Option Addr} {nb' cb' : Nat} {c' : Option Addr} {nc' cc' : Nat} {A : List (List Int)} {B : List Int} {C : List (Int × Int)}
    (h : LpI w a na ca b nb cb c nc cc A B C) (h' : LpI w a' na' ca' b' nb' cb' c' nc' cc' A B C) :
    Calls Try.prog 56 #[lpV a na ca b nb cb c nc cc, lpV a' na' ca' b' nb' cb' c' nc' cc'] w fun e w' => e = .returned (.bool true) ∧ Ext w w' := by
  have hx0 : Ext w ((w.alloc (.cells #[.slice a na ca, .slice b nb cb, .slice c nc cc] 81)).alloc (.cells #[.slice a' na' ca', .slice b' nb' cb', .slice c' nc' cc'] 81)) := (Ext.alloc _ _).trans (Ext.alloc _ _)
  have HX0 := Lib.hid hx0
  have H := Lib.hid (h.ext hx0)
  have H' := Lib.hid (h'.ext hx0)
  have HE := Lib.hid (l_eqIntSS H.out.a H'.out.a)
  rw [decide_eq_true (rfl : A = A)] at HE
  clear h h' hx0
  go_enter Try.func56, Try.ntmps56
  go_wp2_with fail
  refine HE.out.mono ?_
  rintro e w1 ⟨rfl, hx1⟩
  have hx1 := hx1.ext
  have HX1 := Lib.hid hx1
  have k0 : w1.cell? ⟨w.heap.size, 1, none⟩ = some (.slice b nb cb) := hx1.cellSome (by simp)
  have k1 : w1.cell? ⟨w.heap.size + 1, 1, none⟩ = some (.slice b' nb' cb') := hx1.cellSome (by simp)
  have k2 : w1.cell? ⟨w.heap.size, 2, none⟩ = some (.slice c nc cc) := hx1.cellSome (by simp)
  have k3 : w1.cell? ⟨w.heap.size + 1, 2, none⟩ = some (.slice c' nc' cc') := hx1.cellSome (by simp)
  have HE2 := Lib.hid (l_eqIntS (H.out.b.ext hx1) (H'.out.b.ext hx1))
  rw [decide_eq_true (rfl : B = B)] at HE2
  clear hx1
  go_wp2_with fail
  refine HE2.out.mono ?_
  rintro e w2 ⟨rfl, hx2⟩
  have hx2 := hx2.ext
  replace k2 := hx2.cellSome k2
  replace k3 := hx2.cellSome k3
  have HX2 := Lib.hid (HX1.out.trans hx2)
  have HE3 := Lib.hid (l_eqRatS ((H.out.c.ext HX1.out).ext hx2) ((H'.out.c.ext HX1.out).ext hx2))
  rw [decide_eq_true (rfl : C = C)] at HE3
  clear hx2 k0 k1
  go_wp2_with fail
  refine HE3.out.mono ?_
  rintro e w3 ⟨rfl, hx3⟩
  have HX3 := Lib.hid (HX2.out.trans hx3)
  clear hx3
  go_wp2_with fail
  go_ret
  exact ⟨rfl, HX0.out.trans HX3.out⟩

/-- The parts are owned and apart. -/
structure LpP (w : World) (base : Nat) (a : Option Addr) (na ca : Nat) (b : Option Addr) (nb cb : Nat) (c : Option Addr) (nc cc : Nat) (vs : List Value) (A : List (List Int)) (B : List Int) (C : List (Int × Int)) : Prop where
  pa : OwnV w base (.slice a na ca) vs
  rows : RowsI w base vs A
  pb : OwnI w base (.slice b nb cb) B
  pc : OwnR w base (.slice c nc cc) C
  off : OffV vs (.slice b nb cb)
section
variable {w : World} {base : Nat} {a : Option Addr} {na ca : Nat} {b : Option Addr} {nb cb : Nat} {c : Option Addr} {nc cc : Nat} {vs : List Value} {A : List (List Int)} {B : List Int} {C : List (Int × Int)}
theorem LpP.ext {w' : World} (h : LpP w base a na ca b nb cb c nc cc vs A B C) (hx : Ext w w') : LpP w' base a na ca b nb cb c nc cc vs A B C := ⟨h.pa.ext hx, h.rows.ext hx, h.pb.ext hx, h.pc.ext hx, h.off⟩
theorem LpP.keep {w' : World} (h : LpP w base a na ca b nb cb c nc cc vs A B C) (hk : ∀ k, base ≤ k → k < w.heap.size → w'.heap[k]? = w.heap[k]?) : LpP w' base a na ca b nb cb c nc cc vs A B C :=
  ⟨h.pa.keep fun k e => hk k (h.pa.lt k e).1 (h.pa.lt k e).2, h.rows.keep fun i k hi e => hk k ((h.rows.row i hi).lt k e).1 ((h.rows.row i hi).lt k e).2, h.pb.keep fun k e => hk k (h.pb.lt k e).1 (h.pb.lt k e).2, h.pc.keep fun k e => hk k (h.pc.lt k e).1 (h.pc.lt k e).2, h.off⟩
theorem LpP.lpI (h : LpP w base a na ca b nb cb c nc cc vs A B C) : LpI w a na ca b nb cb c nc cc A B C := ⟨OwnSS.intss ⟨vs, h.pa, h.rows⟩, h.pb.ints, h.pc.rats⟩
theorem LpP.mono {base' : Nat} (h : LpP w base a na ca b nb cb c nc cc vs A B C) (hb : base' ≤ base) : LpP w base' a na ca b nb cb c nc cc vs A B C := ⟨h.pa.mono' hb, h.rows.mono' hb, h.pb.mono hb, h.pc.mono hb, h.off⟩

set_option maxHeartbeats 1000000 in
theorem l_markLP (h : LpP w base a na ca b nb cb c nc cc vs A B C) (k0 : Int) (h0 : 0 ≤ k0) (h1 : k0 + cnt A + nb + 2 * nc ≤ 4611686018427387904) (hbs : base ≤ w.heap.size) :
    Calls Try.prog 59 #[lpV a na ca b nb cb c nc cc, .int .i64 k0] w fun e w' => e = .returned (.int .i64 (k0 + cnt A + nb + 2 * nc)) ∧ LpI w' a na ca b nb cb c nc cc (numb k0 A) (seqI (k0 + cnt A) nb) (seqR (k0 + cnt A + nb) nc) ∧ Below base w w' ∧ (∀ j, j < w.heap.size → (∀ i, i < A.length → (vs[i]?.getD undef).ownBlock ≠ some j) → (Value.slice b nb cb).ownBlock ≠ some j → (Value.slice c nc cc).ownBlock ≠ some j → w'.heap[j]? = w.heap[j]?) := by
  have hc0 := cnt_nonneg A
  obtain ⟨W, hW⟩ : ∃ W, W = w.alloc (.cells #[.slice a na ca, .slice b nb cb, .slice c nc cc] 81) := ⟨_, rfl⟩
  have HX := Lib.hid (show Ext w W by rw [hW]; exact Ext.alloc _ _)
  have HS := Lib.hid (show W.heap.size = w.heap.size + 1 by rw [hW]; simp)
  have HBX := Lib.hid (show W.heap[w.heap.size]? = some (.cells #[.slice a na ca, .slice b nb cb, .slice c nc cc] 81 (0, 0)) by rw [hW]; exact heapA_new _ _ _ rfl)
  have HP := Lib.hid (h.ext HX.out)
  have HLT := Lib.hid (fun (i k : Nat) (hi : i < A.length) (e : (vs[i]?.getD undef).ownBlock = some k) => ((h.rows.row i hi).lt k e).2)
  have HLB := Lib.hid (fun (k : Nat) (e : (Value.slice b nb cb).ownBlock = some k) => (h.pb.lt k e).2)
  have HLC := Lib.hid (fun (k : Nat) (e : (Value.slice c nc cc).ownBlock = some k) => (h.pc.lt k e).2)
  have HM := Lib.hid (l_markIntSSv HP.out.pa HP.out.rows k0 h0 (by omega))
  obtain ⟨z, hz⟩ : ∃ z, z = k0 + cnt A := ⟨_, rfl⟩
  rw [← hz] at HM h1
  rw [← hz]
  have HZ := Lib.hid hz
  have hz0 : 0 ≤ z := by omega
  rw [hW] at HM
  clear h hz hc0
  go_enter Try.func59, Try.ntmps59
  go_wp2_with fail
  refine HM.out.mono ?_
  rw [← hW]
  clear hW
  rintro e w1 ⟨rfl, ha, hr, hf, hb1, hsz⟩
  have hbx1 : w1.heap[w.heap.size]? = some (.cells #[.slice a na ca, .slice b nb cb, .slice c nc cc] 81 (0, 0)) :=
    (hf _ (by rw [HS.out]; omega) fun i hi e => by have := HLT.out i _ hi e; omega).trans HBX.out
  have HB1 := Lib.hid (HP.out.pb.keep fun k hk => hf k (HP.out.pb.lt k hk).2 fun i hi e => HP.out.off i k (by rw [HP.out.rows.len]; exact hi) e hk)
  have HC1 := Lib.hid (HP.out.pc.keep fun k hk => hf k (HP.out.pc.lt k hk).2 fun i hi e => ownsRow_apart (by decide) HP.out.pc (HP.out.rows.row i hi) k hk e)
  have HF1 := Lib.hid (show ∀ j, j < w.heap.size → (∀ i, i < A.length → (vs[i]?.getD undef).ownBlock ≠ some j) → w1.heap[j]? = w.heap[j]? from fun j hj hi => (hf j (by rw [HS.out]; omega) hi).trans (HX.out.block j hj))
  have HA1 := Lib.hid ha
  have HR1 := Lib.hid hr
  have HW1 := Lib.hid (show Below base w w1 from Below.trans (show Below base w W from ⟨HX.out.os, HX.out.tape, HX.out.output, HX.out.size, fun k hk => HX.out.block k (by omega)⟩) hb1)
  have HS1 := Lib.hid (hsz.trans HS.out)
  have k1 : w1.cell? ⟨w.heap.size, 1, none⟩ = some (.slice b nb cb) := LpO.boxc1 hbx1
  have k2 : w1.cell? ⟨w.heap.size, 2, none⟩ = some (.slice c nc cc) := LpO.boxc2 hbx1
  have HM2 := Lib.hid (l_markIntS HB1.out z hz0 (by omega))
  have HBX1 := Lib.hid hbx1
  clear ha hr hf hb1 hsz hbx1
  go_wp2_with fail
  refine HM2.out.mono ?_
  rintro e w2 ⟨rfl, hb, hg, hsz⟩
  have hbx2 : w2.heap[w.heap.size]? = some (.cells #[.slice a na ca, .slice b nb cb, .slice c nc cc] 81 (0, 0)) :=
    (hg.block _ (by rw [HS1.out]; omega) fun e => by have := HLB.out _ e.symm; omega).trans HBX1.out
  have HA2 := Lib.hid (HA1.out.keep fun k hk => hg.block k (HA1.out.lt k hk).2 fun e => HB1.out.apart HA1.out k e.symm hk)
  have HR2 := Lib.hid (HR1.out.keep fun i k hi hk => hg.block k ((HR1.out.row i hi).lt k hk).2 fun e => HP.out.off i k (by rw [HP.out.rows.len]; rw [numb_len] at hi; exact hi) hk e.symm)
  have HC2 := Lib.hid (show OwnR w2 base (.slice c nc cc) C from HC1.out.keep fun k hk => hg.block k (HC1.out.lt k hk).2 fun e => ownsRow_apart (by decide) HC1.out HB1.out k hk e.symm)
  have HB2 := Lib.hid hb
  have HW2 := Lib.hid (show Below base w w2 from Below.grown HW1.out hg (by rw [HS1.out]; omega) fun k e => (HB1.out.lt k e).1)
  have HS2 := Lib.hid (hsz.trans HS1.out)
  have HF2 := Lib.hid (show ∀ j, j < w.heap.size → (∀ i, i < A.length → (vs[i]?.getD undef).ownBlock ≠ some j) → (Value.slice b nb cb).ownBlock ≠ some j → w2.heap[j]? = w.heap[j]? from fun j hj hi hb => (hg.block j (by rw [HS1.out]; omega) fun e => hb e.symm).trans (HF1.out j hj hi))
  replace k2 : w2.cell? ⟨w.heap.size, 2, none⟩ = some (.slice c nc cc) := LpO.boxc2 hbx2
  have HM3 := Lib.hid (l_markRatS HC2.out (z + nb) (by omega) (by omega))
  clear hb hg hsz k1 hbx2
  have hwz : IntKind.i64.wrap (z + (nb : Int)) = z + (nb : Int) := by rw [IntKind.wrap_i64]; omega
  go_wp2_with fail
  refine HM3.out.mono ?_
  rintro e w3 ⟨rfl, hc, hg, hsz⟩
  have HA3 := Lib.hid (show OwnV w3 base (.slice a na ca) vs from HA2.out.keep fun k hk => hg.block k (HA2.out.lt k hk).2 fun e => ownsRow_apart (by decide) HA2.out HC2.out k hk e.symm)
  have HR3 := Lib.hid (HR2.out.keep fun i k hi hk => hg.block k ((HR2.out.row i hi).lt k hk).2 fun e => ownsRow_apart (by decide) (HR2.out.row i hi) HC2.out k hk e.symm)
  have HB3 := Lib.hid (show OwnI w3 base (.slice b nb cb) (seqI z nb) from HB2.out.keep fun k hk => hg.block k (HB2.out.lt k hk).2 fun e => ownsRow_apart (by decide) HB2.out HC2.out k hk e.symm)
  have HW3 := Lib.hid (show Below base w w3 from Below.grown HW2.out hg (by rw [HS2.out]; omega) fun k e => (HC2.out.lt k e).1)
  have HC3 := Lib.hid hc
  have HF3 := Lib.hid (show ∀ j, j < w.heap.size → (∀ i, i < A.length → (vs[i]?.getD undef).ownBlock ≠ some j) → (Value.slice b nb cb).ownBlock ≠ some j → (Value.slice c nc cc).ownBlock ≠ some j → w3.heap[j]? = w.heap[j]? from fun j hj hi hb hc => (hg.block j (by rw [HS2.out]; omega) fun e => hc e.symm).trans (HF2.out j hj hi hb))
  clear hc hg hsz hwz k2
  go_wp2_with fail
  go_ret
  exact ⟨rfl, ⟨OwnSS.intss ⟨vs, HA3.out, HR3.out⟩, HB3.out.ints, HC3.out.rats⟩, HW3.out, HF3.out⟩

set_option maxHeartbeats 1000000 in
theorem l_heldLP (k0 : Int) (h : LpI w a na ca b nb cb c nc cc (numb k0 A) (seqI (k0 + cnt A) nb) (seqR (k0 + cnt A + nb) nc)) (h0 : 0 ≤ k0) (h1 : k0 + cnt A + nb + 2 * nc ≤ 4611686018427387904) :
    Calls Try.prog 60 #[lpV a na ca b nb cb c nc cc, .int .i64 k0] w fun e w' => e = .returned (.int .i64 (k0 + cnt A + nb + 2 * nc)) ∧ Ext w w' := by
  have hc0 := cnt_nonneg A
  have HX := Lib.hid (Ext.alloc w (.cells #[.slice a na ca, .slice b nb cb, .slice c nc cc] 81))
  have H := Lib.hid (h.ext HX.out)
  have HM := Lib.hid (l_heldIntSS (L := A) k0 H.out.a h0 (by omega))
  obtain ⟨z, hz⟩ : ∃ z, z = k0 + cnt A := ⟨_, rfl⟩
  rw [← hz] at HM h1 H
  rw [← hz]
  have hz0 : 0 ≤ z := by omega
  have hn0 : ¬ (z < 0) := by omega
  have hn1 : ¬ (z + (nb : Int) < 0) := by omega
  have hn2 : ¬ (z + (nb : Int) + 2 * (nc : Int) < 0) := by omega
  have HM2 := Lib.hid (l_heldIntS z H.out.b hz0 (by omega))
  have HM3 := Lib.hid (l_heldRatS (z + nb) H.out.c (by omega) (by omega))
  clear h hz hc0
  go_enter Try.func60, Try.ntmps60
  go_wp2_with fail
  refine HM.out.mono ?_
  rintro e w1 ⟨rfl, rfl⟩
  go_wp2_with fail
  refine HM2.out.mono ?_
  rintro e w1 ⟨rfl, rfl⟩
  go_wp2_with fail
  refine HM3.out.mono ?_
  rintro e w1 ⟨rfl, rfl⟩
  go_wp2_with fail
  go_ret
  exact ⟨rfl, HX.out⟩
end

theorem Ext.blk {w w' : World} (hx : Ext w w') {b : Nat} {o : Obj} (h : w.heap[b]? = some o) : w'.heap[b]? = some o := (hx.block b (lt_of_block h)).trans h
theorem grown_blk {w w' : World} {row : Option Nat} (hg : w.grownBy w' row) {b : Nat} {o : Obj} (h : w.heap[b]? = some o) (hne : some b ≠ row) : w'.heap[b]? = some o := (hg.block b (lt_of_block h) hne).trans h
theorem blk_ne {w : World} {b b' : Nat} {c c' : Array Value} {t t' : TypeId} {z z' : Nat × Nat} (h : w.heap[b]? = some (.cells c t z)) (h' : w.heap[b']? = some (.cells c' t' z')) (hne : t ≠ t') : b ≠ b' := by
  intro e
  subst e
  rw [h] at h'
  simp only [Option.some.injEq, Obj.cells.injEq] at h'
  exact hne h'.2.1
theorem gbox0 {w : World} {b : Nat} {x y : Value} {t : TypeId} (h : w.heap[b]? = some (.cells #[x, y] t (0, 0))) : w.cell? ⟨b, 0, none⟩ = some x := by rw [cell_of_row w b 0 _ _ _ h]; rfl
theorem gbox1 {w : World} {b : Nat} {x y : Value} {t : TypeId} (h : w.heap[b]? = some (.cells #[x, y] t (0, 0))) : w.cell? ⟨b, 1, none⟩ = some y := by rw [cell_of_row w b 1 _ _ _ h]; rfl
theorem LpP.blks {w : World} {base : Nat} {a : Option Addr} {na ca : Nat} {b : Option Addr} {nb cb : Nat} {c : Option Addr} {nc cc : Nat} {vs : List Value} {A : List (List Int)} {B : List Int} {C : List (Int × Int)} (h : LpP w base a na ca b nb cb c nc cc vs A B C) {j : Nat} (hj : w.heap.size ≤ j) :
    (∀ i, i < A.length → (vs[i]?.getD undef).ownBlock ≠ some j) ∧ (Value.slice b nb cb).ownBlock ≠ some j ∧ (Value.slice c nc cc).ownBlock ≠ some j :=
  ⟨fun i hi e => by have := ((h.rows.row i hi).lt j e).2; omega, fun e => by have := (h.pb.lt j e).2; omega, fun e => by have := (h.pc.lt j e).2; omega⟩
theorem cnt_rows {N : Nat} : ∀ A : List (List Int), (∀ r ∈ A, r.length ≤ N) → cnt A ≤ N * A.length
  | [], _ => by simp [cnt]
  | l :: L, h => by
    have h1 := cnt_rows (N := N) L (fun m hm => h m (by simp [hm]))
    have h2 := h l (by simp)
    have h3 : cnt (l :: L) = (l.length : Int) + cnt L := by simp [cnt]
    have h4 : ((L.length + 1 : Nat) : Int) = (L.length : Int) + 1 := by omega
    rw [h3, List.length_cons, h4, Int.mul_add, Int.mul_one]
    generalize (N : Int) * (L.length : Int) = z at *
    omega

end Go.Proofs.Ytokpmflhgehicaa
