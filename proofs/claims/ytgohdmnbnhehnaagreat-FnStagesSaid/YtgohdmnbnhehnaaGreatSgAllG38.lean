import Derived.Test.YtgohdmnbnhehnaaGreatSgAllG8
import Derived.Test.YtgohdmnbnhehnaaGreatSgAllG37
import Derived.Test.YtgohdmnbnhehnaaGreatSgAllG28
import Derived.Test.YtgohdmnbnhehnaaGreatSgAllG15
import Derived.Test.YtgohdmnbnhehnaaGreatSgAllG36
import Derived.Test.YtgohdmnbnhehnaaGreatSgAllG29
import Derived.Test.YtgohdmnbnhehnaaGreatSgAllG30
namespace Go.Proofs.YtgohdmnbnhehnaaGreat
set_option linter.unusedVariables false
set_option linter.unusedSimpArgs false
set_option maxRecDepth 100000
open Go.RowKit
set_option maxHeartbeats 4000000 in
theorem s_DrawFindNucleolus {w : World} {a : Option Addr} {n cap : Nat} (h : Bytes w a n cap) (hn : n ≤ 1048576) :
 Calls Tryz.prog 47 #[.slice a n cap] w fun e w' => (∃ (x : Int) (b : Option Addr) (m c : Nat) (V : List Int), e = .returned (.agg #[.int .i64 x, .slice b m c]) ∧ Ints w' b m c V ∧ m ≤ 33) ∧ Ext w w' := by
 have HX := Lib.hid (Ext.alloc w (.cells #[.int .i64 0, .slice none 0 0] 47))
 have HN := Lib.hid (s_l1New (h.ext HX.out) hn)
 have hrb : (w.alloc (.cells #[.int .i64 0, .slice none 0 0] 47)).heap[w.heap.size]? = some (.cells #[.int .i64 0, .slice none 0 0] 47 (0, 0)) := heap_alloc_new _ _
 have HRB := Lib.hid hrb
 clear h hrb
 go_enter Tryz.func47, Tryz.ntmps47
 go_wp2_with fail
 refine HN.out.mono ?_
 rintro e w1 ⟨⟨cb, rfl, hcb, hc⟩, hx⟩
 have HX1 := Lib.hid hx
 have HC := Lib.hid hc
 rw [World.size_alloc] at hcb
 have hs1 := hx.size
 rw [World.size_alloc] at hs1
 have HRB1 := Lib.hid ((hx.block _ (by simp)).trans HRB.out)
 clear hx hc
 go_wp2_with fail
 refine (s_l8Bent HC.out).mono ?_
 rintro e w2 ⟨⟨x, b, m, c, V, rfl, ho, hm⟩, hc, hg⟩
 have hb2 := (grown_block hg (by omega) (by omega)).trans HRB1.out
 have r0 : w2.cell? ⟨w.heap.size, 0, none⟩ = some (.int .i64 0) := by rw [cell_of_row w2 _ 0 _ _ _ hb2]; rfl
 have r1 : w2.cell? ⟨w.heap.size, 1, none⟩ = some (.slice none 0 0) := by rw [cell_of_row w2 _ 1 _ _ _ hb2]; rfl
 have rf0 : w2.frozen? ⟨w.heap.size, 0, none⟩ = false := frozen_of_row w2 _ 0 _ _ hb2
 have rf1 : w2.frozen? ⟨w.heap.size, 1, none⟩ = false := frozen_of_row w2 _ 1 _ _ hb2
 have hX2 : Ext w w2 := ext_grown (HX.out.trans HX1.out) hg (fun k hk => by have := Option.some.inj hk; omega)
 have HX2 := Lib.hid hX2
 have HW := Lib.hid (pair_store (w := w) hc hb2 (by intro y; simp) (by omega) (grown_ext (some cb) hX2) (Nat.le_refl _) x (.slice b m c) (by intro y; simp))
 have HO := Lib.hid (ho.keep (w' := (w2.setCell ⟨w.heap.size, 0, none⟩ (.int .i64 x)).setCell ⟨w.heap.size, 1, none⟩ (.slice b m c)) (fun k hk => HW.out.2.2.1 k (by have := (ho.lt k hk).1; omega)))
 have HZ0 := Lib.hid (show ((w2.setCell ⟨w.heap.size, 0, none⟩ (.int .i64 x)).setCell ⟨w.heap.size, 1, none⟩ (.slice b m c)).cell? ⟨w.heap.size, 0, none⟩ = some (.int .i64 x) by rw [cell_of_row _ _ 0 _ _ _ HW.out.2.2.2]; rfl)
 have HZ1 := Lib.hid (show ((w2.setCell ⟨w.heap.size, 0, none⟩ (.int .i64 x)).setCell ⟨w.heap.size, 1, none⟩ (.slice b m c)).cell? ⟨w.heap.size, 1, none⟩ = some (.slice b m c) by rw [cell_of_row _ _ 1 _ _ _ HW.out.2.2.2]; rfl)
 have HXF := Lib.hid (show Ext w ((w2.setCell ⟨w.heap.size, 0, none⟩ (.int .i64 x)).setCell ⟨w.heap.size, 1, none⟩ (.slice b m c)) from (hX2.setCell (p := ⟨w.heap.size, 0, none⟩) (Nat.le_refl _) _).setCell (p := ⟨w.heap.size, 1, none⟩) (Nat.le_refl _) _)
 clear hc hg ho hb2 hX2
 go_wp2_with fail
 refine bodyPost_ret (v := .agg #[.int .i64 x, .slice b m c]) (by simp [results, Tryz.results47, go_sem, HZ0.out, HZ1.out]) rfl ⟨⟨x, b, m, c, V, rfl, HO.out.ints, hm⟩, HXF.out⟩
theorem s_l1Min (a b : Int) (w : World) : Calls Tryz.prog 101 #[.int .i64 a, .int .i64 b] w fun e w' => e = .returned (.int .i64 (min a b)) ∧ w = w' := by
 by_cases h : a < b
 ·have hm := Lib.hid (show min a b = a by omega)
  go_enter Tryz.func101, Tryz.ntmps101
  go_wp2
  go_ret
  exact ⟨ret_int hm.out.symm, rfl⟩
 ·have hm := Lib.hid (show min a b = b by omega)
  go_enter Tryz.func101, Tryz.ntmps101
  go_wp2
  go_ret
  exact ⟨ret_int hm.out.symm, rfl⟩
theorem Slc.take {α : Type} {E : Enc α} {w : World} {a : Option Addr} {n cap : Nat} {l : List α} (h : Slc E w a n cap l) {k : Nat} (hk : k ≤ n) : Slc E w a k cap (l.take k) :=
 ⟨by rw [List.length_take, h.hlen]; omega, by have := h.hcap; omega, h.hmax, fun j hj => by
  obtain ⟨b, off, e, hc⟩ := h.cell j (by omega)
  refine ⟨b, off, e, fun i x o v hx hv => hc i x o v ?_ hv⟩
  rw [List.getElem?_take] at hx
  split at hx
  ·exact hx
  ·cases hx⟩
theorem OwnG.calls {α : Type} {E : Enc α} {t : TypeId} {w w' : World} {cb base : Nat} {v : Value} {l : List α} (h : OwnG E t w base v l) (hg : w.grownBy w' (some cb)) (hb : cb < base) : OwnG E t w' base v l :=
 h.keep fun k hk => grown_block hg (h.lt k hk).2 (by have := (h.lt k hk).1; omega)
theorem OwnG.put2 {α : Type} {E : Enc α} {t : TypeId} {w : World} {base b : Nat} {v : Value} {l : List α} (ho : OwnG E t w base v l) (hb : b < base) (v0 v1 : Value) : OwnG E t ((w.setCell ⟨b, 0, none⟩ v0).setCell ⟨b, 1, none⟩ v1) base v l :=
 ho.keep fun k hk => by
  have h1 := (ho.lt k hk).1
  exact (heap_setCell_other _ _ _ _ (by show k ≠ b; omega)).trans (heap_setCell_other _ _ _ _ (by show k ≠ b; omega))
def nucBx (r b b6 : Nat) (x : Int) (a : Option Addr) (n c : Nat) (ok : Bool) (vp : Value) (sa : Option Addr) (sn sc : Nat) (k : Int) : Bx := (mateBx r b x a n c).upd b6 (#[.bool ok, vp, .slice sa sn sc, .int .i64 k], 45)
theorem nuc_dry (ok : Bool) (pa : Option Addr) (pn pc : Nat) (sa : Option Addr) (sn sc : Nat) (k : Int) : ∀ (j : Nat) (y : Int), (#[Value.bool ok, .slice pa pn pc, .slice sa sn sc, .int .i64 k] : Array Value)[j]? ≠ some (Value.int .u8 y) := fun j y e => by
 match j with
 | 0 => simp at e
 | 1 => simp at e
 | 2 => simp at e
 | 3 => simp at e
 | j + 4 => simp at e
set_option maxHeartbeats 8000000 in
theorem s_DrawStageLP {w : World} {a : Option Addr} {n cap : Nat} (h : Bytes w a n cap) (hn : n ≤ 1048576) :
 Calls Tryz.prog 41 #[.slice a n cap] w fun e w' => (∃ (x : Int) (b : Option Addr) (m c : Nat) (fa : Option Addr) (fn fc : Nat) (V : List Int) (L : List (Int × Int × Int)), e = .returned (.tuple #[.agg #[.int .i64 x, .slice b m c], .slice fa fn fc]) ∧ Ints w' b m c V ∧ Fixs w' fa fn fc L ∧ m ≤ 33 ∧ fn ≤ 3000) ∧ Ext w w' := by
 obtain ⟨W, hW⟩ : ∃ W, W = w.alloc (.cells #[.int .i64 0, .slice none 0 0] 47) := ⟨_, rfl⟩
 have HWS := Lib.hid (show W.heap.size = w.heap.size + 1 by rw [hW]; simp)
 have hX : Ext w W := by rw [hW]; exact Ext.alloc _ _
 have HR2 := Lib.hid (show W.heap[w.heap.size]? = some (.cells #[.int .i64 0, .slice none 0 0] 47 (0, 0)) by rw [hW]; exact heapA_new _ _ _ rfl)
 have HX := Lib.hid hX
 have HN := Lib.hid (s_l1New (h.ext hX) hn)
 clear h hX
 go_enter Tryz.func41, Tryz.ntmps41
 go_wp2_with fail
 rw [← hW]
 refine HN.out.mono ?_
 rintro e w1 ⟨⟨cb, rfl, hcb, hc⟩, hx⟩
 have hws := HWS.out
 have hs1 := hx.size
 have hcl := hc.lt
 have HB1 := Lib.hid ((Bxs.start hc (grown_ext (some cb) (HX.out.trans hx))).add w.heap.size _ _ ((hx.block _ (by omega)).trans HR2.out) (by omega) (by omega) (pair_dry _ _ (slice_dry _ _ _)))
 clear hc hx HWS HR2 hW
 go_wp2_with fail
 refine (s_l8Bent HB1.out.cur).mono ?_
 rintro e w2 ⟨⟨x, b, m, c, V, rfl, ho, hm⟩, hc, hg⟩
 have hs2 := hg.size
 have HB2 := Lib.hid (show Bxs w (w2.alloc (.cells #[.int .i64 x, .slice b m c] 47)) cb (mateBx w.heap.size w2.heap.size x b m c) from (HB1.out.call hc hg).new _ _ (pair_dry _ _ (slice_dry _ _ _)))
 have HO2 := Lib.hid (ho.ext (Ext.alloc w2 (.cells #[.int .i64 x, .slice b m c] 47)))
 have hm1 := ho.ints.hcap
 have hm2 := ho.ints.hmax
 have e0 := HB2.out.c0 (mateBx5 _ _ _ _ _ _)
 have e1 := HB2.out.c1 (mateBx5 _ _ _ _ _ _)
 have HF := Lib.hid (s_FindNucleolus (p := x) HO2.out.ints)
 clear hc hg ho HB1
 go_wp2_with fail
 refine HF.out.mono ?_
 obtain ⟨R, hR⟩ : ∃ R, R = nucR x V := ⟨_, rfl⟩
 have HBD := Lib.hid (nucR_bd x V)
 rw [← hR] at HBD
 rw [← hR]
 obtain ⟨ro, rp, rs, rk⟩ := R
 rintro e w3 ⟨⟨pa, pn, pc, sa, sn, sc, rfl, hpt, hst⟩, hx⟩
 have hs3 := hx.size
 rw [World.size_alloc] at hs3
 have HST := Lib.hid (show OwnG fixE 108 w3 (w2.heap.size + 1) (.slice sa sn sc) rs by simpa using hst)
 have HB3 := Lib.hid (HB2.out.ext hx)
 have HO3 := Lib.hid (HO2.out.ext hx)
 have hsn := hst.slc.hlen
 have hsn1 := hst.slc.hcap
 have hsn2 := hst.slc.hmax
 have hsb : sn ≤ 2000 := by have := HBD.out.2; simp only at this hsn; omega
 generalize w2.heap.size = b5 at HB3 hs2 hs3 HST ⊢
 obtain ⟨w4, hw4⟩ : ∃ E, E = w3.alloc (.cells #[.bool ro, .slice pa pn pc, .slice sa sn sc, .int .i64 (rk : Int)] 45) := ⟨_, rfl⟩
 have HB4 := Lib.hid (show Bxs w w4 cb (nucBx w.heap.size b5 w3.heap.size x b m c ro (.slice pa pn pc) sa sn sc (rk : Int)) from hw4 ▸ HB3.out.new _ _ (nuc_dry _ _ _ _ _ _ _ _))
 have HOB := Lib.hid (fun k hk => (HO3.out.lt k hk).2)
 have HO4 := Lib.hid (show OwnI w4 w1.heap.size (.slice b m c) V from hw4 ▸ HO3.out.ext (Ext.alloc _ _))
 have HS4 := Lib.hid (show OwnG fixE 108 w4 (b5 + 1) (.slice sa sn sc) rs from hw4 ▸ HST.out.ext (Ext.alloc _ _))
 have hs4 : w3.heap.size < w4.heap.size := by rw [hw4]; simp
 clear hx hst hpt hR HB2 HO2 HF e0 e1 HB3 HO3 HST
 go_upto_region 4 with fail
 rw [← hw4]
 clear hw4
 generalize w3.heap.size = b6 at HB4 hs3 hs4 HOB ⊢
 obtain ⟨f, hf⟩ : ∃ f, f = nucBx w.heap.size b5 b6 x b m c ro (.slice pa pn pc) sa sn sc (rk : Int) := ⟨_, rfl⟩
 have HFF := Lib.hid hf
 rw [← hf] at HB4
 have HFN := Lib.hid (show ∀ k, b6 < k → f k = none from fun k hk => by rw [hf]; exact (Bx.other _ _ (by omega)).trans ((Bx.other _ _ (by omega)).trans ((Bx.other _ _ (by omega)).trans rfl)))
 clear hf
 have HSC := Lib.hid (fun (w' : World) (h : Bxs w w' cb f) => (show w'.cell? ⟨b6, 2, none⟩ = some (.slice sa sn sc) from (h.cell (b := b6) (p := (#[.bool ro, .slice pa pn pc, .slice sa sn sc, .int .i64 (rk : Int)], 45)) (by rw [HFF.out]; exact Bx.same _ _ _) 2)))
 have hcb5 : cb < b5 + 1 := by omega
 go_cut [7] (fun sl wx => ∃ (fa : Option Addr) (fn fc : Nat) (L : List (Int × Int × Int)), sl = .slice fa fn fc ∧ Hid (Bxs w wx cb f) ∧ Hid (OwnI wx w1.heap.size (.slice b m c) V) ∧ Hid (OwnG fixE 108 wx (b6 + 1) (.slice fa fn fc) L) ∧ Hid (L.length ≤ 2000) ∧ Hid (b6 < wx.heap.size))
 case first =>
  have hBd := HB4.out.ext (Ext.drew w4)
  have hOd := HO4.out.ext (Ext.drew w4)
  have hSd := HS4.out.ext (Ext.drew w4)
  refine wp_region_held_drew (S := (fun w' => w'.cell? ⟨b6, 2, none⟩ = some (.slice sa sn sc) ∧ True)) (by kernel_rfl) ?_ (fun hHeld => ?_)
  ·exact ⟨HSC.out _ hBd, trivial⟩
  have hsg := hSd
  have hon := hOd
  have st := hBd
  have hcb6 : cb < b6 + 1 := by omega
  have hz : b6 < w4.drew.heap.size := hs4
  obtain ⟨wd, hwd⟩ : ∃ y, y = w4.drew := ⟨_, rfl⟩
  rw [← hwd] at st hon hsg hz hHeld
  rw [← hwd]
  clear hwd hSd hOd hBd
  refine tk 1 ?_
  refine tk 2 ?_
  refine tk 3 ?_
  refine tk 4 ?_
  refine tk 5 ?_
  refine tk 6 ?_
  refine wpAnyH_ready (rs := [0, 7]) (by kernel_rfl) (by simp) ?_
  refine AllReadyH.cons (o := ?_) ?_ (fun K hK => ?_) ?_
  rotate_left
  ·simp only [gA, gB, gC]; rfl
  ·
   go_simp
   refine hK.out _ _ ?_ (fun hHeld => ?_)
   ·exact ⟨HSC.out _ (st.ext (Ext.alloc _ _)), trivial⟩
   clear hK K
   try simp only [Act.put, sA, sB, sC]
   have hap := OwnG.madeS fixE 108 wd (b6 + 1) _ rfl hz
   obtain ⟨va, hV⟩ : ∃ y, y = wd.alloc (.cells #[] 108) := ⟨_, rfl⟩
   have hx_ : Ext wd va := by rw [hV]; exact Ext.alloc _ _
   have st := st.ext hx_
   have hon := hon.ext hx_
   have hsg := hsg.ext hx_
   have hz := Nat.lt_of_lt_of_le hz hx_.size
   obtain ⟨g_, hl_⟩ : ∃ g, g = wd.heap.size := ⟨_, rfl⟩
   rw [← hV, ← hl_] at hap
   rw [← hV] at hHeld
   rw [← hV, ← hl_]
   clear hV hx_ hl_
   refine rd (i := 7) (h := fun K hK => ?_)
   go_simp
   refine (s_l1Below st.cur 4 (by omega)).mono ?_; rintro e v7 ⟨⟨kk, rfl, hk0, hk1⟩, hc_, hg_⟩; have st := st.call hc_ hg_; have hon := hon.calls hg_ hcl; have hsg := hsg.calls hg_ hcb5; have hap := hap.calls hg_ hcb6; have hz := Nat.lt_of_lt_of_le hz hg_.size; clear hc_ hg_
   go_wp2_with fail
   refine hK.out _ _ ?_ (fun hHeld => ?_)
   ·exact ⟨HSC.out _ st, trivial⟩
   clear hK K
   try simp only [Act.put, sA, sB, sC]
   refine rd (i := 8) (h := fun K hK => ?_)
   go_simp
   refine (s_l1Min _ _ _).mono ?_; rintro e v8 ⟨rfl, rfl⟩; obtain ⟨t, ht⟩ : ∃ t : Nat, min (sn : Int) kk = t := ⟨(min (sn : Int) kk).toNat, by omega⟩; rw [ht]; have htn : t ≤ sn := (by omega); have htc : t ≤ sc := (by omega); have ht3 : t ≤ 3 := (by omega); clear ht hk0 hk1
   go_wp2_with fail
   refine hK.out _ _ ?_ (fun hHeld => ?_)
   ·exact ⟨HSC.out _ st, trivial⟩
   clear hK K
   try simp only [Act.put, sA, sB, sC]
   refine tk 9 ?_
   refine rd (i := 10) (h := fun K hK => ?_)
   refine wp_append_g fixE Tryz.infoFix rfl Tryz.underlying43 (by decide) _ _ (by rfl) (b6 + 1) (.slice (some ⟨g_, 0, none⟩) 0 0) [] (by rfl) hap _ t _ (rs.take t) (by rfl) (hsg.slc.take htn) (by simp; omega) (by omega) ?_; intro v10 w10 ho hgr hnear; have st := st.grew hgr (fun k hk => ⟨by have := (hap.lt k hk).1; omega, by have := (hap.lt k hk).1; omega, HFN.out k (by have := (hap.lt k hk).1; omega)⟩); have hon := hon.keep (fun k hk => hgr.block k (hon.lt k hk).2 (fun e => by have h1 := (hap.lt k e.symm).1; have h2 := HOB.out k hk; omega)); have hz := Nat.lt_of_lt_of_le hz hgr.size; obtain ⟨a9, n9, c9, rfl, HN9⟩ := ho.var; clear hgr hnear
   go_wp2_with fail
   refine hK.out _ _ ?_ (fun hHeld => ?_)
   ·exact ⟨HSC.out _ st, trivial⟩
   clear hK K
   try simp only [Act.put, sA, sB, sC]
   refine tk 11 ?_
   refine wpAnyH_done (by kernel_rfl) ?_ _
   go_wp2_with fail
   go_meet
   exact ⟨a9, n9, c9, _, rfl, Lib.hid st, Lib.hid hon, Lib.hid ho, Lib.hid (by simp [List.length_take]; omega), Lib.hid hz⟩
  refine AllReadyH.cons (o := ?_) ?_ (fun K hK => ?_) AllReadyH.nil
  rotate_left
  ·simp only [gA, gB, gC]; rfl
  go_simp
  refine (s_l1Below st.cur 4 (by omega)).mono ?_; rintro e v7 ⟨⟨kk, rfl, hk0, hk1⟩, hc_, hg_⟩; have st := st.call hc_ hg_; have hon := hon.calls hg_ hcl; have hsg := hsg.calls hg_ hcb5; have hz := Nat.lt_of_lt_of_le hz hg_.size; clear hc_ hg_
  go_wp2_with fail
  refine hK.out _ _ ?_ (fun hHeld => ?_)
  ·exact ⟨HSC.out _ st, trivial⟩
  clear hK K
  try simp only [Act.put, sA, sB, sC]
  refine wpAnyH_ready (rs := [0, 8]) (by kernel_rfl) (by simp) ?_
  refine AllReadyH.cons (o := ?_) ?_ (fun K hK => ?_) ?_
  rotate_left
  ·simp only [gA, gB, gC]; rfl
  ·
   go_simp
   refine hK.out _ _ ?_ (fun hHeld => ?_)
   ·exact ⟨HSC.out _ (st.ext (Ext.alloc _ _)), trivial⟩
   clear hK K
   try simp only [Act.put, sA, sB, sC]
   have hap := OwnG.madeS fixE 108 v7 (b6 + 1) _ rfl hz
   obtain ⟨va, hV⟩ : ∃ y, y = v7.alloc (.cells #[] 108) := ⟨_, rfl⟩
   have hx_ : Ext v7 va := by rw [hV]; exact Ext.alloc _ _
   have st := st.ext hx_
   have hon := hon.ext hx_
   have hsg := hsg.ext hx_
   have hz := Nat.lt_of_lt_of_le hz hx_.size
   obtain ⟨g_, hl_⟩ : ∃ g, g = v7.heap.size := ⟨_, rfl⟩
   rw [← hV, ← hl_] at hap
   rw [← hV] at hHeld
   rw [← hV, ← hl_]
   clear hV hx_ hl_
   refine rd (i := 8) (h := fun K hK => ?_)
   go_simp
   refine (s_l1Min _ _ _).mono ?_; rintro e v8 ⟨rfl, rfl⟩; obtain ⟨t, ht⟩ : ∃ t : Nat, min (sn : Int) kk = t := ⟨(min (sn : Int) kk).toNat, by omega⟩; rw [ht]; have htn : t ≤ sn := (by omega); have htc : t ≤ sc := (by omega); have ht3 : t ≤ 3 := (by omega); clear ht hk0 hk1
   go_wp2_with fail
   refine hK.out _ _ ?_ (fun hHeld => ?_)
   ·exact ⟨HSC.out _ st, trivial⟩
   clear hK K
   try simp only [Act.put, sA, sB, sC]
   refine tk 9 ?_
   refine rd (i := 10) (h := fun K hK => ?_)
   refine wp_append_g fixE Tryz.infoFix rfl Tryz.underlying43 (by decide) _ _ (by rfl) (b6 + 1) (.slice (some ⟨g_, 0, none⟩) 0 0) [] (by rfl) hap _ t _ (rs.take t) (by rfl) (hsg.slc.take htn) (by simp; omega) (by omega) ?_; intro v10 w10 ho hgr hnear; have st := st.grew hgr (fun k hk => ⟨by have := (hap.lt k hk).1; omega, by have := (hap.lt k hk).1; omega, HFN.out k (by have := (hap.lt k hk).1; omega)⟩); have hon := hon.keep (fun k hk => hgr.block k (hon.lt k hk).2 (fun e => by have h1 := (hap.lt k e.symm).1; have h2 := HOB.out k hk; omega)); have hz := Nat.lt_of_lt_of_le hz hgr.size; obtain ⟨a9, n9, c9, rfl, HN9⟩ := ho.var; clear hgr hnear
   go_wp2_with fail
   refine hK.out _ _ ?_ (fun hHeld => ?_)
   ·exact ⟨HSC.out _ st, trivial⟩
   clear hK K
   try simp only [Act.put, sA, sB, sC]
   refine tk 11 ?_
   refine wpAnyH_done (by kernel_rfl) ?_ _
   go_wp2_with fail
   go_meet
   exact ⟨a9, n9, c9, _, rfl, Lib.hid st, Lib.hid hon, Lib.hid ho, Lib.hid (by simp [List.length_take]; omega), Lib.hid hz⟩
  refine AllReadyH.cons (o := ?_) ?_ (fun K hK => ?_) AllReadyH.nil
  rotate_left
  ·simp only [gA, gB, gC]; rfl
  go_simp
  refine (s_l1Min _ _ _).mono ?_; rintro e v8 ⟨rfl, rfl⟩; obtain ⟨t, ht⟩ : ∃ t : Nat, min (sn : Int) kk = t := ⟨(min (sn : Int) kk).toNat, by omega⟩; rw [ht]; have htn : t ≤ sn := (by omega); have htc : t ≤ sc := (by omega); have ht3 : t ≤ 3 := (by omega); clear ht hk0 hk1
  go_wp2_with fail
  refine hK.out _ _ ?_ (fun hHeld => ?_)
  ·exact ⟨HSC.out _ st, trivial⟩
  clear hK K
  try simp only [Act.put, sA, sB, sC]
  refine tk 9 ?_
  refine rd (i := 0) (h := fun K hK => ?_)
  go_simp
  refine hK.out _ _ ?_ (fun hHeld => ?_)
  ·exact ⟨HSC.out _ (st.ext (Ext.alloc _ _)), trivial⟩
  clear hK K
  try simp only [Act.put, sA, sB, sC]
  have hap := OwnG.madeS fixE 108 v7 (b6 + 1) _ rfl hz
  obtain ⟨va, hV⟩ : ∃ y, y = v7.alloc (.cells #[] 108) := ⟨_, rfl⟩
  have hx_ : Ext v7 va := by rw [hV]; exact Ext.alloc _ _
  have st := st.ext hx_
  have hon := hon.ext hx_
  have hsg := hsg.ext hx_
  have hz := Nat.lt_of_lt_of_le hz hx_.size
  obtain ⟨g_, hl_⟩ : ∃ g, g = v7.heap.size := ⟨_, rfl⟩
  rw [← hV, ← hl_] at hap
  rw [← hV] at hHeld
  rw [← hV, ← hl_]
  clear hV hx_ hl_
  refine rd (i := 10) (h := fun K hK => ?_)
  refine wp_append_g fixE Tryz.infoFix rfl Tryz.underlying43 (by decide) _ _ (by rfl) (b6 + 1) (.slice (some ⟨g_, 0, none⟩) 0 0) [] (by rfl) hap _ t _ (rs.take t) (by rfl) (hsg.slc.take htn) (by simp; omega) (by omega) ?_; intro v10 w10 ho hgr hnear; have st := st.grew hgr (fun k hk => ⟨by have := (hap.lt k hk).1; omega, by have := (hap.lt k hk).1; omega, HFN.out k (by have := (hap.lt k hk).1; omega)⟩); have hon := hon.keep (fun k hk => hgr.block k (hon.lt k hk).2 (fun e => by have h1 := (hap.lt k e.symm).1; have h2 := HOB.out k hk; omega)); have hz := Nat.lt_of_lt_of_le hz hgr.size; obtain ⟨a9, n9, c9, rfl, HN9⟩ := ho.var; clear hgr hnear
  go_wp2_with fail
  refine hK.out _ _ ?_ (fun hHeld => ?_)
  ·exact ⟨HSC.out _ st, trivial⟩
  clear hK K
  try simp only [Act.put, sA, sB, sC]
  refine tk 11 ?_
  refine wpAnyH_done (by kernel_rfl) ?_ _
  go_wp2_with fail
  go_meet
  exact ⟨a9, n9, c9, _, rfl, Lib.hid st, Lib.hid hon, Lib.hid ho, Lib.hid (by simp [List.length_take]; omega), Lib.hid hz⟩
 obtain ⟨fa, fn, fc, L, rfl, HB, HO, HL, HLL, HSZ⟩ := hcut
 clear HSC HBD HB4 HO4 HS4 HN hsn hsn1 hsn2 hsb
 have HGG := Lib.hid (show f w.heap.size = some (#[.int .i64 0, .slice none 0 0], 47) by rw [HFF.out]; exact (Bx.other _ _ (by omega)).trans ((Bx.other _ _ (by omega)).trans (Bx.same _ _ _)))
 have HG5 := Lib.hid (show f b5 = some (#[.int .i64 x, .slice b m c], 47) by rw [HFF.out]; exact (Bx.other _ _ (by omega)).trans (Bx.same _ _ _))
 have hcb6 : cb < b6 + 1 := by omega
 clear HFF
 have HA := Lib.hid (s_l1Once HB.out.cur 10 (by omega))
 go_wp2_with fail
 refine HA.out.mono ?_
 rintro e w6 ⟨⟨q, rfl⟩, hc, hg⟩
 have HB6 := Lib.hid (HB.out.call hc hg)
 have HO6 := Lib.hid (HO.out.calls hg hcl)
 have HL6 := Lib.hid (HL.out.calls hg hcb6)
 have hz6 := Nat.lt_of_lt_of_le HSZ.out hg.size
 clear hc hg HA HB HO HL HSZ
 go_upto_if 26 with fail
 go_cut [7] (fun sl wx => ∃ (fa : Option Addr) (fn fc : Nat) (L : List (Int × Int × Int)), sl = .slice fa fn fc ∧ Hid (Bxs w wx cb f) ∧ Hid (OwnI wx w1.heap.size (.slice b m c) V) ∧ Hid (OwnG fixE 108 wx (b6 + 1) (.slice fa fn fc) L) ∧ Hid (L.length ≤ 2001))
 case first =>
  cases q with
  | false =>
    go_wp2_with fail
    go_meet
    exact ⟨fa, fn, fc, L, rfl, HB6, HO6, HL6, Lib.hid (by have := HLL.out; omega)⟩
  | true =>
    go_wp2_with fail
    refine (s_l1Below HB6.out.cur 5 (by omega)).mono ?_
    rintro e w7 ⟨⟨y, rfl, hy0, hy1⟩, hc, hg⟩
    have HB7 := Lib.hid (HB6.out.call hc hg)
    have HO7 := Lib.hid (HO6.out.calls hg hcl)
    have HL7 := Lib.hid (HL6.out.calls hg hcb6)
    have hz7 := Nat.lt_of_lt_of_le hz6 hg.size
    clear hc hg
    go_wp2_with fail
    refine (s_l3Draw HB7.out.cur).mono ?_
    rintro e w8 ⟨⟨p, q, rfl⟩, hc, hg⟩
    have HB8 := Lib.hid (HB7.out.call hc hg)
    have HO8 := Lib.hid (HO7.out.calls hg hcl)
    have HL8 := Lib.hid (HL7.out.calls hg hcb6)
    have hz8 := Nat.lt_of_lt_of_le hz7 hg.size
    clear hc hg
    go_wp2_with (first
     | (at_builtin
        have T1 := HL8.out.ext (Ext.alloc w8 (.cells #[.int .i64 y, .int .i64 p, .int .i64 q] 108))
        refine append_g fixE Tryz.infoFix rfl Tryz.underlying43 (by decide) rfl _ _ rfl (b6 + 1) (.slice fa fn fc) _ rfl T1 _ 1 1 [(y, p, q)] rfl (Slc.lit fixE _ _ _ 1 (by rfl) _ (by rfl) _ (by rfl) (by omega)) (by have := HLL.out; omega) (by simp; omega) ?_
        intro v9 w9 ho hgr hnear
        have HB9 := Lib.hid ((HB8.out.ext (Ext.alloc _ _)).grew hgr (fun k hk => ⟨by have := (T1.lt k hk).1; omega, by have := (T1.lt k hk).1; omega, HFN.out k (by have := (T1.lt k hk).1; omega)⟩))
        have HO9 := Lib.hid ((HO8.out.ext (Ext.alloc _ _)).keep (fun k hk => hgr.block k ((HO8.out.ext (Ext.alloc _ _)).lt k hk).2 (fun e => by have h1 := (T1.lt k e.symm).1; have h2 := HOB.out k hk; omega)))
        obtain ⟨a9, n9, c9, rfl, HN9⟩ := ho.var
        have HL9 := Lib.hid ho
        clear ho hgr hnear T1))
    go_meet
    exact ⟨a9, n9, c9, _, rfl, HB9, HO9, HL9, Lib.hid (by have := HLL.out; simp; omega)⟩
 obtain ⟨fa, fn, fc, L, rfl, HB, HO, HL, HLL⟩ := hcut
 clear HB6 HO6 HL6 hz6
 have z0 := HB.out.c0 HG5.out
 have z1 := HB.out.c1 HG5.out
 have r0 := HB.out.c0 HGG.out
 have r1 := HB.out.c1 HGG.out
 have rf := HB.out.free HGG.out
 have HB9 := Lib.hid (HB.out.put2 HGG.out (.int .i64 x) (.slice b m c) (i64_dry _) (slice_dry _ _ _))
 have HO9 := Lib.hid (HO.out.put2 (show w.heap.size < w1.heap.size by omega) (.int .i64 x) (.slice b m c))
 have HL9 := (HL.out.put2 (show w.heap.size < b6 + 1 by omega) (.int .i64 x) (.slice b m c)).slc.fixs
 have hfn := HL.out.slc.hlen
 have z0 := HB9.out.c0 (Bx.same _ _ _)
 have z1 := HB9.out.c1 (Bx.same _ _ _)
 have HX9 := Lib.hid (HB9.out.all (by omega))
 go_wp2_with fail
 refine bodyPost_ret (v := .tuple #[.agg #[.int .i64 x, .slice b m c], .slice fa fn fc]) (by simp [results, Tryz.results41, go_sem, z0, z1]) rfl ⟨⟨x, b, m, c, fa, fn, fc, V, L, rfl, HO9.out.ints, HL9, hm, by have := HLL.out; omega⟩, HX9.out⟩
theorem LpRet.parts {w : World} {base : Nat} {e : Ending} {A : List (List Int)} {B : List Int} {C : List (Int × Int)} {ok : Bool} (h : LpRet w base e A B C ok) :
 ∃ a na ca b nb cb c nc cc, e = .returned (.tuple #[.agg #[.slice a na ca, .slice b nb cb, .slice c nc cc], .bool ok]) ∧ IntSS w a na ca A ∧ Ints w b nb cb B ∧ Rats w c nc cc C := by
 obtain ⟨va, vb, vc, vs, rfl, h1, h2, h3, h4, h5⟩ := h
 obtain ⟨a, na, ca, rfl, _⟩ := h1.var
 obtain ⟨b, nb, cb, rfl, _⟩ := h3.var
 obtain ⟨c, nc, cc, rfl, _⟩ := h4.var
 exact ⟨_, _, _, _, _, _, _, _, _, rfl, OwnSS.intss ⟨vs, h1, h2⟩, h3.ints, h4.rats⟩
set_option maxHeartbeats 1000000 in
theorem l_sameLP {w : World} {a : Option Addr} {na ca : Nat} {b : Option Addr} {nb cb : Nat} {c : Option Addr} {nc cc : Nat} {a' : Option Addr} {na' ca' : Nat} {b' : Option Addr} {nb' cb' : Nat} {c' : Option Addr} {nc' cc' : Nat} {A : List (List Int)} {B : List Int} {C : List (Int × Int)}
 (hA : IntSS w a na ca A) (hB : Ints w b nb cb B) (hC : Rats w c nc cc C) (hA' : IntSS w a' na' ca' A) (hB' : Ints w b' nb' cb' B) (hC' : Rats w c' nc' cc' C) :
 Calls Tryz.prog 44 #[.agg #[.slice a na ca, .slice b nb cb, .slice c nc cc], .agg #[.slice a' na' ca', .slice b' nb' cb', .slice c' nc' cc']] w fun e w' => e = .returned (.bool true) ∧ Ext w w' := by
 have hx0 : Ext w ((w.alloc (.cells #[.slice a na ca, .slice b nb cb, .slice c nc cc] 67)).alloc (.cells #[.slice a' na' ca', .slice b' nb' cb', .slice c' nc' cc'] 67)) := (Ext.alloc _ _).trans (Ext.alloc _ _)
 have HX0 := Lib.hid hx0
 have HB := Lib.hid (hB.ext hx0)
 have HB' := Lib.hid (hB'.ext hx0)
 have HC := Lib.hid (hC.ext hx0)
 have HC' := Lib.hid (hC'.ext hx0)
 have HE := Lib.hid (l_sameLists (hA.ext hx0) (hA'.ext hx0))
 rw [decide_eq_true (rfl : A = A)] at HE
 clear hA hA' hB hB' hC hC' hx0
 go_enter Tryz.func44, Tryz.ntmps44
 go_wp2_with fail
 refine HE.out.mono ?_
 rintro e w1 ⟨rfl, hx1⟩
 have hx1 := hx1.ext
 have HX1 := Lib.hid hx1
 have k0 : w1.cell? ⟨w.heap.size, 1, none⟩ = some (.slice b nb cb) := hx1.cellSome (by simp)
 have k1 : w1.cell? ⟨w.heap.size + 1, 1, none⟩ = some (.slice b' nb' cb') := hx1.cellSome (by simp)
 have k2 : w1.cell? ⟨w.heap.size, 2, none⟩ = some (.slice c nc cc) := hx1.cellSome (by simp)
 have k3 : w1.cell? ⟨w.heap.size + 1, 2, none⟩ = some (.slice c' nc' cc') := hx1.cellSome (by simp)
 have HE2 := Lib.hid (l_sameInts (HB.out.ext hx1) (HB'.out.ext hx1))
 rw [decide_eq_true (rfl : B = B)] at HE2
 clear hx1
 go_wp2_with fail
 refine HE2.out.mono ?_
 rintro e w2 ⟨rfl, hx2⟩
 have hx2 := hx2.ext
 replace k2 := hx2.cellSome k2
 replace k3 := hx2.cellSome k3
 have HX2 := Lib.hid (HX1.out.trans hx2)
 have HE3 := Lib.hid (s_EqualVector ((HC.out.ext HX1.out).ext hx2) ((HC'.out.ext HX1.out).ext hx2))
 rw [decide_eq_true (rfl : C = C)] at HE3
 clear hx2 k0 k1
 go_wp2_with fail
 refine HE3.out.mono ?_
 rintro e w3 ⟨rfl, hx3⟩
 have HX3 := Lib.hid (HX2.out.trans hx3.ext)
 clear hx3
 go_wp2_with fail
 go_ret
 exact ⟨rfl, HX0.out.trans HX3.out⟩
theorem rank_bd (n : Int) (l : List Int) : 0 ≤ rankI n l ∧ rankI n l ≤ l.length ∧ (rankI n l = 0 ∨ rankI n l ≤ n) := by
 unfold rankI
 split
 ·next h =>
  simp only [inB, Bool.and_eq_true, decide_eq_true_eq] at h
  obtain ⟨h1, _, h2, _⟩ := runM_ok tame_I (good_dig n.toNat l) n.toNat (by omega)
  rw [List.length_map] at h2
  omega
 ·omega
theorem stage_rows {p : Int} {V : List Int} {L : List (Int × Int × Int)} (h : stOk p V L = true) : ((stAx p V L).length : Int) = p + 1 ∧ 1 ≤ p ∧ p ≤ 5 := by
 have hg : gameOk p V = true := by
  unfold stOk goodL at h; simp only [Bool.and_eq_true] at h; exact h.1.1
 obtain ⟨n, rfl, h1, h5, _⟩ := gameOk_len hg
 rw [(stBx_is h).1, Int.toNat_natCast]
 have hl : (stA n V L).length = n + 1 := by simp [stA]
 rw [hl]
 omega
theorem sameN_rfl (o : Bool) (l : List (Int × Int)) (r : List (Int × Int × Int)) (x : Int) : sameN o l r x o l r x = true := by unfold sameN; simp
set_option maxHeartbeats 8000000 in
theorem l_FnStages {w : World} {a : Option Addr} {n cap : Nat} (h : Bytes w a n cap) :
 Calls Tryz.prog 8 #[.slice a n cap] w fun e w' => e = .returned (.bool true) ∧ Ext w w' := by
 have hcap := h.hcap
 have hmax := h.hmax
 have H := Lib.hid h
 clear h
 by_cases hbig : 1048576 < n
 ·go_enter Tryz.func8, Tryz.ntmps8
  go_wp2_with fail
  go_in
  go_wp2_with fail
  go_ret
  exact ⟨rfl, Ext.refl _⟩
 have hb : n ≤ 1048576 := by omega
 go_enter Tryz.func8, Tryz.ntmps8
 go_wp2_with fail
 go_in
 go_wp2_with fail
 refine (s_DrawStageLP H.out hb).mono ?_
 rintro e w1 ⟨⟨y, b, m, c, fa, fn, fc, V, L, rfl, hV, hL, hm, hfn⟩, hx⟩
 obtain ⟨W, hW⟩ : ∃ W, W = w1.alloc (.cells #[.int .i64 y, .slice b m c] 47) := ⟨_, rfl⟩
 have hxW : Ext w1 W := by rw [hW]; exact Ext.alloc _ _
 have XA := Lib.hid (hx.trans hxW)
 have HV := Lib.hid (hV.ext hxW)
 have HL := Lib.hid (hL.ext hxW)
 have g0 : W.cell? ⟨w1.heap.size, 0, none⟩ = some (.int .i64 y) := by rw [hW]; simp
 have g1 : W.cell? ⟨w1.heap.size, 1, none⟩ = some (.slice b m c) := by rw [hW]; simp
 obtain ⟨ok, hok⟩ : ∃ o, o = stOk y V L := ⟨_, rfl⟩
 have HOK := Lib.hid hok
 have hbb : (ok != ok) = false := by simp
 clear hV hL hx hxW hok
 go_upto_region 4 with fail
 rw [← hW]
 clear hW
 generalize w1.heap.size = bg at g0 g1 ⊢
 go_wp2_with fail
 have HC := Lib.hid (i_StageLP (p := y) HV.out HL.out (by omega))
 rw [← HOK.out] at HC
 refine HC.out.mono ?_
 rintro e w2 ⟨hret, hx⟩
 obtain ⟨a2, na2, ca2, b2, nb2, cb2, c2, nc2, cc2, rfl, hA2, hB2, hC2⟩ := hret.parts
 obtain ⟨W2, hW2⟩ : ∃ W, W = w2.alloc (.cells #[.slice a2 na2 ca2, .slice b2 nb2 cb2, .slice c2 nc2 cc2] 67) := ⟨_, rfl⟩
 have hxW : Ext w2 W2 := by rw [hW2]; exact Ext.alloc _ _
 have X2 := Lib.hid (hx.trans hxW)
 have A2 := Lib.hid (hA2.ext hxW)
 have B2 := Lib.hid (hB2.ext hxW)
 have C2 := Lib.hid (hC2.ext hxW)
 have k20 : W2.cell? ⟨w2.heap.size, 0, none⟩ = some (.slice a2 na2 ca2) := by rw [hW2]; simp
 have k21 : W2.cell? ⟨w2.heap.size, 1, none⟩ = some (.slice b2 nb2 cb2) := by rw [hW2]; simp
 have k22 : W2.cell? ⟨w2.heap.size, 2, none⟩ = some (.slice c2 nc2 cc2) := by rw [hW2]; simp
 replace g0 := X2.out.cellSome g0
 replace g1 := X2.out.cellSome g1
 have HNA := Lib.hid hA2.hlen
 clear hret HC hx hxW hA2 hB2 hC2
 go_upto_region 5 with fail
 rw [← hW2]
 clear hW2
 generalize w2.heap.size = b2g at k20 k21 k22 ⊢
 go_wp2_with fail
 have HC := Lib.hid (s_StageLP (p := y) (HV.out.ext X2.out) (HL.out.ext X2.out) (by omega))
 rw [← HOK.out] at HC
 refine HC.out.mono ?_
 rintro e w3 ⟨hret, hx⟩
 obtain ⟨a3, na3, ca3, b3, nb3, cb3, c3, nc3, cc3, rfl, hA3, hB3, hC3⟩ := hret.parts
 obtain ⟨W3, hW3⟩ : ∃ W, W = w3.alloc (.cells #[.slice a3 na3 ca3, .slice b3 nb3 cb3, .slice c3 nc3 cc3] 67) := ⟨_, rfl⟩
 have hxW : Ext w3 W3 := by rw [hW3]; exact Ext.alloc _ _
 have hx3 := hx.trans hxW
 have HSM := Lib.hid (l_sameLP (A2.out.ext hx3) (B2.out.ext hx3) (C2.out.ext hx3) (hA3.ext hxW) (hB3.ext hxW) (hC3.ext hxW))
 have X3 := Lib.hid (X2.out.trans hx3)
 have k30 : W3.cell? ⟨w3.heap.size, 0, none⟩ = some (.slice a3 na3 ca3) := by rw [hW3]; simp
 have k31 : W3.cell? ⟨w3.heap.size, 1, none⟩ = some (.slice b3 nb3 cb3) := by rw [hW3]; simp
 have k32 : W3.cell? ⟨w3.heap.size, 2, none⟩ = some (.slice c3 nc3 cc3) := by rw [hW3]; simp
 replace g0 := hx3.cellSome g0
 replace g1 := hx3.cellSome g1
 replace k20 := hx3.cellSome k20
 replace k21 := hx3.cellSome k21
 replace k22 := hx3.cellSome k22
 clear hret HC hx hxW hx3 hA3 hB3 hC3
 go_upto_region 6 with fail
 rw [← hW3]
 clear hW3
 generalize w3.heap.size = b3g at k30 k31 k32 ⊢
 go_cut [53] (fun v wx => v = .bool false ∧ Hid (Ext W wx))
 case first =>
  go_wp2_with fail
  refine HSM.out.mono ?_
  rintro e w4 ⟨rfl, hx⟩
  replace g0 := hx.cellSome g0
  replace k20 := hx.cellSome k20
  have X4 := Lib.hid (X3.out.trans hx)
  have hna1 := (A2.out).hcap
  have hna2 := (A2.out).hmax
  have HR := Lib.hid (fun h : ok = true => stage_rows (p := y) (V := V) (L := L) (by rw [← HOK.out]; exact h))
  clear hx g1 k21 k22 k30 k31 k32 HSM
  have HT := Lib.hid (show ok = true → ((na2 : Int) != y + 1) = false ∧ 1 ≤ y ∧ y ≤ 5 from fun h => by
   obtain ⟨h1, h2, h3⟩ := HR.out h
   refine ⟨?_, h2, h3⟩
   rw [HNA.out] at h1
   rw [h1]
   simp)
  cases ok with
  | false =>
    go_wp2_with fail
    go_meet
    exact ⟨rfl, X4⟩
  | true =>
    obtain ⟨h1, h2, h3⟩ := HT.out rfl
    go_wp2_with fail
    go_meet
    exact ⟨rfl, X4⟩
 obtain ⟨rfl, X4⟩ := hcut
 clear g0 g1 k20 k21 k22 k30 k31 k32 HSM X3 X2 A2 B2 C2 HNA HOK hbb HV HL
 have XE := Lib.hid (XA.out.trans X4.out)
 clear XA X4
 go_wp2_with fail
 refine (s_DrawRankOf (H.out.ext XE.out) hb).mono ?_
 rintro e w5 ⟨⟨z, lb, lm, lc, L5, rfl, hl5, hbd, hlm⟩, hx⟩
 have X5 := Lib.hid (XE.out.trans hx)
 have HL5 := Lib.hid hl5
 have HBD := Lib.hid hbd
 have hl1 := hl5.hcap
 have hl2 := hl5.hmax
 obtain ⟨R, hR⟩ : ∃ R, R = rankI z L5 := ⟨_, rfl⟩
 have hrb := rank_bd z L5
 rw [← hR, hl5.hlen] at hrb
 obtain ⟨hr1, hr2, hr3⟩ := hrb
 have HRI := Lib.hid hR
 have HRS := Lib.hid (hR.trans (rank_same z L5))
 clear hx hl5 hbd hR
 go_wp2_with fail
 have HC := Lib.hid (i_RankOf (n := z) HL5.out HBD.out hlm)
 rw [← HRI.out] at HC
 refine HC.out.mono ?_
 rintro e w6 ⟨rfl, hx⟩
 have X6 := Lib.hid hx
 clear hx HC
 go_wp2_with fail
 refine (s_DrawFindNucleolus (H.out.ext (X5.out.trans X6.out)) hb).mono ?_
 rintro e w7 ⟨⟨x, b7, m7, c7, V7, rfl, hV, hm7⟩, hx⟩
 obtain ⟨W7, hW7⟩ : ∃ W, W = w7.alloc (.cells #[.int .i64 x, .slice b7 m7 c7] 47) := ⟨_, rfl⟩
 have hxW : Ext w7 W7 := by rw [hW7]; exact Ext.alloc _ _
 have X7 := Lib.hid (hx.trans hxW)
 have HV7 := Lib.hid (hV.ext hxW)
 have g0 : W7.cell? ⟨w7.heap.size, 0, none⟩ = some (.int .i64 x) := by rw [hW7]; simp
 have g1 : W7.cell? ⟨w7.heap.size, 1, none⟩ = some (.slice b7 m7 c7) := by rw [hW7]; simp
 clear hV hx hxW
 go_upto_region 11 with fail
 rw [← hW7]
 clear hW7
 generalize w7.heap.size = b7g at g0 g1 ⊢
 go_wp2_with fail
 refine (i_FindNucleolus (p := x) HV7.out).mono ?_
 have HBN := Lib.hid (nucR_bd x V7)
 obtain ⟨NR, hNR⟩ : ∃ R, R = nucR x V7 := ⟨_, rfl⟩
 rw [← hNR]
 have HNR := Lib.hid hNR
 clear hNR
 obtain ⟨ro, rp, rs, rk⟩ := NR
 rintro e w8 ⟨⟨pa, pn, pc, sa, sn, sc, rfl, hpt, hst⟩, hx⟩
 obtain ⟨W8, hW8⟩ : ∃ W, W = w8.alloc (.cells #[.bool ro, .slice pa pn pc, .slice sa sn sc, .int .i64 (rk : Int)] 45) := ⟨_, rfl⟩
 have hxW : Ext w8 W8 := by rw [hW8]; exact Ext.alloc _ _
 have X8 := Lib.hid (hx.trans hxW)
 have HP8 := Lib.hid (hpt.rats.ext hxW)
 have HS8 := Lib.hid (hst.fixs.ext hxW)
 have n0 : W8.cell? ⟨w8.heap.size, 0, none⟩ = some (.bool ro) := by rw [hW8]; simp
 have n1 : W8.cell? ⟨w8.heap.size, 1, none⟩ = some (.slice pa pn pc) := by rw [hW8]; simp
 have n2 : W8.cell? ⟨w8.heap.size, 2, none⟩ = some (.slice sa sn sc) := by rw [hW8]; simp
 have n3 : W8.cell? ⟨w8.heap.size, 3, none⟩ = some (.int .i64 (rk : Int)) := by rw [hW8]; simp
 replace g0 := X8.out.cellSome g0
 replace g1 := X8.out.cellSome g1
 clear hx hxW hpt hst
 go_upto_region 12 with fail
 rw [← hW8]
 clear hW8
 generalize w8.heap.size = b8g at n0 n1 n2 n3 ⊢
 have HKK := Lib.hid (fun (w' : World) (h : Ext W8 w') => (⟨h.cellSome g0, h.cellSome g1, h.cellSome n0, h.cellSome n1, h.cellSome n2, h.cellSome n3⟩ : w'.cell? ⟨b7g, 0, none⟩ = some (.int .i64 x) ∧ w'.cell? ⟨b7g, 1, none⟩ = some (.slice b7 m7 c7) ∧ w'.cell? ⟨b8g, 0, none⟩ = some (.bool ro) ∧ w'.cell? ⟨b8g, 1, none⟩ = some (.slice pa pn pc) ∧ w'.cell? ⟨b8g, 2, none⟩ = some (.slice sa sn sc) ∧ w'.cell? ⟨b8g, 3, none⟩ = some (.int .i64 (rk : Int))))
 have hk2 : Ext W8 W8.drew := Ext.drew W8
 have HLR := Lib.hid (fun (w' : World) (h : Ext W8 w') => s_RankOf (n := z) (HL5.out.ext (((X6.out.trans X7.out).trans X8.out).trans h)) HBD.out hlm)
 rw [← HRS.out] at HLR
 have HLN := Lib.hid (fun (w' : World) (h : Ext W8 w') => s_FindNucleolus (p := x) (HV7.out.ext (X8.out.trans h)))
 rw [← HNR.out] at HLN
 have XZ := Lib.hid ((X5.out.trans X6.out).trans (X7.out.trans X8.out))
 clear g0 g1 n0 n1 n2 n3
 by_cases h0 : R = 0
 ·subst h0
  refine wp_region_held_drew (S := (fun w' => w'.cell? ⟨b7g, 0, none⟩ = some (.int .i64 x) ∧ w'.cell? ⟨b7g, 1, none⟩ = some (.slice b7 m7 c7) ∧ w'.cell? ⟨b8g, 0, none⟩ = some (.bool ro) ∧ w'.cell? ⟨b8g, 1, none⟩ = some (.slice pa pn pc) ∧ w'.cell? ⟨b8g, 2, none⟩ = some (.slice sa sn sc) ∧ w'.cell? ⟨b8g, 3, none⟩ = some (.int .i64 (rk : Int)))) (by kernel_rfl) ?_ (fun hHeld => ?_)
  ·exact HKK.out _ hk2
  refine tk 0 ?_
  refine tk 1 ?_
  refine tk 2 ?_
  refine rd (i := 3) (h := fun K hK => ?_)
  go_simp
  refine (HLR.out _ hk2).mono ?_; rintro e w9 ⟨rfl, hx⟩; have hk9 := hk2.trans hx; clear hx
  go_wp2_with fail
  refine hK.out _ _ ?_ (fun hHeld => ?_)
  ·exact HKK.out _ hk9
  clear hK K
  try simp only [Act.put, sA, sB, sC]
  refine tk 4 ?_
  refine tk 5 ?_
  refine tk 6 ?_
  refine tk 7 ?_
  refine tk 8 ?_
  refine tk 9 ?_
  refine tk 10 ?_
  refine tk 11 ?_
  refine tk 12 ?_
  refine tk 13 ?_
  refine tk 14 ?_
  refine sk 15 ?_
  refine sk 16 ?_
  refine sk 17 ?_
  refine tk 18 ?_
  refine tk 19 ?_
  refine tk 20 ?_
  refine tk 21 ?_
  refine tk 22 ?_
  refine rd (i := 23) (h := fun K hK => ?_)
  go_simp
  refine (HLN.out _ hk9).mono ?_; rintro e w10 ⟨⟨pa', pn', pc', sa', sn', sc', rfl, hpt, hst⟩, hx⟩; have hk10 := hk9.trans hx; have HEQ := Lib.hid (i_EqualNucleolus (o := ro) (o' := ro) (x := (rk : Int)) (x' := (rk : Int)) (HP8.out.ext hk10) (HS8.out.ext hk10) hpt.rats hst.fixs); rw [sameN_rfl] at HEQ; clear hx hpt hst
  go_wp2_with fail
  refine hK.out _ _ ?_ (fun hHeld => ?_)
  ·exact HKK.out _ hk10
  clear hK K
  try simp only [Act.put, sA, sB, sC]
  refine rd (i := 24) (h := fun K hK => ?_)
  go_simp
  refine HEQ.out.mono ?_; rintro e w11 ⟨rfl, hx⟩; have hk11 := hk10.trans hx; clear hx
  go_wp2_with fail
  refine hK.out _ _ ?_ (fun hHeld => ?_)
  ·exact HKK.out _ hk11
  clear hK K
  try simp only [Act.put, sA, sB, sC]
  refine tk 25 ?_
  refine tk 26 ?_
  refine wpAnyH_done (by kernel_rfl) ?_ _
  go_wp2_with fail
  go_ret
  exact ⟨rfl, XZ.out.trans hk11⟩
 ·have hr4 : R ≤ z := by omega
  have h0' : (R == 0) = false := by simp [h0]
  refine wp_region_held_drew (S := (fun w' => w'.cell? ⟨b7g, 0, none⟩ = some (.int .i64 x) ∧ w'.cell? ⟨b7g, 1, none⟩ = some (.slice b7 m7 c7) ∧ w'.cell? ⟨b8g, 0, none⟩ = some (.bool ro) ∧ w'.cell? ⟨b8g, 1, none⟩ = some (.slice pa pn pc) ∧ w'.cell? ⟨b8g, 2, none⟩ = some (.slice sa sn sc) ∧ w'.cell? ⟨b8g, 3, none⟩ = some (.int .i64 (rk : Int)))) (by kernel_rfl) ?_ (fun hHeld => ?_)
  ·exact HKK.out _ hk2
  refine tk 0 ?_
  refine tk 1 ?_
  refine tk 2 ?_
  refine rd (i := 3) (h := fun K hK => ?_)
  go_simp
  refine (HLR.out _ hk2).mono ?_; rintro e w9 ⟨rfl, hx⟩; have hk9 := hk2.trans hx; clear hx
  go_wp2_with fail
  refine hK.out _ _ ?_ (fun hHeld => ?_)
  ·exact HKK.out _ hk9
  clear hK K
  try simp only [Act.put, sA, sB, sC]
  refine tk 4 ?_
  refine tk 5 ?_
  refine tk 6 ?_
  refine tk 7 ?_
  refine tk 8 ?_
  refine tk 9 ?_
  refine tk 10 ?_
  refine tk 11 ?_
  refine tk 12 ?_
  refine tk 13 ?_
  refine tk 14 ?_
  refine tk 15 ?_
  refine tk 16 ?_
  refine tk 17 ?_
  refine tk 18 ?_
  refine tk 19 ?_
  refine tk 20 ?_
  refine tk 21 ?_
  refine tk 22 ?_
  refine rd (i := 23) (h := fun K hK => ?_)
  go_simp
  refine (HLN.out _ hk9).mono ?_; rintro e w10 ⟨⟨pa', pn', pc', sa', sn', sc', rfl, hpt, hst⟩, hx⟩; have hk10 := hk9.trans hx; have HEQ := Lib.hid (i_EqualNucleolus (o := ro) (o' := ro) (x := (rk : Int)) (x' := (rk : Int)) (HP8.out.ext hk10) (HS8.out.ext hk10) hpt.rats hst.fixs); rw [sameN_rfl] at HEQ; clear hx hpt hst
  go_wp2_with fail
  refine hK.out _ _ ?_ (fun hHeld => ?_)
  ·exact HKK.out _ hk10
  clear hK K
  try simp only [Act.put, sA, sB, sC]
  refine rd (i := 24) (h := fun K hK => ?_)
  go_simp
  refine HEQ.out.mono ?_; rintro e w11 ⟨rfl, hx⟩; have hk11 := hk10.trans hx; clear hx
  go_wp2_with fail
  refine hK.out _ _ ?_ (fun hHeld => ?_)
  ·exact HKK.out _ hk11
  clear hK K
  try simp only [Act.put, sA, sB, sC]
  refine tk 25 ?_
  refine tk 26 ?_
  refine wpAnyH_done (by kernel_rfl) ?_ _
  go_wp2_with fail
  go_ret
  exact ⟨rfl, XZ.out.trans hk11⟩
end Go.Proofs.YtgohdmnbnhehnaaGreat
