import Derived.Test.YtgohdmnbnhehnaaGreatFnAllG2
import Derived.Test.YtgohdmnbnhehnaaGreatFnAllG21
import Derived.Test.YtgohdmnbnhehnaaGreatFnAllG26
import Derived.Test.YtgohdmnbnhehnaaGreatFnAllG27
namespace Go.Proofs.YtgohdmnbnhehnaaGreat
set_option linter.unusedVariables false
open Go.RowKit
theorem eqNR (o : Bool) (x : Int) (l : List (Int × Int)) (r : List (Int × Int × Int)) : sameN o l r x o l r x = true := by unfold sameN; simp
set_option maxHeartbeats 8000000 in
theorem l_FnExactFindNucleolus {w : World} {x : Int} {a : Option Addr} {n cap : Nat} {l : List Int} (h : Ints w a n cap l) :
 Calls Tryz.prog 5 #[pair x a n cap] w fun e w' => e = .returned (.bool true) ∧ Ext w w' := by
 have hm : n ≤ 9223372036854775807 := Nat.le_trans h.hcap h.hmax
 have hz := szF_le 1048576 n (by omega) (by omega)
 have h1 := h.alloc (.cells #[.int .i64 x, .slice a n cap] 41)
 have HX := Lib.hid (Ext.alloc w (.cells #[.int .i64 x, .slice a n cap] 41))
 by_cases hlt : szF 1048576 n < 0
 ·go_enter Tryz.func5, Tryz.ntmps5
  go_wp2_with fail
  refine (l_szGame _ _ _ _ _ _ (by omega) (by omega) hm).mono ?_
  rintro e w1 ⟨rfl, hx⟩
  have HX1 := Lib.hid (HX.out.trans hx)
  clear hx
  go_wp2
  go_ret
  exact ⟨rfl, HX1.out⟩
 ·have hb : n ≤ 1048576 := by omega
  have HLEN := Lib.hid (nucR_bd x l)
  obtain ⟨R, hR⟩ : ∃ R, R = nucR x l := ⟨_, rfl⟩
  have HRR := Lib.hid hR
  rw [← hR] at HLEN
  obtain ⟨ro, rp, rs, rk⟩ := R
  clear hR
  have HL := Lib.hid h.hlen
  go_enter Tryz.func5, Tryz.ntmps5
  go_wp2_with fail
  refine (l_szGame _ _ _ _ _ _ (by omega) (by omega) hm).mono ?_
  rintro e w1 ⟨rfl, hx⟩
  have c0 : w1.cell? ⟨w.heap.size, 0, none⟩ = some (.int .i64 x) := hx.cellSome (by simp)
  have c1 : w1.cell? ⟨w.heap.size, 1, none⟩ = some (.slice a n cap) := hx.cellSome (by simp)
  have HX1 := Lib.hid (HX.out.trans hx)
  have h2 := h1.ext hx
  clear hx h1 h hz
  go_wp2_with fail
  refine (l_toGame h2 (by omega)).mono ?_
  rintro e w2 ⟨b, rfl, hrow, hbb, hx⟩
  have X12 := Lib.hid hx
  clear hx
  go_wp2_with fail
  have HSR := Lib.hid (s_FindNucleolus (p := x) (hrow.ints HL.out (Nat.le_refl _) hm))
  rw [← HRR.out] at HSR
  refine HSR.out.mono ?_
  rintro e w3a ⟨⟨pa0, pn0, pc0, sa0, sn0, sc0, rfl, hpt, hst⟩, hx⟩
  obtain ⟨w3, hw3⟩ : ∃ E, E = w3a.alloc (.cells #[.bool ro, .slice pa0 pn0 pc0, .slice sa0 sn0 sc0, .int .i64 (rk : Int)] 45) := ⟨_, rfl⟩
  have hx3a : Ext w3a w3 := by rw [hw3]; exact Ext.alloc _ _
  have hg0 : w3.heap[w3a.heap.size]? = some (.cells #[.bool ro, .slice pa0 pn0 pc0, .slice sa0 sn0 sc0, .int .i64 (rk : Int)] 45 (0, 0)) := by rw [hw3]; exact heapA_new _ _ _ rfl
  have X13 := Lib.hid ((X12.out.trans hx).trans hx3a)
  have O0 := Lib.hid (hpt.ext hx3a)
  have Q0 := Lib.hid (hst.ext hx3a)
  go_upto_region 6 with fail
  rw [← hw3]
  generalize w3a.heap.size = B0 at hg0 ⊢
  have G0 := Lib.hid hg0
  clear hw3 hx3a hg0 hpt hst
  have c0' := X13.out.cellSome c0
  have c1' := X13.out.cellSome c1
  have c0'' := Lib.hid c0'
  have c1'' := Lib.hid c1'
  have HX3 := Lib.hid (HX1.out.trans X13.out)
  have H3 := Lib.hid (h2.ext X13.out)
  clear hx hrow hbb c0 c1 h2
  go_wp2_with fail
  refine (l_toGame H3.out (by omega)).mono ?_
  rintro e w4 ⟨b2, rfl, hrow, hbb, hx⟩
  have c0 := hx.cellSome c0'
  have c1 := hx.cellSome c1'
  have X34 := Lib.hid hx
  have hlt4 : w.heap.size < w4.heap.size := World.block_lt_of_cell? _ _ c0
  have hlt3 : w.heap.size < w3.heap.size := World.block_lt_of_cell? _ _ c0'
  have B2 := Lib.hid hbb
  have L2 := Lib.hid hrow.lt
  have R2 := Lib.hid ((hrow.own hbb HL.out (by omega)).ext (Ext.alloc _ (.cells #[.int .i64 x, .slice (some ⟨b2, 0, none⟩) n n] 47)))
  have HI0 := i_FindNucleolus (p := x) R2.out.ints
  rw [← HRR.out] at HI0
  have HI := Lib.hid HI0
  clear hx hrow hbb c0' c1' HI0
  go_wp2_with fail
  refine HI.out.mono ?_
  rintro e w5a ⟨⟨pa1, pn1, pc1, sa1, sn1, sc1, rfl, hpt, hst⟩, hx⟩
  obtain ⟨w5, hw5⟩ : ∃ E, E = w5a.alloc (.cells #[.bool ro, .slice pa1 pn1 pc1, .slice sa1 sn1 sc1, .int .i64 (rk : Int)] 45) := ⟨_, rfl⟩
  have hx5a : Ext w5a w5 := by rw [hw5]; exact Ext.alloc _ _
  have hg1 : w5.heap[w5a.heap.size]? = some (.cells #[.bool ro, .slice pa1 pn1 pc1, .slice sa1 sn1 sc1, .int .i64 (rk : Int)] 45 (0, 0)) := by rw [hw5]; exact heapA_new _ _ _ rfl
  have HGB := Lib.hid (show w4.heap.size < w5a.heap.size by have := hx.size; simp at this; omega)
  have hx := hx.trans hx5a
  have c0' : w5.cell? ⟨w.heap.size, 0, none⟩ = some (.int .i64 x) := hx.cellSome ((Ext.alloc _ _).cellSome c0)
  have c1' : w5.cell? ⟨w.heap.size, 1, none⟩ = some (.slice a n cap) := hx.cellSome ((Ext.alloc _ _).cellSome c1)
  have d0 : w5.cell? ⟨w4.heap.size, 0, none⟩ = some (.int .i64 x) := hx.cellSome (by simp)
  have d1 : w5.cell? ⟨w4.heap.size, 1, none⟩ = some (.slice (some ⟨b2, 0, none⟩) n n) := hx.cellSome (by simp)
  have X35 := Lib.hid ((X34.out.trans (Ext.alloc _ _)).trans hx)
  have R3 := Lib.hid (R2.out.ext hx)
  have O1 := Lib.hid (hpt.ext hx5a)
  have Q1 := Lib.hid (hst.ext hx5a)
  go_upto_region 8 with fail
  rw [← hw5]
  generalize w5a.heap.size = B1 at hg1 HGB ⊢
  have G1 := Lib.hid hg1
  obtain ⟨u0, u1, u2, u3, _⟩ := nbox G1.out
  obtain ⟨t0, t1, t2, t3, _⟩ := nbox (X35.out.blk G0.out)
  clear hx c0 c1 hw5 hx5a hg1 hpt hst
  have HE := Lib.hid (l_eqNuc (o := ro) (o' := ro) (x := (rk : Int)) (x' := (rk : Int)) O1.out.rats Q1.out.fixs (O0.out.ext X35.out).rats (Q0.out.ext X35.out).fixs)
  rw [eqNR] at HE
  go_wp2_with fail
  refine HE.out.mono ?_
  rintro e w6 ⟨rfl, hx⟩
  have c0 := hx.cellSome c0'
  have c1 := hx.cellSome c1'
  have d0' := hx.cellSome d0
  have d1' := hx.cellSome d1
  have X36 := Lib.hid (X35.out.trans hx)
  have R4 := Lib.hid (R3.out.ext hx)
  have O2 := Lib.hid (O1.out.ext hx)
  have Q2 := Lib.hid (Q1.out.ext hx)
  have G2 := Lib.hid (hx.blk G1.out)
  clear hx c0' c1' d0 d1 u0 u1 u2 u3 t0 t1 t2 t3
  go_wp2_with fail
  have hk : Ext w6 w6.drew := Ext.drew w6
  have H6 := Lib.hid ((H3.out.ext X36.out).ext hk)
  have R5 := Lib.hid (R4.out.ext hk)
  go_region_held3 (fun w' => w'.cell? ⟨w.heap.size, 0, none⟩ = some (.int .i64 x) ∧ w'.cell? ⟨w.heap.size, 1, none⟩ = some (.slice a n cap) ∧ w'.cell? ⟨w4.heap.size, 0, none⟩ = some (.int .i64 x) ∧ w'.cell? ⟨w4.heap.size, 1, none⟩ = some (.slice (some ⟨b2, 0, none⟩) n n) ∧ Ext w6 w')
   (exact ⟨hk.cellSome c0, hk.cellSome c1, hk.cellSome d0', hk.cellSome d1', hk⟩)
   (first
     | (go_at_call 25; refine (l_toGame H6.out (by omega)).mono ?_; rintro e w7 ⟨b3, rfl, hrow, hbb, hx6⟩; have hk := hk.trans hx6)
     | (go_at_call 28; refine (l_eqGame (R5.out.ext hx6).ints (hrow.ints HL.out (Nat.le_refl _) hm)).mono ?_; rintro e w8 ⟨rfl, hx7⟩; have hk := hk.trans hx7))
  have c0 := hk.cellSome c0
  have c1 := hk.cellSome c1
  have d0 := hk.cellSome d0'
  have d1 := hk.cellSome d1'
  have X37 := Lib.hid (X36.out.trans hk)
  have R6 := Lib.hid (R4.out.ext hk)
  have O3 := Lib.hid (O2.out.ext hk)
  have Q3 := Lib.hid (Q2.out.ext hk)
  have G3 := Lib.hid (hk.blk G2.out)
  clear hk d0' d1' H6 R5
  go_wp2_with fail
  refine (l_markGame (x := x) R6.out 1 (by omega) (by omega)).mono ?_
  rintro e w10 ⟨rfl, _, hg⟩
  have X310 := Lib.hid (ext_grown X37.out hg fun k hk => by have := Option.some.inj (show some b2 = some k from hk); have := B2.out; omega)
  have HOFF := Lib.hid (fun (k : Nat) (h1 : w4.heap.size < k) (e : some k = (Value.slice (some ⟨b2, 0, none⟩) n n).ownBlock) => show False by have := Option.some.inj (show some k = some b2 from e); have := L2.out; omega)
  have O4 := Lib.hid (O3.out.keep fun k hk => hg.block k (O3.out.lt k hk).2 fun e => HOFF.out k (by have h1 := (O3.out.lt k hk).1; simp at h1; omega) e)
  have Q4 := Lib.hid (Q3.out.keep fun k hk => hg.block k (Q3.out.lt k hk).2 fun e => HOFF.out k (by have h1 := (Q3.out.lt k hk).1; simp at h1; omega) e)
  have G4 := Lib.hid ((hg.block B1 (lt_of_block G3.out) fun e => HOFF.out B1 HGB.out e).trans G3.out)
  have c0 := X310.out.cellSome c0''.out
  have c1 := X310.out.cellSome c1''.out
  obtain ⟨u0, u1, u2, u3, _⟩ := nbox G4.out
  obtain ⟨t0, t1, t2, t3, _⟩ := nbox (X310.out.blk G0.out)
  clear hg d0 d1
  have HE := Lib.hid (l_eqNuc (o := ro) (o' := ro) (x := (rk : Int)) (x' := (rk : Int)) O4.out.rats Q4.out.fixs (O0.out.ext X310.out).rats (Q0.out.ext X310.out).fixs)
  rw [eqNR] at HE
  have hneg : ¬ (1 + (n : Int) < 0) := by omega
  go_wp2_with fail
  refine HE.out.mono ?_
  rintro e w11 ⟨rfl, hx⟩
  have c0' := hx.cellSome c0
  have c1' := hx.cellSome c1
  have X311 := Lib.hid (X310.out.trans hx)
  have O5 := Lib.hid (O4.out.ext hx)
  have Q5 := Lib.hid (Q4.out.ext hx)
  have G5 := Lib.hid (hx.blk G4.out)
  have hn1 : pn1 ≤ 5 := by have h1 := O5.out.rats.hlen; have h2 := HLEN.out.1; (try simp only at h2); omega
  have hm1 : sn1 ≤ 2000 := by have h1 := Q5.out.fixs.hlen; have h2 := HLEN.out.2; (try simp only at h2); omega
  have HOB := Lib.hid (fun (k : Nat) (h : w4.heap.size + 1 ≤ k) => h)
  obtain ⟨u0', u1', u2', u3', _⟩ := nbox G5.out
  clear hx c0 c1 u0 u1 u2 u3 t0 t1 t2 t3
  have HMK := Lib.hid (l_markNuc (o := ro) (x := (rk : Int)) O5.out Q5.out (by have := X311.out.size; have h1 := X34.out.size; have h2 := lt_of_block G5.out; have h3 := HGB.out; simp; omega) 1 (by omega) (by omega))
  go_wp2_with fail
  refine HMK.out.mono ?_
  rintro e w12 ⟨rfl, ho, hq, hbl, hbx⟩
  have G6 := Lib.hid (hbx _ _ G5.out)
  have X312 := Lib.hid (show Ext w3 w12 from Below.trans X311.out (Below.mono hbl (by have h1 := X34.out.size; simp; omega)))
  have O6 := Lib.hid ho
  have Q6 := Lib.hid hq
  have c0 := X312.out.cellSome c0''.out
  have c1 := X312.out.cellSome c1''.out
  obtain ⟨u0, u1, u2, u3, _⟩ := nbox G6.out
  clear ho hq hbl hbx c0' c1' u0' u1' u2' u3'
  have hneg1 : ¬ (1 + 2 * (pn1 : Int) + 3 * (sn1 : Int) < 0) := by omega
  have hne : ((1 + 2 * (pn1 : Int) + 3 * (sn1 : Int)) != (1 + 2 * (pn1 : Int) + 3 * (sn1 : Int))) = false := by simp
  have HHD := Lib.hid (l_heldNuc (o := ro) (x := (rk : Int)) 1 O6.out.rats Q6.out.fixs (by omega) (by omega))
  go_wp2_with fail
  refine HHD.out.mono ?_
  rintro e w13 ⟨rfl, hx⟩
  have X313 := Lib.hid (X312.out.trans hx)
  have O7 := Lib.hid (O6.out.ext hx)
  have Q7 := Lib.hid (Q6.out.ext hx)
  have G7 := Lib.hid (hx.blk G6.out)
  have H12 := Lib.hid (H3.out.ext X313.out)
  have c0' := hx.cellSome c0
  have c1' := hx.cellSome c1
  clear hx c0 c1 u0 u1 u2 u3
  go_wp2_with fail
  refine (l_toGame H12.out (by omega)).mono ?_
  rintro e w14 ⟨b4, rfl, hrow, hbb, hx⟩
  have X314 := Lib.hid (X313.out.trans hx)
  have O8 := Lib.hid (O7.out.ext hx)
  have Q8 := Lib.hid (Q7.out.ext hx)
  have G8 := Lib.hid (hx.blk G7.out)
  have HI0 := i_FindNucleolus (p := x) (hrow.ints HL.out (Nat.le_refl _) hm)
  rw [← HRR.out] at HI0
  have HI := Lib.hid HI0
  clear hx hrow hbb HI0
  go_wp2_with fail
  refine HI.out.mono ?_
  rintro e w15a ⟨⟨pa2, pn2, pc2, sa2, sn2, sc2, rfl, hpt, hst⟩, hx⟩
  obtain ⟨w15, hw15⟩ : ∃ E, E = w15a.alloc (.cells #[.bool ro, .slice pa2 pn2 pc2, .slice sa2 sn2 sc2, .int .i64 (rk : Int)] 45) := ⟨_, rfl⟩
  have hx5a : Ext w15a w15 := by rw [hw15]; exact Ext.alloc _ _
  have hg1 : w15.heap[w15a.heap.size]? = some (.cells #[.bool ro, .slice pa2 pn2 pc2, .slice sa2 sn2 sc2, .int .i64 (rk : Int)] 45 (0, 0)) := by rw [hw15]; exact heapA_new _ _ _ rfl
  have X315 := Lib.hid ((X314.out.trans hx).trans hx5a)
  have O9 := Lib.hid (hpt.ext hx5a)
  have Q9 := Lib.hid (hst.ext hx5a)
  have O10 := Lib.hid (O8.out.ext (hx.trans hx5a))
  have Q10 := Lib.hid (Q8.out.ext (hx.trans hx5a))
  have G10 := Lib.hid ((hx.trans hx5a).blk G8.out)
  go_upto_region 25 with fail
  rw [← hw15]
  generalize w15a.heap.size = B2' at hg1 ⊢
  obtain ⟨u0, u1, u2, u3, _⟩ := nbox hg1
  obtain ⟨t0, t1, t2, t3, _⟩ := nbox (X315.out.blk G0.out)
  clear hx hw15 hx5a hg1 hpt hst c0' c1'
  have HE := Lib.hid (l_eqNuc (o := ro) (o' := ro) (x := (rk : Int)) (x' := (rk : Int)) O9.out.rats Q9.out.fixs (O0.out.ext X315.out).rats (Q0.out.ext X315.out).fixs)
  rw [eqNR] at HE
  go_wp2_with fail
  refine HE.out.mono ?_
  rintro e w16 ⟨rfl, hx⟩
  have X316 := Lib.hid (X315.out.trans hx)
  have O11 := Lib.hid (O10.out.ext hx)
  have Q11 := Lib.hid (Q10.out.ext hx)
  obtain ⟨v0, v1, v2, v3, _⟩ := nbox (hx.blk G10.out)
  clear hx u0 u1 u2 u3 t0 t1 t2 t3
  have HHE := Lib.hid (l_heldNuc (o := ro) (x := (rk : Int)) 1 O11.out.rats Q11.out.fixs (by omega) (by omega))
  go_wp2_with fail
  refine HHE.out.mono ?_
  rintro e w17 ⟨rfl, hx⟩
  have X317 := Lib.hid (X316.out.trans hx)
  clear hx
  go_wp2
  go_ret
  exact ⟨rfl, HX3.out.trans X317.out⟩
end Go.Proofs.YtgohdmnbnhehnaaGreat
