import Derived.Test.YtgohdmnbnhehnaaGreatGwAllG8
import Derived.Test.YtgohdmnbnhehnaaGreatGwAllG9
import Derived.Test.YtgohdmnbnhehnaaGreatGwAllG12
import Derived.Deep.Cut
import Derived.Test.YtgohdmnbnhehnaaGreatGwAllG14
import Derived.Test.YtgohdmnbnhehnaaGreatGwAllG40
import Derived.Test.YtgohdmnbnhehnaaGreatGwAllG41
namespace Go.Proofs.YtgohdmnbnhehnaaGreat
set_option linter.unusedVariables false
set_option linter.unusedSimpArgs false
set_option maxRecDepth 100000
open Go.RowKit
theorem cntC_of {k : Int} (h0 : 0 ≤ k) (h3 : k ≤ 3) : ∃ t : Nat, cntC (1 + k) = t ∧ 2 ≤ t ∧ t ≤ 16 := by
 obtain ⟨q, rfl⟩ : ∃ q : Nat, k = q := ⟨k.toNat, by omega⟩
 match q, h3 with
 | 0, _ => exact ⟨2, by decide, by omega, by omega⟩
 | 1, _ => exact ⟨4, by decide, by omega, by omega⟩
 | 2, _ => exact ⟨8, by decide, by omega, by omega⟩
 | 3, _ => exact ⟨16, by decide, by omega, by omega⟩
 | q + 4, h => omega
set_option maxHeartbeats 4000000 in
theorem s_DrawIsBalancedSet {w : World} {a : Option Addr} {n cap : Nat} (h : Bytes w a n cap) (hn : n ≤ 1048576) :
 Calls Tryz.prog 54 #[.slice a n cap] w fun e w' => (∃ (x : Int) (b : Option Addr) (m c : Nat) (L : List Int), e = .returned (.tuple #[.int .i64 x, .slice b m c]) ∧ Ints w' b m c L ∧ (∀ k : Nat, L[k]?.getD 0 ≤ 9223372036854775807) ∧ m ≤ 1048576) ∧ Ext w w' := by
 have HN := Lib.hid (s_l1New h hn)
 clear h
 go_enter Tryz.func54, Tryz.ntmps54
 go_wp2_with fail
 refine HN.out.mono ?_
 rintro e w0 ⟨⟨cb, rfl, hcb, hc⟩, hx⟩
 have hcl := hc.lt
 have HB0 := Lib.hid (Bxs.start hc (grown_ext (some cb) hx))
 clear hc hx
 go_wp2_with fail
 refine (s_l1Below HB0.out.cur 4 (by omega)).mono ?_
 rintro e w1 ⟨⟨z, rfl, hz0, hz1⟩, hc, hg⟩
 obtain ⟨t, ht, ht2, ht16⟩ := cntC_of hz0 (by omega)
 have HT := Lib.hid ht
 have hs01 := hg.size
 have HB1 := Lib.hid ((HB0.out.call hc hg).ext (Ext.alloc w1 (.cells #[] 3)))
 have HO1 := Lib.hid (OwnI.madeS w1 w1.heap.size _ rfl (Nat.le_refl _))
 clear hc hg ht
 go_wp2_with fail
 refine (s_l1Below HB1.out.cur 5 (by omega)).mono ?_
 rintro e w2 ⟨⟨kk, rfl, hk0, hk1⟩, hc, hg⟩
 obtain ⟨q, rfl⟩ : ∃ q : Nat, kk = q := ⟨kk.toNat, by omega⟩
 have hq : q ≤ 6 := by omega
 have hcl1 : cb < w1.heap.size := by omega
 have HB2 := Lib.hid (HB1.out.call hc hg)
 have HO2 := Lib.hid (HO1.out.calls hg hcl1)
 have hs12 : w1.heap.size ≤ w2.heap.size := Nat.le_trans (by simp) hg.size
 clear hc hg hk0 hk1
 go_wp2_with fail
 go_loopg [6, 8] q (fun gk oo ii wr => ∃ (k : Nat) (a1 : Option Addr) (n1 c1 : Nat) (L : List Int), Hid (gk + k = q) ∧ oo = .slice a1 n1 c1 ∧ ii = .int .i64 (k : Int) ∧ Hid (w1.heap.size ≤ wr.heap.size) ∧ Hid (Bxs w wr cb Bx.nil) ∧ Hid (OwnI wr w1.heap.size (.slice a1 n1 c1) L) ∧ Hid (L.length = k) ∧ Hid (∀ x ∈ L, -1 ≤ x ∧ x ≤ 32))
 case atStart => exact ⟨0, _, _, _, [], Lib.hid (by omega), rfl, rfl, Lib.hid hs12, HB2, HO2, Lib.hid rfl, Lib.hid (by simp)⟩
 case round =>
  obtain ⟨g1, h_g1⟩ : ∃ x, x = gk := ⟨_, rfl⟩
  subst h_g1
  obtain ⟨wr, h_wr⟩ : ∃ x, x = wr := ⟨_, rfl⟩
  subst h_wr
  obtain ⟨k, a1, n1, c1, L, HK, rfl, rfl, HZ, HB, HO, HLN, HLB⟩ := hrel
  by_cases hlt : k < q
  ·have HCC := Lib.hid (s_CountCoalitions (1 + z) wr)
   rw [HT.out] at HCC
   go_wp2_with fail
   refine HCC.out.mono ?_
   rintro e w3' ⟨rfl, rfl⟩
   have HA := Lib.hid (s_l1Below HB.out.cur ((t : Int) - 1) (by omega))
   go_wp2_with fail
   refine HA.out.mono ?_
   rintro e w3 ⟨⟨y, rfl, hy0, hy1⟩, hc, hg⟩
   have HB3 := Lib.hid (HB.out.call hc hg)
   have HO3 := Lib.hid (HO.out.calls hg hcl1)
   have hbz : w1.heap.size ≤ w3.heap.size := Nat.le_trans HZ.out hg.size
   clear hc hg
   go_wp2_with (first
    | (at_builtin
       have T1 := HO3.out.ext (Ext.alloc w3 (.cells #[.int .i64 (1 + y)] 3))
       refine append_ints rfl _ _ rfl w1.heap.size (.slice a1 n1 c1) _ rfl T1 _ 1 _ [1 + y] rfl (Ints.oneS _ _ _ _ (by simp)) (by have := HLN.out; omega) (by simp; omega) ?_
       intro v4 w4 ho hg hnear
       obtain ⟨a4, n4, c4, rfl, HN4⟩ := ho.var
       have HO4 := Lib.hid ho
       have hs4 : w1.heap.size ≤ w4.heap.size := Nat.le_trans (by simp; omega) hg.size
       have HB4 := Lib.hid ((HB3.out.ext (Ext.alloc w3 (.cells #[.int .i64 (1 + y)] 3))).grew hg (fun j hj => ⟨by have := (T1.lt j hj).1; omega, by have := (T1.lt j hj).1; omega, rfl⟩))
       clear ho hg hnear T1))
   go_roundg (g1 - 1)
   case measure => have := HK.out; omega
   case rel => exact ⟨k + 1, a4, n4, c4, _, Lib.hid (by have := HK.out; omega), rfl, by go_num, Lib.hid hs4, HB4, HO4, Lib.hid (by rw [List.length_append, HLN.out]; rfl), Lib.hid (bd_snoc HLB.out ⟨by omega, by omega⟩)⟩
  ·have HA := Lib.hid (s_l1Once HB.out.cur 12 (by omega))
   go_wp2_with fail
   refine HA.out.mono ?_
   rintro e w3 ⟨⟨o, rfl⟩, hc, hg⟩
   have HB3 := Lib.hid (HB.out.call hc hg)
   have HO3 := Lib.hid (HO.out.calls hg hcl1)
   have hbz : w1.heap.size ≤ w3.heap.size := Nat.le_trans HZ.out hg.size
   clear hc hg
   cases o with
   | false =>
     go_wp2_with fail
     go_ret2
     exact ⟨⟨1 + z, a1, n1, c1, L, rfl, HO3.out.ints, bd_get HLB.out (by omega), by have h1 := HO3.out.ints.hlen; have h2 := HLN.out; have h3 := HK.out; omega⟩, HB3.out.all hcb⟩
   | true =>
     go_wp2_with fail
     refine (s_l2Any HB3.out.cur).mono ?_
     rintro e w5 ⟨⟨y, rfl, hy0, hy1⟩, hc, hg⟩
     have HB5 := Lib.hid (HB3.out.call hc hg)
     have HO5 := Lib.hid (HO3.out.calls hg hcl1)
     have hbz5 : w1.heap.size ≤ w5.heap.size := Nat.le_trans hbz hg.size
     clear hc hg
     go_wp2_with (first
      | (at_builtin
         have T1 := HO5.out.ext (Ext.alloc w5 (.cells #[.int .i64 y] 3))
         refine append_ints rfl _ _ rfl w1.heap.size (.slice a1 n1 c1) _ rfl T1 _ 1 _ [y] rfl (Ints.oneS _ _ _ _ (by simp)) (by have h1 := HLN.out; have h2 := HK.out; omega) (by simp; omega) ?_
         intro v4 w4 ho hg hnear
         obtain ⟨a4, n4, c4, rfl, HN4⟩ := ho.var
         have HO4 := Lib.hid ho
         have HB4 := Lib.hid ((HB5.out.ext (Ext.alloc w5 (.cells #[.int .i64 y] 3))).grew hg (fun j hj => ⟨by have := (T1.lt j hj).1; omega, by have := (T1.lt j hj).1; omega, rfl⟩))
         clear ho hg hnear T1))
     go_ret2
     exact ⟨⟨1 + z, a4, n4, c4, _, rfl, HO4.out.ints, bd_get (bd_snoc HLB.out ⟨hy0, hy1⟩) (by omega), by have h1 := HO4.out.ints.hlen; rw [List.length_append] at h1; have h2 := HLN.out; have h3 := HK.out; simp at h1; omega⟩, HB4.out.all hcb⟩
def payBx (r : Nat) (x : Int) (a : Option Addr) (n c : Nat) : Bx := Bx.nil.upd r (#[.int .i64 x, .slice a n c], 47)
theorem OwnR.calls {w w' : World} {cb base : Nat} {v : Value} {l : List (Int × Int)} (h : OwnR w base v l) (hg : w.grownBy w' (some cb)) (hb : cb < base) : OwnR w' base v l :=
 h.keep fun k hk => grown_block hg (h.lt k hk).2 (by have := (h.lt k hk).1; omega)
theorem payBx_at (r : Nat) (x : Int) (a : Option Addr) (n c : Nat) : payBx r x a n c r = some (#[.int .i64 x, .slice a n c], 47) := Bx.same _ _ _
theorem payBx_off {r k : Nat} (h : k ≠ r) (x : Int) (a : Option Addr) (n c : Nat) : payBx r x a n c k = none := (Bx.other _ _ h).trans rfl
set_option maxHeartbeats 8000000 in
theorem s_l11Payoff {w : World} {cb : Nat} (h : Cur w cb) {x : Int} {a : Option Addr} {n cap : Nat} {V : List Int} (hi : Ints w a n cap V) :
 Calls Tryz.prog 167 #[.pointer (some ⟨cb, 0, none⟩), pair x a n cap] w fun e w' => (∃ (b : Option Addr) (m c : Nat) (L : List (Int × Int)), e = .returned (.slice b m c) ∧ OwnR w' w.heap.size (.slice b m c) L ∧ m ≤ 5) ∧ Cur w' cb ∧ w.grownBy w' (some cb) := by
 have hcl := h.lt
 obtain ⟨W, hW⟩ : ∃ W, W = (w.alloc (.cells #[.int .i64 x, .slice a n cap] 47)).alloc (.cells #[] 85) := ⟨_, rfl⟩
 have hx0 : Ext w W := by rw [hW]; exact (Ext.alloc _ _).trans (Ext.alloc _ _)
 have HB0 := Lib.hid (show Bxs w W cb (payBx w.heap.size x a n cap) from hW ▸ (((Bxs.start h (World.grownBy.refl _ _)).new _ _ (pair_dry _ _ (slice_dry _ _ _))).ext (Ext.alloc _ _)))
 have HO0 := Lib.hid (show OwnR W (w.heap.size + 1) (.slice (some ⟨w.heap.size + 1, 0, none⟩) 0 0) [] from hW ▸ OwnR.madeE _ _ _ (by simp) (by simp))
 have HG := Lib.hid (s_GrandValue (p := x) (hi.ext hx0))
 have hs0 : w.heap.size + 2 ≤ W.heap.size := by rw [hW]; simp
 have k0 := HB0.out.c0 (payBx_at _ _ _ _ _)
 have k1 := HB0.out.c1 (payBx_at _ _ _ _ _)
 clear h hi hx0
 go_enter Tryz.func167, Tryz.ntmps167
 go_wp2_with fail
 rw [← hW]
 clear hW
 go_wp2_with fail
 refine HG.out.mono ?_
 rintro e w1 ⟨rfl, hx⟩
 obtain ⟨r0, hr0⟩ : ∃ r, r = grandV x V := ⟨_, rfl⟩
 rw [← hr0]
 have HB1 := Lib.hid (HB0.out.ext hx)
 have HO1 := Lib.hid (HO0.out.ext hx)
 have hs1 := Nat.le_trans hs0 hx.size
 clear hr0 hx HG HB0 HO0 k0 k1 hs0
 go_wp2_with fail
 go_loopg [5, 6, 7] 5 (fun gk oo rr kk wr => ∃ (k : Nat) (a1 : Option Addr) (n1 c1 : Nat) (L : List (Int × Int)) (r : Int), Hid (gk + k = 5) ∧ oo = .slice a1 n1 c1 ∧ rr = .int .i64 r ∧ kk = .int .i64 (k : Int) ∧ Hid (w.heap.size + 2 ≤ wr.heap.size) ∧ Hid (Bxs w wr cb (payBx w.heap.size x a n cap)) ∧ Hid (OwnR wr (w.heap.size + 1) (.slice a1 n1 c1) L) ∧ Hid (L.length = k))
 case atStart => exact ⟨0, _, _, _, [], _, Lib.hid (by omega), rfl, rfl, rfl, Lib.hid hs1, HB1, HO1, Lib.hid rfl⟩
 case round =>
  obtain ⟨g1, h_g1⟩ : ∃ x, x = gk := ⟨_, rfl⟩
  subst h_g1
  obtain ⟨wr, h_wr⟩ : ∃ x, x = wr := ⟨_, rfl⟩
  subst h_wr
  obtain ⟨k, a1, n1, c1, L, r, HK, rfl, rfl, rfl, HZ, HB, HO, HLN⟩ := hrel
  have k0 := HB.out.c0 (payBx_at _ _ _ _ _)
  by_cases hlt : (k : Int) < x
  ·by_cases h5 : k < 5
   ·have hli : Ints (wr.alloc (.cells #[.int .i64 0, .int .i64 1, .int .i64 2, .int .i64 3, .int .i64 (-1), .int .i64 5] 3)) (some ⟨wr.heap.size, 0, none⟩) 6 6 [0, 1, 2, 3, -1, 5] := Ints.lit wr [0, 1, 2, 3, -1, 5] 3 (by decide)
    have HA := Lib.hid (s_l1PickInt (HB.out.ext (Ext.alloc wr _)).cur hli (by omega) (fun b off e => by simp only [Option.some.injEq, Addr.mk.injEq, and_true] at e; have h1 := HB.out.cur.lt; omega))
    have HBA := Lib.hid (HB.out.ext (Ext.alloc wr (.cells #[.int .i64 0, .int .i64 1, .int .i64 2, .int .i64 3, .int .i64 (-1), .int .i64 5] 3)))
    have HOA := Lib.hid (HO.out.ext (Ext.alloc wr (.cells #[.int .i64 0, .int .i64 1, .int .i64 2, .int .i64 3, .int .i64 (-1), .int .i64 5] 3)))
    clear hli
    go_wp2_with fail
    refine HA.out.mono ?_
    rintro e w3 ⟨⟨q, hq, rfl⟩, hc, hg⟩
    obtain ⟨y, hy⟩ : ∃ y, y = ([0, 1, 2, 3, -1, 5] : List Int)[q]?.getD 0 := ⟨_, rfl⟩
    rw [← hy]
    have HB3 := Lib.hid (HBA.out.call hc hg)
    have HO3 := Lib.hid (HOA.out.calls hg (by omega))
    have hs3 : w.heap.size + 2 ≤ w3.heap.size := Nat.le_trans (Nat.le_trans HZ.out (by simp)) hg.size
    clear hy hc hg HA HBA HOA k0
    have k0 := HB3.out.c0 (payBx_at _ _ _ _ _)
    go_upto_if 29 with fail
    go_cut [8] (fun v wx => (∃ u : Int, v = .int .i64 u) ∧ Hid (w3 = wx))
    case first =>
     generalize ((k : Int) == wrap64 (x - 1)) = bb
     cases bb with
     | true =>
       go_wp2_with fail
       go_meet
       exact ⟨⟨_, rfl⟩, rfl⟩
     | false =>
       go_wp2_with fail
       go_meet
       exact ⟨⟨_, rfl⟩, rfl⟩
    obtain ⟨⟨u, rfl⟩, HW⟩ := hcut
    have hw := HW.out
    subst hw
    clear k0
    go_wp2_with fail
    refine (s_l3Int u w3).mono ?_
    rintro e w4 ⟨rfl, hx⟩
    have HB4 := Lib.hid (HB3.out.ext hx)
    have HO4 := Lib.hid (HO3.out.ext hx)
    have hs4 : w.heap.size + 2 ≤ w4.heap.size := Nat.le_trans hs3 hx.size
    clear hx
    go_wp2_with (first
     | (at_builtin
        have T1 := HO4.out.ext (Ext.alloc w4 (.cells #[.int .i64 u, .int .i64 1] 85))
        refine append_rats rfl _ _ rfl (w.heap.size + 1) (.slice a1 n1 c1) _ rfl T1 _ 1 _ [(u, 1)] rfl (Rats.one' _ _ _ _ _ (by simp)) (by have := HLN.out; omega) (by simp; omega) ?_
        intro v5 w5 ho hg hnear
        obtain ⟨a5, n5, c5, rfl, HN5⟩ := ho.var
        have HO5 := Lib.hid ho
        have hs5 : w.heap.size + 2 ≤ w5.heap.size := Nat.le_trans (by simp; omega) hg.size
        have HB5 := Lib.hid ((HB4.out.ext (Ext.alloc w4 (.cells #[.int .i64 u, .int .i64 1] 85))).grew hg (fun j hj => ⟨by have := (T1.lt j hj).1; omega, by have := (T1.lt j hj).1; omega, payBx_off (by have := (T1.lt j hj).1; omega) _ _ _ _⟩))
        clear ho hg hnear T1))
    go_roundg (g1 - 1)
    case measure => have := HK.out; omega
    case rel => exact ⟨k + 1, a5, n5, c5, _, _, Lib.hid (by have := HK.out; omega), rfl, rfl, by go_num, Lib.hid hs5, HB5, HO5, Lib.hid (by rw [List.length_append, HLN.out]; rfl)⟩
   ·go_wp2_with fail
    refine bodyPost_ret (v := .slice a1 n1 c1) (by simp [results, Tryz.results167, go_sem]) rfl ⟨⟨a1, n1, c1, L, rfl, HO.out.mono (by omega), by have h1 := HO.out.rats.hlen; have h2 := HLN.out; have h3 := HK.out; omega⟩, HB.out.cur, HB.out.grown⟩
  ·go_wp2_with fail
   refine bodyPost_ret (v := .slice a1 n1 c1) (by simp [results, Tryz.results167, go_sem]) rfl ⟨⟨a1, n1, c1, rfl, ⟨L, HO.out.mono (by omega)⟩, by have h1 := HO.out.rats.hlen; have h2 := HLN.out; have h3 := HK.out; omega⟩, HB.out.cur, HB.out.grown⟩
theorem OwnR.put2 {w : World} {base b : Nat} {v : Value} {l : List (Int × Int)} (ho : OwnR w base v l) (hb : b < base) (v0 v1 : Value) : OwnR ((w.setCell ⟨b, 0, none⟩ v0).setCell ⟨b, 1, none⟩ v1) base v l :=
 ho.keep fun k hk => by
  have h1 := (ho.lt k hk).1
  exact (heap_setCell_other _ _ _ _ (by show k ≠ b; omega)).trans (heap_setCell_other _ _ _ _ (by show k ≠ b; omega))
structure AS (w wr : World) (cb b5 base : Nat) (x : Int) (b : Option Addr) (m c : Nat) (V : List Int) : Prop where
 box : ∃ f, Bxs w wr cb f ∧ f b5 = some (#[.int .i64 x, .slice b m c], 47) ∧ f w.heap.size = some (#[.int .i64 0, .slice none 0 0], 47) ∧ ∀ k, b5 < k → f k = none
 own : OwnI wr base (.slice b m c) V
section
variable {w wr w' : World} {cb b5 base : Nat} {x : Int} {b : Option Addr} {m c : Nat} {V : List Int}
theorem AS.call (h : AS w wr cb b5 base x b m c V) (hb : cb < base) (hc : Cur w' cb) (hg : wr.grownBy w' (some cb)) : AS w w' cb b5 base x b m c V :=
 let ⟨f, h1, h2⟩ := h.box; ⟨⟨f, h1.call hc hg, h2⟩, h.own.calls hg hb⟩
theorem AS.ext (h : AS w wr cb b5 base x b m c V) (hx : Ext wr w') : AS w w' cb b5 base x b m c V :=
 let ⟨f, h1, h2⟩ := h.box; ⟨⟨f, h1.ext hx, h2⟩, h.own.ext hx⟩
theorem AS.cur (h : AS w wr cb b5 base x b m c V) : Cur wr cb := let ⟨_, h1, _⟩ := h.box; h1.cur
theorem AS.c0 (h : AS w wr cb b5 base x b m c V) : wr.cell? ⟨b5, 0, none⟩ = some (.int .i64 x) := let ⟨_, h1, h2, _⟩ := h.box; h1.c0 h2
theorem AS.c1 (h : AS w wr cb b5 base x b m c V) : wr.cell? ⟨b5, 1, none⟩ = some (.slice b m c) := let ⟨_, h1, h2, _⟩ := h.box; h1.c1 h2
theorem AS.f5 (h : AS w wr cb b5 base x b m c V) (i : Nat) : wr.frozen? ⟨b5, i, none⟩ = false := let ⟨_, h1, h2, _⟩ := h.box; h1.free h2 i
theorem AS.r0 (h : AS w wr cb b5 base x b m c V) : wr.cell? ⟨w.heap.size, 0, none⟩ = some (.int .i64 0) := let ⟨_, h1, _, h2, _⟩ := h.box; h1.c0 h2
theorem AS.r1 (h : AS w wr cb b5 base x b m c V) : wr.cell? ⟨w.heap.size, 1, none⟩ = some (.slice none 0 0) := let ⟨_, h1, _, h2, _⟩ := h.box; h1.c1 h2
theorem AS.rf (h : AS w wr cb b5 base x b m c V) (i : Nat) : wr.frozen? ⟨w.heap.size, i, none⟩ = false := let ⟨_, h1, _, h2, _⟩ := h.box; h1.free h2 i
theorem AS.lt (h : AS w wr cb b5 base x b m c V) : b5 < wr.heap.size := let ⟨_, h1, h2, _⟩ := h.box; h1.lt h2
theorem AS.again (h : AS w wr cb b5 base x b m c V) {x' : Int} {b' : Option Addr} {m' c' : Nat} {V' : List Int} {B : Nat} (ho : OwnI wr B (.slice b' m' c') V') (hB : b5 < B) (hb : base ≤ B) (h0 : w.heap.size < b5) : AS w ((wr.setCell ⟨b5, 0, none⟩ (.int .i64 x')).setCell ⟨b5, 1, none⟩ (.slice b' m' c')) cb b5 base x' b' m' c' V' :=
 let ⟨f, h1, h2, h3, h4⟩ := h.box
 ⟨⟨_, h1.put2 h2 (.int .i64 x') (.slice b' m' c') (i64_dry _) (slice_dry _ _ _), Bx.same _ _ _, (Bx.other _ _ (by omega)).trans h3, fun k hk => (Bx.other _ _ (by omega)).trans (h4 k hk)⟩, (ho.put2 hB _ _).mono hb⟩
theorem AS.rat (h : AS w wr cb b5 base x b m c V) {g B : Nat} {n cap : Nat} {L : List (Int × Int)} (ho : OwnR wr B (.slice (some ⟨g, 0, none⟩) n cap) L) (hB : b5 < B) (hc : cb < B) (h0 : w.heap.size < b5) (hob : ∀ k, (Value.slice b m c).ownBlock = some k → k < B) (hn : 0 < n) (u v : Int) : AS w ((wr.setCell ⟨g, 0, none⟩ (.int .i64 u)).setCell ⟨g, 1, none⟩ (.int .i64 v)) cb b5 base x b m c V := by
 obtain ⟨f, h1, h2, h3, h4⟩ := h.box
 have hg := (ho.lt g rfl).1
 obtain ⟨b_, off, y0, y1, he, _, hc0, hc1⟩ := ho.rats.at hn
 simp only [Option.some.injEq, Addr.mk.injEq, and_true] at he
 obtain ⟨rfl, rfl⟩ := he
 simp only [Nat.zero_mul, Nat.zero_add] at hc0 hc1
 have s1 := h1.putr (b := g) (k := 0) (by omega) (by omega) (h4 g (by omega)) hc0 (i64_dry _) (.int .i64 u)
 have hc1' : (wr.setCell ⟨g, 0, none⟩ (.int .i64 u)).cell? ⟨g, 1, none⟩ = some (.int .i64 y1) := by rw [World.cell?_setCell_other _ _ _ _ (by simp)]; exact hc1
 have s2 := s1.putr (b := g) (k := 1) (by omega) (by omega) (h4 g (by omega)) hc1' (i64_dry _) (.int .i64 v)
 refine ⟨⟨f, s2, h2, h3, h4⟩, h.own.keep fun k hk => ?_⟩
 have := hob k hk
 exact (heap_setCell_other _ _ _ _ (by show k ≠ g; omega)).trans (heap_setCell_other _ _ _ _ (by show k ≠ g; omega))
end
set_option maxHeartbeats 8000000 in
theorem s_l11Args {w : World} {a : Option Addr} {n cap : Nat} (h : Bytes w a n cap) (hn : n ≤ 1048576) :
 Calls Tryz.prog 120 #[.slice a n cap] w fun e w' => (∃ (x : Int) (b : Option Addr) (m c : Nat) (V : List Int) (pb : Option Addr) (pm pc : Nat) (X : List (Int × Int)), e = .returned (.tuple #[.agg #[.int .i64 x, .slice b m c], .slice pb pm pc]) ∧ OwnI w' w.heap.size (.slice b m c) V ∧ OwnR w' w.heap.size (.slice pb pm pc) X) ∧ Ext w w' := by
 obtain ⟨W, hW⟩ : ∃ W, W = w.alloc (.cells #[.int .i64 0, .slice none 0 0] 47) := ⟨_, rfl⟩
 have HWS := Lib.hid (show W.heap.size = w.heap.size + 1 by rw [hW]; simp)
 have hX : Ext w W := by rw [hW]; exact Ext.alloc _ _
 have HR2 := Lib.hid (show W.heap[w.heap.size]? = some (.cells #[.int .i64 0, .slice none 0 0] 47 (0, 0)) by rw [hW]; exact heapA_new _ _ _ rfl)
 have HX := Lib.hid hX
 have HN := Lib.hid (s_l1New (h.ext hX) hn)
 clear h hX
 go_enter Tryz.func120, Tryz.ntmps120
 go_wp2_with fail
 rw [← hW]
 refine HN.out.mono ?_
 rintro e w1 ⟨⟨cb, rfl, hcb, hc⟩, hx⟩
 have hws := HWS.out
 have hs1 := hx.size
 have hcl := hc.lt
 have HB1 := Lib.hid ((Bxs.start hc (grown_ext (some cb) (HX.out.trans hx))).add w.heap.size _ _ ((hx.block _ (by omega)).trans HR2.out) (by omega) (by omega) (pair_dry _ _ (slice_dry _ _ _)))
 clear hc hx HWS HR2 hW HN
 go_wp2_with fail
 refine (s_l8Draw HB1.out.cur 4 (by omega) (by omega)).mono ?_
 rintro e w2 ⟨⟨p, vb, V, rfl, hD⟩, hc, hg⟩
 have hcn := cN_le p (by have := hD.hi; omega)
 have hlen := hD.len
 obtain ⟨N, hN⟩ : ∃ N, N = cN p := ⟨_, rfl⟩
 rw [← hN]
 rw [← hN] at hcn hlen
 have hs2 := hg.size
 obtain ⟨w3, hw3⟩ : ∃ E, E = w2.alloc (.cells #[.int .i64 (p : Int), .slice (some ⟨vb, 0, none⟩) N N] 47) := ⟨_, rfl⟩
 have HB2 := (show Bxs w w3 cb (mateBx w.heap.size w2.heap.size (p : Int) (some ⟨vb, 0, none⟩) N N) from hw3 ▸ (HB1.out.call hc hg).new _ _ (pair_dry _ _ (slice_dry _ _ _)))
 have HA3 := Lib.hid (show AS w w3 cb w2.heap.size w1.heap.size (p : Int) (some ⟨vb, 0, none⟩) N N V from
  ⟨⟨_, HB2, mateBx5 _ _ _ _ _ _, mateBx4 (by omega) _ _ _ _, fun k hk => mateBx0 (by omega) (by omega) _ _ _ _⟩, ((hD.row.own hD.new hlen (by omega)).ext (Ext.alloc _ _) : OwnI (w2.alloc _) _ _ _) |> fun h => hw3 ▸ h⟩)
 clear hc hg hD HB1 HB2 hN
 go_upto_region 3 with fail
 rw [← hw3]
 clear hw3
 generalize w2.heap.size = b5 at HA3 hs2 ⊢
 obtain ⟨pI, hpI⟩ : ∃ y : Int, y = (p : Int) := ⟨_, rfl⟩
 rw [← hpI] at HA3 ⊢
 clear hpI
 go_wp2_with fail
 refine (s_l1Once HA3.out.cur 16 (by omega)).mono ?_
 rintro e w4 ⟨⟨o, rfl⟩, hc, hg⟩
 have HA4 := Lib.hid (HA3.out.call (by omega) hc hg)
 clear hc hg HA3
 go_upto_if 12 with fail
 go_cut [4] (fun v wx => v = .pointer (some ⟨cb, 0, none⟩) ∧ ∃ (x : Int) (b : Option Addr) (m c : Nat) (V : List Int), Hid (AS w wx cb b5 w1.heap.size x b m c V))
 case first =>
  cases o with
  | false =>
    go_wp2_with fail
    go_meet
    exact ⟨rfl, _, _, _, _, _, HA4⟩
  | true =>
    go_wp2_with fail
    refine (s_l8Bent HA4.out.cur).mono ?_
    rintro e w5 ⟨⟨x, b, m, c, V', rfl, ho, hm⟩, hc, hg⟩
    have HA5 := Lib.hid (HA4.out.call (by omega) hc hg)
    have hlt4 := HA4.out.lt
    have hs5 := hg.size
    have q0 := HA5.out.c0
    have q1 := HA5.out.c1
    have qf := HA5.out.f5
    have HA6 := Lib.hid (HA5.out.again (x' := x) ho hlt4 (by omega) (by omega))
    clear ho hc hg
    go_wp2_with fail
    go_meet
    exact ⟨rfl, _, _, _, _, _, HA6⟩
 obtain ⟨rfl, x, b, m, c, V, HA⟩ := hcut
 clear HA4
 have q0 := HA.out.c0
 have q1 := HA.out.c1
 have hwc := HA.out.lt
 go_wp2_with fail
 refine (s_l11Payoff (x := x) HA.out.cur HA.out.own.ints).mono ?_
 rintro e w5 ⟨⟨pb, pm, pc, X, rfl, hR, hpm⟩, hc, hg⟩
 have HOB := Lib.hid (fun k hk => (HA.out.own.lt k hk).2)
 have HR5 := Lib.hid hR
 have HA5 := Lib.hid (HA.out.call (by omega) hc hg)
 have hr1 := hR.rats.hcap
 have hr2 := hR.rats.hmax
 have hs5 := hg.size
 clear hR hc hg q0 q1 HA
 generalize wc.heap.size = B at HR5 HOB hwc hs5 ⊢
 go_upto_region 6 with fail
 go_cut [24] (fun v wx => ∃ o : Bool, v = .bool o ∧ Hid (o = true → 0 < pm) ∧ Hid (AS w wx cb b5 w1.heap.size x b m c V) ∧ Hid (OwnR wx B (.slice pb pm pc) X) ∧ Hid (B ≤ wx.heap.size))
 case first =>
  by_cases h0 : 0 < pm
  ·go_wp2_with fail
   refine (s_l1Once HA5.out.cur 10 (by omega)).mono ?_
   rintro e w6 ⟨⟨o, rfl⟩, hc, hg⟩
   have HA6 := Lib.hid (HA5.out.call (by omega) hc hg)
   have HR6 := Lib.hid (HR5.out.calls hg (by omega))
   have hs6 := Nat.le_trans hs5 hg.size
   clear hc hg
   go_wp2_with fail
   go_meet
   exact ⟨o, rfl, Lib.hid (fun _ => h0), HA6, HR6, Lib.hid hs6⟩
  ·go_wp2_with fail
   go_meet
   exact ⟨false, rfl, Lib.hid (fun h => by cases h), HA5, HR5, Lib.hid hs5⟩
 obtain ⟨o, rfl, HPM, HA6, HR6, HS6⟩ := hcut
 clear HA5 HR5 hs5
 go_upto_if 24 with fail
 go_cut [6] (fun v wx => ∃ (pb : Option Addr) (pm pc : Nat) (X : List (Int × Int)), v = .slice pb pm pc ∧ Hid (AS w wx cb b5 w1.heap.size x b m c V) ∧ Hid (OwnR wx B (.slice pb pm pc) X))
 case first =>
  cases o with
  | false =>
    go_wp2_with fail
    go_meet
    exact ⟨_, _, _, _, rfl, HA6, HR6⟩
  | true =>
    have h0 := HPM.out rfl
    obtain ⟨g, rfl, hgB, _, _⟩ := HR6.out.block h0
    go_wp2_with fail
    refine (s_l3Draw HA6.out.cur).mono ?_
    rintro e w7 ⟨⟨u, v, rfl⟩, hc, hg⟩
    have HA7 := Lib.hid (HA6.out.call (by omega) hc hg)
    have HR7 := Lib.hid (HR6.out.calls hg (by omega))
    obtain ⟨_, _, hgf, _⟩ : ∃ _ : True, True ∧ (∀ j, w7.frozen? ⟨g, j, none⟩ = false) ∧ True := ⟨trivial, trivial, by obtain ⟨g', e', _, hf, _⟩ := HR7.out.block h0; simp only [Option.some.injEq, Addr.mk.injEq, and_true] at e'; subst e'; exact hf, trivial⟩
    obtain ⟨b_, off, y0, y1, he, _, hc0, hc1⟩ := HR7.out.rats.at h0
    simp only [Option.some.injEq, Addr.mk.injEq, and_true] at he
    obtain ⟨rfl, rfl⟩ := he
    simp only [Nat.zero_mul, Nat.zero_add] at hc0 hc1
    have HA8 := Lib.hid (HA7.out.rat HR7.out (by omega) (by omega) (by omega) HOB.out h0 u v)
    have hr8 := HR7.out.set (k := 0) (by rw [HR7.out.rats.hlen]; exact h0) u v
    simp only [Nat.zero_mul, Nat.zero_add] at hr8
    have HR8 := Lib.hid hr8
    clear hc hg hr8
    go_wp2_with fail
    go_meet
    exact ⟨_, _, _, _, rfl, HA8, HR8⟩
 obtain ⟨pb, pm, pc, X, rfl, HA, HR⟩ := hcut
 clear HA6 HR6 HPM HS6 HOB
 go_wp2_with fail
 refine (s_l1Once HA.out.cur 3 (by omega)).mono ?_
 rintro e w8 ⟨⟨o, rfl⟩, hc, hg⟩
 have HA8 := Lib.hid (HA.out.call (by omega) hc hg)
 have HR8 := Lib.hid (HR.out.calls hg (by omega))
 clear hc hg HA HR
 go_upto_if 30 with fail
 go_cut [6] (fun v wx => ∃ (pb : Option Addr) (pm pc : Nat) (X : List (Int × Int)), v = .slice pb pm pc ∧ Hid (AS w wx cb b5 w1.heap.size x b m c V) ∧ Hid (OwnR wx w1.heap.size (.slice pb pm pc) X))
 case first =>
  cases o with
  | false =>
    go_wp2_with fail
    go_meet
    exact ⟨_, _, _, _, rfl, HA8, Lib.hid (HR8.out.mono (by omega))⟩
  | true =>
    have q0 := HA8.out.c0
    have q1 := HA8.out.c1
    have hl8 := HA8.out.lt
    go_wp2_with fail
    refine (s_ShapleyValue (x := x) HA8.out.own.ints).mono ?_
    rintro e w9 ⟨⟨v, rfl, ho⟩, hx⟩
    obtain ⟨a9, n9, c9, rfl, HN9⟩ := ho.var
    have HA9 := Lib.hid (HA8.out.ext hx)
    have HR9 := Lib.hid (ho.mono (show w1.heap.size ≤ w8.heap.size by omega))
    clear ho hx q0 q1
    go_wp2_with fail
    go_meet
    exact ⟨_, _, _, _, rfl, HA9, HR9⟩
 obtain ⟨pb, pm, pc, X, rfl, HA, HR⟩ := hcut
 clear HA8 HR8
 have q0 := HA.out.c0
 have q1 := HA.out.c1
 have r0 := HA.out.r0
 have r1 := HA.out.r1
 have rf := HA.out.rf
 obtain ⟨f, h1, h2, h3, h4⟩ := HA.out.box
 have HB9 := Lib.hid (h1.put2 h3 (.int .i64 x) (.slice b m c) (i64_dry _) (slice_dry _ _ _))
 have HO9 := Lib.hid (HA.out.own.put2 (show w.heap.size < w1.heap.size by omega) (.int .i64 x) (.slice b m c))
 have HR9 := Lib.hid (HR.out.put2 (show w.heap.size < w1.heap.size by omega) (.int .i64 x) (.slice b m c))
 have z0 := HB9.out.c0 (Bx.same _ _ _)
 have z1 := HB9.out.c1 (Bx.same _ _ _)
 have HX9 := Lib.hid (HB9.out.all (by omega))
 clear h1 h2 h3 h4 HA
 go_wp2_with fail
 refine bodyPost_ret (v := .tuple #[.agg #[.int .i64 x, .slice b m c], .slice pb pm pc]) (by simp [results, Tryz.results120, go_sem, z0, z1]) rfl ⟨⟨x, b, m, c, V, pb, pm, pc, X, rfl, HO9.out.mono (by omega), HR9.out.mono (by omega)⟩, HX9.out⟩
set_option maxHeartbeats 4000000 in
theorem s_DrawLevelsOf {w : World} {a : Option Addr} {n cap : Nat} (h : Bytes w a n cap) (hn : n ≤ 1048576) :
 Calls Tryz.prog 50 #[.slice a n cap] w fun e w' => (∃ (x : Int) (b : Option Addr) (m c : Nat) (V : List Int) (pb : Option Addr) (pm pc : Nat) (X : List (Int × Int)), e = .returned (.tuple #[.agg #[.int .i64 x, .slice b m c], .slice pb pm pc]) ∧ Ints w' b m c V ∧ Rats w' pb pm pc X) ∧ Ext w w' := by
 obtain ⟨W, hW⟩ : ∃ W, W = w.alloc (.cells #[.int .i64 0, .slice none 0 0] 47) := ⟨_, rfl⟩
 have HWS := Lib.hid (show W.heap.size = w.heap.size + 1 by rw [hW]; simp)
 have hX : Ext w W := by rw [hW]; exact Ext.alloc _ _
 have HR2 := Lib.hid (show W.heap[w.heap.size]? = some (.cells #[.int .i64 0, .slice none 0 0] 47 (0, 0)) by rw [hW]; exact heapA_new _ _ _ rfl)
 have HX := Lib.hid hX
 have HN := Lib.hid (s_l11Args (h.ext hX) hn)
 clear h hX
 go_enter Tryz.func50, Tryz.ntmps50
 go_wp2_with fail
 rw [← hW]
 clear hW
 refine HN.out.mono ?_
 rintro e w1 ⟨⟨x, b, m, c, V, pb, pm, pc, X, rfl, hV, hP⟩, hx⟩
 have hb := hx.blk HR2.out
 have r0 := gbox0 hb
 have r1 := gbox1 hb
 have rf := fun k => frozen_of_row w1 w.heap.size k _ _ hb
 have hws := HWS.out
 have HV := Lib.hid ((hV.put2 (show w.heap.size < W.heap.size by omega) (.int .i64 x) (.slice b m c)).ints)
 have HP := Lib.hid ((hP.put2 (show w.heap.size < W.heap.size by omega) (.int .i64 x) (.slice b m c)).rats)
 have h1 := heap_setCell_same w1 w.heap.size 0 _ _ (.int .i64 x) hb
 have h2 := heap_setCell_same _ w.heap.size 1 _ _ (.slice b m c) h1
 have HXF := Lib.hid (show Ext w ((w1.setCell ⟨w.heap.size, 0, none⟩ (.int .i64 x)).setCell ⟨w.heap.size, 1, none⟩ (.slice b m c)) from ((HX.out.trans hx).setCell (p := ⟨w.heap.size, 0, none⟩) (Nat.le_refl _) _).setCell (p := ⟨w.heap.size, 1, none⟩) (Nat.le_refl _) _)
 have z0 : ((w1.setCell ⟨w.heap.size, 0, none⟩ (.int .i64 x)).setCell ⟨w.heap.size, 1, none⟩ (.slice b m c)).cell? ⟨w.heap.size, 0, none⟩ = some (.int .i64 x) := by rw [cell_of_row _ _ 0 _ _ _ h2]; rfl
 have z1 : ((w1.setCell ⟨w.heap.size, 0, none⟩ (.int .i64 x)).setCell ⟨w.heap.size, 1, none⟩ (.slice b m c)).cell? ⟨w.heap.size, 1, none⟩ = some (.slice b m c) := by rw [cell_of_row _ _ 1 _ _ _ h2]; rfl
 clear hV hP hx hb h1 h2 HN
 go_wp2_with fail
 refine bodyPost_ret (v := .tuple #[.agg #[.int .i64 x, .slice b m c], .slice pb pm pc]) (by simp [results, Tryz.results50, go_sem, z0, z1]) rfl ⟨⟨x, b, m, c, V, pb, pm, pc, X, rfl, HV.out, HP.out⟩, HXF.out⟩
end Go.Proofs.YtgohdmnbnhehnaaGreat
namespace Go.Proofs.YtgohdmnbnhehnaaGreat
set_option linter.unusedVariables false
open Go.RowKit
theorem cmp_neg {x y : RR} (hx : valR x = true) (hy : valR y = true) : cmpR x y < 0 ↔ val x < val y := by
 have h := val_le hx hy
 constructor
 ·intro k
  rcases Rat.le_total (a := val y) (b := val x) with h1 | h1
  ·have := h.2 h1; omega
  ·rcases Rat.le_iff_lt_or_eq.1 h1 with h2 | h2
   ·exact h2
   ·have := h.2 (by rw [h2]; exact Rat.le_refl); omega
 ·intro k
  have := mt h.1 (by grind)
  omega
theorem levP_le {l : List RR} (hl : ∀ y ∈ l, valR y = true) {e e' : RR} (he : valR e = true) (he' : valR e' = true) (h : val e' < val e) : ∀ m, m ≤ l.length → (levP l e m).length ≤ (levP l e' m).length
 | 0, _ => Nat.le_refl _
 | m + 1, hm => by
   have ih := levP_le hl he he' h m (by omega)
   have hv : valR (l[m]?.getD (0, 0)) = true := by rw [List.getElem?_eq_getElem (by omega), Option.getD_some]; exact hl _ (List.getElem_mem _)
   by_cases h1 : cmpR (l[m]?.getD (0, 0)) e < 0
   ·rw [levP_skip h1]
    by_cases h2 : cmpR (l[m]?.getD (0, 0)) e' < 0
    ·rw [levP_skip h2]; exact ih
    ·rw [levP_take h2]; simp; omega
   ·have h2 : ¬ cmpR (l[m]?.getD (0, 0)) e' < 0 := by
     rw [cmp_neg hv he] at h1
     rw [cmp_neg hv he']
     grind
    rw [levP_take h1, levP_take h2]; simp; exact ih
theorem levP_lt {l : List RR} (hl : ∀ y ∈ l, valR y = true) {e e' : RR} (he : valR e = true) (he' : valR e' = true) (h : val e' < val e) : ∀ m, m ≤ l.length → ∀ k, k < m → l[k]?.getD (0, 0) = e' → (levP l e m).length < (levP l e' m).length
 | 0, _, k, hk, _ => absurd hk (by omega)
 | m + 1, hm, k, hk, hke => by
   have hv : valR (l[m]?.getD (0, 0)) = true := by rw [List.getElem?_eq_getElem (by omega), Option.getD_some]; exact hl _ (List.getElem_mem _)
   by_cases hkm : k = m
   ·subst hkm
    have h1 : cmpR (l[k]?.getD (0, 0)) e < 0 := by rw [hke, cmp_neg he' he]; exact h
    have h2 : ¬ cmpR (l[k]?.getD (0, 0)) e' < 0 := by rw [hke, cmp_neg he' he']; grind
    rw [levP_skip h1, levP_take h2]
    have := levP_le hl he he' h k (by omega)
    simp; omega
   ·have ih := levP_lt hl he he' h m (by omega) k (by omega) hke
    by_cases h1 : cmpR (l[m]?.getD (0, 0)) e < 0
    ·rw [levP_skip h1]
     by_cases h2 : cmpR (l[m]?.getD (0, 0)) e' < 0
     ·rw [levP_skip h2]; exact ih
     ·rw [levP_take h2]; simp; omega
    ·have h2 : ¬ cmpR (l[m]?.getD (0, 0)) e' < 0 := by
      rw [cmp_neg hv he] at h1
      rw [cmp_neg hv he']
      grind
     rw [levP_take h1, levP_take h2]; simp; exact ih
theorem cmpT_mem {s : List RR} : ∀ {k : Nat}, k ≤ s.length → ∀ a ∈ cmpT s k, ∃ i, i < k ∧ a = s[i]?.getD (0, 0)
 | 0, _, a, ha => by simp [cmpT] at ha
 | k + 1, hk, a, ha => by
   rw [cmpT] at ha
   split at ha
   ·obtain ⟨i, hi, e⟩ := cmpT_mem (k := k) (by omega) a ha
    exact ⟨i, by omega, e⟩
   ·rcases List.mem_append.1 ha with ha | ha
    ·obtain ⟨i, hi, e⟩ := cmpT_mem (k := k) (by omega) a ha
     exact ⟨i, by omega, e⟩
    ·rw [List.mem_singleton] at ha
     exact ⟨k, by omega, ha⟩
theorem cmpT_falls {s : List RR} (hs : s.Pairwise fun a b => geR a b = true) (hv : ∀ y ∈ s, valR y = true) : ∀ {k : Nat}, k ≤ s.length → (cmpT s k).Pairwise fun a b => val b < val a
 | 0, _ => List.Pairwise.nil
 | k + 1, hk => by
   have hat : ∀ i, i ≤ k → valR (s[i]?.getD (0, 0)) = true := fun i hi => by rw [List.getElem?_eq_getElem (by omega), Option.getD_some]; exact hv _ (List.getElem_mem _)
   have hge : ∀ i j, i < j → j ≤ k → val (s[j]?.getD (0, 0)) ≤ val (s[i]?.getD (0, 0)) := fun i j hij hj => by
    have := List.pairwise_iff_getElem.1 hs i j (by omega) (by omega) hij
    have h1 := hat i (by omega)
    have h2 := hat j hj
    rw [List.getElem?_eq_getElem (by omega), Option.getD_some] at h1 h2 ⊢
    rw [List.getElem?_eq_getElem (by omega), Option.getD_some]
    exact (geR_val h1 h2).1 this
   by_cases hc : 0 < k ∧ s[k]?.getD (0, 0) = s[k - 1]?.getD (0, 0)
   ·rw [cmpT_skip hc.1 hc.2]; exact cmpT_falls hs hv (by omega)
   ·rw [cmpT_take hc, List.pairwise_append]
    refine ⟨cmpT_falls hs hv (by omega), List.pairwise_singleton _ _, fun a ha b hb => ?_⟩
    rw [List.mem_singleton] at hb
    subst hb
    obtain ⟨i, hi, rfl⟩ := cmpT_mem (by omega) a ha
    have hne : ¬ s[k]?.getD (0, 0) = s[k - 1]?.getD (0, 0) := fun e => hc ⟨by omega, e⟩
    have h1 := hge (k - 1) k (by omega) (Nat.le_refl _)
    have h2 : val (s[k]?.getD (0, 0)) ≠ val (s[k - 1]?.getD (0, 0)) := fun e => hne (val_inj (hat k (Nat.le_refl _)) (hat (k - 1) (by omega)) e)
    have h3 : val (s[k - 1]?.getD (0, 0)) ≤ val (s[i]?.getD (0, 0)) := by
     by_cases hik : i = k - 1
     ·rw [hik]; exact Rat.le_refl
     ·exact hge i (k - 1) (by omega) (by omega)
    grind
theorem levels_grow {l : List RR} (hl : ∀ y ∈ l, valR y = true) {k : Nat} (h0 : 0 < k) (hk : k < (levL l).length) : ((levL l)[k - 1]?.getD []).length < ((levL l)[k]?.getD []).length := by
 unfold levL levT at hk ⊢
 rw [List.length_map] at hk
 have hsv : ∀ y ∈ srtX l, valR y = true := srtT_val hl (Nat.le_refl _)
 have hss : (srtX l).Pairwise fun a b => geR a b = true := srtT_sorted hl l.length (Nat.le_refl _)
 have hf := cmpT_falls hss hsv (k := l.length) (by rw [srtX_len]; exact Nat.le_refl _)
 have hlt := List.pairwise_iff_getElem.1 hf (k - 1) k (by omega) hk (by omega)
 rw [List.getElem?_map, List.getElem?_map, List.getElem?_eq_getElem (show k - 1 < (cmpT (srtX l) l.length).length by omega), List.getElem?_eq_getElem hk]
 simp only [Option.map_some, Option.getD_some]
 have hmem : ∀ i, (hi : i < (cmpT (srtX l) l.length).length) → (cmpT (srtX l) l.length)[i] ∈ l := by
  intro i hi
  obtain ⟨j, hj, e⟩ := cmpT_mem (s := srtX l) (k := l.length) (by rw [srtX_len]; exact Nat.le_refl _) _ (List.getElem_mem hi)
  rw [e, List.getElem?_eq_getElem (by rw [srtX_len]; exact hj), Option.getD_some]
  exact (srtX_perm l).mem_iff.1 (List.getElem_mem _)
 have hm := hmem k hk
 obtain ⟨i, hi, e⟩ := List.mem_iff_getElem.1 hm
 refine levP_lt hl (hl _ (hmem _ _)) (hl _ hm) hlt l.length (Nat.le_refl _) i hi ?_
 rw [List.getElem?_eq_getElem hi, Option.getD_some, e]
theorem levS_grow {p : Int} {V : List Int} {X : List RR} {k : Nat} (h0 : 0 < k) (hk : k < (levS p V X).length) : ((levS p V X)[k - 1]?.getD []).length < ((levS p V X)[k]?.getD []).length := by
 cases h : allX p V X with
 | none => rw [levS_none h] at hk; simp at hk
 | some l => rw [levS_some h] at hk ⊢; exact levels_grow (allX_val h) h0 hk
set_option linter.unusedSimpArgs false
set_option maxRecDepth 100000
theorem fst_bad {p : Int} {V : List Int} {X : List (Int × Int)} (h : (fstX p V X).isSome = true) : balI p ((fstX p V X).getD []) = false ∧ ((fstX p V X).getD []).length ≤ 32 ∧ ∀ k : Nat, ((fstX p V X).getD [])[k]?.getD 0 ≤ 9223372036854775807 := by
 obtain ⟨r, hr⟩ := Option.isSome_iff_exists.1 h
 rw [hr, Option.getD_some]
 unfold fstX at hr
 have hm := List.mem_of_find?_eq_some hr
 have hf := List.find?_some hr
 have hb := (levS_bd p V X).2 r hm
 refine ⟨?_, hb.1, hb.2⟩
 rw [bal_same]
 simpa using hf
set_option maxHeartbeats 8000000 in
theorem l_FnLevels {w : World} {a : Option Addr} {n cap : Nat} (h : Bytes w a n cap) :
 Calls Tryz.prog 9 #[.slice a n cap] w fun e w' => e = .returned (.bool true) ∧ Ext w w' := by
 have hcap := h.hcap
 have hmax := h.hmax
 have H := Lib.hid h
 clear h
 by_cases hbig : 1048576 < n
 ·go_enter Tryz.func9, Tryz.ntmps9
  go_wp2_with fail
  go_in
  go_wp2_with fail
  go_ret
  exact ⟨rfl, Ext.refl _⟩
 have hb : n ≤ 1048576 := by omega
 go_enter Tryz.func9, Tryz.ntmps9
 go_wp2_with fail
 go_in
 go_wp2_with fail
 refine (s_DrawLevelsOf H.out hb).mono ?_
 rintro e w1 ⟨⟨y, b, m, c, V, pb, pm, pc, X, rfl, hV, hP⟩, hx⟩
 obtain ⟨W, hW⟩ : ∃ W, W = w1.alloc (.cells #[.int .i64 y, .slice b m c] 47) := ⟨_, rfl⟩
 have hxW : Ext w1 W := by rw [hW]; exact Ext.alloc _ _
 have XA := Lib.hid (hx.trans hxW)
 have HV := Lib.hid (hV.ext hxW)
 have HP := Lib.hid (hP.ext hxW)
 have g0 : W.cell? ⟨w1.heap.size, 0, none⟩ = some (.int .i64 y) := by rw [hW]; simp
 have g1 : W.cell? ⟨w1.heap.size, 1, none⟩ = some (.slice b m c) := by rw [hW]; simp
 have HBD := Lib.hid (levS_bd y V X)
 obtain ⟨LV, hLV⟩ : ∃ l, l = levS y V X := ⟨_, rfl⟩
 have HLV := Lib.hid hLV
 clear hV hP hx hxW hLV
 go_upto_region 4 with fail
 rw [← hW]
 clear hW
 generalize w1.heap.size = bg at g0 g1 ⊢
 go_wp2_with fail
 have HC := Lib.hid (i_LevelsOf (p := y) HV.out HP.out)
 rw [← HLV.out] at HC
 refine HC.out.mono ?_
 rintro e w2 ⟨⟨v, rfl, ho⟩, hx⟩
 obtain ⟨a2, n2, c2, rfl, HN2⟩ := ho.var
 have X2 := Lib.hid hx
 have HI := Lib.hid ho.intss
 have hn1 := ho.intss.hcap
 have hn2 := ho.intss.hmax
 replace g0 := hx.cellSome g0
 replace g1 := hx.cellSome g1
 clear ho hx HC
 go_wp2_with fail
 have HC := Lib.hid (s_LevelsOf (p := y) (HV.out.ext X2.out) (HP.out.ext X2.out))
 rw [← HLV.out] at HC
 refine HC.out.mono ?_
 rintro e w3 ⟨⟨v, rfl, ho⟩, hx⟩
 obtain ⟨a3, n3, c3, rfl, HN3⟩ := ho.var
 have HE := Lib.hid (l_sameLists (HI.out.ext hx) ho.intss)
 rw [decide_eq_true rfl] at HE
 have X3 := Lib.hid (X2.out.trans hx)
 have HI3 := Lib.hid (HI.out.ext hx)
 replace g0 := hx.cellSome g0
 replace g1 := hx.cellSome g1
 clear ho hx HC
 go_wp2_with fail
 refine HE.out.mono ?_
 rintro e w4 ⟨rfl, hx⟩
 have X4 := Lib.hid (X3.out.trans hx.ext)
 have HI4 := Lib.hid (HI3.out.ext hx.ext)
 replace g0 := hx.ext.cellSome g0
 replace g1 := hx.ext.cellSome g1
 clear hx HE
 go_wp2_with fail
 go_loopg [6] n2 (fun gk kk wr => ∃ k : Nat, Hid (gk + k = n2) ∧ kk = .int .i64 ((k : Int) + 1) ∧ Hid (Ext w4 wr))
 case atStart => exact ⟨0, Lib.hid (by omega), rfl, Lib.hid (Ext.refl _)⟩
 case round =>
  obtain ⟨gg1, h_gg1⟩ : ∃ x, x = gk := ⟨_, rfl⟩
  subst h_gg1
  obtain ⟨wr, h_wr⟩ : ∃ x, x = wr := ⟨_, rfl⟩
  subst h_wr
  obtain ⟨k, HK, rfl, XR⟩ := hrel
  by_cases hlt : k + 1 < n2
  ·have hki : (k : Int) + 1 < (n2 : Int) := by omega
   obtain ⟨eb, eo, a5, n5, c5, rfl, hc5, hi5⟩ := (HI4.out.ext XR.out).at (k := k) (by omega)
   obtain ⟨eb', eo', a6, n6, c6, he, hc6, hi6⟩ := (HI4.out.ext XR.out).at (k := k + 1) (by omega)
   simp only [Option.some.injEq, Addr.mk.injEq, and_true] at he
   obtain ⟨rfl, rfl⟩ := he
   have hgr := levS_grow (p := y) (V := V) (X := X) (k := k + 1) (by omega) (by rw [← HLV.out, HN2.out]; omega)
   rw [← HLV.out, Nat.add_sub_cancel, hi5.hlen, hi6.hlen] at hgr
   have hq1 := hi5.hcap
   have hq2 := hi5.hmax
   have hq3 := hi6.hcap
   have hq4 := hi6.hmax
   clear hi5 hi6
   go_wp2_with fail
   go_quiet (fail)
   have hle : ¬ n6 ≤ n5 := by omega
   go_wp2_with fail
   go_roundg (gg1 - 1)
   case measure => have := HK.out; omega
   case rel => exact ⟨k + 1, Lib.hid (by have := HK.out; omega), by go_num, Lib.hid (XR.out.trans (Drew.ext ⟨_, rfl⟩))⟩
  ·have hki : ¬ (k : Int) + 1 < (n2 : Int) := by omega
   have X5 := Lib.hid (X4.out.trans XR.out)
   replace g0 := XR.out.cellSome g0
   replace g1 := XR.out.cellSome g1
   obtain ⟨bad, hbad⟩ : ∃ o, o = (fstX y V X).isSome := ⟨_, rfl⟩
   have HB := Lib.hid hbad
   obtain ⟨FL, hFL⟩ : ∃ l, l = (fstX y V X).getD [] := ⟨_, rfl⟩
   have HFL := Lib.hid hFL
   have hbb : (bad == bad) = true := by simp
   clear hbad hFL HI4 XR X4 HI HI3 X3 X2
   go_wp2_with fail
   have HC := Lib.hid (i_FirstUnbalanced (p := y) (HV.out.ext X5.out) (HP.out.ext X5.out))
   rw [← HB.out, ← HFL.out] at HC
   refine HC.out.mono ?_
   rintro e w6 ⟨⟨v, rfl, ho⟩, hx⟩
   obtain ⟨a6, n6, c6, rfl, HN6⟩ := ho.var
   have O6 := Lib.hid ho
   have X6 := Lib.hid (X5.out.trans hx)
   replace g0 := hx.cellSome g0
   replace g1 := hx.cellSome g1
   clear ho hx HC
   go_wp2_with fail
   have HC := Lib.hid (s_FirstUnbalanced (p := y) (HV.out.ext X6.out) (HP.out.ext X6.out))
   rw [← HB.out, ← HFL.out] at HC
   refine HC.out.mono ?_
   rintro e w7 ⟨⟨v, rfl, ho⟩, hx⟩
   obtain ⟨a7, n7, c7, rfl, HN7⟩ := ho.var
   have O7 := Lib.hid ho
   have O67 := Lib.hid (O6.out.ext hx)
   have X7 := Lib.hid (X6.out.trans hx)
   replace g0 := hx.cellSome g0
   replace g1 := hx.cellSome g1
   clear ho hx HC O6
   go_wp2_with fail
   refine (s_DrawIsBalancedSet (H.out.ext (XA.out.trans X7.out)) hb).mono ?_
   rintro e w8 ⟨⟨z, lb, lm, lc, L8, rfl, hl8, hbd, hlm⟩, hx⟩
   have X8 := Lib.hid (X7.out.trans hx)
   have HL8 := Lib.hid hl8
   have HBD8 := Lib.hid hbd
   have HE := Lib.hid (l_sameInts (O67.out.ints.ext hx) (O7.out.ints.ext hx))
   rw [decide_eq_true rfl] at HE
   have O8 := Lib.hid (O67.out.ext hx)
   replace g0 := hx.cellSome g0
   replace g1 := hx.cellSome g1
   obtain ⟨bal, hbal⟩ : ∃ o, o = balI z L8 := ⟨_, rfl⟩
   have HBL := Lib.hid hbal
   have HBS := Lib.hid (hbal.trans (bal_same z L8))
   have hb2 : (bal == bal) = true := by simp
   clear hl8 hbd hx hbal O67 O7
   go_wp2_with fail
   refine HE.out.mono ?_
   rintro e w9 ⟨rfl, hx⟩
   have X9 := Lib.hid (X8.out.trans hx.ext)
   have O9 := Lib.hid (O8.out.ext hx.ext)
   have HL9 := Lib.hid (HL8.out.ext hx.ext)
   replace g0 := hx.ext.cellSome g0
   clear hx HE O8 HL8 g1
   cases bad with
   | false =>
     go_wp2_with fail
     have HC := Lib.hid (i_IsBalancedSet (x := z) HL9.out HBD8.out hlm)
     rw [← HBL.out] at HC
     refine HC.out.mono ?_
     rintro e w11 ⟨rfl, hx⟩
     have X11 := Lib.hid (X9.out.trans hx)
     have HC := Lib.hid (s_IsBalancedSet (x := z) (HL9.out.ext hx) HBD8.out hlm)
     rw [← HBS.out] at HC
     clear hx
     go_wp2_with fail
     refine HC.out.mono ?_
     rintro e w12 ⟨rfl, hx⟩
     have X12 := Lib.hid (X11.out.trans hx)
     clear hx HC
     go_wp2_with fail
     go_ret
     exact ⟨rfl, XA.out.trans X12.out⟩
   | true =>
     have HF := Lib.hid (fst_bad (p := y) (V := V) (X := X) (by rw [← HB.out]))
     rw [← HFL.out] at HF
     have hln := O9.out.ints.hlen
     go_wp2_with fail
     have HC := Lib.hid (i_IsBalancedSet (x := y) O9.out.ints HF.out.2.2 (by have := HF.out.2.1; omega))
     rw [HF.out.1] at HC
     refine HC.out.mono ?_
     rintro e w10 ⟨rfl, hx⟩
     have X10 := Lib.hid (X9.out.trans hx)
     have HL10 := Lib.hid (HL9.out.ext hx)
     clear hx HC
     go_wp2_with fail
     have HC := Lib.hid (i_IsBalancedSet (x := z) HL10.out HBD8.out hlm)
     rw [← HBL.out] at HC
     refine HC.out.mono ?_
     rintro e w11 ⟨rfl, hx⟩
     have X11 := Lib.hid (X10.out.trans hx)
     have HC := Lib.hid (s_IsBalancedSet (x := z) (HL10.out.ext hx) HBD8.out hlm)
     rw [← HBS.out] at HC
     clear hx
     go_wp2_with fail
     refine HC.out.mono ?_
     rintro e w12 ⟨rfl, hx⟩
     have X12 := Lib.hid (X11.out.trans hx)
     clear hx HC
     go_wp2_with fail
     go_ret
     exact ⟨rfl, XA.out.trans X12.out⟩
end Go.Proofs.YtgohdmnbnhehnaaGreat
