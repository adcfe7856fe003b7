import Derived.Test.YtgohdmnbnhehnaaGreatGwAllG4
import Derived.Test.YtgohdmnbnhehnaaGreatGwAllG5
import Derived.Test.YtgohdmnbnhehnaaGreatGwAllG7
import Derived.Test.YtgohdmnbnhehnaaGreatGwAllG2
namespace Go.Proofs.YtgohdmnbnhehnaaGreat
set_option linter.unusedVariables false
set_option linter.unusedSimpArgs false
set_option maxRecDepth 100000
open Go.RowKit
theorem pickB (l : List Int) (lo hi : Int) (h : ∀ x ∈ l, lo ≤ x ∧ x ≤ hi) (k : Nat) (hk : k < l.length) : lo ≤ l[k]?.getD 0 ∧ l[k]?.getD 0 ≤ hi := by
 rw [List.getElem?_eq_getElem hk, Option.getD_some]; exact h _ (List.getElem_mem hk)
theorem bd_snoc {L : List Int} {lo hi y : Int} (h : ∀ x ∈ L, lo ≤ x ∧ x ≤ hi) (hy : lo ≤ y ∧ y ≤ hi) : ∀ x ∈ L ++ [y], lo ≤ x ∧ x ≤ hi := by
 intro x hx
 rcases List.mem_append.1 hx with h1 | h1
 ·exact h x h1
 ·rw [List.mem_singleton] at h1; rw [h1]; exact hy
theorem bd_get {L : List Int} {lo hi : Int} (h : ∀ x ∈ L, lo ≤ x ∧ x ≤ hi) (h9 : hi ≤ 9223372036854775807) (k : Nat) : L[k]?.getD 0 ≤ 9223372036854775807 := by
 by_cases hj : k < L.length
 ·have := pickB L lo hi h k hj; omega
 ·rw [List.getElem?_eq_none (by omega)]; simp
set_option maxHeartbeats 1000000 in
theorem s_l2Any {w : World} {cb : Nat} (h : Cur w cb) :
 Calls Tryz.prog 112 #[.pointer (some ⟨cb, 0, none⟩)] w (Drawn w cb (-1) 32) := by
 have hcl := h.lt
 have hli : Ints (w.alloc (.cells #[.int .i64 0, .int .i64 1, .int .i64 2, .int .i64 3, .int .i64 5, .int .i64 7, .int .i64 12, .int .i64 21, .int .i64 31, .int .i64 32, .int .i64 (-1)] 3)) (some ⟨w.heap.size, 0, none⟩) 11 11 [0, 1, 2, 3, 5, 7, 12, 21, 31, 32, -1] := Ints.lit w [0, 1, 2, 3, 5, 7, 12, 21, 31, 32, -1] 3 (by decide)
 have HLI := Lib.hid hli
 have hx := Ext.alloc w (.cells #[.int .i64 0, .int .i64 1, .int .i64 2, .int .i64 3, .int .i64 5, .int .i64 7, .int .i64 12, .int .i64 21, .int .i64 31, .int .i64 32, .int .i64 (-1)] 3)
 have HC := Lib.hid (h.ext hx)
 have HG0 := Lib.hid (grown_ext (some cb) hx)
 clear hli hx h
 go_enter Tryz.func112, Tryz.ntmps112
 go_wp2_with fail
 refine (s_l1PickInt HC.out HLI.out (by omega) (fun b off e => by simp only [Option.some.injEq, Addr.mk.injEq, and_true] at e; omega)).mono ?_
 rintro e w1 ⟨⟨k, hk, rfl⟩, hc, hg⟩
 have hb := pickB [0, 1, 2, 3, 5, 7, 12, 21, 31, 32, -1] (-1) 32 (by decide) k hk
 obtain ⟨y, hy⟩ : ∃ y, y = ([0, 1, 2, 3, 5, 7, 12, 21, 31, 32, -1] : List Int)[k]?.getD 0 := ⟨_, rfl⟩
 rw [← hy] at hb ⊢
 have HC1 := Lib.hid hc
 have HG1 := Lib.hid (grown_two HG0.out hg)
 have HB := Lib.hid hb
 clear hc hg hy hb hk
 go_wp2_with fail
 go_ret
 exact ⟨⟨y, rfl, HB.out⟩, HC1.out, HG1.out⟩
def ratBx (r b : Nat) (x0 x1 p q : Int) : Bx := (Bx.nil.upd r (#[.int .i64 x0, .int .i64 x1], 85)).upd b (#[.int .i64 p, .int .i64 q], 85)
theorem ratBx5 (r b : Nat) (x0 x1 p q : Int) : ratBx r b x0 x1 p q b = some (#[.int .i64 p, .int .i64 q], 85) := Bx.same _ _ _
theorem ratBx4 {r b : Nat} (h : r ≠ b) (x0 x1 p q : Int) : ratBx r b x0 x1 p q r = some (#[.int .i64 x0, .int .i64 x1], 85) := (Bx.other _ _ h).trans (Bx.same _ _ _)
set_option maxHeartbeats 4000000 in
theorem s_l3Draw {w : World} {cb : Nat} (h : Cur w cb) :
 Calls Tryz.prog 104 #[.pointer (some ⟨cb, 0, none⟩)] w fun e w' => (∃ x y : Int, e = .returned (ratV x y)) ∧ Cur w' cb ∧ w.grownBy w' (some cb) := by
 have hcl := h.lt
 obtain ⟨W, hW⟩ : ∃ W, W = w.alloc (.cells #[.int .i64 0, .int .i64 0] 85) := ⟨_, rfl⟩
 have HB0 := Lib.hid (show Bxs w W cb (Bx.nil.upd w.heap.size (#[.int .i64 0, .int .i64 0], 85)) from hW ▸ (Bxs.start h (grown_ext (some cb) (Ext.refl w))).new #[.int .i64 0, .int .i64 0] 85 (pair_dry _ _ (i64_dry _)))
 have hsW : w.heap.size < W.heap.size := by rw [hW]; simp
 clear h
 have HLA := Lib.hid (show Ints (W.alloc (.cells #[.int .i64 0, .int .i64 1, .int .i64 2, .int .i64 (-1), .int .i64 3, .int .i64 (-7), .int .i64 12, .int .i64 999999999, .int .i64 (-1000000000)] 3)) (some ⟨W.heap.size, 0, none⟩) 9 9 [0, 1, 2, -1, 3, -7, 12, 999999999, -1000000000] from Ints.lit W [0, 1, 2, -1, 3, -7, 12, 999999999, -1000000000] 3 (by decide))
 have HBA := Lib.hid (HB0.out.ext (Ext.alloc W (.cells #[.int .i64 0, .int .i64 1, .int .i64 2, .int .i64 (-1), .int .i64 3, .int .i64 (-7), .int .i64 12, .int .i64 999999999, .int .i64 (-1000000000)] 3)))
 go_enter Tryz.func104, Tryz.ntmps104
 go_upto_region 1 with fail
 rw [← hW]
 clear hW
 go_wp2_with fail
 refine (s_l1PickInt HBA.out.cur HLA.out (by omega) (fun b off e => by simp only [Option.some.injEq, Addr.mk.injEq, and_true] at e; omega)).mono ?_
 rintro e w1 ⟨⟨k, hk, rfl⟩, hc, hg⟩
 obtain ⟨x, hx⟩ : ∃ x, x = ([0, 1, 2, -1, 3, -7, 12, 999999999, -1000000000] : List Int)[k]?.getD 0 := ⟨_, rfl⟩
 rw [← hx]
 have HB1 := Lib.hid (HBA.out.call hc hg)
 have hs1 : W.heap.size < w1.heap.size := by have := hg.size; simp at this; omega
 clear hc hg hx hk HBA HLA HB0
 have HLB := Lib.hid (show Ints (w1.alloc (.cells #[.int .i64 1, .int .i64 1, .int .i64 2, .int .i64 3, .int .i64 7, .int .i64 1000000000, .int .i64 999999937] 3)) (some ⟨w1.heap.size, 0, none⟩) 7 7 [1, 1, 2, 3, 7, 1000000000, 999999937] from Ints.lit w1 [1, 1, 2, 3, 7, 1000000000, 999999937] 3 (by decide))
 have HBB := Lib.hid (HB1.out.ext (Ext.alloc w1 (.cells #[.int .i64 1, .int .i64 1, .int .i64 2, .int .i64 3, .int .i64 7, .int .i64 1000000000, .int .i64 999999937] 3)))
 go_wp2_with fail
 refine (s_l1PickInt HBB.out.cur HLB.out (by omega) (fun b off e => by simp only [Option.some.injEq, Addr.mk.injEq, and_true] at e; omega)).mono ?_
 rintro e w2 ⟨⟨k2, hk, rfl⟩, hc, hg⟩
 obtain ⟨y, hy⟩ : ∃ y, y = ([1, 1, 2, 3, 7, 1000000000, 999999937] : List Int)[k2]?.getD 0 := ⟨_, rfl⟩
 rw [← hy]
 have HB2 := Lib.hid (HBB.out.call hc hg)
 have hs2 : w1.heap.size < w2.heap.size := by have := hg.size; simp at this; omega
 clear hc hg hy hk HBB HLB HB1
 obtain ⟨p, q, ok, hpq⟩ : ∃ p q ok, ratOf x y = ((p, q), ok) := ⟨_, _, _, rfl⟩
 have HRO := s_RatOf x y w2
 rw [hpq] at HRO
 have HRO := Lib.hid HRO
 clear hpq
 go_wp2_with fail
 refine HRO.out.mono ?_
 rintro e w3 ⟨rfl, hx3⟩
 have hs3 := hx3.size
 have HB3 := Lib.hid (show Bxs w (w3.alloc (.cells #[.int .i64 p, .int .i64 q] 85)) cb (ratBx w.heap.size w3.heap.size 0 0 p q) from (HB2.out.ext hx3).new _ _ (pair_dry _ _ (i64_dry _)))
 clear hx3 HB2 HRO
 go_wp2_with fail
 refine (s_l1Once HB3.out.cur 12 (by omega)).mono ?_
 rintro e w4 ⟨⟨once, rfl⟩, hc, hg⟩
 have HB4 := Lib.hid (HB3.out.call hc hg)
 have hs4 : w3.heap.size < w4.heap.size := by have := hg.size; simp at this; omega
 have hne : w.heap.size ≠ w3.heap.size := by omega
 have hcbw := hcl
 clear hc hg HB3
 generalize w3.heap.size = b3 at HB4 hs4 hne ⊢
 cases once
 ·have g0 := HB4.out.c0 (ratBx5 _ _ _ _ _ _)
  have g1 := HB4.out.c1 (ratBx5 _ _ _ _ _ _)
  have r0 := HB4.out.c0 (ratBx4 hne _ _ _ _)
  have r1 := HB4.out.c1 (ratBx4 hne _ _ _ _)
  have rf := HB4.out.free (ratBx4 hne _ _ _ _)
  have HB5 := Lib.hid (HB4.out.put2 (ratBx4 hne _ _ _ _) (.int .i64 p) (.int .i64 q) (i64_dry _) (i64_dry _))
  have z0 := HB5.out.c0 (Bx.same _ _ _)
  have z1 := HB5.out.c1 (Bx.same _ _ _)
  go_wp2_with fail
  refine bodyPost_ret (v := ratV p q) (by simp [results, Tryz.results104, go_sem, z0, z1]) rfl ⟨⟨p, q, rfl⟩, HB5.out.cur, HB5.out.grown⟩
 ·have HLC := Lib.hid (show Ints (w4.alloc (.cells #[.int .i64 0, .int .i64 2, .int .i64 1000000001] 3)) (some ⟨w4.heap.size, 0, none⟩) 3 3 [0, 2, 1000000001] from Ints.lit w4 [0, 2, 1000000001] 3 (by decide))
  have HBC := Lib.hid (HB4.out.ext (Ext.alloc w4 (.cells #[.int .i64 0, .int .i64 2, .int .i64 1000000001] 3)))
  have hcl4 := HB4.out.cur.lt
  go_wp2_with fail
  refine (s_l1PickInt HBC.out.cur HLC.out (by omega) (fun b off e => by simp only [Option.some.injEq, Addr.mk.injEq, and_true] at e; omega)).mono ?_
  rintro e w5 ⟨⟨k, hk, rfl⟩, hc, hg⟩
  obtain ⟨u, hu⟩ : ∃ x, x = ([0, 2, 1000000001] : List Int)[k]?.getD 0 := ⟨_, rfl⟩
  rw [← hu]
  have HB5 := Lib.hid (HBC.out.call hc hg)
  have hcl5 := HB5.out.cur.lt
  clear hc hg hu hk HBC HLC HB4
  have HLD := Lib.hid (show Ints (w5.alloc (.cells #[.int .i64 0, .int .i64 2, .int .i64 (-1), .int .i64 1] 3)) (some ⟨w5.heap.size, 0, none⟩) 4 4 [0, 2, -1, 1] from Ints.lit w5 [0, 2, -1, 1] 3 (by decide))
  have HBD := Lib.hid (HB5.out.ext (Ext.alloc w5 (.cells #[.int .i64 0, .int .i64 2, .int .i64 (-1), .int .i64 1] 3)))
  go_wp2_with fail
  refine (s_l1PickInt HBD.out.cur HLD.out (by omega) (fun b off e => by simp only [Option.some.injEq, Addr.mk.injEq, and_true] at e; omega)).mono ?_
  rintro e w6 ⟨⟨k, hk, rfl⟩, hc, hg⟩
  obtain ⟨v, hv⟩ : ∃ x, x = ([0, 2, -1, 1] : List Int)[k]?.getD 0 := ⟨_, rfl⟩
  rw [← hv]
  have HB6 := Lib.hid (HBD.out.call hc hg)
  clear hc hg hv hk HBD HLD HB5
  have r0 := HB6.out.c0 (ratBx4 hne _ _ _ _)
  have r1 := HB6.out.c1 (ratBx4 hne _ _ _ _)
  have rf := HB6.out.free (ratBx4 hne _ _ _ _)
  have HB7 := Lib.hid (HB6.out.put2 (ratBx4 hne _ _ _ _) (.int .i64 u) (.int .i64 v) (i64_dry _) (i64_dry _))
  have z0 := HB7.out.c0 (Bx.same _ _ _)
  have z1 := HB7.out.c1 (Bx.same _ _ _)
  go_wp2_with fail
  refine bodyPost_ret (v := ratV u v) (by simp [results, Tryz.results104, go_sem, z0, z1]) rfl ⟨⟨u, v, rfl⟩, HB7.out.cur, HB7.out.grown⟩
def grandV (p : Int) (V : List Int) : Int := if gameOk p V = true then V[V.length - 1]?.getD 0 else 0
theorem grandV_no {p : Int} {V : List Int} (h : gameOk p V = false) : grandV p V = 0 := by unfold grandV; rw [h]; rfl
theorem grandV_ok {p : Int} {V : List Int} (h : gameOk p V = true) : grandV p V = V[V.length - 1]?.getD 0 := by unfold grandV; rw [if_pos h]
set_option maxHeartbeats 1000000 in
theorem s_GrandValue {w : World} {p : Int} {a : Option Addr} {n cap : Nat} {V : List Int} (h : Ints w a n cap V) :
 Calls Tryz.prog 82 #[pair p a n cap] w fun e w' => e = .returned (.int .i64 (grandV p V)) ∧ Ext w w' := by
 have hi := h.alloc (.cells #[.int .i64 p, .slice a n cap] 47)
 have HX := Lib.hid (Ext.alloc w (.cells #[.int .i64 p, .slice a n cap] 47))
 have HL := Lib.hid h.hlen
 have HI := Lib.hid hi
 have HV := Lib.hid (s_IsValidGame (p := p) hi)
 clear h hi
 cases hv : gameOk p V
 ·rw [hv] at HV
  have HG := Lib.hid (grandV_no hv)
  clear hv
  go_enter Tryz.func82, Tryz.ntmps82
  go_wp2_with fail
  refine HV.out.mono ?_
  rintro e w1 ⟨rfl, hx⟩
  have X1 := Lib.hid (HX.out.trans hx)
  clear hx
  go_wp2_with fail
  go_ret
  exact ⟨ret_int HG.out.symm, X1.out⟩
 ·rw [hv] at HV
  obtain ⟨q, rfl, h1, h5, hlen, _, hbd⟩ := gameOk_len hv
  have hN := cN_le q h5
  obtain ⟨u, rfl⟩ : ∃ u, n = u + 1 := ⟨n - 1, by have := HL.out; omega⟩
  have HG := Lib.hid (show grandV (q : Int) V = V[u]?.getD 0 by rw [grandV_ok hv, HL.out]; rfl)
  have hu32 : u ≤ 31 := by have := HL.out; omega
  clear hv hlen hbd hN
  go_enter Tryz.func82, Tryz.ntmps82
  go_wp2_with fail
  refine HV.out.mono ?_
  rintro e w1 ⟨rfl, hx⟩
  have c1 : w1.cell? ⟨w.heap.size, 1, none⟩ = some (.slice a (u + 1) cap) := hx.cellSome (by simp)
  obtain ⟨b, off, rfl, hc⟩ := (HI.out.ext hx).at (show u < u + 1 by omega)
  have hlen1 : ((u + 1 : Nat) : Int) - 1 = (u : Int) := by omega
  have X1 := Lib.hid (HX.out.trans hx)
  clear hx
  go_wp2_with fail
  go_ret
  exact ⟨ret_int HG.out.symm, X1.out⟩
set_option maxHeartbeats 1000000 in
theorem i_GrandValue {w : World} {p : Int} {a : Option Addr} {n cap : Nat} {V : List Int} (h : Ints w a n cap V) :
 Calls Tryz.prog 88 #[pair p a n cap] w fun e w' => e = .returned (.int .i64 (grandV p V)) ∧ Ext w w' := by
 have hi := h.alloc (.cells #[.int .i64 p, .slice a n cap] 47)
 have HX := Lib.hid (Ext.alloc w (.cells #[.int .i64 p, .slice a n cap] 47))
 have HL := Lib.hid h.hlen
 have HI := Lib.hid hi
 have HV := Lib.hid (i_IsValidGame (p := p) hi)
 clear h hi
 cases hv : gameOk p V
 ·rw [hv] at HV
  have HG := Lib.hid (grandV_no hv)
  clear hv
  go_enter Tryz.func88, Tryz.ntmps88
  go_wp2_with fail
  refine HV.out.mono ?_
  rintro e w1 ⟨rfl, hx⟩
  have X1 := Lib.hid (HX.out.trans hx)
  clear hx
  go_wp2_with fail
  go_ret
  exact ⟨ret_int HG.out.symm, X1.out⟩
 ·rw [hv] at HV
  obtain ⟨q, rfl, h1, h5, hlen, _, hbd⟩ := gameOk_len hv
  have hN := cN_le q h5
  obtain ⟨u, rfl⟩ : ∃ u, n = u + 1 := ⟨n - 1, by have := HL.out; omega⟩
  have HG := Lib.hid (show grandV (q : Int) V = V[u]?.getD 0 by rw [grandV_ok hv, HL.out]; rfl)
  have hu32 : u ≤ 31 := by have := HL.out; omega
  clear hv hlen hbd hN
  go_enter Tryz.func88, Tryz.ntmps88
  go_wp2_with fail
  refine HV.out.mono ?_
  rintro e w1 ⟨rfl, hx⟩
  have c1 : w1.cell? ⟨w.heap.size, 1, none⟩ = some (.slice a (u + 1) cap) := hx.cellSome (by simp)
  obtain ⟨b, off, rfl, hc⟩ := (HI.out.ext hx).at (show u < u + 1 by omega)
  have hlen1 : ((u + 1 : Nat) : Int) - 1 = (u : Int) := by omega
  have X1 := Lib.hid (HX.out.trans hx)
  clear hx
  go_wp2_with fail
  go_ret
  exact ⟨ret_int HG.out.symm, X1.out⟩
theorem s_l2B (k : Nat) (h : k ≤ 5) (w : World) : Calls Tryz.prog 127 #[.int .i64 (k : Int)] w fun e w' => e = .returned (.int .i64 (2 ^ k)) ∧ w = w' := by
 have := s_l2Bit k w
 rwa [cntC_nat k h, cN_pow] at this
end Go.Proofs.YtgohdmnbnhehnaaGreat
