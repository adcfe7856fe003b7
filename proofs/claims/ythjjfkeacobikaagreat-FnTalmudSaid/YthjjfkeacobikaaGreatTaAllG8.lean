import Derived.Test.YthjjfkeacobikaaGreatTaAllG7
import Derived.Test.YthjjfkeacobikaaGreatTaAllG4
import Derived.Test.YthjjfkeacobikaaGreatTaAllG0
import Derived.Deep.RegionHeld3
set_option linter.unusedVariables false
set_option linter.unusedSimpArgs false
namespace Go.Proofs.YthjjfkeacobikaaGreat
set_option maxRecDepth 100000
open Go.RowKit
def prBx (t : TypeId) (r b : Nat) (x : Int) (a : Option Addr) (n c : Nat) : Bx := (Bx.nil.upd r (#[.int .i64 0, .slice none 0 0], t)).upd b (#[.int .i64 x, .slice a n c], t)
section
variable {t : TypeId} {r b : Nat} {x : Int} {a : Option Addr} {n c : Nat}
theorem prBx_b : prBx t r b x a n c b = some (#[.int .i64 x, .slice a n c], t) := Bx.same _ _ _
theorem prBx_r (h : r ≠ b) : prBx t r b x a n c r = some (#[.int .i64 0, .slice none 0 0], t) := (Bx.other _ _ h).trans (Bx.same _ _ _)
theorem prBx_o {k : Nat} (h : k ≠ r) (h' : k ≠ b) : prBx t r b x a n c k = none := (Bx.other _ _ h').trans (Bx.other _ _ h)
theorem Bx.ext {f g : Bx} (h : ∀ k, f k = g k) : f = g := funext h
theorem prBx_set (x' : Int) (a' : Option Addr) (n' c' : Nat) : (prBx t r b x a n c).upd b (#[.int .i64 x', .slice a' n' c'], t) = prBx t r b x' a' n' c' := by
 refine Bx.ext fun k => ?_
 by_cases e : k = b
 ·subst e; rw [Bx.same, prBx_b]
 ·rw [Bx.other _ _ e]; unfold prBx; rw [Bx.other _ _ e, Bx.other _ _ e]
end
def Few (l : List Int) : Prop := ∀ x ∈ l, 0 ≤ x ∧ x ≤ 100
theorem sumW_few : ∀ (l : List Int) (acc : Int), Few l → 0 ≤ acc → acc + 100 * l.length ≤ 1000000 → l.foldl (fun a x => wrap64 (a + x)) acc = acc + l.sum ∧ acc + l.sum ≤ acc + 100 * l.length ∧ acc ≤ acc + l.sum
 | [], acc, _, h0, h1 => by simp
 | x :: l, acc, h, h0, h1 => by
   have hx := h x List.mem_cons_self
   simp only [List.length_cons, Int.natCast_add, Int.natCast_one] at h1
   have ih := sumW_few l (acc + x) (fun y hy => h y (List.mem_cons_of_mem _ hy)) (by omega) (by omega)
   simp only [List.foldl_cons, List.sum_cons, List.length_cons, Int.natCast_add, Int.natCast_one]
   rw [show wrap64 (acc + x) = acc + x by unfold wrap64; omega]
   omega
theorem sumW_few' {l : List Int} (h : Few l) (hl : l.length ≤ 100) : sumW l = l.sum ∧ 0 ≤ sumW l ∧ sumW l ≤ 100 * l.length := by
 have := sumW_few l 0 h (by omega) (by omega)
 unfold sumW
 omega
theorem pickC : ∀ k, k < 8 → 0 ≤ ([0, 1, 2, 3, 5, 10, 30, 100] : List Int)[k]?.getD 0 ∧ ([0, 1, 2, 3, 5, 10, 30, 100] : List Int)[k]?.getD 0 ≤ 100 := by
 have : ∀ k : Fin 8, 0 ≤ ([0, 1, 2, 3, 5, 10, 30, 100] : List Int)[k.val]?.getD 0 ∧ ([0, 1, 2, 3, 5, 10, 30, 100] : List Int)[k.val]?.getD 0 ≤ 100 := by decide
 exact fun k hk => this ⟨k, hk⟩
set_option maxHeartbeats 8000000 in
theorem s_l18Draw {w : World} {cb : Nat} (h : Cur w cb) :
 Calls Tryz.prog 173 #[.pointer (some ⟨cb, 0, none⟩)] w fun e w' => (∃ (x : Int) (a : Option Addr) (n c : Nat) (L : List Int), e = .returned (.agg #[.int .i64 x, .slice a n c]) ∧ OwnI w' w.heap.size (.slice a n c) L ∧ 1 ≤ n ∧ n ≤ 3 ∧ Few L ∧ 0 ≤ x ∧ x ≤ sumW L) ∧ Cur w' cb ∧ w.grownBy w' (some cb) := by
 have hcl := h.lt
 obtain ⟨W, hW⟩ : ∃ W, W = (w.alloc (.cells #[.int .i64 0, .slice none 0 0] 66)).alloc (.cells #[.int .i64 0, .slice none 0 0] 66) := ⟨_, rfl⟩
 have hws : W.heap.size = w.heap.size + 2 := by rw [hW]; simp
 have HB0 := Lib.hid (show Bxs w W cb (prBx 66 w.heap.size (w.heap.size + 1) 0 none 0 0) by
  rw [hW]
  have h1 := ((Bxs.start h (grown_ext (some cb) (Ext.refl w))).new #[.int .i64 0, .slice none 0 0] 66 (pair_dry _ _ (slice_dry _ _ _))).new #[.int .i64 0, .slice none 0 0] 66 (pair_dry _ _ (slice_dry _ _ _))
  rw [World.size_alloc] at h1
  exact h1)
 clear h
 go_enter Tryz.func173, Tryz.ntmps173
 go_upto_region 2 with fail
 rw [← hW]
 clear hW
 go_wp2_with fail
 refine (s_l1Below HB0.out.cur 3 (by omega)).mono ?_
 rintro e w1 ⟨⟨y, rfl, hy0, hy1⟩, hc, hg⟩
 have HB1 := Lib.hid (HB0.out.call hc hg)
 have hs1 := hg.size
 obtain ⟨m, hm⟩ : ∃ m : Nat, 1 + y = (m : Int) := ⟨(1 + y).toNat, by omega⟩
 have hm1 : 1 ≤ m := by omega
 have hm3 : m ≤ 3 := by omega
 clear hc hg hy0 hy1
 have hne : w.heap.size ≠ w.heap.size + 1 := by omega
 go_wp2_with fail
 go_loopg [5] m (fun gk ii wr => ∃ (k : Nat) (a1 : Option Addr) (n1 p1 : Nat) (L : List Int), Hid (gk + k = m) ∧ ii = .int .i64 (k : Int) ∧ Hid (L.length = k) ∧ Hid (Few L) ∧ Hid (Bxs w wr cb (prBx 66 w.heap.size (w.heap.size + 1) 0 a1 n1 p1)) ∧ Hid (OwnI wr (w.heap.size + 2) (.slice a1 n1 p1) L) ∧ Hid (w.heap.size + 2 ≤ wr.heap.size))
 case atStart => exact ⟨0, none, 0, 0, [], Lib.hid (by omega), rfl, Lib.hid rfl, Lib.hid (fun x hx => by cases hx), HB1, Lib.hid (OwnI.nil _ _), Lib.hid (by omega)⟩
 case round =>
  obtain ⟨g1, h_g1⟩ : ∃ x, x = gk := ⟨_, rfl⟩
  subst h_g1
  obtain ⟨wr, h_wr⟩ : ∃ x, x = wr := ⟨_, rfl⟩
  subst h_wr
  obtain ⟨k, a1, n1, p1, L, HK, rfl, HLL, HF, HB, HO, HSZ⟩ := hrel
  have hsz := HSZ.out
  have HN1 := Lib.hid (show n1 = k by
   have := HO.out.ints.hlen
   rw [← HLL.out]; exact this.symm)
  have hn3 : n1 ≤ 3 := by have := HN1.out; have := HK.out; omega
  by_cases hlt : k < m
  ·have hB := HB.out.ext (Ext.drew wr)
   have hO := HO.out.ext (Ext.drew wr)
   have HS := Lib.hid (fun (w' : World) (h : Bxs w w' cb (prBx 66 w.heap.size (w.heap.size + 1) 0 a1 n1 p1)) => h.c1 prBx_b)
   go_wp2_with fail
   refine late_begin (M := [8]) (S := fun w' => w'.cell? ⟨w.heap.size + 1, 1, none⟩ = some (.slice a1 n1 p1)) (by kernel_rfl) ?_
   have hHeld := HS.out _ hB
   obtain ⟨wd, hwd⟩ : ∃ y, y = wr.drew := ⟨_, rfl⟩
   have hsd : wr.heap.size ≤ wd.heap.size := by rw [hwd]; exact Nat.le_refl _
   rw [← hwd] at hB hO hHeld
   rw [← hwd]
   clear hwd
   have hBA := hB.ext (Ext.alloc wd (.cells #[.int .i64 0, .int .i64 1, .int .i64 2, .int .i64 3, .int .i64 5, .int .i64 10, .int .i64 30, .int .i64 100] 3))
   have hli : Ints (wd.alloc (.cells #[.int .i64 0, .int .i64 1, .int .i64 2, .int .i64 3, .int .i64 5, .int .i64 10, .int .i64 30, .int .i64 100] 3)) (some ⟨wd.heap.size, 0, none⟩) 8 8 [0, 1, 2, 3, 5, 10, 30, 100] := Ints.lit wd [0, 1, 2, 3, 5, 10, 30, 100] 3 (by decide)
   refine lp 0 ?_
   refine ll 1 ?_
   refine lp 2 ?_
   refine late_step (i := 3) (oi := ?_) ?_ ?_ ?_ (fun K hK => ?_)
   rotate_left
   ·simp only [gA, gB, gC]; rfl
   ·kernel_rfl
   ·kernel_rfl
   go_simp
   refine hK.out _ _ (fun _ => HS.out _ hBA) ?_
   clear hK K
   try simp only [Act.put, sA, sB, sC]
   refine late_step (i := 4) (oi := ?_) ?_ ?_ ?_ (fun K hK => ?_)
   rotate_left
   ·simp only [gA, gB, gC]; rfl
   ·kernel_rfl
   ·kernel_rfl
   go_simp
   go_at_call 106
   refine (s_l1PickInt hBA.cur hli (by omega) (fun b off e => by simp only [Option.some.injEq, Addr.mk.injEq, and_true] at e; omega)).mono ?_
   rintro e w5 ⟨⟨q, hq, rfl⟩, hc, hg⟩
   have hpk := pickC q hq
   obtain ⟨y, hy⟩ : ∃ y, y = ([0, 1, 2, 3, 5, 10, 30, 100] : List Int)[q]?.getD 0 := ⟨_, rfl⟩
   rw [← hy] at hpk
   rw [← hy]
   clear hy
   have hB5 := hBA.call hc hg
   have hO5 := (hO.ext (Ext.alloc _ _)).calls hg (show cb < w.heap.size + 2 by omega)
   have hs5 := hg.size
   rw [World.size_alloc] at hs5
   clear hc hg
   go_wp2_with fail
   refine hK.out _ _ (fun _ => HS.out _ hB5) ?_
   have hHeld := HS.out _ hB5
   clear hK K
   try simp only [Act.put, sA, sB, sC]
   refine late_step (i := 5) (oi := ?_) ?_ ?_ ?_ (fun K hK => ?_)
   rotate_left
   ·simp only [gA, gB, gC]; rfl
   ·kernel_rfl
   ·kernel_rfl
   go_simp
   refine hK.out _ _ (fun _ => HS.out _ (hB5.ext (Ext.alloc _ _))) ?_
   clear hK K
   try simp only [Act.put, sA, sB, sC]
   refine late_step (i := 6) (oi := ?_) ?_ ?_ ?_ (fun K hK => ?_)
   rotate_left
   ·simp only [gA, gB, gC]; rfl
   ·kernel_rfl
   ·kernel_rfl
   refine wp_append_ints _ _ (by rfl) (w.heap.size + 2) (.slice a1 n1 p1) L (by rfl) (hO5.ext (Ext.alloc _ _)) _ 1 _ [y] (by rfl) (Ints.oneS _ _ _ _ rfl) (by rw [HLL.out]; omega) (by simp; omega) ?_
   intro v6 w6 ho hg hnear
   obtain ⟨a6, n6, p6, rfl, HN6⟩ := ho.var
   have HB6 := Lib.hid ((hB5.ext (Ext.alloc _ _)).grew hg (fun j hj => by have := (hO5.lt j hj).1; exact ⟨by omega, by omega, prBx_o (by omega) (by omega)⟩))
   have HO6 := Lib.hid ho
   have c6 := HB6.out.c1 prBx_b
   have cf6 := HB6.out.free (b := w.heap.size + 1) prBx_b
   have hs6 := hg.size
   rw [World.size_alloc] at hs6
   clear ho hg hnear
   refine hK.out _ _ (fun _ => c6) ?_
   have hHeld := c6
   clear hK K
   try simp only [Act.put, sA, sB, sC]
   refine lp 7 ?_
   refine late_one (i := 8) (oi := ?_) (w' := ?_) ?_ ?_ ?_ ?_ ?_ ?_ ?_
   rotate_left 2
   ·simp only [gA, gB, gC]; rfl
   ·kernel_rfl
   ·kernel_rfl
   ·exact of_decide_eq_true (by kernel_rfl)
   ·rfl
   ·go_simp; (try with_reducible rfl)
   try simp only [Act.put, sA, sB, sC]
   refine late_done (by kernel_rfl) ?_ _
   have HB7 := Lib.hid (show Bxs w (w6.setCell ⟨w.heap.size + 1, 1, none⟩ (.slice a6 n6 p6)) cb (prBx 66 w.heap.size (w.heap.size + 1) 0 a6 n6 p6) from by
    have := HB6.out.put (b := w.heap.size + 1) prBx_b 1 (.slice a6 n6 p6) (slice_dry _ _ _)
    rw [← prBx_set (x := 0) (a := a1) (n := n1) (c := p1)]
    exact this)
   have HO7 := Lib.hid (((OwnI.on HO6.out).set (a := ⟨w.heap.size + 1, 1, none⟩) (by show w.heap.size + 1 < w.heap.size + 2; omega) (.slice a6 n6 p6)).here)
   have HF7 := Lib.hid (show Few (L ++ [y]) from fun z hz => by
    rcases List.mem_append.1 hz with h | h
    ·exact HF.out z h
    ·rw [List.mem_singleton] at h; subst h; exact hpk)
   clear hHeld c6 cf6 hB hO hBA hli hB5 hO5
   go_wp2_with fail
   go_roundg (g1 - 1)
   case measure => have := HK.out; omega
   case rel => exact ⟨k + 1, a6, n6, p6, L ++ [y], Lib.hid (by have := HK.out; omega), by go_num, Lib.hid (by rw [List.length_append, HLL.out]; rfl), HF7, HB7, HO7, Lib.hid (by simp; omega)⟩
  ·have hkm : k = m := by have := HK.out; omega
   subst hkm
   have hn11 : 1 ≤ n1 := by have := HN1.out; omega
   have c1 := HB.out.c1 (b := w.heap.size + 1) prBx_b
   have hsm := sumW_few' HF.out (by rw [HLL.out]; omega)
   obtain ⟨S, hS⟩ : ∃ S, S = sumW L := ⟨_, rfl⟩
   rw [← hS] at hsm
   have HSS := Lib.hid hS
   have hS1 : 0 ≤ S := hsm.2.1
   have hS2 : S ≤ 300 := by have := hsm.2.2; rw [HLL.out] at this; omega
   clear hS hsm
   go_wp2_with fail
   refine (s_l18Sum HO.out.ints).mono ?_
   rw [← HSS.out]
   rintro e w2 ⟨rfl, rfl⟩
   have e1 : IntKind.i64.wrap (S + 1) = S + 1 := by rw [IntKind.wrap_i64]; omega
   go_wp2_with fail
   refine (s_l1Below HB.out.cur (S + 1) (by omega)).mono ?_
   rintro e w3 ⟨⟨x, rfl, hx0, hx1⟩, hc, hg⟩
   have HB3 := Lib.hid (HB.out.call hc hg)
   have HO3 := Lib.hid (HO.out.calls hg (show cb < w.heap.size + 2 by omega))
   have d0 := HB3.out.c0 (b := w.heap.size + 1) prBx_b
   have df := HB3.out.free (b := w.heap.size + 1) prBx_b
   have HB4 := Lib.hid (show Bxs w (w3.setCell ⟨w.heap.size + 1, 0, none⟩ (.int .i64 x)) cb (prBx 66 w.heap.size (w.heap.size + 1) x a1 n1 p1) from by
    have := HB3.out.put (b := w.heap.size + 1) prBx_b 0 (.int .i64 x) (i64_dry _)
    rw [← prBx_set (x := 0) (a := a1) (n := n1) (c := p1)]
    exact this)
   have HO4 := Lib.hid (((OwnI.on HO3.out).set (a := ⟨w.heap.size + 1, 0, none⟩) (by show w.heap.size + 1 < w.heap.size + 2; omega) (.int .i64 x)).here)
   clear hc hg c1
   obtain ⟨w4, hw4⟩ : ∃ z, z = w3.setCell ⟨w.heap.size + 1, 0, none⟩ (.int .i64 x) := ⟨_, rfl⟩
   rw [← hw4] at HB4 HO4
   have q0 := HB4.out.c0 (b := w.heap.size + 1) prBx_b
   have q1 := HB4.out.c1 (b := w.heap.size + 1) prBx_b
   have r0 := HB4.out.c0 (b := w.heap.size) (prBx_r hne)
   have r1 := HB4.out.c1 (b := w.heap.size) (prBx_r hne)
   have rf := HB4.out.free (b := w.heap.size) (prBx_r hne)
   have HB5 := Lib.hid (HB4.out.put2 (prBx_r hne) (.int .i64 x) (.slice a1 n1 p1) (i64_dry _) (slice_dry _ _ _))
   have HO5 := Lib.hid (HO4.out.put2 (show w.heap.size < w.heap.size + 2 by omega) (.int .i64 x) (.slice a1 n1 p1))
   have z0 := HB5.out.c0 (Bx.same _ _ _)
   have z1 := HB5.out.c1 (Bx.same _ _ _)
   go_upto_region 8 with fail
   rw [← hw4]
   clear hw4 d0 df
   go_wp2_with fail
   refine bodyPost_ret (v := .agg #[.int .i64 x, .slice a1 n1 p1]) (by simp [results, Tryz.results173, go_sem, z0, z1]) rfl ⟨⟨x, a1, n1, p1, L, rfl, HO5.out.mono (by omega), by omega, by omega, HF.out, hx0, by rw [← HSS.out]; omega⟩, HB5.out.cur, HB5.out.grown⟩
theorem pickE : ∀ k, k < 3 → -1 ≤ ([-1, 501, 300] : List Int)[k]?.getD 0 ∧ ([-1, 501, 300] : List Int)[k]?.getD 0 ≤ 501 := by
 have : ∀ k : Fin 3, -1 ≤ ([-1, 501, 300] : List Int)[k.val]?.getD 0 ∧ ([-1, 501, 300] : List Int)[k.val]?.getD 0 ≤ 501 := by decide
 exact fun k hk => this ⟨k, hk⟩
theorem pickF : ∀ k, k < 2 → -1 ≤ ([101, -1] : List Int)[k]?.getD 0 ∧ ([101, -1] : List Int)[k]?.getD 0 ≤ 101 := by
 have : ∀ k : Fin 2, -1 ≤ ([101, -1] : List Int)[k.val]?.getD 0 ∧ ([101, -1] : List Int)[k.val]?.getD 0 ≤ 101 := by decide
 exact fun k hk => this ⟨k, hk⟩
def FewB (l : List Int) : Prop := ∀ x ∈ l, -1 ≤ x ∧ x ≤ 101
theorem Few.b {l : List Int} (h : Few l) : FewB l := fun x hx => by have := h x hx; omega
theorem FewB.set {l : List Int} (h : FewB l) (k : Nat) {y : Int} (hy : -1 ≤ y ∧ y ≤ 101) : FewB (l.set k y) := fun x hx => by
 rcases List.mem_or_eq_of_mem_set hx with h1 | h1
 ·exact h x h1
 ·rw [h1]; exact hy
set_option maxHeartbeats 8000000 in
theorem s_l18Bent {w : World} {cb : Nat} (h : Cur w cb) :
 Calls Tryz.prog 110 #[.pointer (some ⟨cb, 0, none⟩)] w fun e w' => (∃ (x : Int) (a : Option Addr) (n c : Nat) (L : List Int), e = .returned (.agg #[.int .i64 x, .slice a n c]) ∧ OwnI w' w.heap.size (.slice a n c) L ∧ n ≤ 3 ∧ FewB L ∧ -1 ≤ x ∧ x ≤ 501) ∧ Cur w' cb ∧ w.grownBy w' (some cb) := by
 have hcl := h.lt
 obtain ⟨W, hW⟩ : ∃ W, W = w.alloc (.cells #[.int .i64 0, .slice none 0 0] 66) := ⟨_, rfl⟩
 have hws : W.heap.size = w.heap.size + 1 := by rw [hW]; simp
 have HB0 := Lib.hid (show Bxs w W cb (Bx.nil.upd w.heap.size (#[.int .i64 0, .slice none 0 0], 66)) by
  rw [hW]; exact (Bxs.start h (grown_ext (some cb) (Ext.refl w))).new #[.int .i64 0, .slice none 0 0] 66 (pair_dry _ _ (slice_dry _ _ _)))
 clear h
 go_enter Tryz.func110, Tryz.ntmps110
 go_upto_region 1 with fail
 rw [← hW]
 clear hW
 go_wp2_with fail
 refine (s_l18Draw HB0.out.cur).mono ?_
 rintro e w3 ⟨⟨x, a, n, c, L, rfl, ho, hn1, hn3, hfew, hx0, hx1⟩, hc, hg⟩
 have hs3 := hg.size
 have hsm := sumW_few' hfew (by have := ho.ints.hlen; omega)
 have hxb : -1 ≤ x ∧ x ≤ 501 := by have := ho.ints.hlen; omega
 have HF := Lib.hid hfew.b
 have HOL := Lib.hid (fun k hk => (ho.lt k hk).2)
 have hcap := ho.ints.hcap
 have hmax := ho.ints.hmax
 obtain ⟨w4, hw4⟩ : ∃ E, E = w3.alloc (.cells #[.int .i64 x, .slice a n c] 66) := ⟨_, rfl⟩
 have HB4 := Lib.hid (show Bxs w w4 cb (prBx 66 w.heap.size w3.heap.size x a n c) from hw4 ▸ (HB0.out.call hc hg).new _ _ (pair_dry _ _ (slice_dry _ _ _)))
 have HO4 := Lib.hid (show OwnI w4 (w.heap.size + 1) (.slice a n c) L from hw4 ▸ (ho.mono (by omega)).ext (Ext.alloc _ _))
 obtain ⟨hxb0, hxb1⟩ := hxb
 clear hc hg ho hfew hsm hx0 hx1
 have hne : w.heap.size ≠ w3.heap.size := by omega
 go_upto_region 2 with fail
 rw [← hw4]
 clear hw4
 go_wp2_with fail
 refine (s_l1Below HB4.out.cur 12 (by omega)).mono ?_
 rintro e w5 ⟨⟨z, rfl, hz0, hz1⟩, hc, hg⟩
 have HB5 := Lib.hid (HB4.out.call hc hg)
 have HO5 := Lib.hid (HO4.out.calls hg (show cb < w.heap.size + 1 by omega))
 have hs5 := hg.size
 clear hc hg
 have hcase : z = 0 ∨ z = 1 ∨ z = 2 ∨ 3 ≤ z := by omega
 rcases hcase with rfl | rfl | rfl | hz3
 ·have hli : Ints (w5.alloc (.cells #[.int .i64 (-1), .int .i64 501, .int .i64 300] 3)) (some ⟨w5.heap.size, 0, none⟩) 3 3 [-1, 501, 300] := Ints.lit w5 [-1, 501, 300] 3 (by decide)
  have hBA := HB5.out.ext (Ext.alloc w5 (.cells #[.int .i64 (-1), .int .i64 501, .int .i64 300] 3))
  have hOA := HO5.out.ext (Ext.alloc w5 (.cells #[.int .i64 (-1), .int .i64 501, .int .i64 300] 3))
  have hcl5 := HB5.out.cur.lt
  go_wp2_with fail
  refine (s_l1PickInt hBA.cur hli (by omega) (fun b off e => by simp only [Option.some.injEq, Addr.mk.injEq, and_true] at e; omega)).mono ?_
  rintro e w6 ⟨⟨q, hq, rfl⟩, hc, hg⟩
  have hpk := pickE q hq
  obtain ⟨y, hy⟩ : ∃ y, y = ([-1, 501, 300] : List Int)[q]?.getD 0 := ⟨_, rfl⟩
  rw [← hy] at hpk
  rw [← hy]
  obtain ⟨hy0, hy1⟩ := hpk
  have HB6 := Lib.hid (hBA.call hc hg)
  have HO6 := Lib.hid (hOA.calls hg (show cb < w.heap.size + 1 by omega))
  have d0 := HB6.out.c0 (b := w3.heap.size) prBx_b
  have df := HB6.out.free (b := w3.heap.size) prBx_b
  have HB7 := Lib.hid (show Bxs w (w6.setCell ⟨w3.heap.size, 0, none⟩ (.int .i64 y)) cb (prBx 66 w.heap.size w3.heap.size y a n c) from by
   have := HB6.out.put (b := w3.heap.size) prBx_b 0 (.int .i64 y) (i64_dry _)
   rw [← prBx_set (x := x) (a := a) (n := n) (c := c)]
   exact this)
  have HO7 := Lib.hid (HO6.out.keep (w' := w6.setCell ⟨w3.heap.size, 0, none⟩ (.int .i64 y)) fun j hj => heap_setCell_other _ _ _ _ (by have := HOL.out j hj; show j ≠ w3.heap.size; omega))
  clear hc hg hy hBA hOA hli
  have q0 := HB7.out.c0 (b := w3.heap.size) prBx_b
  have q1 := HB7.out.c1 (b := w3.heap.size) prBx_b
  have r0 := HB7.out.c0 (b := w.heap.size) (prBx_r hne)
  have r1 := HB7.out.c1 (b := w.heap.size) (prBx_r hne)
  have rf := HB7.out.free (b := w.heap.size) (prBx_r hne)
  have HB9 := Lib.hid (HB7.out.put2 (prBx_r hne) (.int .i64 y) (.slice a n c) (i64_dry _) (slice_dry _ _ _))
  have HO9 := Lib.hid (HO7.out.put2 (show w.heap.size < w.heap.size + 1 by omega) (.int .i64 y) (.slice a n c))
  have z0 := HB9.out.c0 (Bx.same _ _ _)
  have z1 := HB9.out.c1 (Bx.same _ _ _)
  go_wp2_with fail
  refine bodyPost_ret (v := .agg #[.int .i64 y, .slice a n c]) (by simp [results, Tryz.results110, go_sem, z0, z1]) rfl ⟨⟨_, a, n, c, _, rfl, HO9.out.mono (by omega), by omega, HF.out, by omega, by omega⟩, HB9.out.cur, HB9.out.grown⟩
 ·have hn0 : 0 < n := hn1
  obtain ⟨g, rfl, hgb, hgf, hgl⟩ := HO5.out.block (k := 0) (by omega)
  have hg3 := HOL.out g rfl
  have hHO := HO5.out
  have hB := HB5.out.ext (Ext.drew w5)
  have hO := HO5.out.ext (Ext.drew w5)
  have hcl5 := HB5.out.cur.lt
  have HS := Lib.hid (fun (w' : World) (h : Bxs w w' cb (prBx 66 w.heap.size w3.heap.size x (some ⟨g, 0, none⟩) n c)) => h.c1 prBx_b)
  clear hHO
  go_wp2_with fail
  refine wp_region_held_drew (S := (fun w' => w'.cell? ⟨w3.heap.size, 1, none⟩ = some (.slice (some ⟨g, 0, none⟩) n c))) (by kernel_rfl) ?_ (fun hHeld => ?_)
  ·exact HS.out _ hB
  obtain ⟨wd, hwd⟩ : ∃ y, y = w5.drew := ⟨_, rfl⟩
  have hsd : w5.heap.size ≤ wd.heap.size := by rw [hwd]; exact Nat.le_refl _
  rw [← hwd] at hB hO hHeld
  rw [← hwd]
  clear hwd
  have hli : Ints (wd.alloc (.cells #[.int .i64 101, .int .i64 (-1)] 3)) (some ⟨wd.heap.size, 0, none⟩) 2 2 [101, -1] := Ints.lit wd [101, -1] 3 (by decide)
  have hBA := hB.ext (Ext.alloc wd (.cells #[.int .i64 101, .int .i64 (-1)] 3))
  have hOA := hO.ext (Ext.alloc wd (.cells #[.int .i64 101, .int .i64 (-1)] 3))
  refine tk 0 ?_
  refine tk 1 ?_
  refine tk 2 ?_
  refine rd (i := 3) (h := fun K hK => ?_)
  go_simp
  refine hK.out _ _ ?_ (fun hHeld => ?_)
  ·exact HS.out _ hBA
  clear hK K
  try simp only [Act.put, sA, sB, sC]
  refine rd (i := 4) (h := fun K hK => ?_)
  go_simp
  refine (s_l1PickInt hBA.cur hli (by omega) (fun b off e => by simp only [Option.some.injEq, Addr.mk.injEq, and_true] at e; omega)).mono ?_; rintro e w6 ⟨⟨q, hq, rfl⟩, hc, hg⟩; have hpk := pickF q hq; obtain ⟨y, hy⟩ : ∃ y, y = ([101, -1] : List Int)[q]?.getD 0 := ⟨_, rfl⟩; rw [← hy] at hpk; rw [← hy]; clear hy; have HB6 := Lib.hid (hBA.call hc hg); have HO6 := Lib.hid (hOA.calls hg (show cb < w.heap.size + 1 by omega)); obtain ⟨u1, u2, hu, hcv⟩ := HO6.out.ints.at (k := 0) (by omega); simp only [Option.some.injEq, Addr.mk.injEq, and_true] at hu; obtain ⟨rfl, rfl⟩ := hu; rw [Nat.zero_add] at hcv; obtain ⟨g2, hg2, _, hfv, _⟩ := HO6.out.block (k := 0) (by omega); obtain rfl : g = g2 := (by simpa using hg2); clear hg2 hc hg
  go_wp2_with fail
  refine hK.out _ _ ?_ (fun hHeld => ?_)
  ·exact HS.out _ HB6.out
  clear hK K
  try simp only [Act.put, sA, sB, sC]
  refine tk 5 ?_
  have HB7 := Lib.hid (HB6.out.putr (b := g) (k := 0) (by omega) (by omega) (prBx_o (by omega) (by omega)) hcv (i64_dry _) (.int .i64 y))
  have HO7 := Lib.hid (HO6.out.set 0 y)
  refine rd (i := 6) (h := fun K hK => ?_)
  go_simp
  refine hK.out _ _ ?_ (fun hHeld => ?_)
  ·exact HS.out _ HB7.out
  clear hK K
  try simp only [Act.put, sA, sB, sC]
  refine wpAnyH_done (by kernel_rfl) ?_ _
  have HF7 := Lib.hid (HF.out.set 0 hpk)
  clear hHeld hB hO hBA hOA hli hcv hfv
  have q0 := HB7.out.c0 (b := w3.heap.size) prBx_b
  have q1 := HB7.out.c1 (b := w3.heap.size) prBx_b
  have r0 := HB7.out.c0 (b := w.heap.size) (prBx_r hne)
  have r1 := HB7.out.c1 (b := w.heap.size) (prBx_r hne)
  have rf := HB7.out.free (b := w.heap.size) (prBx_r hne)
  have HB9 := Lib.hid (HB7.out.put2 (prBx_r hne) (.int .i64 x) (.slice (some ⟨g, 0, none⟩) n c) (i64_dry _) (slice_dry _ _ _))
  have HO9 := Lib.hid (HO7.out.put2 (show w.heap.size < w.heap.size + 1 by omega) (.int .i64 x) (.slice (some ⟨g, 0, none⟩) n c))
  have z0 := HB9.out.c0 (Bx.same _ _ _)
  have z1 := HB9.out.c1 (Bx.same _ _ _)
  go_wp2_with fail
  refine bodyPost_ret (v := .agg #[.int .i64 x, .slice (some ⟨g, 0, none⟩) n c]) (by simp [results, Tryz.results110, go_sem, z0, z1]) rfl ⟨⟨_, (some ⟨g, 0, none⟩), n, c, _, rfl, HO9.out.mono (by omega), by omega, HF7.out, by omega, by omega⟩, HB9.out.cur, HB9.out.grown⟩
 ·have d1 := HB5.out.c1 (b := w3.heap.size) prBx_b
  have df := HB5.out.free (b := w3.heap.size) prBx_b
  have HB7 := Lib.hid (show Bxs w (w5.setCell ⟨w3.heap.size, 1, none⟩ (.slice none 0 0)) cb (prBx 66 w.heap.size w3.heap.size x none 0 0) from by
   have := HB5.out.put (b := w3.heap.size) prBx_b 1 (.slice none 0 0) (slice_dry _ _ _)
   rw [← prBx_set (x := x) (a := a) (n := n) (c := c)]
   exact this)
  have HO7 := Lib.hid (OwnI.nil (w5.setCell ⟨w3.heap.size, 1, none⟩ (.slice none 0 0)) (w.heap.size + 1))
  have q0 := HB7.out.c0 (b := w3.heap.size) prBx_b
  have q1 := HB7.out.c1 (b := w3.heap.size) prBx_b
  have r0 := HB7.out.c0 (b := w.heap.size) (prBx_r hne)
  have r1 := HB7.out.c1 (b := w.heap.size) (prBx_r hne)
  have rf := HB7.out.free (b := w.heap.size) (prBx_r hne)
  have HB9 := Lib.hid (HB7.out.put2 (prBx_r hne) (.int .i64 x) (.slice none 0 0) (i64_dry _) (slice_dry _ _ _))
  have HO9 := Lib.hid (HO7.out.put2 (show w.heap.size < w.heap.size + 1 by omega) (.int .i64 x) (.slice none 0 0))
  have z0 := HB9.out.c0 (Bx.same _ _ _)
  have z1 := HB9.out.c1 (Bx.same _ _ _)
  go_wp2_with fail
  refine bodyPost_ret (v := .agg #[.int .i64 x, .slice none 0 0]) (by simp [results, Tryz.results110, go_sem, z0, z1]) rfl ⟨⟨_, none, 0, 0, _, rfl, HO9.out.mono (by omega), by omega, (fun x hx => by cases hx), by omega, by omega⟩, HB9.out.cur, HB9.out.grown⟩
 ·have e0 : (z == 0) = false := by simp; omega
  have e1 : (z == 1) = false := by simp; omega
  have e2 : (z == 2) = false := by simp; omega
  have q0 := HB5.out.c0 (b := w3.heap.size) prBx_b
  have q1 := HB5.out.c1 (b := w3.heap.size) prBx_b
  have r0 := HB5.out.c0 (b := w.heap.size) (prBx_r hne)
  have r1 := HB5.out.c1 (b := w.heap.size) (prBx_r hne)
  have rf := HB5.out.free (b := w.heap.size) (prBx_r hne)
  have HB9 := Lib.hid (HB5.out.put2 (prBx_r hne) (.int .i64 x) (.slice a n c) (i64_dry _) (slice_dry _ _ _))
  have HO9 := Lib.hid (HO5.out.put2 (show w.heap.size < w.heap.size + 1 by omega) (.int .i64 x) (.slice a n c))
  have z0 := HB9.out.c0 (Bx.same _ _ _)
  have z1 := HB9.out.c1 (Bx.same _ _ _)
  go_wp2_with fail
  refine bodyPost_ret (v := .agg #[.int .i64 x, .slice a n c]) (by simp [results, Tryz.results110, go_sem, z0, z1]) rfl ⟨⟨_, a, n, c, _, rfl, HO9.out.mono (by omega), by omega, HF.out, by omega, by omega⟩, HB9.out.cur, HB9.out.grown⟩
end Go.Proofs.YthjjfkeacobikaaGreat
namespace Go.Proofs.YthjjfkeacobikaaGreat
set_option maxRecDepth 100000
open Go.RowKit
set_option maxHeartbeats 4000000 in
theorem s_DrawTalmudShares {w : World} {a : Option Addr} {n cap : Nat} (h : Bytes w a n cap) (hn : n ≤ 1048576) :
 Calls Tryz.prog 42 #[.slice a n cap] w fun e w' => (∃ (x : Int) (b : Option Addr) (m c : Nat) (L : List Int), e = .returned (.agg #[.int .i64 x, .slice b m c]) ∧ Ints w' b m c L ∧ m ≤ 3) ∧ Ext w w' := by
 obtain ⟨W, hW⟩ : ∃ W, W = w.alloc (.cells #[.int .i64 0, .slice none 0 0] 66) := ⟨_, rfl⟩
 have hws : W.heap.size = w.heap.size + 1 := by rw [hW]; simp
 have hX : Ext w W := by rw [hW]; exact Ext.alloc _ _
 have HR2 := Lib.hid (show W.heap[w.heap.size]? = some (.cells #[.int .i64 0, .slice none 0 0] 66 (0, 0)) by rw [hW]; exact heapA_new _ _ _ rfl)
 have HX := Lib.hid hX
 have HN := Lib.hid (s_l1New (h.ext hX) hn)
 clear h hX
 go_enter Tryz.func42, Tryz.ntmps42
 go_wp2_with fail
 rw [← hW]
 refine HN.out.mono ?_
 rintro e w1 ⟨⟨cb, rfl, hcb, hc⟩, hx⟩
 have hs1 := hx.size
 have hcl := hc.lt
 have HB1 := Lib.hid ((Bxs.start hc (grown_ext (some cb) (HX.out.trans hx))).add w.heap.size _ _ ((hx.block _ (by omega)).trans HR2.out) (by omega) (by omega) (pair_dry _ _ (slice_dry _ _ _)))
 clear hc hx HR2 hW
 go_wp2_with fail
 refine (s_l18Bent HB1.out.cur).mono ?_
 rintro e w2 ⟨⟨x, b, m, c, L, rfl, ho, hm, hfew, hx0, hx1⟩, hc, hg⟩
 have HB2 := Lib.hid (HB1.out.call hc hg)
 have r0 := HB2.out.c0 (Bx.same _ _ _)
 have r1 := HB2.out.c1 (Bx.same _ _ _)
 have rf := HB2.out.free (b := w.heap.size) (Bx.same _ _ _)
 have HB3 := Lib.hid (HB2.out.put2 (Bx.same _ _ _) (.int .i64 x) (.slice b m c) (i64_dry _) (slice_dry _ _ _))
 have HO3 := Lib.hid (ho.put2 (show w.heap.size < w1.heap.size by omega) (.int .i64 x) (.slice b m c))
 have z0 := HB3.out.c0 (Bx.same _ _ _)
 have z1 := HB3.out.c1 (Bx.same _ _ _)
 have HX3 := Lib.hid (HB3.out.all (by omega))
 clear hc hg ho
 go_wp2_with fail
 refine bodyPost_ret (v := .agg #[.int .i64 x, .slice b m c]) (by simp [results, Tryz.results42, go_sem, z0, z1]) rfl ⟨⟨x, b, m, c, L, rfl, HO3.out.ints, hm⟩, HX3.out⟩
theorem box3 {w W : World} {a b c : Obj} (hx : Ext (((w.alloc a).alloc b).alloc c) W) : W.heap[w.heap.size]? = some a ∧ W.heap[w.heap.size + 1]? = some b ∧ W.heap[w.heap.size + 1 + 1]? = some c :=
 ⟨(hx.block _ (by simp; omega)).trans (by rw [heapA_old _ _ _ (by simp; omega), heapA_old _ _ _ (by simp)]; exact heapA_new _ _ _ rfl),
  (hx.block _ (by simp)).trans (by rw [heapA_old _ _ _ (by simp)]; exact heapA_new _ _ _ (by simp)), (hx.block _ (by simp)).trans (heapA_new _ _ _ (by simp))⟩
theorem box2 {w W : World} {a b : Obj} (hx : Ext ((w.alloc a).alloc b) W) : W.heap[w.heap.size]? = some a ∧ W.heap[w.heap.size + 1]? = some b :=
 ⟨(hx.block _ (by simp; omega)).trans (by rw [heapA_old _ _ _ (by simp)]; exact heapA_new _ _ _ rfl), (hx.block _ (by simp)).trans (heapA_new _ _ _ (by simp))⟩
theorem rcell {w : World} {b : Nat} {x y : Int} {t : TypeId} (h : w.heap[b]? = some (.cells #[.int .i64 x, .int .i64 y] t (0, 0))) : w.cell? ⟨b, 0, none⟩ = some (.int .i64 x) ∧ w.cell? ⟨b, 1, none⟩ = some (.int .i64 y) ∧ ∀ o, w.frozen? ⟨b, o, none⟩ = false :=
 ⟨by rw [cell_of_row _ _ _ _ _ _ h]; rfl, by rw [cell_of_row _ _ _ _ _ _ h]; rfl, fun o => frozen_of_row _ _ _ _ _ h⟩
theorem val_in {x y : Int} (h : valR (x, y) = true) : -1000000000 ≤ x ∧ x ≤ 1000000000 ∧ -1000000000 ≤ y ∧ y ≤ 1000000000 := by have := valR_bd h; simp only at this; omega
theorem mul_w {x y : Int} (h : -1000000000 ≤ x ∧ x ≤ 1000000000) (h' : -1000000000 ≤ y ∧ y ≤ 1000000000) : in18 (x * y) := mul_bd h.1 h.2 h'.1 h'.2
set_option maxHeartbeats 1000000 in
theorem i_AddRat (x y u v : Int) (w : World) :
 Calls Tryz.prog 169 #[ratV x y, ratV u v] w fun e w' => e = .returned (resR (addR (x, y) (u, v))) ∧ Ext w w' := by
 have HX := Lib.hid (show Ext w (((w.alloc (.cells #[.int .i64 x, .int .i64 y] 43)).alloc (.cells #[.int .i64 u, .int .i64 v] 43)).alloc (.cells #[.int .i64 0, .int .i64 0] 43)) from ((Ext.alloc _ _).trans (Ext.alloc _ _)).trans (Ext.alloc _ _))
 cases ha : valR (x, y)
 ·have HA := Lib.hid ha
  have HR := Lib.hid (show addR (x, y) (u, v) = ((0, 0), false) by simp [addR, ha])
  clear ha
  go_enter Tryz.func169, Tryz.ntmps169
  go_wp2_with fail
  refine (i_IsValidRat x y _).mono ?_
  rw [HA.out]
  rintro e w1 ⟨rfl, hx⟩
  obtain ⟨bA, bB, bR⟩ := box3 hx
  obtain ⟨a0, a1, fa⟩ := rcell bA
  obtain ⟨b0, b1, fb⟩ := rcell bB
  obtain ⟨r0, r1, fr⟩ := rcell bR
  have X1 := Lib.hid hx
  clear hx bA bB bR
  go_wp2
  rw [HR.out]
  refine bodyPost_ret (v := .tuple #[.agg #[.int .i64 0, .int .i64 0], .bool false]) (by simp [results, Tryz.results169, go_sem, r0, r1]) rfl ⟨rfl, ?_⟩
  exact ((HX.out.trans X1.out).setCell (by simp; omega) _).setCell (by simp; omega) _
 cases hb : valR (u, v)
 ·have HA := Lib.hid ha
  have HB := Lib.hid hb
  have HR := Lib.hid (show addR (x, y) (u, v) = ((0, 0), false) by simp [addR, hb])
  clear ha hb
  go_enter Tryz.func169, Tryz.ntmps169
  go_wp2_with fail
  refine (i_IsValidRat x y _).mono ?_
  rw [HA.out]
  rintro e w1 ⟨rfl, hx⟩
  obtain ⟨bA, bB, bR⟩ := box3 hx
  obtain ⟨a0, a1, fa⟩ := rcell bA
  obtain ⟨b0, b1, fb⟩ := rcell bB
  obtain ⟨r0, r1, fr⟩ := rcell bR
  have X1 := Lib.hid hx
  clear hx bA bB bR
  go_wp2_with fail
  refine (i_IsValidRat u v _).mono ?_
  rw [HB.out]
  rintro e w2 ⟨rfl, hx⟩
  clear a0 a1 fa b0 b1 fb r0 r1 fr
  have X2 := Lib.hid (X1.out.trans hx)
  obtain ⟨bA, bB, bR⟩ := box3 X2.out
  obtain ⟨a0, a1, fa⟩ := rcell bA
  obtain ⟨b0, b1, fb⟩ := rcell bB
  obtain ⟨r0, r1, fr⟩ := rcell bR
  clear hx bA bB bR
  go_wp2
  rw [HR.out]
  refine bodyPost_ret (v := .tuple #[.agg #[.int .i64 0, .int .i64 0], .bool false]) (by simp [results, Tryz.results169, go_sem, r0, r1]) rfl ⟨rfl, ?_⟩
  exact ((HX.out.trans X2.out).setCell (by simp; omega) _).setCell (by simp; omega) _
 have HA := Lib.hid ha
 have HB := Lib.hid hb
 obtain ⟨x1, x2, y1, y2⟩ := val_in ha
 obtain ⟨u1, u2, v1, v2⟩ := val_in hb
 have q1 : in18 (x * v) := mul_w (by omega) (by omega)
 obtain ⟨e1, g1⟩ := kwrap_in q1
 have q2 : in18 (u * y) := mul_w (by omega) (by omega)
 obtain ⟨e2, g2⟩ := kwrap_in q2
 have q3 : in18 (y * v) := mul_w (by omega) (by omega)
 obtain ⟨e3, g3⟩ := kwrap_in q3
 have e4 : IntKind.i64.wrap (x * v + u * y) = x * v + u * y := by rw [IntKind.wrap_i64]; unfold in18 at *; omega
 have g4 : wrap64 (x * v + u * y) = x * v + u * y := by unfold wrap64; unfold in18 at *; omega
 obtain ⟨p, q, ok, hpq⟩ : ∃ p q ok, ratOf (x * v + u * y) (y * v) = ((p, q), ok) := ⟨_, _, _, rfl⟩
 have HPQ := Lib.hid hpq
 have HR := Lib.hid (show addR (x, y) (u, v) = ((p, q), ok) by simp [addR, ha, hb, hpq])
 clear ha hb hpq
 ·go_enter Tryz.func169, Tryz.ntmps169
  go_wp2_with fail
  refine (i_IsValidRat x y _).mono ?_
  rw [HA.out]
  rintro e w1 ⟨rfl, hx⟩
  obtain ⟨bA, bB, bR⟩ := box3 hx
  obtain ⟨a0, a1, fa⟩ := rcell bA
  obtain ⟨b0, b1, fb⟩ := rcell bB
  obtain ⟨r0, r1, fr⟩ := rcell bR
  have X1 := Lib.hid hx
  clear hx bA bB bR
  go_wp2_with fail
  refine (i_IsValidRat u v _).mono ?_
  rw [HB.out]
  rintro e w2 ⟨rfl, hx⟩
  clear a0 a1 fa b0 b1 fb r0 r1 fr
  have X2 := Lib.hid (X1.out.trans hx)
  obtain ⟨bA, bB, bR⟩ := box3 X2.out
  obtain ⟨a0, a1, fa⟩ := rcell bA
  obtain ⟨b0, b1, fb⟩ := rcell bB
  obtain ⟨r0, r1, fr⟩ := rcell bR
  clear hx bA bB bR
  go_wp2_with fail
  refine (i_RatOf _ _ _).mono ?_
  rw [HPQ.out]
  rintro e w3 ⟨rfl, hx⟩
  clear a0 a1 fa b0 b1 fb r0 r1 fr
  have X3 := Lib.hid (X2.out.trans hx)
  obtain ⟨bA, bB, bR⟩ := box3 X3.out
  obtain ⟨a0, a1, fa⟩ := rcell bA
  obtain ⟨b0, b1, fb⟩ := rcell bB
  obtain ⟨r0, r1, fr⟩ := rcell bR
  clear hx bA bB bR
  go_wp2
  rw [HR.out]
  refine bodyPost_ret (v := .tuple #[.agg #[.int .i64 p, .int .i64 q], .bool ok]) (by simp [results, Tryz.results169, go_sem, r0, r1]) rfl ⟨rfl, ?_⟩
  exact ((HX.out.trans X3.out).setCell (by simp; omega) _).setCell (by simp; omega) _
set_option maxHeartbeats 1000000 in
theorem s_AddRat (x y u v : Int) (w : World) :
 Calls Tryz.prog 37 #[ratV x y, ratV u v] w fun e w' => e = .returned (resR (addR (x, y) (u, v))) ∧ Ext w w' := by
 have HX := Lib.hid (show Ext w (((w.alloc (.cells #[.int .i64 x, .int .i64 y] 43)).alloc (.cells #[.int .i64 u, .int .i64 v] 43)).alloc (.cells #[.int .i64 0, .int .i64 0] 43)) from ((Ext.alloc _ _).trans (Ext.alloc _ _)).trans (Ext.alloc _ _))
 cases ha : valR (x, y)
 ·have HA := Lib.hid ha
  have HR := Lib.hid (show addR (x, y) (u, v) = ((0, 0), false) by simp [addR, ha])
  clear ha
  go_enter Tryz.func37, Tryz.ntmps37
  go_wp2_with fail
  refine (s_IsValidRat x y _).mono ?_
  rw [HA.out]
  rintro e w1 ⟨rfl, hx⟩
  obtain ⟨bA, bB, bR⟩ := box3 hx
  obtain ⟨a0, a1, fa⟩ := rcell bA
  obtain ⟨b0, b1, fb⟩ := rcell bB
  obtain ⟨r0, r1, fr⟩ := rcell bR
  have X1 := Lib.hid hx
  clear hx bA bB bR
  go_wp2
  rw [HR.out]
  refine bodyPost_ret (v := .tuple #[.agg #[.int .i64 0, .int .i64 0], .bool false]) (by simp [results, Tryz.results37, go_sem, r0, r1]) rfl ⟨rfl, ?_⟩
  exact ((HX.out.trans X1.out).setCell (by simp; omega) _).setCell (by simp; omega) _
 cases hb : valR (u, v)
 ·have HA := Lib.hid ha
  have HB := Lib.hid hb
  have HR := Lib.hid (show addR (x, y) (u, v) = ((0, 0), false) by simp [addR, hb])
  clear ha hb
  go_enter Tryz.func37, Tryz.ntmps37
  go_wp2_with fail
  refine (s_IsValidRat x y _).mono ?_
  rw [HA.out]
  rintro e w1 ⟨rfl, hx⟩
  obtain ⟨bA, bB, bR⟩ := box3 hx
  obtain ⟨a0, a1, fa⟩ := rcell bA
  obtain ⟨b0, b1, fb⟩ := rcell bB
  obtain ⟨r0, r1, fr⟩ := rcell bR
  have X1 := Lib.hid hx
  clear hx bA bB bR
  go_wp2_with fail
  refine (s_IsValidRat u v _).mono ?_
  rw [HB.out]
  rintro e w2 ⟨rfl, hx⟩
  clear a0 a1 fa b0 b1 fb r0 r1 fr
  have X2 := Lib.hid (X1.out.trans hx)
  obtain ⟨bA, bB, bR⟩ := box3 X2.out
  obtain ⟨a0, a1, fa⟩ := rcell bA
  obtain ⟨b0, b1, fb⟩ := rcell bB
  obtain ⟨r0, r1, fr⟩ := rcell bR
  clear hx bA bB bR
  go_wp2
  rw [HR.out]
  refine bodyPost_ret (v := .tuple #[.agg #[.int .i64 0, .int .i64 0], .bool false]) (by simp [results, Tryz.results37, go_sem, r0, r1]) rfl ⟨rfl, ?_⟩
  exact ((HX.out.trans X2.out).setCell (by simp; omega) _).setCell (by simp; omega) _
 have HA := Lib.hid ha
 have HB := Lib.hid hb
 obtain ⟨x1, x2, y1, y2⟩ := val_in ha
 obtain ⟨u1, u2, v1, v2⟩ := val_in hb
 have q1 : in18 (x * v) := mul_w (by omega) (by omega)
 obtain ⟨e1, g1⟩ := kwrap_in q1
 have q2 : in18 (u * y) := mul_w (by omega) (by omega)
 obtain ⟨e2, g2⟩ := kwrap_in q2
 have q3 : in18 (y * v) := mul_w (by omega) (by omega)
 obtain ⟨e3, g3⟩ := kwrap_in q3
 have e4 : IntKind.i64.wrap (x * v + u * y) = x * v + u * y := by rw [IntKind.wrap_i64]; unfold in18 at *; omega
 have g4 : wrap64 (x * v + u * y) = x * v + u * y := by unfold wrap64; unfold in18 at *; omega
 obtain ⟨p, q, ok, hpq⟩ : ∃ p q ok, ratOf (x * v + u * y) (y * v) = ((p, q), ok) := ⟨_, _, _, rfl⟩
 have HPQ := Lib.hid hpq
 have HR := Lib.hid (show addR (x, y) (u, v) = ((p, q), ok) by simp [addR, ha, hb, hpq])
 clear ha hb hpq
 ·go_enter Tryz.func37, Tryz.ntmps37
  go_wp2_with fail
  refine (s_IsValidRat x y _).mono ?_
  rw [HA.out]
  rintro e w1 ⟨rfl, hx⟩
  obtain ⟨bA, bB, bR⟩ := box3 hx
  obtain ⟨a0, a1, fa⟩ := rcell bA
  obtain ⟨b0, b1, fb⟩ := rcell bB
  obtain ⟨r0, r1, fr⟩ := rcell bR
  have X1 := Lib.hid hx
  clear hx bA bB bR
  go_wp2_with fail
  refine (s_IsValidRat u v _).mono ?_
  rw [HB.out]
  rintro e w2 ⟨rfl, hx⟩
  clear a0 a1 fa b0 b1 fb r0 r1 fr
  have X2 := Lib.hid (X1.out.trans hx)
  obtain ⟨bA, bB, bR⟩ := box3 X2.out
  obtain ⟨a0, a1, fa⟩ := rcell bA
  obtain ⟨b0, b1, fb⟩ := rcell bB
  obtain ⟨r0, r1, fr⟩ := rcell bR
  clear hx bA bB bR
  go_wp2_with fail
  refine (s_RatOf _ _ _).mono ?_
  rw [HPQ.out]
  rintro e w3 ⟨rfl, hx⟩
  clear a0 a1 fa b0 b1 fb r0 r1 fr
  have X3 := Lib.hid (X2.out.trans hx)
  obtain ⟨bA, bB, bR⟩ := box3 X3.out
  obtain ⟨a0, a1, fa⟩ := rcell bA
  obtain ⟨b0, b1, fb⟩ := rcell bB
  obtain ⟨r0, r1, fr⟩ := rcell bR
  clear hx bA bB bR
  go_wp2
  rw [HR.out]
  refine bodyPost_ret (v := .tuple #[.agg #[.int .i64 p, .int .i64 q], .bool ok]) (by simp [results, Tryz.results37, go_sem, r0, r1]) rfl ⟨rfl, ?_⟩
  exact ((HX.out.trans X3.out).setCell (by simp; omega) _).setCell (by simp; omega) _
set_option maxHeartbeats 1000000 in
theorem i_SubRat (x y u v : Int) (w : World) :
 Calls Tryz.prog 177 #[ratV x y, ratV u v] w fun e w' => e = .returned (resR (subR (x, y) (u, v))) ∧ Ext w w' := by
 have HX := Lib.hid (show Ext w (((w.alloc (.cells #[.int .i64 x, .int .i64 y] 43)).alloc (.cells #[.int .i64 u, .int .i64 v] 43)).alloc (.cells #[.int .i64 0, .int .i64 0] 43)) from ((Ext.alloc _ _).trans (Ext.alloc _ _)).trans (Ext.alloc _ _))
 cases ha : valR (x, y)
 ·have HA := Lib.hid ha
  have HR := Lib.hid (show subR (x, y) (u, v) = ((0, 0), false) by simp [subR, ha])
  clear ha
  go_enter Tryz.func177, Tryz.ntmps177
  go_wp2_with fail
  refine (i_IsValidRat x y _).mono ?_
  rw [HA.out]
  rintro e w1 ⟨rfl, hx⟩
  obtain ⟨bA, bB, bR⟩ := box3 hx
  obtain ⟨a0, a1, fa⟩ := rcell bA
  obtain ⟨b0, b1, fb⟩ := rcell bB
  obtain ⟨r0, r1, fr⟩ := rcell bR
  have X1 := Lib.hid hx
  clear hx bA bB bR
  go_wp2
  rw [HR.out]
  refine bodyPost_ret (v := .tuple #[.agg #[.int .i64 0, .int .i64 0], .bool false]) (by simp [results, Tryz.results177, go_sem, r0, r1]) rfl ⟨rfl, ?_⟩
  exact ((HX.out.trans X1.out).setCell (by simp; omega) _).setCell (by simp; omega) _
 cases hb : valR (u, v)
 ·have HA := Lib.hid ha
  have HB := Lib.hid hb
  have HR := Lib.hid (show subR (x, y) (u, v) = ((0, 0), false) by simp [subR, hb])
  clear ha hb
  go_enter Tryz.func177, Tryz.ntmps177
  go_wp2_with fail
  refine (i_IsValidRat x y _).mono ?_
  rw [HA.out]
  rintro e w1 ⟨rfl, hx⟩
  obtain ⟨bA, bB, bR⟩ := box3 hx
  obtain ⟨a0, a1, fa⟩ := rcell bA
  obtain ⟨b0, b1, fb⟩ := rcell bB
  obtain ⟨r0, r1, fr⟩ := rcell bR
  have X1 := Lib.hid hx
  clear hx bA bB bR
  go_wp2_with fail
  refine (i_IsValidRat u v _).mono ?_
  rw [HB.out]
  rintro e w2 ⟨rfl, hx⟩
  clear a0 a1 fa b0 b1 fb r0 r1 fr
  have X2 := Lib.hid (X1.out.trans hx)
  obtain ⟨bA, bB, bR⟩ := box3 X2.out
  obtain ⟨a0, a1, fa⟩ := rcell bA
  obtain ⟨b0, b1, fb⟩ := rcell bB
  obtain ⟨r0, r1, fr⟩ := rcell bR
  clear hx bA bB bR
  go_wp2
  rw [HR.out]
  refine bodyPost_ret (v := .tuple #[.agg #[.int .i64 0, .int .i64 0], .bool false]) (by simp [results, Tryz.results177, go_sem, r0, r1]) rfl ⟨rfl, ?_⟩
  exact ((HX.out.trans X2.out).setCell (by simp; omega) _).setCell (by simp; omega) _
 have HA := Lib.hid ha
 have HB := Lib.hid hb
 obtain ⟨x1, x2, y1, y2⟩ := val_in ha
 obtain ⟨u1, u2, v1, v2⟩ := val_in hb
 have q1 : in18 (x * v) := mul_w (by omega) (by omega)
 obtain ⟨e1, g1⟩ := kwrap_in q1
 have q2 : in18 (u * y) := mul_w (by omega) (by omega)
 obtain ⟨e2, g2⟩ := kwrap_in q2
 have q3 : in18 (y * v) := mul_w (by omega) (by omega)
 obtain ⟨e3, g3⟩ := kwrap_in q3
 have e4 : IntKind.i64.wrap (x * v - u * y) = x * v - u * y := by rw [IntKind.wrap_i64]; unfold in18 at *; omega
 have g4 : wrap64 (x * v - u * y) = x * v - u * y := by unfold wrap64; unfold in18 at *; omega
 obtain ⟨p, q, ok, hpq⟩ : ∃ p q ok, ratOf (x * v - u * y) (y * v) = ((p, q), ok) := ⟨_, _, _, rfl⟩
 have HPQ := Lib.hid hpq
 have HR := Lib.hid (show subR (x, y) (u, v) = ((p, q), ok) by simp [subR, ha, hb, hpq])
 clear ha hb hpq
 ·go_enter Tryz.func177, Tryz.ntmps177
  go_wp2_with fail
  refine (i_IsValidRat x y _).mono ?_
  rw [HA.out]
  rintro e w1 ⟨rfl, hx⟩
  obtain ⟨bA, bB, bR⟩ := box3 hx
  obtain ⟨a0, a1, fa⟩ := rcell bA
  obtain ⟨b0, b1, fb⟩ := rcell bB
  obtain ⟨r0, r1, fr⟩ := rcell bR
  have X1 := Lib.hid hx
  clear hx bA bB bR
  go_wp2_with fail
  refine (i_IsValidRat u v _).mono ?_
  rw [HB.out]
  rintro e w2 ⟨rfl, hx⟩
  clear a0 a1 fa b0 b1 fb r0 r1 fr
  have X2 := Lib.hid (X1.out.trans hx)
  obtain ⟨bA, bB, bR⟩ := box3 X2.out
  obtain ⟨a0, a1, fa⟩ := rcell bA
  obtain ⟨b0, b1, fb⟩ := rcell bB
  obtain ⟨r0, r1, fr⟩ := rcell bR
  clear hx bA bB bR
  go_wp2_with fail
  refine (i_RatOf _ _ _).mono ?_
  rw [HPQ.out]
  rintro e w3 ⟨rfl, hx⟩
  clear a0 a1 fa b0 b1 fb r0 r1 fr
  have X3 := Lib.hid (X2.out.trans hx)
  obtain ⟨bA, bB, bR⟩ := box3 X3.out
  obtain ⟨a0, a1, fa⟩ := rcell bA
  obtain ⟨b0, b1, fb⟩ := rcell bB
  obtain ⟨r0, r1, fr⟩ := rcell bR
  clear hx bA bB bR
  go_wp2
  rw [HR.out]
  refine bodyPost_ret (v := .tuple #[.agg #[.int .i64 p, .int .i64 q], .bool ok]) (by simp [results, Tryz.results177, go_sem, r0, r1]) rfl ⟨rfl, ?_⟩
  exact ((HX.out.trans X3.out).setCell (by simp; omega) _).setCell (by simp; omega) _
set_option maxHeartbeats 1000000 in
theorem i_MulRat (x y u v : Int) (w : World) :
 Calls Tryz.prog 210 #[ratV x y, ratV u v] w fun e w' => e = .returned (resR (mulR (x, y) (u, v))) ∧ Ext w w' := by
 have HX := Lib.hid (show Ext w (((w.alloc (.cells #[.int .i64 x, .int .i64 y] 43)).alloc (.cells #[.int .i64 u, .int .i64 v] 43)).alloc (.cells #[.int .i64 0, .int .i64 0] 43)) from ((Ext.alloc _ _).trans (Ext.alloc _ _)).trans (Ext.alloc _ _))
 cases ha : valR (x, y)
 ·have HA := Lib.hid ha
  have HR := Lib.hid (show mulR (x, y) (u, v) = ((0, 0), false) by simp [mulR, ha])
  clear ha
  go_enter Tryz.func210, Tryz.ntmps210
  go_wp2_with fail
  refine (i_IsValidRat x y _).mono ?_
  rw [HA.out]
  rintro e w1 ⟨rfl, hx⟩
  obtain ⟨bA, bB, bR⟩ := box3 hx
  obtain ⟨a0, a1, fa⟩ := rcell bA
  obtain ⟨b0, b1, fb⟩ := rcell bB
  obtain ⟨r0, r1, fr⟩ := rcell bR
  have X1 := Lib.hid hx
  clear hx bA bB bR
  go_wp2
  rw [HR.out]
  refine bodyPost_ret (v := .tuple #[.agg #[.int .i64 0, .int .i64 0], .bool false]) (by simp [results, Tryz.results210, go_sem, r0, r1]) rfl ⟨rfl, ?_⟩
  exact ((HX.out.trans X1.out).setCell (by simp; omega) _).setCell (by simp; omega) _
 cases hb : valR (u, v)
 ·have HA := Lib.hid ha
  have HB := Lib.hid hb
  have HR := Lib.hid (show mulR (x, y) (u, v) = ((0, 0), false) by simp [mulR, hb])
  clear ha hb
  go_enter Tryz.func210, Tryz.ntmps210
  go_wp2_with fail
  refine (i_IsValidRat x y _).mono ?_
  rw [HA.out]
  rintro e w1 ⟨rfl, hx⟩
  obtain ⟨bA, bB, bR⟩ := box3 hx
  obtain ⟨a0, a1, fa⟩ := rcell bA
  obtain ⟨b0, b1, fb⟩ := rcell bB
  obtain ⟨r0, r1, fr⟩ := rcell bR
  have X1 := Lib.hid hx
  clear hx bA bB bR
  go_wp2_with fail
  refine (i_IsValidRat u v _).mono ?_
  rw [HB.out]
  rintro e w2 ⟨rfl, hx⟩
  clear a0 a1 fa b0 b1 fb r0 r1 fr
  have X2 := Lib.hid (X1.out.trans hx)
  obtain ⟨bA, bB, bR⟩ := box3 X2.out
  obtain ⟨a0, a1, fa⟩ := rcell bA
  obtain ⟨b0, b1, fb⟩ := rcell bB
  obtain ⟨r0, r1, fr⟩ := rcell bR
  clear hx bA bB bR
  go_wp2
  rw [HR.out]
  refine bodyPost_ret (v := .tuple #[.agg #[.int .i64 0, .int .i64 0], .bool false]) (by simp [results, Tryz.results210, go_sem, r0, r1]) rfl ⟨rfl, ?_⟩
  exact ((HX.out.trans X2.out).setCell (by simp; omega) _).setCell (by simp; omega) _
 have HA := Lib.hid ha
 have HB := Lib.hid hb
 obtain ⟨x1, x2, y1, y2⟩ := val_in ha
 obtain ⟨u1, u2, v1, v2⟩ := val_in hb
 have q1 : in18 (x * u) := mul_w (by omega) (by omega)
 obtain ⟨e1, g1⟩ := kwrap_in q1
 have q2 : in18 (y * v) := mul_w (by omega) (by omega)
 obtain ⟨e2, g2⟩ := kwrap_in q2
 obtain ⟨p, q, ok, hpq⟩ : ∃ p q ok, ratOf (x * u) (y * v) = ((p, q), ok) := ⟨_, _, _, rfl⟩
 have HPQ := Lib.hid hpq
 have HR := Lib.hid (show mulR (x, y) (u, v) = ((p, q), ok) by simp [mulR, ha, hb, hpq])
 clear ha hb hpq
 ·go_enter Tryz.func210, Tryz.ntmps210
  go_wp2_with fail
  refine (i_IsValidRat x y _).mono ?_
  rw [HA.out]
  rintro e w1 ⟨rfl, hx⟩
  obtain ⟨bA, bB, bR⟩ := box3 hx
  obtain ⟨a0, a1, fa⟩ := rcell bA
  obtain ⟨b0, b1, fb⟩ := rcell bB
  obtain ⟨r0, r1, fr⟩ := rcell bR
  have X1 := Lib.hid hx
  clear hx bA bB bR
  go_wp2_with fail
  refine (i_IsValidRat u v _).mono ?_
  rw [HB.out]
  rintro e w2 ⟨rfl, hx⟩
  clear a0 a1 fa b0 b1 fb r0 r1 fr
  have X2 := Lib.hid (X1.out.trans hx)
  obtain ⟨bA, bB, bR⟩ := box3 X2.out
  obtain ⟨a0, a1, fa⟩ := rcell bA
  obtain ⟨b0, b1, fb⟩ := rcell bB
  obtain ⟨r0, r1, fr⟩ := rcell bR
  clear hx bA bB bR
  go_wp2_with fail
  refine (i_RatOf _ _ _).mono ?_
  rw [HPQ.out]
  rintro e w3 ⟨rfl, hx⟩
  clear a0 a1 fa b0 b1 fb r0 r1 fr
  have X3 := Lib.hid (X2.out.trans hx)
  obtain ⟨bA, bB, bR⟩ := box3 X3.out
  obtain ⟨a0, a1, fa⟩ := rcell bA
  obtain ⟨b0, b1, fb⟩ := rcell bB
  obtain ⟨r0, r1, fr⟩ := rcell bR
  clear hx bA bB bR
  go_wp2
  rw [HR.out]
  refine bodyPost_ret (v := .tuple #[.agg #[.int .i64 p, .int .i64 q], .bool ok]) (by simp [results, Tryz.results210, go_sem, r0, r1]) rfl ⟨rfl, ?_⟩
  exact ((HX.out.trans X3.out).setCell (by simp; omega) _).setCell (by simp; omega) _
set_option maxHeartbeats 1000000 in
theorem s_MulRat (x y u v : Int) (w : World) :
 Calls Tryz.prog 211 #[ratV x y, ratV u v] w fun e w' => e = .returned (resR (mulR (x, y) (u, v))) ∧ Ext w w' := by
 have HX := Lib.hid (show Ext w (((w.alloc (.cells #[.int .i64 x, .int .i64 y] 43)).alloc (.cells #[.int .i64 u, .int .i64 v] 43)).alloc (.cells #[.int .i64 0, .int .i64 0] 43)) from ((Ext.alloc _ _).trans (Ext.alloc _ _)).trans (Ext.alloc _ _))
 cases ha : valR (x, y)
 ·have HA := Lib.hid ha
  have HR := Lib.hid (show mulR (x, y) (u, v) = ((0, 0), false) by simp [mulR, ha])
  clear ha
  go_enter Tryz.func211, Tryz.ntmps211
  go_wp2_with fail
  refine (s_IsValidRat x y _).mono ?_
  rw [HA.out]
  rintro e w1 ⟨rfl, hx⟩
  obtain ⟨bA, bB, bR⟩ := box3 hx
  obtain ⟨a0, a1, fa⟩ := rcell bA
  obtain ⟨b0, b1, fb⟩ := rcell bB
  obtain ⟨r0, r1, fr⟩ := rcell bR
  have X1 := Lib.hid hx
  clear hx bA bB bR
  go_wp2
  rw [HR.out]
  refine bodyPost_ret (v := .tuple #[.agg #[.int .i64 0, .int .i64 0], .bool false]) (by simp [results, Tryz.results211, go_sem, r0, r1]) rfl ⟨rfl, ?_⟩
  exact ((HX.out.trans X1.out).setCell (by simp; omega) _).setCell (by simp; omega) _
 cases hb : valR (u, v)
 ·have HA := Lib.hid ha
  have HB := Lib.hid hb
  have HR := Lib.hid (show mulR (x, y) (u, v) = ((0, 0), false) by simp [mulR, hb])
  clear ha hb
  go_enter Tryz.func211, Tryz.ntmps211
  go_wp2_with fail
  refine (s_IsValidRat x y _).mono ?_
  rw [HA.out]
  rintro e w1 ⟨rfl, hx⟩
  obtain ⟨bA, bB, bR⟩ := box3 hx
  obtain ⟨a0, a1, fa⟩ := rcell bA
  obtain ⟨b0, b1, fb⟩ := rcell bB
  obtain ⟨r0, r1, fr⟩ := rcell bR
  have X1 := Lib.hid hx
  clear hx bA bB bR
  go_wp2_with fail
  refine (s_IsValidRat u v _).mono ?_
  rw [HB.out]
  rintro e w2 ⟨rfl, hx⟩
  clear a0 a1 fa b0 b1 fb r0 r1 fr
  have X2 := Lib.hid (X1.out.trans hx)
  obtain ⟨bA, bB, bR⟩ := box3 X2.out
  obtain ⟨a0, a1, fa⟩ := rcell bA
  obtain ⟨b0, b1, fb⟩ := rcell bB
  obtain ⟨r0, r1, fr⟩ := rcell bR
  clear hx bA bB bR
  go_wp2
  rw [HR.out]
  refine bodyPost_ret (v := .tuple #[.agg #[.int .i64 0, .int .i64 0], .bool false]) (by simp [results, Tryz.results211, go_sem, r0, r1]) rfl ⟨rfl, ?_⟩
  exact ((HX.out.trans X2.out).setCell (by simp; omega) _).setCell (by simp; omega) _
 have HA := Lib.hid ha
 have HB := Lib.hid hb
 obtain ⟨x1, x2, y1, y2⟩ := val_in ha
 obtain ⟨u1, u2, v1, v2⟩ := val_in hb
 have q1 : in18 (x * u) := mul_w (by omega) (by omega)
 obtain ⟨e1, g1⟩ := kwrap_in q1
 have q2 : in18 (y * v) := mul_w (by omega) (by omega)
 obtain ⟨e2, g2⟩ := kwrap_in q2
 obtain ⟨p, q, ok, hpq⟩ : ∃ p q ok, ratOf (x * u) (y * v) = ((p, q), ok) := ⟨_, _, _, rfl⟩
 have HPQ := Lib.hid hpq
 have HR := Lib.hid (show mulR (x, y) (u, v) = ((p, q), ok) by simp [mulR, ha, hb, hpq])
 clear ha hb hpq
 ·go_enter Tryz.func211, Tryz.ntmps211
  go_wp2_with fail
  refine (s_IsValidRat x y _).mono ?_
  rw [HA.out]
  rintro e w1 ⟨rfl, hx⟩
  obtain ⟨bA, bB, bR⟩ := box3 hx
  obtain ⟨a0, a1, fa⟩ := rcell bA
  obtain ⟨b0, b1, fb⟩ := rcell bB
  obtain ⟨r0, r1, fr⟩ := rcell bR
  have X1 := Lib.hid hx
  clear hx bA bB bR
  go_wp2_with fail
  refine (s_IsValidRat u v _).mono ?_
  rw [HB.out]
  rintro e w2 ⟨rfl, hx⟩
  clear a0 a1 fa b0 b1 fb r0 r1 fr
  have X2 := Lib.hid (X1.out.trans hx)
  obtain ⟨bA, bB, bR⟩ := box3 X2.out
  obtain ⟨a0, a1, fa⟩ := rcell bA
  obtain ⟨b0, b1, fb⟩ := rcell bB
  obtain ⟨r0, r1, fr⟩ := rcell bR
  clear hx bA bB bR
  go_wp2_with fail
  refine (s_RatOf _ _ _).mono ?_
  rw [HPQ.out]
  rintro e w3 ⟨rfl, hx⟩
  clear a0 a1 fa b0 b1 fb r0 r1 fr
  have X3 := Lib.hid (X2.out.trans hx)
  obtain ⟨bA, bB, bR⟩ := box3 X3.out
  obtain ⟨a0, a1, fa⟩ := rcell bA
  obtain ⟨b0, b1, fb⟩ := rcell bB
  obtain ⟨r0, r1, fr⟩ := rcell bR
  clear hx bA bB bR
  go_wp2
  rw [HR.out]
  refine bodyPost_ret (v := .tuple #[.agg #[.int .i64 p, .int .i64 q], .bool ok]) (by simp [results, Tryz.results211, go_sem, r0, r1]) rfl ⟨rfl, ?_⟩
  exact ((HX.out.trans X3.out).setCell (by simp; omega) _).setCell (by simp; omega) _
set_option maxHeartbeats 1000000 in
theorem i_DivRat (x y u v : Int) (w : World) :
 Calls Tryz.prog 113 #[ratV x y, ratV u v] w fun e w' => e = .returned (resR (divR (x, y) (u, v))) ∧ Ext w w' := by
 have HX := Lib.hid (show Ext w (((w.alloc (.cells #[.int .i64 x, .int .i64 y] 43)).alloc (.cells #[.int .i64 u, .int .i64 v] 43)).alloc (.cells #[.int .i64 0, .int .i64 0] 43)) from ((Ext.alloc _ _).trans (Ext.alloc _ _)).trans (Ext.alloc _ _))
 cases ha : valR (x, y)
 ·have HA := Lib.hid ha
  have HR := Lib.hid (show divR (x, y) (u, v) = ((0, 0), false) by simp [divR, ha])
  clear ha
  go_enter Tryz.func113, Tryz.ntmps113
  go_wp2_with fail
  refine (i_IsValidRat x y _).mono ?_
  rw [HA.out]
  rintro e w1 ⟨rfl, hx⟩
  obtain ⟨bA, bB, bR⟩ := box3 hx
  obtain ⟨a0, a1, fa⟩ := rcell bA
  obtain ⟨b0, b1, fb⟩ := rcell bB
  obtain ⟨r0, r1, fr⟩ := rcell bR
  have X1 := Lib.hid hx
  clear hx bA bB bR
  go_wp2
  rw [HR.out]
  refine bodyPost_ret (v := .tuple #[.agg #[.int .i64 0, .int .i64 0], .bool false]) (by simp [results, Tryz.results113, go_sem, r0, r1]) rfl ⟨rfl, ?_⟩
  exact ((HX.out.trans X1.out).setCell (by simp; omega) _).setCell (by simp; omega) _
 cases hb : valR (u, v)
 ·have HA := Lib.hid ha
  have HB := Lib.hid hb
  have HR := Lib.hid (show divR (x, y) (u, v) = ((0, 0), false) by simp [divR, hb])
  clear ha hb
  go_enter Tryz.func113, Tryz.ntmps113
  go_wp2_with fail
  refine (i_IsValidRat x y _).mono ?_
  rw [HA.out]
  rintro e w1 ⟨rfl, hx⟩
  obtain ⟨bA, bB, bR⟩ := box3 hx
  obtain ⟨a0, a1, fa⟩ := rcell bA
  obtain ⟨b0, b1, fb⟩ := rcell bB
  obtain ⟨r0, r1, fr⟩ := rcell bR
  have X1 := Lib.hid hx
  clear hx bA bB bR
  go_wp2_with fail
  refine (i_IsValidRat u v _).mono ?_
  rw [HB.out]
  rintro e w2 ⟨rfl, hx⟩
  clear a0 a1 fa b0 b1 fb r0 r1 fr
  have X2 := Lib.hid (X1.out.trans hx)
  obtain ⟨bA, bB, bR⟩ := box3 X2.out
  obtain ⟨a0, a1, fa⟩ := rcell bA
  obtain ⟨b0, b1, fb⟩ := rcell bB
  obtain ⟨r0, r1, fr⟩ := rcell bR
  clear hx bA bB bR
  go_wp2
  rw [HR.out]
  refine bodyPost_ret (v := .tuple #[.agg #[.int .i64 0, .int .i64 0], .bool false]) (by simp [results, Tryz.results113, go_sem, r0, r1]) rfl ⟨rfl, ?_⟩
  exact ((HX.out.trans X2.out).setCell (by simp; omega) _).setCell (by simp; omega) _
 have HA := Lib.hid ha
 have HB := Lib.hid hb
 obtain ⟨x1, x2, y1, y2⟩ := val_in ha
 obtain ⟨u1, u2, v1, v2⟩ := val_in hb
 have q1 : in18 (x * v) := mul_w (by omega) (by omega)
 obtain ⟨e1, g1⟩ := kwrap_in q1
 have q2 : in18 (y * u) := mul_w (by omega) (by omega)
 obtain ⟨e2, g2⟩ := kwrap_in q2
 obtain ⟨p, q, ok, hpq⟩ : ∃ p q ok, ratOf (x * v) (y * u) = ((p, q), ok) := ⟨_, _, _, rfl⟩
 have HPQ := Lib.hid hpq
 have HR := Lib.hid (show divR (x, y) (u, v) = ((p, q), ok) by simp [divR, ha, hb, hpq])
 clear ha hb hpq
 ·go_enter Tryz.func113, Tryz.ntmps113
  go_wp2_with fail
  refine (i_IsValidRat x y _).mono ?_
  rw [HA.out]
  rintro e w1 ⟨rfl, hx⟩
  obtain ⟨bA, bB, bR⟩ := box3 hx
  obtain ⟨a0, a1, fa⟩ := rcell bA
  obtain ⟨b0, b1, fb⟩ := rcell bB
  obtain ⟨r0, r1, fr⟩ := rcell bR
  have X1 := Lib.hid hx
  clear hx bA bB bR
  go_wp2_with fail
  refine (i_IsValidRat u v _).mono ?_
  rw [HB.out]
  rintro e w2 ⟨rfl, hx⟩
  clear a0 a1 fa b0 b1 fb r0 r1 fr
  have X2 := Lib.hid (X1.out.trans hx)
  obtain ⟨bA, bB, bR⟩ := box3 X2.out
  obtain ⟨a0, a1, fa⟩ := rcell bA
  obtain ⟨b0, b1, fb⟩ := rcell bB
  obtain ⟨r0, r1, fr⟩ := rcell bR
  clear hx bA bB bR
  go_wp2_with fail
  refine (i_RatOf _ _ _).mono ?_
  rw [HPQ.out]
  rintro e w3 ⟨rfl, hx⟩
  clear a0 a1 fa b0 b1 fb r0 r1 fr
  have X3 := Lib.hid (X2.out.trans hx)
  obtain ⟨bA, bB, bR⟩ := box3 X3.out
  obtain ⟨a0, a1, fa⟩ := rcell bA
  obtain ⟨b0, b1, fb⟩ := rcell bB
  obtain ⟨r0, r1, fr⟩ := rcell bR
  clear hx bA bB bR
  go_wp2
  rw [HR.out]
  refine bodyPost_ret (v := .tuple #[.agg #[.int .i64 p, .int .i64 q], .bool ok]) (by simp [results, Tryz.results113, go_sem, r0, r1]) rfl ⟨rfl, ?_⟩
  exact ((HX.out.trans X3.out).setCell (by simp; omega) _).setCell (by simp; omega) _
set_option maxHeartbeats 1000000 in
theorem s_DivRat (x y u v : Int) (w : World) :
 Calls Tryz.prog 183 #[ratV x y, ratV u v] w fun e w' => e = .returned (resR (divR (x, y) (u, v))) ∧ Ext w w' := by
 have HX := Lib.hid (show Ext w (((w.alloc (.cells #[.int .i64 x, .int .i64 y] 43)).alloc (.cells #[.int .i64 u, .int .i64 v] 43)).alloc (.cells #[.int .i64 0, .int .i64 0] 43)) from ((Ext.alloc _ _).trans (Ext.alloc _ _)).trans (Ext.alloc _ _))
 cases ha : valR (x, y)
 ·have HA := Lib.hid ha
  have HR := Lib.hid (show divR (x, y) (u, v) = ((0, 0), false) by simp [divR, ha])
  clear ha
  go_enter Tryz.func183, Tryz.ntmps183
  go_wp2_with fail
  refine (s_IsValidRat x y _).mono ?_
  rw [HA.out]
  rintro e w1 ⟨rfl, hx⟩
  obtain ⟨bA, bB, bR⟩ := box3 hx
  obtain ⟨a0, a1, fa⟩ := rcell bA
  obtain ⟨b0, b1, fb⟩ := rcell bB
  obtain ⟨r0, r1, fr⟩ := rcell bR
  have X1 := Lib.hid hx
  clear hx bA bB bR
  go_wp2
  rw [HR.out]
  refine bodyPost_ret (v := .tuple #[.agg #[.int .i64 0, .int .i64 0], .bool false]) (by simp [results, Tryz.results183, go_sem, r0, r1]) rfl ⟨rfl, ?_⟩
  exact ((HX.out.trans X1.out).setCell (by simp; omega) _).setCell (by simp; omega) _
 cases hb : valR (u, v)
 ·have HA := Lib.hid ha
  have HB := Lib.hid hb
  have HR := Lib.hid (show divR (x, y) (u, v) = ((0, 0), false) by simp [divR, hb])
  clear ha hb
  go_enter Tryz.func183, Tryz.ntmps183
  go_wp2_with fail
  refine (s_IsValidRat x y _).mono ?_
  rw [HA.out]
  rintro e w1 ⟨rfl, hx⟩
  obtain ⟨bA, bB, bR⟩ := box3 hx
  obtain ⟨a0, a1, fa⟩ := rcell bA
  obtain ⟨b0, b1, fb⟩ := rcell bB
  obtain ⟨r0, r1, fr⟩ := rcell bR
  have X1 := Lib.hid hx
  clear hx bA bB bR
  go_wp2_with fail
  refine (s_IsValidRat u v _).mono ?_
  rw [HB.out]
  rintro e w2 ⟨rfl, hx⟩
  clear a0 a1 fa b0 b1 fb r0 r1 fr
  have X2 := Lib.hid (X1.out.trans hx)
  obtain ⟨bA, bB, bR⟩ := box3 X2.out
  obtain ⟨a0, a1, fa⟩ := rcell bA
  obtain ⟨b0, b1, fb⟩ := rcell bB
  obtain ⟨r0, r1, fr⟩ := rcell bR
  clear hx bA bB bR
  go_wp2
  rw [HR.out]
  refine bodyPost_ret (v := .tuple #[.agg #[.int .i64 0, .int .i64 0], .bool false]) (by simp [results, Tryz.results183, go_sem, r0, r1]) rfl ⟨rfl, ?_⟩
  exact ((HX.out.trans X2.out).setCell (by simp; omega) _).setCell (by simp; omega) _
 have HA := Lib.hid ha
 have HB := Lib.hid hb
 obtain ⟨x1, x2, y1, y2⟩ := val_in ha
 obtain ⟨u1, u2, v1, v2⟩ := val_in hb
 have q1 : in18 (x * v) := mul_w (by omega) (by omega)
 obtain ⟨e1, g1⟩ := kwrap_in q1
 have q2 : in18 (y * u) := mul_w (by omega) (by omega)
 obtain ⟨e2, g2⟩ := kwrap_in q2
 obtain ⟨p, q, ok, hpq⟩ : ∃ p q ok, ratOf (x * v) (y * u) = ((p, q), ok) := ⟨_, _, _, rfl⟩
 have HPQ := Lib.hid hpq
 have HR := Lib.hid (show divR (x, y) (u, v) = ((p, q), ok) by simp [divR, ha, hb, hpq])
 clear ha hb hpq
 ·go_enter Tryz.func183, Tryz.ntmps183
  go_wp2_with fail
  refine (s_IsValidRat x y _).mono ?_
  rw [HA.out]
  rintro e w1 ⟨rfl, hx⟩
  obtain ⟨bA, bB, bR⟩ := box3 hx
  obtain ⟨a0, a1, fa⟩ := rcell bA
  obtain ⟨b0, b1, fb⟩ := rcell bB
  obtain ⟨r0, r1, fr⟩ := rcell bR
  have X1 := Lib.hid hx
  clear hx bA bB bR
  go_wp2_with fail
  refine (s_IsValidRat u v _).mono ?_
  rw [HB.out]
  rintro e w2 ⟨rfl, hx⟩
  clear a0 a1 fa b0 b1 fb r0 r1 fr
  have X2 := Lib.hid (X1.out.trans hx)
  obtain ⟨bA, bB, bR⟩ := box3 X2.out
  obtain ⟨a0, a1, fa⟩ := rcell bA
  obtain ⟨b0, b1, fb⟩ := rcell bB
  obtain ⟨r0, r1, fr⟩ := rcell bR
  clear hx bA bB bR
  go_wp2_with fail
  refine (s_RatOf _ _ _).mono ?_
  rw [HPQ.out]
  rintro e w3 ⟨rfl, hx⟩
  clear a0 a1 fa b0 b1 fb r0 r1 fr
  have X3 := Lib.hid (X2.out.trans hx)
  obtain ⟨bA, bB, bR⟩ := box3 X3.out
  obtain ⟨a0, a1, fa⟩ := rcell bA
  obtain ⟨b0, b1, fb⟩ := rcell bB
  obtain ⟨r0, r1, fr⟩ := rcell bR
  clear hx bA bB bR
  go_wp2
  rw [HR.out]
  refine bodyPost_ret (v := .tuple #[.agg #[.int .i64 p, .int .i64 q], .bool ok]) (by simp [results, Tryz.results183, go_sem, r0, r1]) rfl ⟨rfl, ?_⟩
  exact ((HX.out.trans X3.out).setCell (by simp; omega) _).setCell (by simp; omega) _
set_option maxHeartbeats 1000000 in
theorem i_CompareRat (x y u v : Int) (w : World) :
 Calls Tryz.prog 38 #[ratV x y, ratV u v] w fun e w' => e = .returned (.int .i64 (cmpR (x, y) (u, v))) ∧ Ext w w' := by
 have HX := Lib.hid (show Ext w ((w.alloc (.cells #[.int .i64 x, .int .i64 y] 43)).alloc (.cells #[.int .i64 u, .int .i64 v] 43)) from (Ext.alloc _ _).trans (Ext.alloc _ _))
 cases ha : valR (x, y)
 ·have HA := Lib.hid ha
  have HR := Lib.hid (show cmpR (x, y) (u, v) = 0 by simp [cmpR, ha])
  clear ha
  go_enter Tryz.func38, Tryz.ntmps38
  go_wp2_with fail
  refine (i_IsValidRat x y _).mono ?_
  rw [HA.out]
  rintro e w1 ⟨rfl, hx⟩
  obtain ⟨bA, bB⟩ := box2 hx
  obtain ⟨a0, a1, fa⟩ := rcell bA
  obtain ⟨b0, b1, fb⟩ := rcell bB
  have X1 := Lib.hid hx
  clear hx bA bB
  go_wp2
  go_ret
  exact ⟨ret_int HR.out.symm, HX.out.trans X1.out⟩
 cases hb : valR (u, v)
 ·have HA := Lib.hid ha
  have HB := Lib.hid hb
  have HR := Lib.hid (show cmpR (x, y) (u, v) = 0 by simp [cmpR, hb])
  clear ha hb
  go_enter Tryz.func38, Tryz.ntmps38
  go_wp2_with fail
  refine (i_IsValidRat x y _).mono ?_
  rw [HA.out]
  rintro e w1 ⟨rfl, hx⟩
  obtain ⟨bA, bB⟩ := box2 hx
  obtain ⟨a0, a1, fa⟩ := rcell bA
  obtain ⟨b0, b1, fb⟩ := rcell bB
  have X1 := Lib.hid hx
  clear hx bA bB
  go_wp2_with fail
  refine (i_IsValidRat u v _).mono ?_
  rw [HB.out]
  rintro e w2 ⟨rfl, hx⟩
  clear a0 a1 fa b0 b1 fb
  have X2 := Lib.hid (X1.out.trans hx)
  obtain ⟨bA, bB⟩ := box2 X2.out
  obtain ⟨a0, a1, fa⟩ := rcell bA
  obtain ⟨b0, b1, fb⟩ := rcell bB
  clear hx bA bB
  go_wp2
  go_ret
  exact ⟨ret_int HR.out.symm, HX.out.trans X2.out⟩
 have HA := Lib.hid ha
 have HB := Lib.hid hb
 obtain ⟨x1, x2, y1, y2⟩ := val_in ha
 obtain ⟨u1, u2, v1, v2⟩ := val_in hb
 have q1 : in18 (x * v) := mul_w (by omega) (by omega)
 have q2 : in18 (u * y) := mul_w (by omega) (by omega)
 obtain ⟨e1, g1⟩ := kwrap_in q1
 obtain ⟨e2, g2⟩ := kwrap_in q2
 have hR : cmpR (x, y) (u, v) = (if x * v < u * y then -1 else if u * y < x * v then 1 else 0) := by simp [cmpR, ha, hb]
 obtain ⟨P, hP⟩ : ∃ P, P = x * v := ⟨_, rfl⟩
 obtain ⟨Q, hQ⟩ : ∃ Q, Q = u * y := ⟨_, rfl⟩
 rw [← hP, ← hQ] at hR
 rw [← hP] at e1 g1
 rw [← hQ] at e2 g2
 have HR := Lib.hid hR
 have hP' := hP.symm
 have hQ' := hQ.symm
 clear ha hb hR q1 q2 hP hQ
 by_cases h1 : P < Q
 ·go_enter Tryz.func38, Tryz.ntmps38
  go_wp2_with fail
  refine (i_IsValidRat x y _).mono ?_
  rw [HA.out]
  rintro e w1 ⟨rfl, hx⟩
  obtain ⟨bA, bB⟩ := box2 hx
  obtain ⟨a0, a1, fa⟩ := rcell bA
  obtain ⟨b0, b1, fb⟩ := rcell bB
  have X1 := Lib.hid hx
  clear hx bA bB
  go_wp2_with fail
  refine (i_IsValidRat u v _).mono ?_
  rw [HB.out]
  rintro e w2 ⟨rfl, hx⟩
  clear a0 a1 fa b0 b1 fb
  have X2 := Lib.hid (X1.out.trans hx)
  obtain ⟨bA, bB⟩ := box2 X2.out
  obtain ⟨a0, a1, fa⟩ := rcell bA
  obtain ⟨b0, b1, fb⟩ := rcell bB
  clear hx bA bB
  go_wp2
  go_quiet (fail)
  go_wp2
  go_ret
  exact ⟨ret_int (by rw [HR.out, if_pos (by omega)]), HX.out.trans (X2.out.trans (Drew.ext ⟨_, rfl⟩))⟩
 by_cases h2 : Q < P
 ·go_enter Tryz.func38, Tryz.ntmps38
  go_wp2_with fail
  refine (i_IsValidRat x y _).mono ?_
  rw [HA.out]
  rintro e w1 ⟨rfl, hx⟩
  obtain ⟨bA, bB⟩ := box2 hx
  obtain ⟨a0, a1, fa⟩ := rcell bA
  obtain ⟨b0, b1, fb⟩ := rcell bB
  have X1 := Lib.hid hx
  clear hx bA bB
  go_wp2_with fail
  refine (i_IsValidRat u v _).mono ?_
  rw [HB.out]
  rintro e w2 ⟨rfl, hx⟩
  clear a0 a1 fa b0 b1 fb
  have X2 := Lib.hid (X1.out.trans hx)
  obtain ⟨bA, bB⟩ := box2 X2.out
  obtain ⟨a0, a1, fa⟩ := rcell bA
  obtain ⟨b0, b1, fb⟩ := rcell bB
  clear hx bA bB
  go_wp2
  go_quiet (fail)
  go_wp2
  go_ret
  exact ⟨ret_int (by rw [HR.out, if_neg (by omega), if_pos (by omega)]), HX.out.trans (X2.out.trans (Drew.ext ⟨_, rfl⟩))⟩
 ·go_enter Tryz.func38, Tryz.ntmps38
  go_wp2_with fail
  refine (i_IsValidRat x y _).mono ?_
  rw [HA.out]
  rintro e w1 ⟨rfl, hx⟩
  obtain ⟨bA, bB⟩ := box2 hx
  obtain ⟨a0, a1, fa⟩ := rcell bA
  obtain ⟨b0, b1, fb⟩ := rcell bB
  have X1 := Lib.hid hx
  clear hx bA bB
  go_wp2_with fail
  refine (i_IsValidRat u v _).mono ?_
  rw [HB.out]
  rintro e w2 ⟨rfl, hx⟩
  clear a0 a1 fa b0 b1 fb
  have X2 := Lib.hid (X1.out.trans hx)
  obtain ⟨bA, bB⟩ := box2 X2.out
  obtain ⟨a0, a1, fa⟩ := rcell bA
  obtain ⟨b0, b1, fb⟩ := rcell bB
  clear hx bA bB
  go_wp2
  go_quiet (fail)
  go_wp2
  go_ret
  exact ⟨ret_int (by rw [HR.out, if_neg (by omega), if_neg (by omega)]), HX.out.trans (X2.out.trans (Drew.ext ⟨_, rfl⟩))⟩
set_option maxHeartbeats 1000000 in
theorem s_CompareRat (x y u v : Int) (w : World) :
 Calls Tryz.prog 147 #[ratV x y, ratV u v] w fun e w' => e = .returned (.int .i64 (cmpR (x, y) (u, v))) ∧ Ext w w' := by
 have HX := Lib.hid (show Ext w ((w.alloc (.cells #[.int .i64 x, .int .i64 y] 43)).alloc (.cells #[.int .i64 u, .int .i64 v] 43)) from (Ext.alloc _ _).trans (Ext.alloc _ _))
 cases ha : valR (x, y)
 ·have HA := Lib.hid ha
  have HR := Lib.hid (show cmpR (x, y) (u, v) = 0 by simp [cmpR, ha])
  clear ha
  go_enter Tryz.func147, Tryz.ntmps147
  go_wp2_with fail
  refine (s_IsValidRat x y _).mono ?_
  rw [HA.out]
  rintro e w1 ⟨rfl, hx⟩
  obtain ⟨bA, bB⟩ := box2 hx
  obtain ⟨a0, a1, fa⟩ := rcell bA
  obtain ⟨b0, b1, fb⟩ := rcell bB
  have X1 := Lib.hid hx
  clear hx bA bB
  go_wp2
  go_ret
  exact ⟨ret_int HR.out.symm, HX.out.trans X1.out⟩
 cases hb : valR (u, v)
 ·have HA := Lib.hid ha
  have HB := Lib.hid hb
  have HR := Lib.hid (show cmpR (x, y) (u, v) = 0 by simp [cmpR, hb])
  clear ha hb
  go_enter Tryz.func147, Tryz.ntmps147
  go_wp2_with fail
  refine (s_IsValidRat x y _).mono ?_
  rw [HA.out]
  rintro e w1 ⟨rfl, hx⟩
  obtain ⟨bA, bB⟩ := box2 hx
  obtain ⟨a0, a1, fa⟩ := rcell bA
  obtain ⟨b0, b1, fb⟩ := rcell bB
  have X1 := Lib.hid hx
  clear hx bA bB
  go_wp2_with fail
  refine (s_IsValidRat u v _).mono ?_
  rw [HB.out]
  rintro e w2 ⟨rfl, hx⟩
  clear a0 a1 fa b0 b1 fb
  have X2 := Lib.hid (X1.out.trans hx)
  obtain ⟨bA, bB⟩ := box2 X2.out
  obtain ⟨a0, a1, fa⟩ := rcell bA
  obtain ⟨b0, b1, fb⟩ := rcell bB
  clear hx bA bB
  go_wp2
  go_ret
  exact ⟨ret_int HR.out.symm, HX.out.trans X2.out⟩
 have HA := Lib.hid ha
 have HB := Lib.hid hb
 obtain ⟨x1, x2, y1, y2⟩ := val_in ha
 obtain ⟨u1, u2, v1, v2⟩ := val_in hb
 have q1 : in18 (x * v) := mul_w (by omega) (by omega)
 have q2 : in18 (u * y) := mul_w (by omega) (by omega)
 obtain ⟨e1, g1⟩ := kwrap_in q1
 obtain ⟨e2, g2⟩ := kwrap_in q2
 have hR : cmpR (x, y) (u, v) = (if x * v < u * y then -1 else if u * y < x * v then 1 else 0) := by simp [cmpR, ha, hb]
 obtain ⟨P, hP⟩ : ∃ P, P = x * v := ⟨_, rfl⟩
 obtain ⟨Q, hQ⟩ : ∃ Q, Q = u * y := ⟨_, rfl⟩
 rw [← hP, ← hQ] at hR
 rw [← hP] at e1 g1
 rw [← hQ] at e2 g2
 have HR := Lib.hid hR
 have hP' := hP.symm
 have hQ' := hQ.symm
 clear ha hb hR q1 q2 hP hQ
 by_cases h1 : P < Q
 ·go_enter Tryz.func147, Tryz.ntmps147
  go_wp2_with fail
  refine (s_IsValidRat x y _).mono ?_
  rw [HA.out]
  rintro e w1 ⟨rfl, hx⟩
  obtain ⟨bA, bB⟩ := box2 hx
  obtain ⟨a0, a1, fa⟩ := rcell bA
  obtain ⟨b0, b1, fb⟩ := rcell bB
  have X1 := Lib.hid hx
  clear hx bA bB
  go_wp2_with fail
  refine (s_IsValidRat u v _).mono ?_
  rw [HB.out]
  rintro e w2 ⟨rfl, hx⟩
  clear a0 a1 fa b0 b1 fb
  have X2 := Lib.hid (X1.out.trans hx)
  obtain ⟨bA, bB⟩ := box2 X2.out
  obtain ⟨a0, a1, fa⟩ := rcell bA
  obtain ⟨b0, b1, fb⟩ := rcell bB
  clear hx bA bB
  go_wp2
  go_ret
  exact ⟨ret_int (by rw [HR.out, if_pos (by omega)]), HX.out.trans X2.out⟩
 by_cases h2 : Q < P
 ·go_enter Tryz.func147, Tryz.ntmps147
  go_wp2_with fail
  refine (s_IsValidRat x y _).mono ?_
  rw [HA.out]
  rintro e w1 ⟨rfl, hx⟩
  obtain ⟨bA, bB⟩ := box2 hx
  obtain ⟨a0, a1, fa⟩ := rcell bA
  obtain ⟨b0, b1, fb⟩ := rcell bB
  have X1 := Lib.hid hx
  clear hx bA bB
  go_wp2_with fail
  refine (s_IsValidRat u v _).mono ?_
  rw [HB.out]
  rintro e w2 ⟨rfl, hx⟩
  clear a0 a1 fa b0 b1 fb
  have X2 := Lib.hid (X1.out.trans hx)
  obtain ⟨bA, bB⟩ := box2 X2.out
  obtain ⟨a0, a1, fa⟩ := rcell bA
  obtain ⟨b0, b1, fb⟩ := rcell bB
  clear hx bA bB
  go_wp2
  go_ret
  exact ⟨ret_int (by rw [HR.out, if_neg (by omega), if_pos (by omega)]), HX.out.trans X2.out⟩
 ·go_enter Tryz.func147, Tryz.ntmps147
  go_wp2_with fail
  refine (s_IsValidRat x y _).mono ?_
  rw [HA.out]
  rintro e w1 ⟨rfl, hx⟩
  obtain ⟨bA, bB⟩ := box2 hx
  obtain ⟨a0, a1, fa⟩ := rcell bA
  obtain ⟨b0, b1, fb⟩ := rcell bB
  have X1 := Lib.hid hx
  clear hx bA bB
  go_wp2_with fail
  refine (s_IsValidRat u v _).mono ?_
  rw [HB.out]
  rintro e w2 ⟨rfl, hx⟩
  clear a0 a1 fa b0 b1 fb
  have X2 := Lib.hid (X1.out.trans hx)
  obtain ⟨bA, bB⟩ := box2 X2.out
  obtain ⟨a0, a1, fa⟩ := rcell bA
  obtain ⟨b0, b1, fb⟩ := rcell bB
  clear hx bA bB
  go_wp2
  go_ret
  exact ⟨ret_int (by rw [HR.out, if_neg (by omega), if_neg (by omega)]), HX.out.trans X2.out⟩
set_option maxHeartbeats 1000000 in
theorem s_SubRat (x y u v : Int) (w : World) :
 Calls Tryz.prog 184 #[ratV x y, ratV u v] w fun e w' => e = .returned (resR (subR (x, y) (u, v))) ∧ Ext w w' := by
 have HX := Lib.hid (show Ext w (((w.alloc (.cells #[.int .i64 x, .int .i64 y] 43)).alloc (.cells #[.int .i64 u, .int .i64 v] 43)).alloc (.cells #[.int .i64 0, .int .i64 0] 43)) from ((Ext.alloc _ _).trans (Ext.alloc _ _)).trans (Ext.alloc _ _))
 cases hb : valR (u, v)
 ·have HB := Lib.hid hb
  have HR := Lib.hid (show subR (x, y) (u, v) = ((0, 0), false) by simp [subR, hb])
  clear hb
  go_enter Tryz.func184, Tryz.ntmps184
  go_wp2_with fail
  refine (s_IsValidRat u v _).mono ?_
  rw [HB.out]
  rintro e w1 ⟨rfl, hx⟩
  obtain ⟨bA, bB, bR⟩ := box3 hx
  obtain ⟨a0, a1, fa⟩ := rcell bA
  obtain ⟨b0, b1, fb⟩ := rcell bB
  obtain ⟨r0, r1, fr⟩ := rcell bR
  have X1 := Lib.hid hx
  clear hx bA bB bR
  go_wp2
  rw [HR.out]
  refine bodyPost_ret (v := .tuple #[.agg #[.int .i64 0, .int .i64 0], .bool false]) (by simp [results, Tryz.results184, go_sem, r0, r1]) rfl ⟨rfl, ?_⟩
  exact ((HX.out.trans X1.out).setCell (by simp; omega) _).setCell (by simp; omega) _
 ·have HB := Lib.hid hb
  obtain ⟨u1, u2, v1, v2⟩ := val_in hb
  obtain ⟨p, q, ok, hpq⟩ : ∃ p q ok, addR (x, y) (-u, v) = ((p, q), ok) := ⟨_, _, _, rfl⟩
  have HPQ := Lib.hid hpq
  have HR := Lib.hid (show subR (x, y) (u, v) = ((p, q), ok) by rw [← subR_add]; exact hpq)
  clear hb hpq
  go_enter Tryz.func184, Tryz.ntmps184
  go_wp2_with fail
  refine (s_IsValidRat u v _).mono ?_
  rw [HB.out]
  rintro e w1 ⟨rfl, hx⟩
  obtain ⟨bA, bB, bR⟩ := box3 hx
  obtain ⟨a0, a1, fa⟩ := rcell bA
  obtain ⟨b0, b1, fb⟩ := rcell bB
  obtain ⟨r0, r1, fr⟩ := rcell bR
  have X1 := Lib.hid hx
  have HBA := Lib.hid bA
  have HBR := Lib.hid bR
  have hl := lt_of_block bR
  clear hx bA bB bR
  go_wp2_with fail
  refine (s_AddRat _ _ _ _ _).mono ?_
  rw [HPQ.out]
  rintro e w3 ⟨rfl, hx⟩
  have hz : Ext w (w1.setCell ⟨w.heap.size + 1, 0, none⟩ (.int .i64 (-u))) := (HX.out.trans X1.out).setCell (by simp) _
  have X3 := Lib.hid (hz.trans hx)
  clear hz
  have bR : w3.heap[w.heap.size + 1 + 1]? = some (.cells #[.int .i64 0, .int .i64 0] 43 (0, 0)) := (hx.block _ (by simp; omega)).trans ((heap_setCell_other _ _ _ _ (by simp)).trans HBR.out)
  clear a0 a1 fa b0 b1 fb r0 r1 fr
  obtain ⟨r0, r1, fr⟩ := rcell bR
  clear hx bR
  go_wp2
  rw [HR.out]
  refine bodyPost_ret (v := .tuple #[.agg #[.int .i64 p, .int .i64 q], .bool ok]) (by simp [results, Tryz.results184, go_sem, r0, r1]) rfl ⟨rfl, ?_⟩
  exact (X3.out.setCell (by simp; omega) _).setCell (by simp; omega) _
def fitsR (l : List Int) (x y : Int) : Bool := small l 100000 && (valR (x, y) && (decide (0 ≤ x) && decide (cmpR (x, y) (sumW l, 1) ≤ 0)))
theorem i_whole (n : Int) (w : World) : Calls Tryz.prog 112 #[.int .i64 n] w fun e w' => e = .returned (ratV n 1) ∧ Ext w w' := by
 have HX := Lib.hid (Ext.alloc w (.cells #[.int .i64 n, .int .i64 1] 43))
 go_enter Tryz.func112, Tryz.ntmps112
 go_wp2
 refine bodyPost_ret (v := ratV n 1) (by simp [results, Tryz.results112, go_sem]) rfl ⟨rfl, HX.out⟩
theorem s_l3Int (n : Int) (w : World) : Calls Tryz.prog 86 #[.int .i64 n] w fun e w' => e = .returned (ratV n 1) ∧ Ext w w' := by
 have HX := Lib.hid (Ext.alloc w (.cells #[.int .i64 n, .int .i64 1] 43))
 go_enter Tryz.func86, Tryz.ntmps86
 go_wp2
 refine bodyPost_ret (v := ratV n 1) (by simp [results, Tryz.results86, go_sem]) rfl ⟨rfl, HX.out⟩
theorem i_divisible1 (x : Int) (w : World) : Calls Tryz.prog 238 #[.int .i64 x] w fun e w' => e = .returned (.bool (!inB x 0 100000)) ∧ w = w' := by
 go_enter Tryz.func238, Tryz.ntmps238
 go_wp2_with (first | (go_at_call 80; refine (i_within _ _ _ _).mono ?_; rintro e w' ⟨rfl, rfl⟩))
 go_ret
 exact ⟨rfl, rfl⟩
theorem go_divisible1 : IsGo Tryz.prog 238 := isGo Tryz.func238 (by kernel_rfl) (by kernel_rfl)
theorem asks_divisible1 (w : World) : Asks Tryz.prog w 238 #[] (fun x => !inB x 0 100000) :=
 fun x w1 _ => (i_divisible1 x w1).mono fun e w' ⟨he, hw⟩ => ⟨he, hw ▸ Ext.refl _⟩
set_option maxHeartbeats 2000000 in
theorem i_divisible {w : World} {x y : Int} {a : Option Addr} {n cap : Nat} {l : List Int} (h : Ints w a n cap l) :
 Calls Tryz.prog 174 #[.slice a n cap, ratV x y] w fun e w' => e = .returned (.bool (fitsR l x y)) ∧ Ext w w' := by
 have HX := Lib.hid (Ext.alloc w (.cells #[.int .i64 x, .int .i64 y] 43))
 have HI := Lib.hid (h.ext HX.out)
 have HC := Lib.hid (containsFunc_ints HI.out go_divisible1 (asks_divisible1 _))
 have HL := Lib.hid h.hlen
 clear h
 cases hin : inB n 1 5
 ·have HN := Lib.hid (show fitsR l x y = false by simp [fitsR, small, HL.out, hin])
  have HI := Lib.hid hin
  clear hin
  go_enter Tryz.func174, Tryz.ntmps174
  go_wp2_with (first | (go_at_call 80; refine (i_within _ _ _ _).mono ?_; rw [HI.out]; rintro e w' ⟨rfl, rfl⟩))
  go_ret
  exact ⟨ret_bool HN.out.symm, HX.out⟩
 have HIN := Lib.hid hin
 cases hany : l.any (fun x => !inB x 0 100000)
 ·rw [hany] at HC
  have HSM := Lib.hid (show small l 100000 = true by rw [small_any, hany, HL.out, hin]; rfl)
  clear hin hany
  cases hv : valR (x, y)
  ·have HN := Lib.hid (show fitsR l x y = false by simp [fitsR, hv])
   have HV := Lib.hid hv
   clear hv
   go_enter Tryz.func174, Tryz.ntmps174
   go_wp2_with (first | (go_at_call 80; refine (i_within _ _ _ _).mono ?_; rw [HIN.out]; rintro e w' ⟨rfl, rfl⟩))
   refine HC.out.mono ?_
   rintro e w1 ⟨rfl, hx⟩
   have c0 : w1.cell? ⟨w.heap.size, 0, none⟩ = some (.int .i64 x) := hx.cellSome (by simp)
   have c1 : w1.cell? ⟨w.heap.size, 1, none⟩ = some (.int .i64 y) := hx.cellSome (by simp)
   have X1 := Lib.hid (HX.out.trans hx)
   have hk2 : Ext w1 w1.drew := Ext.drew w1
   clear hx
   go_wp2
   refine wp_region_held_drew (S := (fun w' => w'.cell? ⟨w.heap.size, 0, none⟩ = some (.int .i64 x) ∧ w'.cell? ⟨w.heap.size, 1, none⟩ = some (.int .i64 y) ∧ Ext w1 w')) (by kernel_rfl) ?_ (fun hHeld => ?_)
   ·exact ⟨hk2.cellSome c0, hk2.cellSome c1, hk2⟩
   refine tk 0 ?_
   refine rd (i := 1) (h := fun K hK => ?_)
   go_simp
   (go_at_call 105; refine (i_IsValidRat x y _).mono ?_; rw [HV.out]; rintro e w3 ⟨rfl, hx3⟩; have hk2 := hk2.trans hx3)
   go_wp2_with fail
   refine hK.out _ _ ?_ (fun hHeld => ?_)
   ·exact ⟨hk2.cellSome c0, hk2.cellSome c1, hk2⟩
   clear hK K
   try simp only [Act.put, sA, sB, sC]
   refine tk 2 ?_
   refine sk 3 ?_
   refine sk 4 ?_
   refine sk 5 ?_
   refine tk 6 ?_
   refine tk 7 ?_
   refine sk 8 ?_
   refine sk 9 ?_
   refine sk 10 ?_
   refine sk 11 ?_
   refine sk 12 ?_
   refine sk 13 ?_
   refine tk 14 ?_
   refine tk 15 ?_
   refine wpAnyH_done (by kernel_rfl) ?_ _
   go_wp2
   go_ret
   exact ⟨ret_bool HN.out.symm, X1.out.trans hk2⟩
  have HV := Lib.hid hv
  by_cases hx0 : x < 0
  ·have HN := Lib.hid (show fitsR l x y = false by simp [fitsR]; intros; omega)
   have hge : decide (x ≥ 0) = false := by simp; omega
   clear hv
   go_enter Tryz.func174, Tryz.ntmps174
   go_wp2_with (first | (go_at_call 80; refine (i_within _ _ _ _).mono ?_; rw [HIN.out]; rintro e w' ⟨rfl, rfl⟩))
   refine HC.out.mono ?_
   rintro e w1 ⟨rfl, hx⟩
   have c0 : w1.cell? ⟨w.heap.size, 0, none⟩ = some (.int .i64 x) := hx.cellSome (by simp)
   have c1 : w1.cell? ⟨w.heap.size, 1, none⟩ = some (.int .i64 y) := hx.cellSome (by simp)
   have X1 := Lib.hid (HX.out.trans hx)
   have hk2 : Ext w1 w1.drew := Ext.drew w1
   clear hx
   go_wp2
   refine wp_region_held_drew (S := (fun w' => w'.cell? ⟨w.heap.size, 0, none⟩ = some (.int .i64 x) ∧ w'.cell? ⟨w.heap.size, 1, none⟩ = some (.int .i64 y) ∧ Ext w1 w')) (by kernel_rfl) ?_ (fun hHeld => ?_)
   ·exact ⟨hk2.cellSome c0, hk2.cellSome c1, hk2⟩
   refine tk 0 ?_
   refine rd (i := 1) (h := fun K hK => ?_)
   go_simp
   (go_at_call 105; refine (i_IsValidRat x y _).mono ?_; rw [HV.out]; rintro e w3 ⟨rfl, hx3⟩; have hk2 := hk2.trans hx3)
   go_wp2_with fail
   refine hK.out _ _ ?_ (fun hHeld => ?_)
   ·exact ⟨hk2.cellSome c0, hk2.cellSome c1, hk2⟩
   clear hK K
   try simp only [Act.put, sA, sB, sC]
   refine tk 2 ?_
   refine tk 3 ?_
   refine tk 4 ?_
   refine tk 5 ?_
   refine tk 6 ?_
   refine tk 7 ?_
   refine sk 8 ?_
   refine sk 9 ?_
   refine sk 10 ?_
   refine sk 11 ?_
   refine sk 12 ?_
   refine sk 13 ?_
   refine tk 14 ?_
   refine tk 15 ?_
   refine wpAnyH_done (by kernel_rfl) ?_ _
   go_wp2
   go_ret
   exact ⟨ret_bool HN.out.symm, X1.out.trans hk2⟩
  ·obtain ⟨S, hS⟩ : ∃ S, S = sumW l := ⟨_, rfl⟩
   have HS := Lib.hid hS
   obtain ⟨C, hC⟩ : ∃ C, C = cmpR (x, y) (S, 1) := ⟨_, rfl⟩
   have HCC := Lib.hid hC
   have HN := Lib.hid (show fitsR l x y = decide (C ≤ 0) by simp only [fitsR, HSM.out, hv, Bool.true_and]; rw [decide_eq_true (by omega), ← hS, ← hC]; simp)
   have hge : decide (x ≥ 0) = true := by simp; omega
   clear hv hS hC
   go_enter Tryz.func174, Tryz.ntmps174
   go_wp2_with (first | (go_at_call 80; refine (i_within _ _ _ _).mono ?_; rw [HIN.out]; rintro e w' ⟨rfl, rfl⟩))
   refine HC.out.mono ?_
   rintro e w1 ⟨rfl, hx⟩
   have c0 : w1.cell? ⟨w.heap.size, 0, none⟩ = some (.int .i64 x) := hx.cellSome (by simp)
   have c1 : w1.cell? ⟨w.heap.size, 1, none⟩ = some (.int .i64 y) := hx.cellSome (by simp)
   have X1 := Lib.hid (HX.out.trans hx)
   have HI1 := Lib.hid (HI.out.ext hx)
   have hk2 : Ext w1 w1.drew := Ext.drew w1
   clear hx
   go_wp2
   go_region_held3 (fun w' => w'.cell? ⟨w.heap.size, 0, none⟩ = some (.int .i64 x) ∧ w'.cell? ⟨w.heap.size, 1, none⟩ = some (.int .i64 y) ∧ Ext w1 w')
    (exact ⟨hk2.cellSome c0, hk2.cellSome c1, hk2⟩)
    (first
      | (go_at_call 105; refine (i_IsValidRat x y _).mono ?_; rw [HV.out]; rintro e w3 ⟨rfl, hx3⟩; have hk2 := hk2.trans hx3)
      | (go_at_call 83; refine (i_total (HI1.out.ext hk2)).mono ?_; rw [← HS.out]; rintro e w' ⟨rfl, rfl⟩)
      | (go_at_call 112; refine (i_whole _ _).mono ?_; rintro e w4 ⟨rfl, hx4⟩; have hk2 := hk2.trans hx4)
      | (go_at_call 38; refine (i_CompareRat x y S 1 _).mono ?_; rw [← HCC.out]; rintro e w5 ⟨rfl, hx5⟩; have hk2 := hk2.trans hx5))
   all_goals
    go_wp2
    go_ret
    exact ⟨ret_bool HN.out.symm, X1.out.trans hk2⟩
 ·rw [hany] at HC
  have HN := Lib.hid (show fitsR l x y = false by rw [fitsR, small_any, hany]; simp)
  clear hin hany
  go_enter Tryz.func174, Tryz.ntmps174
  go_wp2_with (first | (go_at_call 80; refine (i_within _ _ _ _).mono ?_; rw [HIN.out]; rintro e w' ⟨rfl, rfl⟩))
  refine HC.out.mono ?_
  rintro e w1 ⟨rfl, hx⟩
  have X1 := Lib.hid (HX.out.trans hx)
  clear hx
  go_wp2
  go_ret
  exact ⟨ret_bool HN.out.symm, X1.out⟩
set_option maxHeartbeats 2000000 in
theorem s_l18Fits {w : World} {x y : Int} {a : Option Addr} {n cap : Nat} {l : List Int} (h : Ints w a n cap l) :
 Calls Tryz.prog 180 #[.slice a n cap, ratV x y] w fun e w' => e = .returned (.bool (fitsR l x y)) ∧ Ext w w' := by
 obtain ⟨W, hW⟩ : ∃ W, W = w.alloc (.cells #[.int .i64 x, .int .i64 y] 43) := ⟨_, rfl⟩
 have hX : Ext w W := by rw [hW]; exact Ext.alloc _ _
 have HX := Lib.hid hX
 have HI := Lib.hid (h.ext hX)
 have hb : W.heap[w.heap.size]? = some (.cells #[.int .i64 x, .int .i64 y] 43 (0, 0)) := by rw [hW]; exact heapA_new _ _ _ rfl
 obtain ⟨c0, c1, _⟩ := rcell hb
 have HW := Lib.hid hW
 have hk2 : Ext W W.drew := Ext.drew W
 clear h hX hW hb
 cases hsm : small l 100000
 ·have HSM := Lib.hid hsm
  have HN := Lib.hid (show fitsR l x y = false by simp [fitsR, hsm])
  clear hsm
  go_enter Tryz.func180, Tryz.ntmps180
  go_wp2
  rw [← HW.out]
  refine wp_region_held_drew (S := (fun w' => w'.cell? ⟨w.heap.size, 0, none⟩ = some (.int .i64 x) ∧ w'.cell? ⟨w.heap.size, 1, none⟩ = some (.int .i64 y) ∧ Ext W w')) (by kernel_rfl) ?_ (fun hHeld => ?_)
  ·exact ⟨hk2.cellSome c0, hk2.cellSome c1, hk2⟩
  refine tk 0 ?_
  refine rd (i := 1) (h := fun K hK => ?_)
  go_simp
  (go_at_call 157; refine (s_l18Small 100000 (HI.out.ext hk2)).mono ?_; rw [HSM.out]; rintro e w3 ⟨rfl, rfl⟩)
  go_wp2_with fail
  refine hK.out _ _ ?_ (fun hHeld => ?_)
  ·exact ⟨hk2.cellSome c0, hk2.cellSome c1, hk2⟩
  clear hK K
  try simp only [Act.put, sA, sB, sC]
  refine tk 2 ?_
  refine sk 3 ?_
  refine sk 4 ?_
  refine tk 5 ?_
  refine tk 6 ?_
  refine sk 7 ?_
  refine sk 8 ?_
  refine sk 9 ?_
  refine tk 10 ?_
  refine tk 11 ?_
  refine sk 12 ?_
  refine sk 13 ?_
  refine sk 14 ?_
  refine sk 15 ?_
  refine sk 16 ?_
  refine sk 17 ?_
  refine tk 18 ?_
  refine tk 19 ?_
  refine wpAnyH_done (by kernel_rfl) ?_ _
  go_wp2
  go_ret
  exact ⟨ret_bool HN.out.symm, HX.out.trans hk2⟩
 have HSM := Lib.hid hsm
 cases hv : valR (x, y)
 ·have HV := Lib.hid hv
  have HN := Lib.hid (show fitsR l x y = false by simp [fitsR, hv])
  clear hsm hv
  go_enter Tryz.func180, Tryz.ntmps180
  go_wp2
  rw [← HW.out]
  refine wp_region_held_drew (S := (fun w' => w'.cell? ⟨w.heap.size, 0, none⟩ = some (.int .i64 x) ∧ w'.cell? ⟨w.heap.size, 1, none⟩ = some (.int .i64 y) ∧ Ext W w')) (by kernel_rfl) ?_ (fun hHeld => ?_)
  ·exact ⟨hk2.cellSome c0, hk2.cellSome c1, hk2⟩
  refine tk 0 ?_
  refine rd (i := 1) (h := fun K hK => ?_)
  go_simp
  (go_at_call 157; refine (s_l18Small 100000 (HI.out.ext hk2)).mono ?_; rw [HSM.out]; rintro e w3 ⟨rfl, rfl⟩)
  go_wp2_with fail
  refine hK.out _ _ ?_ (fun hHeld => ?_)
  ·exact ⟨hk2.cellSome c0, hk2.cellSome c1, hk2⟩
  clear hK K
  try simp only [Act.put, sA, sB, sC]
  refine tk 2 ?_
  refine tk 3 ?_
  refine rd (i := 4) (h := fun K hK => ?_)
  go_simp
  (go_at_call 104; refine (s_IsValidRat x y _).mono ?_; rw [HV.out]; rintro e w4 ⟨rfl, hx4⟩; have hk2 := hk2.trans hx4)
  go_wp2_with fail
  refine hK.out _ _ ?_ (fun hHeld => ?_)
  ·exact ⟨hk2.cellSome c0, hk2.cellSome c1, hk2⟩
  clear hK K
  try simp only [Act.put, sA, sB, sC]
  refine tk 5 ?_
  refine tk 6 ?_
  refine sk 7 ?_
  refine sk 8 ?_
  refine sk 9 ?_
  refine tk 10 ?_
  refine tk 11 ?_
  refine sk 12 ?_
  refine sk 13 ?_
  refine sk 14 ?_
  refine sk 15 ?_
  refine sk 16 ?_
  refine sk 17 ?_
  refine tk 18 ?_
  refine tk 19 ?_
  refine wpAnyH_done (by kernel_rfl) ?_ _
  go_wp2
  go_ret
  exact ⟨ret_bool HN.out.symm, HX.out.trans hk2⟩
 have HV := Lib.hid hv
 by_cases hx0 : x < 0
 ·have HN := Lib.hid (show fitsR l x y = false by simp [fitsR]; intros; omega)
  have hge : decide (x ≥ 0) = false := by simp; omega
  clear hsm hv
  go_enter Tryz.func180, Tryz.ntmps180
  go_wp2
  rw [← HW.out]
  refine wp_region_held_drew (S := (fun w' => w'.cell? ⟨w.heap.size, 0, none⟩ = some (.int .i64 x) ∧ w'.cell? ⟨w.heap.size, 1, none⟩ = some (.int .i64 y) ∧ Ext W w')) (by kernel_rfl) ?_ (fun hHeld => ?_)
  ·exact ⟨hk2.cellSome c0, hk2.cellSome c1, hk2⟩
  refine tk 0 ?_
  refine rd (i := 1) (h := fun K hK => ?_)
  go_simp
  (go_at_call 157; refine (s_l18Small 100000 (HI.out.ext hk2)).mono ?_; rw [HSM.out]; rintro e w3 ⟨rfl, rfl⟩)
  go_wp2_with fail
  refine hK.out _ _ ?_ (fun hHeld => ?_)
  ·exact ⟨hk2.cellSome c0, hk2.cellSome c1, hk2⟩
  clear hK K
  try simp only [Act.put, sA, sB, sC]
  refine tk 2 ?_
  refine tk 3 ?_
  refine rd (i := 4) (h := fun K hK => ?_)
  go_simp
  (go_at_call 104; refine (s_IsValidRat x y _).mono ?_; rw [HV.out]; rintro e w4 ⟨rfl, hx4⟩; have hk2 := hk2.trans hx4)
  go_wp2_with fail
  refine hK.out _ _ ?_ (fun hHeld => ?_)
  ·exact ⟨hk2.cellSome c0, hk2.cellSome c1, hk2⟩
  clear hK K
  try simp only [Act.put, sA, sB, sC]
  refine tk 5 ?_
  refine tk 6 ?_
  refine tk 7 ?_
  refine tk 8 ?_
  refine tk 9 ?_
  refine tk 10 ?_
  refine tk 11 ?_
  refine sk 12 ?_
  refine sk 13 ?_
  refine sk 14 ?_
  refine sk 15 ?_
  refine sk 16 ?_
  refine sk 17 ?_
  refine tk 18 ?_
  refine tk 19 ?_
  refine wpAnyH_done (by kernel_rfl) ?_ _
  go_wp2
  go_ret
  exact ⟨ret_bool HN.out.symm, HX.out.trans hk2⟩
 ·obtain ⟨S, hS⟩ : ∃ S, S = sumW l := ⟨_, rfl⟩
  have HS := Lib.hid hS
  obtain ⟨C, hC⟩ : ∃ C, C = cmpR (x, y) (S, 1) := ⟨_, rfl⟩
  have HCC := Lib.hid hC
  have HN := Lib.hid (show fitsR l x y = decide (C ≤ 0) by simp only [fitsR, hsm, hv, Bool.true_and]; rw [decide_eq_true (by omega), ← hS, ← hC]; simp)
  have hge : decide (x ≥ 0) = true := by simp; omega
  clear hsm hv hS hC
  go_enter Tryz.func180, Tryz.ntmps180
  go_wp2
  rw [← HW.out]
  go_region_held3 (fun w' => w'.cell? ⟨w.heap.size, 0, none⟩ = some (.int .i64 x) ∧ w'.cell? ⟨w.heap.size, 1, none⟩ = some (.int .i64 y) ∧ Ext W w')
   (exact ⟨hk2.cellSome c0, hk2.cellSome c1, hk2⟩)
   (first
     | (go_at_call 157; refine (s_l18Small 100000 (HI.out.ext hk2)).mono ?_; rw [HSM.out]; rintro e w3 ⟨rfl, rfl⟩)
     | (go_at_call 104; refine (s_IsValidRat x y _).mono ?_; rw [HV.out]; rintro e w3 ⟨rfl, hx3⟩; have hk2 := hk2.trans hx3)
     | (go_at_call 116; refine (s_l18Sum (HI.out.ext hk2)).mono ?_; rw [← HS.out]; rintro e w' ⟨rfl, rfl⟩)
     | (go_at_call 86; refine (s_l3Int _ _).mono ?_; rintro e w4 ⟨rfl, hx4⟩; have hk2 := hk2.trans hx4)
     | (go_at_call 147; refine (s_CompareRat x y S 1 _).mono ?_; rw [← HCC.out]; rintro e w5 ⟨rfl, hx5⟩; have hk2 := hk2.trans hx5))
  all_goals
   go_wp2
   go_ret
   exact ⟨ret_bool HN.out.symm, HX.out.trans hk2⟩
end Go.Proofs.YthjjfkeacobikaaGreat
