import Derived.Test.YtgohdmnbnhehnaaShAllG7
import Derived.Test.YtgohdmnbnhehnaaShAllG4
import Derived.Deep.DeepCutAuto
namespace Go.Proofs.Ytgohdmnbnhehnaa
set_option linter.unusedVariables false
set_option linter.unusedSimpArgs false
set_option maxRecDepth 100000
open Go.RowKit
def prBx (t : TypeId) (r b : Nat) (x : Int) (a : Option Addr) (n c : Nat) : Bx := (Bx.nil.upd r (#[.int .i64 0, .slice none 0 0], t)).upd b (#[.int .i64 x, .slice a n c], t)
section
variable {t : TypeId} {r b : Nat} {x : Int} {a : Option Addr} {n c : Nat}
theorem prBx_b : prBx t r b x a n c b = some (#[.int .i64 x, .slice a n c], t) := Bx.same _ _ _
theorem prBx_r (h : r ≠ b) : prBx t r b x a n c r = some (#[.int .i64 0, .slice none 0 0], t) := (Bx.other _ _ h).trans (Bx.same _ _ _)
theorem prBx_o {k : Nat} (h : k ≠ r) (h' : k ≠ b) : prBx t r b x a n c k = none := (Bx.other _ _ h').trans (Bx.other _ _ h)
theorem Bx.ext {f g : Bx} (h : ∀ k, f k = g k) : f = g := funext h
theorem prBx_set (x' : Int) (a' : Option Addr) (n' c' : Nat) : (prBx t r b x a n c).upd b (#[.int .i64 x', .slice a' n' c'], t) = prBx t r b x' a' n' c' := by
  refine Bx.ext fun k => ?_
  by_cases e : k = b
  · subst e; rw [Bx.same, prBx_b]
  · rw [Bx.other _ _ e]; unfold prBx; rw [Bx.other _ _ e, Bx.other _ _ e]
end
def Few (l : List Int) : Prop := ∀ x ∈ l, 0 ≤ x ∧ x ≤ 100
theorem sumW_few : ∀ (l : List Int) (acc : Int), Few l → 0 ≤ acc → acc + 100 * l.length ≤ 1000000 → l.foldl (fun a x => wrap64 (a + x)) acc = acc + l.sum ∧ acc + l.sum ≤ acc + 100 * l.length ∧ acc ≤ acc + l.sum
  | [], acc, _, h0, h1 => by simp
  | x :: l, acc, h, h0, h1 => by
    have hx := h x List.mem_cons_self
    simp only [List.length_cons, Int.natCast_add, Int.natCast_one] at h1
    have ih := sumW_few l (acc + x) (fun y hy => h y (List.mem_cons_of_mem _ hy)) (by omega) (by omega)
    simp only [List.foldl_cons, List.sum_cons, List.length_cons, Int.natCast_add, Int.natCast_one]
    rw [show wrap64 (acc + x) = acc + x by unfold wrap64; omega]
    omega
theorem sumW_few' {l : List Int} (h : Few l) (hl : l.length ≤ 100) : sumW l = l.sum ∧ 0 ≤ sumW l ∧ sumW l ≤ 100 * l.length := by
  have := sumW_few l 0 h (by omega) (by omega)
  unfold sumW
  omega
theorem pickC : ∀ k, k < 8 → 0 ≤ ([0, 1, 2, 3, 5, 10, 30, 100] : List Int)[k]?.getD 0 ∧ ([0, 1, 2, 3, 5, 10, 30, 100] : List Int)[k]?.getD 0 ≤ 100 := by
  have : ∀ k : Fin 8, 0 ≤ ([0, 1, 2, 3, 5, 10, 30, 100] : List Int)[k.val]?.getD 0 ∧ ([0, 1, 2, 3, 5, 10, 30, 100] : List Int)[k.val]?.getD 0 ≤ 100 := by decide
  exact fun k hk => this ⟨k, hk⟩
set_option maxHeartbeats 8000000 in
theorem s_l18Draw {w : World} {cb : Nat} (h : Cur w cb) :
    Calls Try.prog 130 #[.pointer (some ⟨cb, 0, none⟩)] w fun e w' => (∃ (x : Int) (a : Option Addr) (n c : Nat) (L : List Int), e = .returned (.agg #[.int .i64 x, .slice a n c]) ∧ OwnI w' w.heap.size (.slice a n c) L ∧ 1 ≤ n ∧ n ≤ 3 ∧ Few L ∧ 0 ≤ x ∧ x ≤ sumW L) ∧ Cur w' cb ∧ w.grownBy w' (some cb) := by
  have hcl := h.lt
  obtain ⟨W, hW⟩ : ∃ W, W = (w.alloc (.cells #[.int .i64 0, .slice none 0 0] 61)).alloc (.cells #[.int .i64 0, .slice none 0 0] 61) := ⟨_, rfl⟩
  have hws : W.heap.size = w.heap.size + 2 := by rw [hW]; simp
  have HB0 := Lib.hid (show Bxs w W cb (prBx 61 w.heap.size (w.heap.size + 1) 0 none 0 0) by
    rw [hW]
    have h1 := ((Bxs.start h (grown_ext (some cb) (Ext.refl w))).new #[.int .i64 0, .slice none 0 0] 61 (pair_dry _ _ (slice_dry _ _ _))).new #[.int .i64 0, .slice none 0 0] 61 (pair_dry _ _ (slice_dry _ _ _))
    rw [World.size_alloc] at h1
    exact h1)
  clear h
  go_enter Try.func130, Try.ntmps130
  go_upto_region 2 with fail
  rw [← hW]
  clear hW
  go_wp2_with fail
  refine (s_l1Below HB0.out.cur 3 (by omega)).mono ?_
  rintro e w1 ⟨⟨y, rfl, hy0, hy1⟩, hc, hg⟩
  have HB1 := Lib.hid (HB0.out.call hc hg)
  have hs1 := hg.size
  obtain ⟨m, hm⟩ : ∃ m : Nat, 1 + y = (m : Int) := ⟨(1 + y).toNat, by omega⟩
  have hm1 : 1 ≤ m := by omega
  have hm3 : m ≤ 3 := by omega
  clear hc hg hy0 hy1
  have hne : w.heap.size ≠ w.heap.size + 1 := by omega
  go_wp2_with fail
  go_loopg [5] m (fun gk ii wr => ∃ (k : Nat) (a1 : Option Addr) (n1 p1 : Nat) (L : List Int), Hid (gk + k = m) ∧ ii = .int .i64 (k : Int) ∧ Hid (L.length = k) ∧ Hid (Few L) ∧ Hid (Bxs w wr cb (prBx 61 w.heap.size (w.heap.size + 1) 0 a1 n1 p1)) ∧ Hid (OwnI wr (w.heap.size + 2) (.slice a1 n1 p1) L) ∧ Hid (w.heap.size + 2 ≤ wr.heap.size))
  case atStart => exact ⟨0, none, 0, 0, [], Lib.hid (by omega), rfl, Lib.hid rfl, Lib.hid (fun x hx => by cases hx), HB1, Lib.hid (OwnI.nil _ _), Lib.hid (by omega)⟩
  case round =>
    obtain ⟨g1, h_g1⟩ : ∃ x, x = gk := ⟨_, rfl⟩
    subst h_g1
    obtain ⟨wr, h_wr⟩ : ∃ x, x = wr := ⟨_, rfl⟩
    subst h_wr
    obtain ⟨k, a1, n1, p1, L, HK, rfl, HLL, HF, HB, HO, HSZ⟩ := hrel
    have hsz := HSZ.out
    have HN1 := Lib.hid (show n1 = k by
      have := HO.out.ints.hlen
      rw [← HLL.out]; exact this.symm)
    have hn3 : n1 ≤ 3 := by have := HN1.out; have := HK.out; omega
    by_cases hlt : k < m
    · have hB := HB.out.ext (Ext.drew wr)
      have hO := HO.out.ext (Ext.drew wr)
      have HS := Lib.hid (fun (w' : World) (h : Bxs w w' cb (prBx 61 w.heap.size (w.heap.size + 1) 0 a1 n1 p1)) => h.c1 prBx_b)
      go_wp2_with fail
      refine late_begin (M := [8]) (S := fun w' => w'.cell? ⟨w.heap.size + 1, 1, none⟩ = some (.slice a1 n1 p1)) (by kernel_rfl) ?_
      have hHeld := HS.out _ hB
      obtain ⟨wd, hwd⟩ : ∃ y, y = wr.drew := ⟨_, rfl⟩
      have hsd : wr.heap.size ≤ wd.heap.size := by rw [hwd]; exact Nat.le_refl _
      rw [← hwd] at hB hO hHeld
      rw [← hwd]
      clear hwd
      have hBA := hB.ext (Ext.alloc wd (.cells #[.int .i64 0, .int .i64 1, .int .i64 2, .int .i64 3, .int .i64 5, .int .i64 10, .int .i64 30, .int .i64 100] 3))
      have hli : Ints (wd.alloc (.cells #[.int .i64 0, .int .i64 1, .int .i64 2, .int .i64 3, .int .i64 5, .int .i64 10, .int .i64 30, .int .i64 100] 3)) (some ⟨wd.heap.size, 0, none⟩) 8 8 [0, 1, 2, 3, 5, 10, 30, 100] := Ints.lit wd [0, 1, 2, 3, 5, 10, 30, 100] 3 (by decide)
      refine late_pure (i := 0) (oi := ?_) (v := ?_) ?_ ?_ ?_ ?_ ?_ ?_ ?_ ?_ ?_
      rotate_left 2
      · simp only [gA, gB, gC]; rfl
      · kernel_rfl
      · kernel_rfl
      · kernel_rfl
      · kernel_rfl
      · exact fun _ _ _ h => h
      · refine Or.inl ⟨by rfl, ?_⟩; intro w hSw; (try dsimp only at hSw); go_simp; (try with_reducible rfl)
      · assumption
      try simp only [Act.put, sA, sB, sC]
      refine late_load (i := 1) (oi := ?_) (v := ?_) ?_ ?_ ?_ ?_ ?_ ?_ ?_ ?_ ?_ ?_ ?_
      rotate_left 2
      · simp only [gA, gB, gC]; rfl
      · kernel_rfl
      · kernel_rfl
      · kernel_rfl
      · kernel_rfl
      · kernel_rfl
      · kernel_rfl
      · exact fun _ _ _ h => h
      · refine Or.inl ⟨by rfl, ?_⟩; intro w hSw; (try dsimp only at hSw); go_simp; (try with_reducible rfl)
      · assumption
      try simp only [Act.put, sA, sB, sC]
      refine late_pure (i := 2) (oi := ?_) (v := ?_) ?_ ?_ ?_ ?_ ?_ ?_ ?_ ?_ ?_
      rotate_left 2
      · simp only [gA, gB, gC]; rfl
      · kernel_rfl
      · kernel_rfl
      · kernel_rfl
      · kernel_rfl
      · exact fun _ _ _ h => h
      · refine Or.inl ⟨by rfl, ?_⟩; intro w hSw; (try dsimp only at hSw); go_simp; (try with_reducible rfl)
      · assumption
      try simp only [Act.put, sA, sB, sC]
      refine late_step (i := 3) (oi := ?_) ?_ ?_ ?_ (fun K hK => ?_)
      rotate_left
      · simp only [gA, gB, gC]; rfl
      · kernel_rfl
      · kernel_rfl
      go_simp
      refine hK.out _ _ (fun _ => HS.out _ hBA) ?_
      clear hK K
      try simp only [Act.put, sA, sB, sC]
      refine late_step (i := 4) (oi := ?_) ?_ ?_ ?_ (fun K hK => ?_)
      rotate_left
      · simp only [gA, gB, gC]; rfl
      · kernel_rfl
      · kernel_rfl
      go_simp
      go_at_call 86
      refine (s_l1PickInt hBA.cur hli (by omega) (fun b off e => by simp only [Option.some.injEq, Addr.mk.injEq, and_true] at e; omega)).mono ?_
      rintro e w5 ⟨⟨q, hq, rfl⟩, hc, hg⟩
      have hpk := pickC q hq
      obtain ⟨y, hy⟩ : ∃ y, y = ([0, 1, 2, 3, 5, 10, 30, 100] : List Int)[q]?.getD 0 := ⟨_, rfl⟩
      rw [← hy] at hpk
      rw [← hy]
      clear hy
      have hB5 := hBA.call hc hg
      have hO5 := (hO.ext (Ext.alloc _ _)).calls hg (show cb < w.heap.size + 2 by omega)
      have hs5 := hg.size
      rw [World.size_alloc] at hs5
      clear hc hg
      go_wp2_with fail
      refine hK.out _ _ (fun _ => HS.out _ hB5) ?_
      have hHeld := HS.out _ hB5
      clear hK K
      try simp only [Act.put, sA, sB, sC]
      refine late_step (i := 5) (oi := ?_) ?_ ?_ ?_ (fun K hK => ?_)
      rotate_left
      · simp only [gA, gB, gC]; rfl
      · kernel_rfl
      · kernel_rfl
      go_simp
      refine hK.out _ _ (fun _ => HS.out _ (hB5.ext (Ext.alloc _ _))) ?_
      clear hK K
      try simp only [Act.put, sA, sB, sC]
      refine late_step (i := 6) (oi := ?_) ?_ ?_ ?_ (fun K hK => ?_)
      rotate_left
      · simp only [gA, gB, gC]; rfl
      · kernel_rfl
      · kernel_rfl
      refine wp_append_ints _ _ (by rfl) (w.heap.size + 2) (.slice a1 n1 p1) L (by rfl) (hO5.ext (Ext.alloc _ _)) _ 1 _ [y] (by rfl) (Ints.oneS _ _ _ _ rfl) (by rw [HLL.out]; omega) (by simp; omega) ?_
      intro v6 w6 ho hg hnear
      obtain ⟨a6, n6, p6, rfl, HN6⟩ := ho.var
      have HB6 := Lib.hid ((hB5.ext (Ext.alloc _ _)).grew hg (fun j hj => by have := (hO5.lt j hj).1; exact ⟨by omega, by omega, prBx_o (by omega) (by omega)⟩))
      have HO6 := Lib.hid ho
      have c6 := HB6.out.c1 prBx_b
      have cf6 := HB6.out.free (b := w.heap.size + 1) prBx_b
      have hs6 := hg.size
      rw [World.size_alloc] at hs6
      clear ho hg hnear
      refine hK.out _ _ (fun _ => c6) ?_
      have hHeld := c6
      clear hK K
      try simp only [Act.put, sA, sB, sC]
      refine late_pure (i := 7) (oi := ?_) (v := ?_) ?_ ?_ ?_ ?_ ?_ ?_ ?_ ?_ ?_
      rotate_left 2
      · simp only [gA, gB, gC]; rfl
      · kernel_rfl
      · kernel_rfl
      · kernel_rfl
      · kernel_rfl
      · exact fun _ _ _ h => h
      · refine Or.inl ⟨by rfl, ?_⟩; intro w hSw; (try dsimp only at hSw); go_simp; (try with_reducible rfl)
      · assumption
      try simp only [Act.put, sA, sB, sC]
      refine late_one (i := 8) (oi := ?_) (w' := ?_) ?_ ?_ ?_ ?_ ?_ ?_ ?_
      rotate_left 2
      · simp only [gA, gB, gC]; rfl
      · kernel_rfl
      · kernel_rfl
      · exact of_decide_eq_true (by kernel_rfl)
      · rfl
      · go_simp; (try with_reducible rfl)
      try simp only [Act.put, sA, sB, sC]
      refine late_done (by kernel_rfl) ?_ _
      have HB7 := Lib.hid (show Bxs w (w6.setCell ⟨w.heap.size + 1, 1, none⟩ (.slice a6 n6 p6)) cb (prBx 61 w.heap.size (w.heap.size + 1) 0 a6 n6 p6) from by
        have := HB6.out.put (b := w.heap.size + 1) prBx_b 1 (.slice a6 n6 p6) (slice_dry _ _ _)
        rw [← prBx_set (x := 0) (a := a1) (n := n1) (c := p1)]
        exact this)
      have HO7 := Lib.hid (((OwnI.on HO6.out).set (a := ⟨w.heap.size + 1, 1, none⟩) (by show w.heap.size + 1 < w.heap.size + 2; omega) (.slice a6 n6 p6)).here)
      have HF7 := Lib.hid (show Few (L ++ [y]) from fun z hz => by
        rcases List.mem_append.1 hz with h | h
        · exact HF.out z h
        · rw [List.mem_singleton] at h; subst h; exact hpk)
      clear hHeld c6 cf6 hB hO hBA hli hB5 hO5
      go_wp2_with fail
      go_roundg (g1 - 1)
      case measure => have := HK.out; omega
      case rel => exact ⟨k + 1, a6, n6, p6, L ++ [y], Lib.hid (by have := HK.out; omega), by go_num, Lib.hid (by rw [List.length_append, HLL.out]; rfl), HF7, HB7, HO7, Lib.hid (by simp; omega)⟩
    · have hkm : k = m := by have := HK.out; omega
      subst hkm
      have hn11 : 1 ≤ n1 := by have := HN1.out; omega
      have c1 := HB.out.c1 (b := w.heap.size + 1) prBx_b
      have hsm := sumW_few' HF.out (by rw [HLL.out]; omega)
      obtain ⟨S, hS⟩ : ∃ S, S = sumW L := ⟨_, rfl⟩
      rw [← hS] at hsm
      have HSS := Lib.hid hS
      have hS1 : 0 ≤ S := hsm.2.1
      have hS2 : S ≤ 300 := by have := hsm.2.2; rw [HLL.out] at this; omega
      clear hS hsm
      go_wp2_with fail
      refine (s_l18Sum HO.out.ints).mono ?_
      rw [← HSS.out]
      rintro e w2 ⟨rfl, rfl⟩
      have e1 : IntKind.i64.wrap (S + 1) = S + 1 := by rw [IntKind.wrap_i64]; omega
      go_wp2_with fail
      refine (s_l1Below HB.out.cur (S + 1) (by omega)).mono ?_
      rintro e w3 ⟨⟨x, rfl, hx0, hx1⟩, hc, hg⟩
      have HB3 := Lib.hid (HB.out.call hc hg)
      have HO3 := Lib.hid (HO.out.calls hg (show cb < w.heap.size + 2 by omega))
      have d0 := HB3.out.c0 (b := w.heap.size + 1) prBx_b
      have df := HB3.out.free (b := w.heap.size + 1) prBx_b
      have HB4 := Lib.hid (show Bxs w (w3.setCell ⟨w.heap.size + 1, 0, none⟩ (.int .i64 x)) cb (prBx 61 w.heap.size (w.heap.size + 1) x a1 n1 p1) from by
        have := HB3.out.put (b := w.heap.size + 1) prBx_b 0 (.int .i64 x) (i64_dry _)
        rw [← prBx_set (x := 0) (a := a1) (n := n1) (c := p1)]
        exact this)
      have HO4 := Lib.hid (((OwnI.on HO3.out).set (a := ⟨w.heap.size + 1, 0, none⟩) (by show w.heap.size + 1 < w.heap.size + 2; omega) (.int .i64 x)).here)
      clear hc hg c1
      obtain ⟨w4, hw4⟩ : ∃ z, z = w3.setCell ⟨w.heap.size + 1, 0, none⟩ (.int .i64 x) := ⟨_, rfl⟩
      rw [← hw4] at HB4 HO4
      have q0 := HB4.out.c0 (b := w.heap.size + 1) prBx_b
      have q1 := HB4.out.c1 (b := w.heap.size + 1) prBx_b
      have r0 := HB4.out.c0 (b := w.heap.size) (prBx_r hne)
      have r1 := HB4.out.c1 (b := w.heap.size) (prBx_r hne)
      have rf := HB4.out.free (b := w.heap.size) (prBx_r hne)
      have HB5 := Lib.hid (HB4.out.put2 (prBx_r hne) (.int .i64 x) (.slice a1 n1 p1) (i64_dry _) (slice_dry _ _ _))
      have HO5 := Lib.hid (HO4.out.put2 (show w.heap.size < w.heap.size + 2 by omega) (.int .i64 x) (.slice a1 n1 p1))
      have z0 := HB5.out.c0 (Bx.same _ _ _)
      have z1 := HB5.out.c1 (Bx.same _ _ _)
      go_upto_region 8 with fail
      rw [← hw4]
      clear hw4 d0 df
      go_wp2_with fail
      refine bodyPost_ret (v := .agg #[.int .i64 x, .slice a1 n1 p1]) (by simp [results, Try.results130, go_sem, z0, z1]) rfl ⟨⟨x, a1, n1, p1, L, rfl, HO5.out.mono (by omega), by omega, by omega, HF.out, hx0, by rw [← HSS.out]; omega⟩, HB5.out.cur, HB5.out.grown⟩
theorem pickE : ∀ k, k < 3 → -1 ≤ ([-1, 501, 300] : List Int)[k]?.getD 0 ∧ ([-1, 501, 300] : List Int)[k]?.getD 0 ≤ 501 := by
  have : ∀ k : Fin 3, -1 ≤ ([-1, 501, 300] : List Int)[k.val]?.getD 0 ∧ ([-1, 501, 300] : List Int)[k.val]?.getD 0 ≤ 501 := by decide
  exact fun k hk => this ⟨k, hk⟩
theorem pickF : ∀ k, k < 2 → -1 ≤ ([101, -1] : List Int)[k]?.getD 0 ∧ ([101, -1] : List Int)[k]?.getD 0 ≤ 101 := by
  have : ∀ k : Fin 2, -1 ≤ ([101, -1] : List Int)[k.val]?.getD 0 ∧ ([101, -1] : List Int)[k.val]?.getD 0 ≤ 101 := by decide
  exact fun k hk => this ⟨k, hk⟩
def FewB (l : List Int) : Prop := ∀ x ∈ l, -1 ≤ x ∧ x ≤ 101
theorem Few.b {l : List Int} (h : Few l) : FewB l := fun x hx => by have := h x hx; omega
theorem FewB.set {l : List Int} (h : FewB l) (k : Nat) {y : Int} (hy : -1 ≤ y ∧ y ≤ 101) : FewB (l.set k y) := fun x hx => by
  rcases List.mem_or_eq_of_mem_set hx with h1 | h1
  · exact h x h1
  · rw [h1]; exact hy
set_option maxHeartbeats 8000000 in
theorem s_l18Bent {w : World} {cb : Nat} (h : Cur w cb) :
    Calls Try.prog 85 #[.pointer (some ⟨cb, 0, none⟩)] w fun e w' => (∃ (x : Int) (a : Option Addr) (n c : Nat) (L : List Int), e = .returned (.agg #[.int .i64 x, .slice a n c]) ∧ OwnI w' w.heap.size (.slice a n c) L ∧ n ≤ 3 ∧ FewB L ∧ -1 ≤ x ∧ x ≤ 501) ∧ Cur w' cb ∧ w.grownBy w' (some cb) := by
  have hcl := h.lt
  obtain ⟨W, hW⟩ : ∃ W, W = w.alloc (.cells #[.int .i64 0, .slice none 0 0] 61) := ⟨_, rfl⟩
  have hws : W.heap.size = w.heap.size + 1 := by rw [hW]; simp
  have HB0 := Lib.hid (show Bxs w W cb (Bx.nil.upd w.heap.size (#[.int .i64 0, .slice none 0 0], 61)) by
    rw [hW]; exact (Bxs.start h (grown_ext (some cb) (Ext.refl w))).new #[.int .i64 0, .slice none 0 0] 61 (pair_dry _ _ (slice_dry _ _ _)))
  clear h
  go_enter Try.func85, Try.ntmps85
  go_upto_region 1 with fail
  rw [← hW]
  clear hW
  go_wp2_with fail
  refine (s_l18Draw HB0.out.cur).mono ?_
  rintro e w3 ⟨⟨x, a, n, c, L, rfl, ho, hn1, hn3, hfew, hx0, hx1⟩, hc, hg⟩
  have hs3 := hg.size
  have hsm := sumW_few' hfew (by have := ho.ints.hlen; omega)
  have hxb : -1 ≤ x ∧ x ≤ 501 := by have := ho.ints.hlen; omega
  have HF := Lib.hid hfew.b
  have HOL := Lib.hid (fun k hk => (ho.lt k hk).2)
  have hcap := ho.ints.hcap
  have hmax := ho.ints.hmax
  obtain ⟨w4, hw4⟩ : ∃ E, E = w3.alloc (.cells #[.int .i64 x, .slice a n c] 61) := ⟨_, rfl⟩
  have HB4 := Lib.hid (show Bxs w w4 cb (prBx 61 w.heap.size w3.heap.size x a n c) from hw4 ▸ (HB0.out.call hc hg).new _ _ (pair_dry _ _ (slice_dry _ _ _)))
  have HO4 := Lib.hid (show OwnI w4 (w.heap.size + 1) (.slice a n c) L from hw4 ▸ (ho.mono (by omega)).ext (Ext.alloc _ _))
  obtain ⟨hxb0, hxb1⟩ := hxb
  clear hc hg ho hfew hsm hx0 hx1
  have hne : w.heap.size ≠ w3.heap.size := by omega
  go_upto_region 2 with fail
  rw [← hw4]
  clear hw4
  go_wp2_with fail
  refine (s_l1Below HB4.out.cur 12 (by omega)).mono ?_
  rintro e w5 ⟨⟨z, rfl, hz0, hz1⟩, hc, hg⟩
  have HB5 := Lib.hid (HB4.out.call hc hg)
  have HO5 := Lib.hid (HO4.out.calls hg (show cb < w.heap.size + 1 by omega))
  have hs5 := hg.size
  clear hc hg
  have hcase : z = 0 ∨ z = 1 ∨ z = 2 ∨ 3 ≤ z := by omega
  rcases hcase with rfl | rfl | rfl | hz3
  · have hli : Ints (w5.alloc (.cells #[.int .i64 (-1), .int .i64 501, .int .i64 300] 3)) (some ⟨w5.heap.size, 0, none⟩) 3 3 [-1, 501, 300] := Ints.lit w5 [-1, 501, 300] 3 (by decide)
    have hBA := HB5.out.ext (Ext.alloc w5 (.cells #[.int .i64 (-1), .int .i64 501, .int .i64 300] 3))
    have hOA := HO5.out.ext (Ext.alloc w5 (.cells #[.int .i64 (-1), .int .i64 501, .int .i64 300] 3))
    have hcl5 := HB5.out.cur.lt
    go_wp2_with fail
    refine (s_l1PickInt hBA.cur hli (by omega) (fun b off e => by simp only [Option.some.injEq, Addr.mk.injEq, and_true] at e; omega)).mono ?_
    rintro e w6 ⟨⟨q, hq, rfl⟩, hc, hg⟩
    have hpk := pickE q hq
    obtain ⟨y, hy⟩ : ∃ y, y = ([-1, 501, 300] : List Int)[q]?.getD 0 := ⟨_, rfl⟩
    rw [← hy] at hpk
    rw [← hy]
    obtain ⟨hy0, hy1⟩ := hpk
    have HB6 := Lib.hid (hBA.call hc hg)
    have HO6 := Lib.hid (hOA.calls hg (show cb < w.heap.size + 1 by omega))
    have d0 := HB6.out.c0 (b := w3.heap.size) prBx_b
    have df := HB6.out.free (b := w3.heap.size) prBx_b
    have HB7 := Lib.hid (show Bxs w (w6.setCell ⟨w3.heap.size, 0, none⟩ (.int .i64 y)) cb (prBx 61 w.heap.size w3.heap.size y a n c) from by
      have := HB6.out.put (b := w3.heap.size) prBx_b 0 (.int .i64 y) (i64_dry _)
      rw [← prBx_set (x := x) (a := a) (n := n) (c := c)]
      exact this)
    have HO7 := Lib.hid (HO6.out.keep (w' := w6.setCell ⟨w3.heap.size, 0, none⟩ (.int .i64 y)) fun j hj => heap_setCell_other _ _ _ _ (by have := HOL.out j hj; show j ≠ w3.heap.size; omega))
    clear hc hg hy hBA hOA hli
    have q0 := HB7.out.c0 (b := w3.heap.size) prBx_b
    have q1 := HB7.out.c1 (b := w3.heap.size) prBx_b
    have r0 := HB7.out.c0 (b := w.heap.size) (prBx_r hne)
    have r1 := HB7.out.c1 (b := w.heap.size) (prBx_r hne)
    have rf := HB7.out.free (b := w.heap.size) (prBx_r hne)
    have HB9 := Lib.hid (HB7.out.put2 (prBx_r hne) (.int .i64 y) (.slice a n c) (i64_dry _) (slice_dry _ _ _))
    have HO9 := Lib.hid (HO7.out.put2 (show w.heap.size < w.heap.size + 1 by omega) (.int .i64 y) (.slice a n c))
    have z0 := HB9.out.c0 (Bx.same _ _ _)
    have z1 := HB9.out.c1 (Bx.same _ _ _)
    go_wp2_with fail
    refine bodyPost_ret (v := .agg #[.int .i64 y, .slice a n c]) (by simp [results, Try.results85, go_sem, z0, z1]) rfl ⟨⟨_, a, n, c, _, rfl, HO9.out.mono (by omega), by omega, HF.out, by omega, by omega⟩, HB9.out.cur, HB9.out.grown⟩
  · have hn0 : 0 < n := hn1
    obtain ⟨g, rfl, hgb, hgf, hgl⟩ := HO5.out.block (k := 0) (by omega)
    have hg3 := HOL.out g rfl
    have hHO := HO5.out
    have hB := HB5.out.ext (Ext.drew w5)
    have hO := HO5.out.ext (Ext.drew w5)
    have hcl5 := HB5.out.cur.lt
    have HS := Lib.hid (fun (w' : World) (h : Bxs w w' cb (prBx 61 w.heap.size w3.heap.size x (some ⟨g, 0, none⟩) n c)) => h.c1 prBx_b)
    clear hHO
    go_wp2_with fail
    refine wp_region_held_drew (S := (fun w' => w'.cell? ⟨w3.heap.size, 1, none⟩ = some (.slice (some ⟨g, 0, none⟩) n c))) (by kernel_rfl) ?_ (fun hHeld => ?_)
    · exact HS.out _ hB
    obtain ⟨wd, hwd⟩ : ∃ y, y = w5.drew := ⟨_, rfl⟩
    have hsd : w5.heap.size ≤ wd.heap.size := by rw [hwd]; exact Nat.le_refl _
    rw [← hwd] at hB hO hHeld
    rw [← hwd]
    clear hwd
    have hli : Ints (wd.alloc (.cells #[.int .i64 101, .int .i64 (-1)] 3)) (some ⟨wd.heap.size, 0, none⟩) 2 2 [101, -1] := Ints.lit wd [101, -1] 3 (by decide)
    have hBA := hB.ext (Ext.alloc wd (.cells #[.int .i64 101, .int .i64 (-1)] 3))
    have hOA := hO.ext (Ext.alloc wd (.cells #[.int .i64 101, .int .i64 (-1)] 3))
    refine tk (i := 0) (h := ?_)
    try simp only [Act.put, sA, sB, sC]
    refine tk (i := 1) (h := ?_)
    try simp only [Act.put, sA, sB, sC]
    refine tk (i := 2) (h := ?_)
    try simp only [Act.put, sA, sB, sC]
    refine rd (i := 3) (h := fun K hK => ?_)
    go_simp
    refine hK.out _ _ ?_ (fun hHeld => ?_)
    · exact HS.out _ hBA
    clear hK K
    try simp only [Act.put, sA, sB, sC]
    refine rd (i := 4) (h := fun K hK => ?_)
    go_simp
    refine (s_l1PickInt hBA.cur hli (by omega) (fun b off e => by simp only [Option.some.injEq, Addr.mk.injEq, and_true] at e; omega)).mono ?_; rintro e w6 ⟨⟨q, hq, rfl⟩, hc, hg⟩; have hpk := pickF q hq; obtain ⟨y, hy⟩ : ∃ y, y = ([101, -1] : List Int)[q]?.getD 0 := ⟨_, rfl⟩; rw [← hy] at hpk; rw [← hy]; clear hy; have HB6 := Lib.hid (hBA.call hc hg); have HO6 := Lib.hid (hOA.calls hg (show cb < w.heap.size + 1 by omega)); obtain ⟨u1, u2, hu, hcv⟩ := HO6.out.ints.at (k := 0) (by omega); simp only [Option.some.injEq, Addr.mk.injEq, and_true] at hu; obtain ⟨rfl, rfl⟩ := hu; rw [Nat.zero_add] at hcv; obtain ⟨g2, hg2, _, hfv, _⟩ := HO6.out.block (k := 0) (by omega); obtain rfl : g = g2 := (by simpa using hg2); clear hg2 hc hg
    go_wp2_with fail
    refine hK.out _ _ ?_ (fun hHeld => ?_)
    · exact HS.out _ HB6.out
    clear hK K
    try simp only [Act.put, sA, sB, sC]
    refine tk (i := 5) (h := ?_)
    try simp only [Act.put, sA, sB, sC]
    have HB7 := Lib.hid (HB6.out.putr (b := g) (k := 0) (by omega) (by omega) (prBx_o (by omega) (by omega)) hcv (i64_dry _) (.int .i64 y))
    have HO7 := Lib.hid (HO6.out.set 0 y)
    refine rd (i := 6) (h := fun K hK => ?_)
    go_simp
    refine hK.out _ _ ?_ (fun hHeld => ?_)
    · exact HS.out _ HB7.out
    clear hK K
    try simp only [Act.put, sA, sB, sC]
    refine wpAnyH_done (by kernel_rfl) ?_ _
    have HF7 := Lib.hid (HF.out.set 0 hpk)
    clear hHeld hB hO hBA hOA hli hcv hfv
    have q0 := HB7.out.c0 (b := w3.heap.size) prBx_b
    have q1 := HB7.out.c1 (b := w3.heap.size) prBx_b
    have r0 := HB7.out.c0 (b := w.heap.size) (prBx_r hne)
    have r1 := HB7.out.c1 (b := w.heap.size) (prBx_r hne)
    have rf := HB7.out.free (b := w.heap.size) (prBx_r hne)
    have HB9 := Lib.hid (HB7.out.put2 (prBx_r hne) (.int .i64 x) (.slice (some ⟨g, 0, none⟩) n c) (i64_dry _) (slice_dry _ _ _))
    have HO9 := Lib.hid (HO7.out.put2 (show w.heap.size < w.heap.size + 1 by omega) (.int .i64 x) (.slice (some ⟨g, 0, none⟩) n c))
    have z0 := HB9.out.c0 (Bx.same _ _ _)
    have z1 := HB9.out.c1 (Bx.same _ _ _)
    go_wp2_with fail
    refine bodyPost_ret (v := .agg #[.int .i64 x, .slice (some ⟨g, 0, none⟩) n c]) (by simp [results, Try.results85, go_sem, z0, z1]) rfl ⟨⟨_, (some ⟨g, 0, none⟩), n, c, _, rfl, HO9.out.mono (by omega), by omega, HF7.out, by omega, by omega⟩, HB9.out.cur, HB9.out.grown⟩
  · have d1 := HB5.out.c1 (b := w3.heap.size) prBx_b
    have df := HB5.out.free (b := w3.heap.size) prBx_b
    have HB7 := Lib.hid (show Bxs w (w5.setCell ⟨w3.heap.size, 1, none⟩ (.slice none 0 0)) cb (prBx 61 w.heap.size w3.heap.size x none 0 0) from by
      have := HB5.out.put (b := w3.heap.size) prBx_b 1 (.slice none 0 0) (slice_dry _ _ _)
      rw [← prBx_set (x := x) (a := a) (n := n) (c := c)]
      exact this)
    have HO7 := Lib.hid (OwnI.nil (w5.setCell ⟨w3.heap.size, 1, none⟩ (.slice none 0 0)) (w.heap.size + 1))
    have q0 := HB7.out.c0 (b := w3.heap.size) prBx_b
    have q1 := HB7.out.c1 (b := w3.heap.size) prBx_b
    have r0 := HB7.out.c0 (b := w.heap.size) (prBx_r hne)
    have r1 := HB7.out.c1 (b := w.heap.size) (prBx_r hne)
    have rf := HB7.out.free (b := w.heap.size) (prBx_r hne)
    have HB9 := Lib.hid (HB7.out.put2 (prBx_r hne) (.int .i64 x) (.slice none 0 0) (i64_dry _) (slice_dry _ _ _))
    have HO9 := Lib.hid (HO7.out.put2 (show w.heap.size < w.heap.size + 1 by omega) (.int .i64 x) (.slice none 0 0))
    have z0 := HB9.out.c0 (Bx.same _ _ _)
    have z1 := HB9.out.c1 (Bx.same _ _ _)
    go_wp2_with fail
    refine bodyPost_ret (v := .agg #[.int .i64 x, .slice none 0 0]) (by simp [results, Try.results85, go_sem, z0, z1]) rfl ⟨⟨_, none, 0, 0, _, rfl, HO9.out.mono (by omega), by omega, (fun x hx => by cases hx), by omega, by omega⟩, HB9.out.cur, HB9.out.grown⟩
  · have e0 : (z == 0) = false := by simp; omega
    have e1 : (z == 1) = false := by simp; omega
    have e2 : (z == 2) = false := by simp; omega
    have q0 := HB5.out.c0 (b := w3.heap.size) prBx_b
    have q1 := HB5.out.c1 (b := w3.heap.size) prBx_b
    have r0 := HB5.out.c0 (b := w.heap.size) (prBx_r hne)
    have r1 := HB5.out.c1 (b := w.heap.size) (prBx_r hne)
    have rf := HB5.out.free (b := w.heap.size) (prBx_r hne)
    have HB9 := Lib.hid (HB5.out.put2 (prBx_r hne) (.int .i64 x) (.slice a n c) (i64_dry _) (slice_dry _ _ _))
    have HO9 := Lib.hid (HO5.out.put2 (show w.heap.size < w.heap.size + 1 by omega) (.int .i64 x) (.slice a n c))
    have z0 := HB9.out.c0 (Bx.same _ _ _)
    have z1 := HB9.out.c1 (Bx.same _ _ _)
    go_wp2_with fail
    refine bodyPost_ret (v := .agg #[.int .i64 x, .slice a n c]) (by simp [results, Try.results85, go_sem, z0, z1]) rfl ⟨⟨_, a, n, c, _, rfl, HO9.out.mono (by omega), by omega, HF.out, by omega, by omega⟩, HB9.out.cur, HB9.out.grown⟩
end Go.Proofs.Ytgohdmnbnhehnaa
namespace Go.Proofs.Ytgohdmnbnhehnaa
set_option linter.unusedVariables false
set_option linter.unusedSimpArgs false
set_option maxRecDepth 100000
open Go.RowKit
theorem pickG : ∀ k, k < 4 → 1 ≤ ([1, 1, 2, 3] : List Int)[k]?.getD 0 ∧ ([1, 1, 2, 3] : List Int)[k]?.getD 0 ≤ 3 := by
  have : ∀ k : Fin 4, 1 ≤ ([1, 1, 2, 3] : List Int)[k.val]?.getD 0 ∧ ([1, 1, 2, 3] : List Int)[k.val]?.getD 0 ≤ 3 := by decide
  exact fun k hk => this ⟨k, hk⟩
theorem cutR_den {p : Int × Int} {P Q : Int} {ok : Bool} (h : cutR p = ((P, Q), ok)) (hp : p.2 ≤ 3) : Q ≤ 3 := by
  unfold cutR at h
  split at h
  · simp only [Prod.mk.injEq] at h; rw [h.1] at hp; exact hp
  · simp only [Prod.mk.injEq] at h; omega
theorem ratOf_den {x y P Q : Int} {ok : Bool} (h0 : 1 ≤ y) (h1 : y ≤ 3) (h : ratOf x y = ((P, Q), ok)) : Q ≤ 3 := by
  unfold ratOf at h
  split at h
  · simp only [Prod.mk.injEq] at h; omega
  · rw [if_neg (by omega)] at h
    refine cutR_den h ?_
    show y.tdiv _ ≤ 3
    exact Int.le_trans (Int.tdiv_le_self _ (by omega)) h1
set_option maxHeartbeats 8000000 in
theorem s_DrawEqualAwards {w : World} {a : Option Addr} {n cap : Nat} (h : Bytes w a n cap) (hn : n ≤ 1048576) :
    Calls Try.prog 32 #[.slice a n cap] w fun e w' => (∃ (b : Option Addr) (m c : Nat) (L : List Int) (P Q : Int), e = .returned (.tuple #[.slice b m c, .agg #[.int .i64 P, .int .i64 Q]]) ∧ Ints w' b m c L ∧ m ≤ 3 ∧ FewB L ∧ Q ≤ 3) ∧ Ext w w' := by
  obtain ⟨W, hW⟩ : ∃ W, W = w.alloc (.cells #[.int .i64 0, .int .i64 0] 34) := ⟨_, rfl⟩
  have hws : W.heap.size = w.heap.size + 1 := by rw [hW]; simp
  have hX : Ext w W := by rw [hW]; exact Ext.alloc _ _
  have HR2 := Lib.hid (show W.heap[w.heap.size]? = some (.cells #[.int .i64 0, .int .i64 0] 34 (0, 0)) by rw [hW]; exact heapA_new _ _ _ rfl)
  have HX := Lib.hid hX
  have HN := Lib.hid (s_l1New (h.ext hX) hn)
  clear h hX
  go_enter Try.func32, Try.ntmps32
  go_wp2_with fail
  rw [← hW]
  refine HN.out.mono ?_
  rintro e w1 ⟨⟨cb, rfl, hcb, hc⟩, hx⟩
  have hs1 := hx.size
  have hcl := hc.lt
  have HB1 := Lib.hid ((Bxs.start hc (grown_ext (some cb) (HX.out.trans hx))).add w.heap.size _ _ ((hx.block _ (by omega)).trans HR2.out) (by omega) (by omega) (pair_dry _ _ (i64_dry _)))
  clear hc hx HR2 hW
  go_wp2_with fail
  refine (s_l18Bent HB1.out.cur).mono ?_
  rintro e w2 ⟨⟨x, b, m, c, L, rfl, ho, hm, hfew, hx0, hx1⟩, hc, hg⟩
  have hs2 := hg.size
  obtain ⟨w3, hw3⟩ : ∃ E, E = w2.alloc (.cells #[.int .i64 x, .slice b m c] 61) := ⟨_, rfl⟩
  have HB3 := Lib.hid (show Bxs w w3 cb ((Bx.nil.upd w.heap.size (#[.int .i64 0, .int .i64 0], 34)).upd w2.heap.size (#[.int .i64 x, .slice b m c], 61)) from hw3 ▸ (HB1.out.call hc hg).new _ _ (pair_dry _ _ (slice_dry _ _ _)))
  have HO3 := Lib.hid (show OwnI w3 w1.heap.size (.slice b m c) L from hw3 ▸ ho.ext (Ext.alloc _ _))
  have HFEW := Lib.hid hfew
  have hm1 := ho.ints.hcap
  have hm2 := ho.ints.hmax
  have hcb1 : cb < w1.heap.size := hcl
  clear hc hg ho hfew HB1
  go_upto_region 3 with fail
  rw [← hw3]
  clear hw3
  generalize w2.heap.size = b5 at HB3 hs2 ⊢
  have hn5 : w.heap.size ≠ b5 := by omega
  obtain ⟨F, hF⟩ : ∃ F, F = (Bx.nil.upd w.heap.size (#[.int .i64 0, .int .i64 0], 34)).upd b5 (#[.int .i64 x, .slice b m c], 61) := ⟨_, rfl⟩
  rw [← hF] at HB3
  have HF5 := Lib.hid (show F b5 = some (#[.int .i64 x, .slice b m c], 61) by rw [hF]; exact Bx.same _ _ _)
  have HFR := Lib.hid (show F w.heap.size = some (#[.int .i64 0, .int .i64 0], 34) by rw [hF]; exact (Bx.other _ _ hn5).trans (Bx.same _ _ _))
  clear hF
  go_upto_region 3 with fail
  go_cut [6, 7] (fun s6 s7 wx => ∃ (g : Nat) (P Q : Int) (ok : Bool), s6 = .pointer (some ⟨g, 0, none⟩) ∧ s7 = .bool ok ∧ Hid (Q ≤ 3) ∧ Hid (∃ G, w.heap.size ≠ g ∧ Bxs w wx cb G ∧ G b5 = some (#[.int .i64 x, .slice b m c], 61) ∧ G w.heap.size = some (#[.int .i64 0, .int .i64 0], 34) ∧ G g = some (#[.int .i64 P, .int .i64 Q], 34)) ∧ Hid (OwnI wx w1.heap.size (.slice b m c) L))
  case first =>
    have HS := Lib.hid (fun (w' : World) (G : Bx) (h : Bxs w w' cb G) (hf : G b5 = some (#[.int .i64 x, .slice b m c], 61)) => h.c0 hf)
    have st := HB3.out.ext (Ext.drew w3)
    have hon := HO3.out.ext (Ext.drew w3)
    have hf := HF5.out
    have hr := HFR.out
    have hcb := hcb1
    refine wp_region_held_drew (S := (fun w' => w'.cell? ⟨b5, 0, none⟩ = some (.int .i64 x))) (by kernel_rfl) ?_ (fun hHeld => ?_)
    · exact HS.out _ _ st hf
    obtain ⟨wd, hwd⟩ : ∃ y, y = w3.drew := ⟨_, rfl⟩
    rw [← hwd] at st hon hHeld
    rw [← hwd]
    clear hwd
    refine tk (i := 0) (h := ?_)
    try simp only [Act.put, sA, sB, sC]
    refine tk (i := 1) (h := ?_)
    try simp only [Act.put, sA, sB, sC]
    refine tk (i := 2) (h := ?_)
    try simp only [Act.put, sA, sB, sC]
    refine wpAnyH_ready (rs := [3, 9]) (by kernel_rfl) (by simp) ?_
    refine AllReadyH.cons (o := ?_) ?_ (fun K hK => ?_) ?_
    rotate_left
    · simp only [gA, gB, gC]; rfl
    ·
      go_simp
      refine hK.out _ _ ?_ (fun hHeld => ?_)
      · exact HS.out _ _ (st.ext (Ext.alloc _ _)) hf
      clear hK K
      try simp only [Act.put, sA, sB, sC]
      obtain ⟨v1, hV⟩ : ∃ y, y = wd.alloc (.cells #[.int .i64 1, .int .i64 1, .int .i64 2, .int .i64 3] 3) := ⟨_, rfl⟩
      have hlt_ := st.cur.lt
      have hx_ : Ext wd v1 := by rw [hV]; exact Ext.alloc _ _
      have st := st.ext hx_
      have hon := hon.ext hx_
      try (have hli := hli.ext hx_)
      obtain ⟨lhli, hl_⟩ : ∃ g, g = wd.heap.size := ⟨_, rfl⟩
      have hli : Ints v1 (some ⟨lhli, 0, none⟩) 4 4 [1, 1, 2, 3] := by rw [hV, hl_]; exact Ints.lit wd [1, 1, 2, 3] 3 (by decide)
      have hlia : ∀ b off, (some ⟨lhli, 0, none⟩ : Option Addr) = some ⟨b, off, none⟩ → b ≠ cb := fun b off e => by simp only [Option.some.injEq, Addr.mk.injEq, and_true] at e; omega
      rw [← hV] at hHeld
      rw [← hV, ← hl_]
      clear hV hx_ hl_ hlt_
      refine wpAnyH_ready (rs := [4, 9]) (by kernel_rfl) (by simp) ?_
      refine AllReadyH.cons (o := ?_) ?_ (fun K hK => ?_) ?_
      rotate_left
      · simp only [gA, gB, gC]; rfl
      ·
        go_simp
        refine (s_l1PickInt st.cur hli (by omega) hlia).mono ?_; rintro e v2 ⟨⟨q_, hq_, rfl⟩, hc_, hg_⟩; have st := st.call hc_ hg_; have hon := hon.calls hg_ hcb; obtain ⟨y, hy_⟩ : ∃ y, y = ([1, 1, 2, 3] : List Int)[q_]?.getD 0 := ⟨_, rfl⟩; have yb := pickG q_ hq_; rw [← hy_]; rw [← hy_] at yb; clear hy_ hq_ hc_ hg_ hli hlia
        go_wp2_with fail
        refine hK.out _ _ ?_ (fun hHeld => ?_)
        · exact HS.out _ _ st hf
        clear hK K
        try simp only [Act.put, sA, sB, sC]
        refine wpAnyH_ready (rs := [5, 9]) (by kernel_rfl) (by simp) ?_
        refine AllReadyH.cons (o := ?_) ?_ (fun K hK => ?_) ?_
        rotate_left
        · simp only [gA, gB, gC]; rfl
        ·
          go_simp
          obtain ⟨P, Q, ok, hpq⟩ : ∃ P Q ok, ratOf x y = ((P, Q), ok) := ⟨_, _, _, rfl⟩; have HQ := Lib.hid (ratOf_den yb.1 yb.2 hpq); refine (s_RatOf x y _).mono ?_; rw [hpq]; clear hpq; rintro e v3 ⟨rfl, hx⟩; have st := st.ext hx; have hon := hon.ext hx; clear hx
          go_wp2_with fail
          refine hK.out _ _ ?_ (fun hHeld => ?_)
          · exact HS.out _ _ st hf
          clear hK K
          try simp only [Act.put, sA, sB, sC]
          refine tk (i := 6) (h := ?_)
          try simp only [Act.put, sA, sB, sC]
          refine tk (i := 7) (h := ?_)
          try simp only [Act.put, sA, sB, sC]
          refine tk (i := 8) (h := ?_)
          try simp only [Act.put, sA, sB, sC]
          refine rd (i := 9) (h := fun K hK => ?_)
          go_simp
          refine hK.out _ _ ?_ (fun hHeld => ?_)
          · exact HS.out _ _ (st.new #[.int .i64 0, .int .i64 0] 34 (pair_dry _ _ (i64_dry _))) (st.newf hf _)
          clear hK K
          try simp only [Act.put, sA, sB, sC]
          obtain ⟨v4, hV⟩ : ∃ y, y = v3.alloc (.cells #[.int .i64 0, .int .i64 0] 34) := ⟨_, rfl⟩
          have hx_ : Ext v3 v4 := by rw [hV]; exact Ext.alloc _ _
          have hne5 := Nat.ne_of_lt (st.lt hf)
          have hner := Nat.ne_of_lt (st.lt hr)
          have hox := fun k hk => Nat.ne_of_lt (hon.lt k hk).2
          have hg := st.newg (#[.int .i64 0, .int .i64 0], 34)
          have hf := st.newf hf (#[.int .i64 0, .int .i64 0], 34)
          have hr := st.newf hr (#[.int .i64 0, .int .i64 0], 34)
          have st := st.new #[.int .i64 0, .int .i64 0] 34 (pair_dry _ _ (i64_dry _))
          rw [← hV] at st hHeld
          rw [← hV]
          have hon := hon.ext hx_
          try (have hli := hli.ext hx_)
          try (have hli2 := hli2.ext hx_)
          obtain ⟨g, hgw⟩ : ∃ g, g = v3.heap.size := ⟨_, rfl⟩
          rw [← hgw] at st hne5 hner hox hf hr hg
          rw [← hgw]
          clear hV hx_ hgw
          have q0_ := st.c0 hg
          have q1_ := st.c1 hg
          have qf_ := st.free hg
          have st2 := st.put2 hg (.int .i64 P) (.int .i64 Q) (i64_dry _) (i64_dry _)
          refine rd (i := 10) (h := fun K hK => ?_)
          go_simp
          refine hK.out _ _ ?_ (fun hHeld => ?_)
          · exact HS.out _ _ st2 ((Bx.other _ _ hne5).trans hf)
          clear hK K
          try simp only [Act.put, sA, sB, sC]
          refine tk (i := 11) (h := ?_)
          try simp only [Act.put, sA, sB, sC]
          refine wpAnyH_done (by kernel_rfl) ?_ _
          go_wp2_with fail
          go_meet
          exact ⟨g, P, Q, _, rfl, rfl, HQ, Lib.hid ⟨_, hner, st2, (Bx.other _ _ hne5).trans hf, (Bx.other _ _ hner).trans hr, Bx.same _ _ _⟩, Lib.hid (hon.put2' hox _ _)⟩
        refine AllReadyH.cons (o := ?_) ?_ (fun K hK => ?_) AllReadyH.nil
        rotate_left
        · simp only [gA, gB, gC]; rfl
        go_simp
        refine hK.out _ _ ?_ (fun hHeld => ?_)
        · exact HS.out _ _ (st.new #[.int .i64 0, .int .i64 0] 34 (pair_dry _ _ (i64_dry _))) (st.newf hf _)
        clear hK K
        try simp only [Act.put, sA, sB, sC]
        obtain ⟨v5, hV⟩ : ∃ y, y = v2.alloc (.cells #[.int .i64 0, .int .i64 0] 34) := ⟨_, rfl⟩
        have hx_ : Ext v2 v5 := by rw [hV]; exact Ext.alloc _ _
        have hne5 := Nat.ne_of_lt (st.lt hf)
        have hner := Nat.ne_of_lt (st.lt hr)
        have hox := fun k hk => Nat.ne_of_lt (hon.lt k hk).2
        have hg := st.newg (#[.int .i64 0, .int .i64 0], 34)
        have hf := st.newf hf (#[.int .i64 0, .int .i64 0], 34)
        have hr := st.newf hr (#[.int .i64 0, .int .i64 0], 34)
        have st := st.new #[.int .i64 0, .int .i64 0] 34 (pair_dry _ _ (i64_dry _))
        rw [← hV] at st hHeld
        rw [← hV]
        have hon := hon.ext hx_
        try (have hli := hli.ext hx_)
        try (have hli2 := hli2.ext hx_)
        obtain ⟨g, hgw⟩ : ∃ g, g = v2.heap.size := ⟨_, rfl⟩
        rw [← hgw] at st hne5 hner hox hf hr hg
        rw [← hgw]
        clear hV hx_ hgw
        refine rd (i := 5) (h := fun K hK => ?_)
        go_simp
        obtain ⟨P, Q, ok, hpq⟩ : ∃ P Q ok, ratOf x y = ((P, Q), ok) := ⟨_, _, _, rfl⟩; have HQ := Lib.hid (ratOf_den yb.1 yb.2 hpq); refine (s_RatOf x y _).mono ?_; rw [hpq]; clear hpq; rintro e v6 ⟨rfl, hx⟩; have st := st.ext hx; have hon := hon.ext hx; clear hx
        go_wp2_with fail
        refine hK.out _ _ ?_ (fun hHeld => ?_)
        · exact HS.out _ _ st hf
        clear hK K
        try simp only [Act.put, sA, sB, sC]
        refine tk (i := 6) (h := ?_)
        try simp only [Act.put, sA, sB, sC]
        refine tk (i := 7) (h := ?_)
        try simp only [Act.put, sA, sB, sC]
        refine tk (i := 8) (h := ?_)
        try simp only [Act.put, sA, sB, sC]
        have q0_ := st.c0 hg
        have q1_ := st.c1 hg
        have qf_ := st.free hg
        have st2 := st.put2 hg (.int .i64 P) (.int .i64 Q) (i64_dry _) (i64_dry _)
        refine rd (i := 10) (h := fun K hK => ?_)
        go_simp
        refine hK.out _ _ ?_ (fun hHeld => ?_)
        · exact HS.out _ _ st2 ((Bx.other _ _ hne5).trans hf)
        clear hK K
        try simp only [Act.put, sA, sB, sC]
        refine tk (i := 11) (h := ?_)
        try simp only [Act.put, sA, sB, sC]
        refine wpAnyH_done (by kernel_rfl) ?_ _
        go_wp2_with fail
        go_meet
        exact ⟨g, P, Q, _, rfl, rfl, HQ, Lib.hid ⟨_, hner, st2, (Bx.other _ _ hne5).trans hf, (Bx.other _ _ hner).trans hr, Bx.same _ _ _⟩, Lib.hid (hon.put2' hox _ _)⟩
      refine AllReadyH.cons (o := ?_) ?_ (fun K hK => ?_) AllReadyH.nil
      rotate_left
      · simp only [gA, gB, gC]; rfl
      go_simp
      refine hK.out _ _ ?_ (fun hHeld => ?_)
      · exact HS.out _ _ (st.new #[.int .i64 0, .int .i64 0] 34 (pair_dry _ _ (i64_dry _))) (st.newf hf _)
      clear hK K
      try simp only [Act.put, sA, sB, sC]
      obtain ⟨v7, hV⟩ : ∃ y, y = v1.alloc (.cells #[.int .i64 0, .int .i64 0] 34) := ⟨_, rfl⟩
      have hx_ : Ext v1 v7 := by rw [hV]; exact Ext.alloc _ _
      have hne5 := Nat.ne_of_lt (st.lt hf)
      have hner := Nat.ne_of_lt (st.lt hr)
      have hox := fun k hk => Nat.ne_of_lt (hon.lt k hk).2
      have hg := st.newg (#[.int .i64 0, .int .i64 0], 34)
      have hf := st.newf hf (#[.int .i64 0, .int .i64 0], 34)
      have hr := st.newf hr (#[.int .i64 0, .int .i64 0], 34)
      have st := st.new #[.int .i64 0, .int .i64 0] 34 (pair_dry _ _ (i64_dry _))
      rw [← hV] at st hHeld
      rw [← hV]
      have hon := hon.ext hx_
      try (have hli := hli.ext hx_)
      try (have hli2 := hli2.ext hx_)
      obtain ⟨g, hgw⟩ : ∃ g, g = v1.heap.size := ⟨_, rfl⟩
      rw [← hgw] at st hne5 hner hox hf hr hg
      rw [← hgw]
      clear hV hx_ hgw
      refine rd (i := 4) (h := fun K hK => ?_)
      go_simp
      refine (s_l1PickInt st.cur hli (by omega) hlia).mono ?_; rintro e v8 ⟨⟨q_, hq_, rfl⟩, hc_, hg_⟩; have st := st.call hc_ hg_; have hon := hon.calls hg_ hcb; obtain ⟨y, hy_⟩ : ∃ y, y = ([1, 1, 2, 3] : List Int)[q_]?.getD 0 := ⟨_, rfl⟩; have yb := pickG q_ hq_; rw [← hy_]; rw [← hy_] at yb; clear hy_ hq_ hc_ hg_ hli hlia
      go_wp2_with fail
      refine hK.out _ _ ?_ (fun hHeld => ?_)
      · exact HS.out _ _ st hf
      clear hK K
      try simp only [Act.put, sA, sB, sC]
      refine rd (i := 5) (h := fun K hK => ?_)
      go_simp
      obtain ⟨P, Q, ok, hpq⟩ : ∃ P Q ok, ratOf x y = ((P, Q), ok) := ⟨_, _, _, rfl⟩; have HQ := Lib.hid (ratOf_den yb.1 yb.2 hpq); refine (s_RatOf x y _).mono ?_; rw [hpq]; clear hpq; rintro e v9 ⟨rfl, hx⟩; have st := st.ext hx; have hon := hon.ext hx; clear hx
      go_wp2_with fail
      refine hK.out _ _ ?_ (fun hHeld => ?_)
      · exact HS.out _ _ st hf
      clear hK K
      try simp only [Act.put, sA, sB, sC]
      refine tk (i := 6) (h := ?_)
      try simp only [Act.put, sA, sB, sC]
      refine tk (i := 7) (h := ?_)
      try simp only [Act.put, sA, sB, sC]
      refine tk (i := 8) (h := ?_)
      try simp only [Act.put, sA, sB, sC]
      have q0_ := st.c0 hg
      have q1_ := st.c1 hg
      have qf_ := st.free hg
      have st2 := st.put2 hg (.int .i64 P) (.int .i64 Q) (i64_dry _) (i64_dry _)
      refine rd (i := 10) (h := fun K hK => ?_)
      go_simp
      refine hK.out _ _ ?_ (fun hHeld => ?_)
      · exact HS.out _ _ st2 ((Bx.other _ _ hne5).trans hf)
      clear hK K
      try simp only [Act.put, sA, sB, sC]
      refine tk (i := 11) (h := ?_)
      try simp only [Act.put, sA, sB, sC]
      refine wpAnyH_done (by kernel_rfl) ?_ _
      go_wp2_with fail
      go_meet
      exact ⟨g, P, Q, _, rfl, rfl, HQ, Lib.hid ⟨_, hner, st2, (Bx.other _ _ hne5).trans hf, (Bx.other _ _ hner).trans hr, Bx.same _ _ _⟩, Lib.hid (hon.put2' hox _ _)⟩
    refine AllReadyH.cons (o := ?_) ?_ (fun K hK => ?_) AllReadyH.nil
    rotate_left
    · simp only [gA, gB, gC]; rfl
    go_simp
    refine hK.out _ _ ?_ (fun hHeld => ?_)
    · exact HS.out _ _ (st.new #[.int .i64 0, .int .i64 0] 34 (pair_dry _ _ (i64_dry _))) (st.newf hf _)
    clear hK K
    try simp only [Act.put, sA, sB, sC]
    obtain ⟨v10, hV⟩ : ∃ y, y = wd.alloc (.cells #[.int .i64 0, .int .i64 0] 34) := ⟨_, rfl⟩
    have hx_ : Ext wd v10 := by rw [hV]; exact Ext.alloc _ _
    have hne5 := Nat.ne_of_lt (st.lt hf)
    have hner := Nat.ne_of_lt (st.lt hr)
    have hox := fun k hk => Nat.ne_of_lt (hon.lt k hk).2
    have hg := st.newg (#[.int .i64 0, .int .i64 0], 34)
    have hf := st.newf hf (#[.int .i64 0, .int .i64 0], 34)
    have hr := st.newf hr (#[.int .i64 0, .int .i64 0], 34)
    have st := st.new #[.int .i64 0, .int .i64 0] 34 (pair_dry _ _ (i64_dry _))
    rw [← hV] at st hHeld
    rw [← hV]
    have hon := hon.ext hx_
    try (have hli := hli.ext hx_)
    try (have hli2 := hli2.ext hx_)
    obtain ⟨g, hgw⟩ : ∃ g, g = wd.heap.size := ⟨_, rfl⟩
    rw [← hgw] at st hne5 hner hox hf hr hg
    rw [← hgw]
    clear hV hx_ hgw
    refine rd (i := 3) (h := fun K hK => ?_)
    go_simp
    refine hK.out _ _ ?_ (fun hHeld => ?_)
    · exact HS.out _ _ (st.ext (Ext.alloc _ _)) hf
    clear hK K
    try simp only [Act.put, sA, sB, sC]
    obtain ⟨v11, hV⟩ : ∃ y, y = v10.alloc (.cells #[.int .i64 1, .int .i64 1, .int .i64 2, .int .i64 3] 3) := ⟨_, rfl⟩
    have hlt_ := st.cur.lt
    have hx_ : Ext v10 v11 := by rw [hV]; exact Ext.alloc _ _
    have st := st.ext hx_
    have hon := hon.ext hx_
    try (have hli := hli.ext hx_)
    obtain ⟨lhli, hl_⟩ : ∃ g, g = v10.heap.size := ⟨_, rfl⟩
    have hli : Ints v11 (some ⟨lhli, 0, none⟩) 4 4 [1, 1, 2, 3] := by rw [hV, hl_]; exact Ints.lit v10 [1, 1, 2, 3] 3 (by decide)
    have hlia : ∀ b off, (some ⟨lhli, 0, none⟩ : Option Addr) = some ⟨b, off, none⟩ → b ≠ cb := fun b off e => by simp only [Option.some.injEq, Addr.mk.injEq, and_true] at e; omega
    rw [← hV] at hHeld
    rw [← hV, ← hl_]
    clear hV hx_ hl_ hlt_
    refine rd (i := 4) (h := fun K hK => ?_)
    go_simp
    refine (s_l1PickInt st.cur hli (by omega) hlia).mono ?_; rintro e v12 ⟨⟨q_, hq_, rfl⟩, hc_, hg_⟩; have st := st.call hc_ hg_; have hon := hon.calls hg_ hcb; obtain ⟨y, hy_⟩ : ∃ y, y = ([1, 1, 2, 3] : List Int)[q_]?.getD 0 := ⟨_, rfl⟩; have yb := pickG q_ hq_; rw [← hy_]; rw [← hy_] at yb; clear hy_ hq_ hc_ hg_ hli hlia
    go_wp2_with fail
    refine hK.out _ _ ?_ (fun hHeld => ?_)
    · exact HS.out _ _ st hf
    clear hK K
    try simp only [Act.put, sA, sB, sC]
    refine rd (i := 5) (h := fun K hK => ?_)
    go_simp
    obtain ⟨P, Q, ok, hpq⟩ : ∃ P Q ok, ratOf x y = ((P, Q), ok) := ⟨_, _, _, rfl⟩; have HQ := Lib.hid (ratOf_den yb.1 yb.2 hpq); refine (s_RatOf x y _).mono ?_; rw [hpq]; clear hpq; rintro e v13 ⟨rfl, hx⟩; have st := st.ext hx; have hon := hon.ext hx; clear hx
    go_wp2_with fail
    refine hK.out _ _ ?_ (fun hHeld => ?_)
    · exact HS.out _ _ st hf
    clear hK K
    try simp only [Act.put, sA, sB, sC]
    refine tk (i := 6) (h := ?_)
    try simp only [Act.put, sA, sB, sC]
    refine tk (i := 7) (h := ?_)
    try simp only [Act.put, sA, sB, sC]
    refine tk (i := 8) (h := ?_)
    try simp only [Act.put, sA, sB, sC]
    have q0_ := st.c0 hg
    have q1_ := st.c1 hg
    have qf_ := st.free hg
    have st2 := st.put2 hg (.int .i64 P) (.int .i64 Q) (i64_dry _) (i64_dry _)
    refine rd (i := 10) (h := fun K hK => ?_)
    go_simp
    refine hK.out _ _ ?_ (fun hHeld => ?_)
    · exact HS.out _ _ st2 ((Bx.other _ _ hne5).trans hf)
    clear hK K
    try simp only [Act.put, sA, sB, sC]
    refine tk (i := 11) (h := ?_)
    try simp only [Act.put, sA, sB, sC]
    refine wpAnyH_done (by kernel_rfl) ?_ _
    go_wp2_with fail
    go_meet
    exact ⟨g, P, Q, _, rfl, rfl, HQ, Lib.hid ⟨_, hner, st2, (Bx.other _ _ hne5).trans hf, (Bx.other _ _ hner).trans hr, Bx.same _ _ _⟩, Lib.hid (hon.put2' hox _ _)⟩
  obtain ⟨g, P, Q, ok, rfl, rfl, HQ, ⟨G, hgr, HB, HG5, HGR, HGG⟩, HO⟩ := hcut
  have HBH := Lib.hid HB
  have HGH := Lib.hid HG5
  have HGRH := Lib.hid HGR
  have HGGH := Lib.hid HGG
  have p1 := HB.c1 HG5
  have q0 := HB.c0 HGG
  have q1 := HB.c1 HGG
  have r0 := HB.c0 HGR
  have r1 := HB.c1 HGR
  have rf := HB.free HGR
  have hBd := HB.ext (Ext.drew wc)
  have hOd := HO.out.ext (Ext.drew wc)
  have HS := Lib.hid (fun (w' : World) (G' : Bx) (h : Bxs w w' cb G') (hf : G' b5 = some (#[.int .i64 x, .slice b m c], 61)) (hg : G' g = some (#[.int .i64 P, .int .i64 Q], 34)) => (⟨h.c1 hf, h.c0 hg, h.c1 hg⟩ : w'.cell? ⟨b5, 1, none⟩ = some (.slice b m c) ∧ w'.cell? ⟨g, 0, none⟩ = some (.int .i64 P) ∧ w'.cell? ⟨g, 1, none⟩ = some (.int .i64 Q)))
  go_wp2_with fail
  refine wp_region_held_drew (S := (fun w' => w'.cell? ⟨b5, 1, none⟩ = some (.slice b m c) ∧ w'.cell? ⟨g, 0, none⟩ = some (.int .i64 P) ∧ w'.cell? ⟨g, 1, none⟩ = some (.int .i64 Q))) (by kernel_rfl) ?_ (fun hHeld => ?_)
  · exact HS.out _ _ hBd HG5 HGG
  obtain ⟨wd, hwd⟩ : ∃ y, y = wc.drew := ⟨_, rfl⟩
  rw [← hwd] at hBd hOd hHeld
  rw [← hwd]
  clear hwd p1 q0 q1 r0 r1 rf
  have r0 := hBd.c0 HGR
  have r1 := hBd.c1 HGR
  have rf := hBd.free HGR
  refine tk (i := 0) (h := ?_)
  try simp only [Act.put, sA, sB, sC]
  refine tk (i := 1) (h := ?_)
  try simp only [Act.put, sA, sB, sC]
  refine tk (i := 3) (h := ?_)
  try simp only [Act.put, sA, sB, sC]
  refine tk (i := 2) (h := ?_)
  try simp only [Act.put, sA, sB, sC]
  have HB2 := Lib.hid (hBd.put2 HGR (.int .i64 P) (.int .i64 Q) (i64_dry _) (i64_dry _))
  have HO2 := Lib.hid (hOd.put2 (show w.heap.size < w1.heap.size by omega) (.int .i64 P) (.int .i64 Q))
  refine rd (i := 4) (h := fun K hK => ?_)
  go_simp
  refine hK.out _ _ ?_ (fun hHeld => ?_)
  · exact HS.out _ _ HB2.out ((Bx.other _ _ (Ne.symm hn5)).trans HG5) ((Bx.other _ _ (Ne.symm hgr)).trans HGG)
  clear hK K
  try simp only [Act.put, sA, sB, sC]
  refine wpAnyH_done (by kernel_rfl) ?_ _
  have z0 := HB2.out.c0 (Bx.same _ _ _)
  have z1 := HB2.out.c1 (Bx.same _ _ _)
  have HX2 := Lib.hid (HB2.out.all (by omega))
  go_wp2_with fail
  refine bodyPost_ret (v := .tuple #[.slice b m c, .agg #[.int .i64 P, .int .i64 Q]]) (by simp [results, Try.results32, go_sem, z0, z1]) rfl ⟨⟨b, m, c, L, P, Q, rfl, HO2.out.ints, hm, HFEW.out, HQ.out⟩, HX2.out⟩
set_option maxHeartbeats 4000000 in
theorem s_DrawProportionalShares {w : World} {a : Option Addr} {n cap : Nat} (h : Bytes w a n cap) (hn : n ≤ 1048576) :
    Calls Try.prog 40 #[.slice a n cap] w fun e w' => (∃ (x : Int) (b : Option Addr) (m c : Nat) (L : List Int), e = .returned (.agg #[.int .i64 x, .slice b m c]) ∧ Ints w' b m c L ∧ m ≤ 3) ∧ Ext w w' := by
  obtain ⟨W, hW⟩ : ∃ W, W = w.alloc (.cells #[.int .i64 0, .slice none 0 0] 61) := ⟨_, rfl⟩
  have hws : W.heap.size = w.heap.size + 1 := by rw [hW]; simp
  have hX : Ext w W := by rw [hW]; exact Ext.alloc _ _
  have HR2 := Lib.hid (show W.heap[w.heap.size]? = some (.cells #[.int .i64 0, .slice none 0 0] 61 (0, 0)) by rw [hW]; exact heapA_new _ _ _ rfl)
  have HX := Lib.hid hX
  have HN := Lib.hid (s_l1New (h.ext hX) hn)
  clear h hX
  go_enter Try.func40, Try.ntmps40
  go_wp2_with fail
  rw [← hW]
  refine HN.out.mono ?_
  rintro e w1 ⟨⟨cb, rfl, hcb, hc⟩, hx⟩
  have hs1 := hx.size
  have hcl := hc.lt
  have HB1 := Lib.hid ((Bxs.start hc (grown_ext (some cb) (HX.out.trans hx))).add w.heap.size _ _ ((hx.block _ (by omega)).trans HR2.out) (by omega) (by omega) (pair_dry _ _ (slice_dry _ _ _)))
  clear hc hx HR2 hW
  go_wp2_with fail
  refine (s_l18Bent HB1.out.cur).mono ?_
  rintro e w2 ⟨⟨x, b, m, c, L, rfl, ho, hm, hfew, hx0, hx1⟩, hc, hg⟩
  have HB2 := Lib.hid (HB1.out.call hc hg)
  have r0 := HB2.out.c0 (Bx.same _ _ _)
  have r1 := HB2.out.c1 (Bx.same _ _ _)
  have rf := HB2.out.free (b := w.heap.size) (Bx.same _ _ _)
  have HB3 := Lib.hid (HB2.out.put2 (Bx.same _ _ _) (.int .i64 x) (.slice b m c) (i64_dry _) (slice_dry _ _ _))
  have HO3 := Lib.hid (ho.put2 (show w.heap.size < w1.heap.size by omega) (.int .i64 x) (.slice b m c))
  have z0 := HB3.out.c0 (Bx.same _ _ _)
  have z1 := HB3.out.c1 (Bx.same _ _ _)
  have HX3 := Lib.hid (HB3.out.all (by omega))
  clear hc hg ho
  go_wp2_with fail
  refine bodyPost_ret (v := .agg #[.int .i64 x, .slice b m c]) (by simp [results, Try.results40, go_sem, z0, z1]) rfl ⟨⟨x, b, m, c, L, rfl, HO3.out.ints, hm⟩, HX3.out⟩
end Go.Proofs.Ytgohdmnbnhehnaa
