/- FnExactAllOrders answers true, whatever the number: the walk. -/
import Derived.Test.YtdlkeeimhkgggaaOrders2
namespace Go.Proofs.Ytdlkeeimhkgggaa
set_option linter.unusedVariables false
open Go.RowKit

theorem ordersF_row (n : Nat) : ∀ (f : Nat) (p l : List Int), l ∈ ordersF f n p → l.length = p.length + f
  | 0, p, l, h => by simp only [ordersF, List.mem_singleton] at h; rw [h]; rfl
  | f + 1, p, l, h => by
    simp only [ordersF, List.mem_flatMap] at h
    obtain ⟨k, _, hk⟩ := h
    split at hk
    · simp at hk
    · have := ordersF_row n f _ l hk
      simp at this; omega
theorem cnt_le (b : Nat) : ∀ L : List (List Int), (∀ l ∈ L, l.length ≤ b) → cnt L ≤ (L.length * b : Nat)
  | [], _ => by simp [cnt]
  | l :: L, h => by
    have h1 := cnt_le b L fun x hx => h x (List.mem_cons_of_mem _ hx)
    have h2 := h l List.mem_cons_self
    simp only [cnt, List.map_cons, List.sum_cons, List.length_cons, Nat.succ_mul] at *
    omega
theorem ordersOf_cnt (x : Int) : cnt (ordersOf x) ≤ 1000000 := by
  unfold ordersOf
  split
  · rename_i h
    have h1 := ordersF_len x.toNat (by omega) x.toNat []
    have h5 : 5 ^ x.toNat ≤ 5 ^ 5 := Nat.pow_le_pow_right (by omega) (by omega)
    have h2 := cnt_le 5 (ordersF x.toNat x.toNat []) fun l hl => by have := ordersF_row _ _ _ _ hl; simp at this; omega
    have h3 : (ordersF x.toNat x.toNat []).length * 5 ≤ 5 ^ 5 * 5 := Nat.mul_le_mul_right _ (by omega)
    omega
  · simp [cnt]

set_option maxHeartbeats 1000000 in
theorem l_FnExactAllOrders (x : Int) (w : World) : Calls Try.prog 6 #[.int .i64 x] w fun e w' => e = .returned (.bool true) ∧ Ext w w' := by
  have hc := ordersOf_cnt x
  have hc0 := cnt_nonneg (ordersOf x)
  go_enter Try.func6, Try.ntmps6
  go_wp2_with fail
  refine (s_AllOrders x w).mono ?_
  rintro e w1 ⟨v0, rfl, h0, hx1⟩
  obtain ⟨a0, n0, c0, rfl, N0⟩ := h0.var
  have H0 := Lib.hid h0
  have X1 := Lib.hid hx1
  clear h0 hx1
  go_wp2_with fail
  refine (i_AllOrders x w1).mono ?_
  rintro e w2 ⟨v1, rfl, h1, hx2⟩
  obtain ⟨a1, n1, c1, rfl, N1⟩ := h1.var
  have H1 := Lib.hid h1
  have X2 := Lib.hid hx2
  clear h1 hx2
  have HE := Lib.hid (l_eqIntSS H1.out.intss (H0.out.ext X2.out).intss)
  rw [decide_eq_true rfl] at HE
  go_wp2_with fail
  refine HE.out.mono ?_
  rintro e w3 ⟨rfl, hx3⟩
  have X3 := Lib.hid hx3.ext
  clear hx3
  go_wp2_with fail
  refine (l_markIntSS (H1.out.ext X3.out) 1 (by omega) (by omega)).mono ?_
  rintro e w4 ⟨rfl, h4, hb4, hs4⟩
  have H4 := Lib.hid h4
  have B4 := Lib.hid hb4
  clear h4 hb4 hs4
  have X4 := Lib.hid ((X2.out.trans X3.out).trans_below B4.out)
  go_wp2_with fail
  refine (l_heldIntSS 1 H4.out.intss (by omega) (by omega)).mono ?_
  rintro e w5 ⟨rfl, rfl⟩
  have hlt : ¬ (1 + cnt (ordersOf x) < 0) := by omega
  have hne : ((1 + cnt (ordersOf x)) != (1 + cnt (ordersOf x))) = false := by simp
  go_wp2_with fail
  refine (i_AllOrders x w4).mono ?_
  rintro e w6 ⟨v2, rfl, h2, hx6⟩
  obtain ⟨a2, n2, c2, rfl, N2⟩ := h2.var
  have H2 := Lib.hid h2
  have X6 := Lib.hid hx6
  clear h2 hx6
  have HE2 := Lib.hid (l_eqIntSS H2.out.intss (H0.out.ext (X4.out.trans X6.out)).intss)
  rw [decide_eq_true rfl] at HE2
  go_wp2_with fail
  refine HE2.out.mono ?_
  rintro e w7 ⟨rfl, hx7⟩
  have X7 := Lib.hid hx7.ext
  clear hx7
  go_wp2_with fail
  refine (l_heldIntSS 1 (H4.out.ext (X6.out.trans X7.out)).intss (by omega) (by omega)).mono ?_
  rintro e w8 ⟨rfl, rfl⟩
  go_wp2
  go_ret
  exact ⟨rfl, ((X1.out.trans X4.out).trans X6.out).trans X7.out⟩

end Go.Proofs.Ytdlkeeimhkgggaa
