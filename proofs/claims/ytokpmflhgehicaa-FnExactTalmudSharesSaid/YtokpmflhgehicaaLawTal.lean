/- FnExactTalmudShares answers true, whatever the arguments: the walk. -/
import Derived.Test.YtokpmflhgehicaaMarkC
import Derived.Test.YtokpmflhgehicaaTal
namespace Go.Proofs.Ytokpmflhgehicaa
set_option linter.unusedVariables false
open Go.RowKit

set_option maxHeartbeats 2000000 in
theorem l_FnExactTalmudShares {w : World} {x : Int} {a : Option Addr} {n cap : Nat} {l : List Int} (h : Ints w a n cap l) :
    Calls Try.prog 11 #[pair x a n cap] w fun e w' => e = .returned (.bool true) ∧ Ext w w' := by
  have hm : n ≤ 9223372036854775807 := Nat.le_trans h.hcap h.hmax
  have hz := szF_le 1048576 n (by omega) (by omega)
  have h1 := h.alloc (.cells #[.int .i64 x, .slice a n cap] 36)
  have HX := Lib.hid (Ext.alloc w (.cells #[.int .i64 x, .slice a n cap] 36))
  by_cases hlt : szF 1048576 n < 0
  · go_enter Try.func11, Try.ntmps11
    go_wp2_with fail
    refine (l_szClaims _ _ _ _ _ _ (by omega) (by omega) hm).mono ?_
    rintro e w1 ⟨rfl, hx⟩
    have HX1 := Lib.hid (HX.out.trans hx)
    clear hx
    go_wp2
    go_ret
    exact ⟨rfl, HX1.out⟩
  · have hb : n ≤ 1048576 := by omega
    have hlen := talL_len x l
    have HL := Lib.hid h.hlen
    go_enter Try.func11, Try.ntmps11
    go_wp2_with fail
    refine (l_szClaims _ _ _ _ _ _ (by omega) (by omega) hm).mono ?_
    rintro e w1 ⟨rfl, hx⟩
    have c0 : w1.cell? ⟨w.heap.size, 0, none⟩ = some (.int .i64 x) := hx.cellSome (by simp)
    have c1 : w1.cell? ⟨w.heap.size, 1, none⟩ = some (.slice a n cap) := hx.cellSome (by simp)
    have HX1 := Lib.hid (HX.out.trans hx)
    have h2 := h1.ext hx
    clear hx h1 h hz
    -- the reference's answer
    go_wp2_with fail
    refine (l_toClaims h2 (by omega)).mono ?_
    rintro e w2 ⟨b, rfl, hrow, hbb, hx⟩
    have X12 := Lib.hid hx
    clear hx
    go_wp2_with fail
    refine (s_TalmudShares (hrow.ints HL.out (Nat.le_refl _) hm)).mono ?_
    rintro e w3 ⟨⟨v0, rfl, ho⟩, hx⟩
    obtain ⟨a0, n0, p0, rfl, N0⟩ := ho.var
    have X13 := Lib.hid (X12.out.trans hx)
    have O0 := Lib.hid ho
    have c0' := X13.out.cellSome c0
    have c1' := X13.out.cellSome c1
    have c0'' := Lib.hid c0'
    have c1'' := Lib.hid c1'
    have HX3 := Lib.hid (HX1.out.trans X13.out)
    have H3 := Lib.hid (h2.ext X13.out)
    clear hx ho hrow hbb c0 c1 h2
    -- the program's answer
    go_wp2_with fail
    refine (l_toClaims H3.out (by omega)).mono ?_
    rintro e w4 ⟨b2, rfl, hrow, hbb, hx⟩
    have c0 := hx.cellSome c0'
    have c1 := hx.cellSome c1'
    have X34 := Lib.hid hx
    have hlt4 : w.heap.size < w4.heap.size := World.block_lt_of_cell? _ _ c0
    have hlt3 : w.heap.size < w3.heap.size := World.block_lt_of_cell? _ _ c0'
    have B2 := Lib.hid hbb
    have L2 := Lib.hid hrow.lt
    have R2 := Lib.hid ((hrow.own hbb HL.out (by omega)).ext (Ext.alloc _ (.cells #[.int .i64 x, .slice (some ⟨b2, 0, none⟩) n n] 40)))
    have HI := Lib.hid (i_TalmudShares (x := x) R2.out.ints)
    clear hx hrow hbb c0' c1'
    go_wp2_with fail
    refine HI.out.mono ?_
    rintro e w5 ⟨⟨v1, rfl, ho⟩, hx⟩
    obtain ⟨a1, n1, p1, rfl, N1⟩ := ho.var
    have c0' : w5.cell? ⟨w.heap.size, 0, none⟩ = some (.int .i64 x) := hx.cellSome ((Ext.alloc _ _).cellSome c0)
    have c1' : w5.cell? ⟨w.heap.size, 1, none⟩ = some (.slice a n cap) := hx.cellSome ((Ext.alloc _ _).cellSome c1)
    have d0 : w5.cell? ⟨w4.heap.size, 0, none⟩ = some (.int .i64 x) := hx.cellSome (by simp)
    have d1 : w5.cell? ⟨w4.heap.size, 1, none⟩ = some (.slice (some ⟨b2, 0, none⟩) n n) := hx.cellSome (by simp)
    have X35 := Lib.hid ((X34.out.trans (Ext.alloc _ _)).trans hx)
    have R3 := Lib.hid (R2.out.ext hx)
    have O1 := Lib.hid ho
    clear ho hx c0 c1
    -- they are equal
    have HE := Lib.hid (l_eqRatS O1.out.rats (O0.out.ext X35.out).rats)
    rw [decide_eq_true rfl] at HE
    go_wp2_with fail
    refine HE.out.mono ?_
    rintro e w6 ⟨rfl, hx⟩
    have c0 := hx.cellSome c0'
    have c1 := hx.cellSome c1'
    have d0' := hx.cellSome d0
    have d1' := hx.cellSome d1
    have X36 := Lib.hid (X35.out.trans hx)
    have R4 := Lib.hid (R3.out.ext hx)
    have O2 := Lib.hid (O1.out.ext hx)
    clear hx c0' c1' d0 d1
    -- the argument is as before
    go_wp2_with fail
    have hk : Ext w6 w6.drew := Ext.drew w6
    have H6 := Lib.hid ((H3.out.ext X36.out).ext hk)
    have R5 := Lib.hid (R4.out.ext hk)
    go_region_held3 (fun w' => w'.cell? ⟨w.heap.size, 0, none⟩ = some (.int .i64 x) ∧ w'.cell? ⟨w.heap.size, 1, none⟩ = some (.slice a n cap) ∧ w'.cell? ⟨w4.heap.size, 0, none⟩ = some (.int .i64 x) ∧ w'.cell? ⟨w4.heap.size, 1, none⟩ = some (.slice (some ⟨b2, 0, none⟩) n n) ∧ Ext w6 w')
      (exact ⟨hk.cellSome c0, hk.cellSome c1, hk.cellSome d0', hk.cellSome d1', hk⟩)
      (first
        | (go_at_call 21; refine (l_toClaims H6.out (by omega)).mono ?_; rintro e w7 ⟨b3, rfl, hrow, hbb, hx6⟩; have hk := hk.trans hx6)
        | (go_at_call 24; refine (l_eqClaims (R5.out.ext hx6).ints (hrow.ints HL.out (Nat.le_refl _) hm)).mono ?_; rintro e w8 ⟨rfl, hx7⟩; have hk := hk.trans hx7))
    have c0 := hk.cellSome c0
    have c1 := hk.cellSome c1
    have d0 := hk.cellSome d0'
    have d1 := hk.cellSome d1'
    have X37 := Lib.hid (X36.out.trans hk)
    have R6 := Lib.hid (R4.out.ext hk)
    have O3 := Lib.hid (O2.out.ext hk)
    clear hk d0' d1' H6 R5
    -- the argument is marked
    go_wp2_with fail
    refine (l_markClaims (x := x) R6.out 1 (by omega) (by omega)).mono ?_
    rintro e w10 ⟨rfl, _, hg⟩
    have X310 := Lib.hid (ext_grown X37.out hg fun k hk => by have := Option.some.inj (show some b2 = some k from hk); have := B2.out; omega)
    have O4 := Lib.hid (O3.out.keep fun k hk => hg.block k (O3.out.lt k hk).2 fun e => by have h1 := (O3.out.lt k hk).1; have := Option.some.inj (show some k = some b2 from e); have := L2.out; simp at h1; omega)
    have c0 := X310.out.cellSome c0''.out
    have c1 := X310.out.cellSome c1''.out
    clear hg d0 d1
    have HE := Lib.hid (l_eqRatS O4.out.rats (O0.out.ext X310.out).rats)
    rw [decide_eq_true rfl] at HE
    have hn1 : n1 ≤ 1048576 := by have := N1.out; omega
    have hneg : ¬ (1 + (n : Int) < 0) := by omega
    go_wp2_with fail
    refine HE.out.mono ?_
    rintro e w11 ⟨rfl, hx⟩
    have c0' := hx.cellSome c0
    have c1' := hx.cellSome c1
    have X311 := Lib.hid (X310.out.trans hx)
    have O5 := Lib.hid (O4.out.ext hx)
    clear hx c0 c1
    -- the answer is marked
    go_wp2_with fail
    refine (l_markRatS O5.out 1 (by omega) (by omega)).mono ?_
    rintro e w12 ⟨rfl, ho, hg, _⟩
    have X312 := Lib.hid (ext_grown X311.out hg fun k hk => by have h1 := (O5.out.lt k hk).1; have := L2.out; have := B2.out; simp at h1; omega)
    have O6 := Lib.hid ho
    have c0 := X312.out.cellSome c0''.out
    have c1 := X312.out.cellSome c1''.out
    clear ho hg c0' c1'
    have hneg1 : ¬ (1 + 2 * (n1 : Int) < 0) := by omega
    have hne : ((1 + 2 * (n1 : Int)) != (1 + 2 * (n1 : Int))) = false := by simp
    go_wp2_with fail
    refine (l_heldRatS 1 O6.out.rats (by omega) (by omega)).mono ?_
    rintro e w13 ⟨rfl, rfl⟩
    -- once more
    have H12 := Lib.hid (H3.out.ext X312.out)
    go_wp2_with fail
    refine (l_toClaims H12.out (by omega)).mono ?_
    rintro e w14 ⟨b4, rfl, hrow, hbb, hx⟩
    have X314 := Lib.hid (X312.out.trans hx)
    have O7 := Lib.hid (O6.out.ext hx)
    have R7 := Lib.hid (hrow.ints HL.out (Nat.le_refl _) hm)
    clear hx hrow hbb
    go_wp2_with fail
    refine (i_TalmudShares R7.out).mono ?_
    rintro e w15 ⟨⟨v2, rfl, ho⟩, hx⟩
    obtain ⟨a2, n2, p2, rfl, N2⟩ := ho.var
    have X315 := Lib.hid (X314.out.trans hx)
    have O8 := Lib.hid (O7.out.ext hx)
    have O9 := Lib.hid ho
    clear ho hx
    have HE := Lib.hid (l_eqRatS O9.out.rats (O0.out.ext X315.out).rats)
    rw [decide_eq_true rfl] at HE
    go_wp2_with fail
    refine HE.out.mono ?_
    rintro e w16 ⟨rfl, hx⟩
    have X316 := Lib.hid (X315.out.trans hx)
    have O10 := Lib.hid (O8.out.ext hx)
    clear hx
    go_wp2_with fail
    refine (l_heldRatS 1 O10.out.rats (by omega) (by omega)).mono ?_
    rintro e w17 ⟨rfl, rfl⟩
    go_wp2
    go_ret
    exact ⟨rfl, HX3.out.trans X316.out⟩

end Go.Proofs.Ytokpmflhgehicaa
