/- FnExactIsValidMarket answers true, whatever the market: the walk. -/
import Derived.Test.YtdlkeeimhkgggaaMarket
namespace Go.Proofs.Ytdlkeeimhkgggaa
set_option linter.unusedVariables false
open Go.RowKit

set_option maxHeartbeats 1000000 in
theorem l_FnExactIsValidMarket {w : World} {x y : Int} {a : Option Addr} {n cap : Nat} {L : List (List Int)} (h : IntSS w a n cap L) :
    Calls Try.prog 5 #[triple x y a n cap] w fun e w' => e = .returned (.bool true) ∧ Ext w w' := by
  have HL := Lib.hid h.hlen
  have h1 := h.alloc (.cells #[.int .i64 x, .int .i64 y, .slice a n cap] 41)
  have HX := Lib.hid (Ext.alloc w (.cells #[.int .i64 x, .int .i64 y, .slice a n cap] 41))
  by_cases hlt : szSS 1048576 L < 0
  · go_enter Try.func5, Try.ntmps5
    go_wp2_with fail
    refine (l_szMarket _ _ _ h1 (by omega) (by omega)).mono ?_
    rintro e w1 ⟨rfl, hx⟩
    have HX1 := Lib.hid (HX.out.trans hx)
    clear hx
    go_wp2
    go_ret
    exact ⟨rfl, HX1.out⟩
  · have hsz := szSS_le (L := L) (by omega)
    have hb : n ≤ 1099511627776 := by rw [← HL.out]; omega
    have HBB := Lib.hid (show ∀ l ∈ L, l.length ≤ 1099511627776 from fun l hl => by have := hsz.2 l hl; omega)
    have HB := Lib.hid hb
    clear hsz hb
    go_enter Try.func5, Try.ntmps5
    go_wp2_with fail
    refine (l_szMarket _ _ _ h1 (by omega) (by omega)).mono ?_
    rintro e w1 ⟨rfl, hx⟩
    have c0 : w1.cell? ⟨w.heap.size, 0, none⟩ = some (.int .i64 x) := hx.cellSome (by simp)
    have c1 : w1.cell? ⟨w.heap.size, 1, none⟩ = some (.int .i64 y) := hx.cellSome (by simp)
    have c2 : w1.cell? ⟨w.heap.size, 2, none⟩ = some (.slice a n cap) := hx.cellSome (by simp)
    have HX1 := Lib.hid (HX.out.trans hx)
    have h2 := h1.ext hx
    clear hx
    go_wp2_with fail
    refine (l_toMarket h2 HB.out HBB.out).mono ?_
    rintro e w2 ⟨b, rfl, hon, hx⟩
    have c0' := hx.cellSome c0
    have c1' := hx.cellSome c1
    have c2' := hx.cellSome c2
    have HX2 := Lib.hid (HX1.out.trans hx)
    have h3 := h2.ext hx
    have hon' := hon.here
    clear hx c0 c1 c2 h1 h2 hon
    go_wp2_with fail
    refine (s_IsValidMarket hon').mono ?_
    rintro e w3 ⟨rfl, hx⟩
    have c0 := hx.cellSome c0'
    have c1 := hx.cellSome c1'
    have c2 := hx.cellSome c2'
    have HX3 := Lib.hid (HX2.out.trans hx)
    have h4 := h3.ext hx
    clear hx c0' c1' c2' hon' h3
    go_wp2_with fail
    refine (l_toMarket h4 HB.out HBB.out).mono ?_
    rintro e w4 ⟨b2, rfl, hon, hx⟩
    have c0' := hx.cellSome c0
    have c1' := hx.cellSome c1
    have c2' := hx.cellSome c2
    have HX4 := Lib.hid (HX3.out.trans hx)
    have h5 := h4.ext hx
    clear hx c0 c1 c2 h4
    have r2 := hon.here.alloc (.cells #[.int .i64 x, .int .i64 y, .slice (some ⟨b2, 0, none⟩) n n] 44)
    clear hon
    go_wp2_with fail
    refine (i_IsValidMarket r2).mono ?_
    rintro e w5 ⟨rfl, hx⟩
    have c0 := hx.cellSome ((Ext.alloc _ _).cellSome c0')
    have c1 := hx.cellSome ((Ext.alloc _ _).cellSome c1')
    have c2 := hx.cellSome ((Ext.alloc _ _).cellSome c2')
    have d0 : w5.cell? ⟨w4.heap.size, 0, none⟩ = some (.int .i64 x) := hx.cellSome (by simp)
    have d1 : w5.cell? ⟨w4.heap.size, 1, none⟩ = some (.int .i64 y) := hx.cellSome (by simp)
    have d2 : w5.cell? ⟨w4.heap.size, 2, none⟩ = some (.slice (some ⟨b2, 0, none⟩) n n) := hx.cellSome (by simp)
    have HX5 := Lib.hid ((HX4.out.trans (Ext.alloc _ _)).trans hx)
    have h6 := (h5.alloc (.cells #[.int .i64 x, .int .i64 y, .slice (some ⟨b2, 0, none⟩) n n] 44)).ext hx
    have r3 := r2.ext hx
    clear hx c0' c1' c2' h5 r2
    clear h
    go_wp2_with fail
    have r4 := r3.ext (below_drewN (Ext.refl w5) 1)
    have hk : Ext w5 w5.drew := below_drewN (Ext.refl _) 1
    go_region_held3 (fun w' => w'.cell? ⟨w.heap.size, 0, none⟩ = some (.int .i64 x) ∧ w'.cell? ⟨w.heap.size, 1, none⟩ = some (.int .i64 y) ∧ w'.cell? ⟨w.heap.size, 2, none⟩ = some (.slice a n cap) ∧ w'.cell? ⟨w4.heap.size, 0, none⟩ = some (.int .i64 x) ∧ w'.cell? ⟨w4.heap.size, 1, none⟩ = some (.int .i64 y) ∧ w'.cell? ⟨w4.heap.size, 2, none⟩ = some (.slice (some ⟨b2, 0, none⟩) n n) ∧ Ext w5 w')
      (exact ⟨hk.cellSome c0, hk.cellSome c1, hk.cellSome c2, hk.cellSome d0, hk.cellSome d1, hk.cellSome d2, hk⟩)
      (first
        | (go_at_call 21; refine (l_toMarket (h6.drewN 1) HB.out HBB.out).mono ?_; rintro e w6 ⟨b3, rfl, hon, hx6⟩; have hon' := hon.here; have hk := hk.trans hx6)
        | (go_at_call 23; refine (l_eqMarket (r4.ext hx6) hon').mono ?_; rintro e w7 ⟨rfl, hx7⟩; have hk := hk.trans hx7))
    go_wp2
    go_ret
    exact ⟨rfl, HX5.out.trans hk⟩

end Go.Proofs.Ytdlkeeimhkgggaa
