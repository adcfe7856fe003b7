/- FnExactIsDictator answers true, whatever the claims: the walk. -/
import Derived.Test.YtdlkeeimhkgggaaDictator
namespace Go.Proofs.Ytdlkeeimhkgggaa
set_option linter.unusedVariables false
open Go.RowKit

set_option maxHeartbeats 1000000 in
theorem l_FnExactIsDictator {w : World} {x k : Int} {a : Option Addr} {n cap : Nat} {l : List Int} (h : Ints w a n cap l) :
    Calls Try.prog 8 #[pair x a n cap, .int .i64 k] w fun e w' => e = .returned (.bool true) ∧ Ext w w' := by
  have hm : n ≤ 9223372036854775807 := Nat.le_trans h.hcap h.hmax
  have hz := szF_le 1048576 n (by omega) (by omega)
  have h1 := h.alloc (.cells #[.int .i64 x, .slice a n cap] 32)
  have HX := Lib.hid (Ext.alloc w (.cells #[.int .i64 x, .slice a n cap] 32))
  by_cases hlt : szF 1048576 n < 0
  · go_enter Try.func8, Try.ntmps8
    go_wp2_with fail
    refine (l_szVoting _ _ _ _ _ _ (by omega) (by omega) hm).mono ?_
    rintro e w1 ⟨rfl, hx⟩
    have HX1 := Lib.hid (HX.out.trans hx)
    clear hx
    go_wp2
    go_ret
    exact ⟨rfl, HX1.out⟩
  · have hb : n ≤ 1099511627776 := by omega
    go_enter Try.func8, Try.ntmps8
    go_wp2_with fail
    refine (l_szVoting _ _ _ _ _ _ (by omega) (by omega) hm).mono ?_
    rintro e w1 ⟨rfl, hx⟩
    have c0 : w1.cell? ⟨w.heap.size, 0, none⟩ = some (.int .i64 x) := hx.cellSome (by simp)
    have c1 : w1.cell? ⟨w.heap.size, 1, none⟩ = some (.slice a n cap) := hx.cellSome (by simp)
    have HX1 := Lib.hid (HX.out.trans hx)
    have h2 := h1.ext hx
    clear hx
    go_wp2_with fail
    refine (l_toVoting h2 hb).mono ?_
    rintro e w2 ⟨b, rfl, hrow, hbb, hx⟩
    have c0' := hx.cellSome c0
    have c1' := hx.cellSome c1
    have HX2 := Lib.hid (HX1.out.trans hx)
    have h3 := h2.ext hx
    clear hx c0 c1 h1 h2
    go_wp2_with fail
    refine (s_IsDictator (k := k) (hrow.ints h.hlen (Nat.le_refl _) hm)).mono ?_
    rintro e w3 ⟨rfl, hx⟩
    have c0 := hx.cellSome c0'
    have c1 := hx.cellSome c1'
    have HX3 := Lib.hid (HX2.out.trans hx)
    have h4 := h3.ext hx
    clear hx c0' c1' hrow hbb h3
    go_wp2_with fail
    refine (l_toVoting h4 hb).mono ?_
    rintro e w4 ⟨b2, rfl, hrow, hbb, hx⟩
    have c0' := hx.cellSome c0
    have c1' := hx.cellSome c1
    have HX4 := Lib.hid (HX3.out.trans hx)
    have h5 := h4.ext hx
    have hlt4 : w.heap.size < w4.heap.size := World.block_lt_of_cell? _ _ c0'
    clear hx c0 c1 h4
    have r2 := (hrow.ints h.hlen (Nat.le_refl _) hm).alloc (.cells #[.int .i64 x, .slice (some ⟨b2, 0, none⟩) n n] 35)
    clear hrow hbb
    go_wp2_with fail
    refine (i_IsDictator (k := k) r2).mono ?_
    rintro e w5 ⟨rfl, hx⟩
    have c0 : w5.cell? ⟨w.heap.size, 0, none⟩ = some (.int .i64 x) := hx.cellSome ((Ext.alloc _ _).cellSome c0')
    have c1 : w5.cell? ⟨w.heap.size, 1, none⟩ = some (.slice a n cap) := hx.cellSome ((Ext.alloc _ _).cellSome c1')
    have d0 : w5.cell? ⟨w4.heap.size, 0, none⟩ = some (.int .i64 x) := hx.cellSome (by simp)
    have d1 : w5.cell? ⟨w4.heap.size, 1, none⟩ = some (.slice (some ⟨b2, 0, none⟩) n n) := hx.cellSome (by simp)
    have HX5 := Lib.hid ((HX4.out.trans (Ext.alloc _ _)).trans hx)
    have h6 := (h5.alloc (.cells #[.int .i64 x, .slice (some ⟨b2, 0, none⟩) n n] 35)).ext hx
    have r3 := r2.ext hx
    clear hx c0' c1' h5 r2 hlt4
    have HM := Lib.hid hm
    have HB := Lib.hid hb
    have HL := Lib.hid h.hlen
    clear hm hb hz h
    go_wp2_with fail
    have r4 := r3.ext (below_drewN (Ext.refl w5) 1)
    have hk : Ext w5 w5.drew := below_drewN (Ext.refl _) 1
    go_region_held3 (fun w' => w'.cell? ⟨w.heap.size, 0, none⟩ = some (.int .i64 x) ∧ w'.cell? ⟨w.heap.size, 1, none⟩ = some (.slice a n cap) ∧ w'.cell? ⟨w4.heap.size, 0, none⟩ = some (.int .i64 x) ∧ w'.cell? ⟨w4.heap.size, 1, none⟩ = some (.slice (some ⟨b2, 0, none⟩) n n) ∧ Ext w5 w')
      (exact ⟨hk.cellSome c0, hk.cellSome c1, hk.cellSome d0, hk.cellSome d1, hk⟩)
      (first
        | (go_at_call 16; refine (l_toVoting (h6.drewN 1) HB.out).mono ?_; rintro e w6 ⟨b3, rfl, hrow, hbb, hx6⟩; have hk := hk.trans hx6)
        | (go_at_call 18; refine (l_eqVoting (r4.ext hx6) (hrow.ints HL.out (Nat.le_refl _) HM.out)).mono ?_; rintro e w7 ⟨rfl, hx7⟩; have hk := hk.trans hx7))
    go_wp2
    go_ret
    exact ⟨rfl, HX5.out.trans hk⟩

end Go.Proofs.Ytdlkeeimhkgggaa
