/- FnExactEqualLosses answers true, whatever the arguments: the walk. -/
import Derived.Test.YtokpmflhgehicaaLosses
namespace Go.Proofs.Ytokpmflhgehicaa
set_option linter.unusedVariables false
set_option maxRecDepth 100000
open Go.RowKit

set_option maxHeartbeats 4000000 in
theorem l_FnExactEqualLosses {w : World} {x y : Int} {a : Option Addr} {n cap : Nat} {l : List Int} (h : Ints w a n cap l) :
    Calls Try.prog 9 #[.slice a n cap, ratV x y] w fun e w' => e = .returned (.bool true) ∧ Ext w w' := by
  have hm : n ≤ 9223372036854775807 := Nat.le_trans h.hcap h.hmax
  have HX := Lib.hid (Ext.alloc w (.cells #[.int .i64 x, .int .i64 y] 73))
  have HA := Lib.hid (h.ext HX.out)
  have HL := Lib.hid h.hlen
  clear h
  by_cases hbig : 1048576 < n
  · go_enter Try.func9, Try.ntmps9
    go_wp2_with fail
    go_ret
    exact ⟨rfl, HX.out⟩
  have hb : n ≤ 1048576 := by omega
  have hlen := lossL_len l x y
  have hln : l.length ≤ 1048576 := by rw [HL.out]; exact hb
  go_enter Try.func9, Try.ntmps9
  go_wp2_with fail
  -- the reference's answer
  have c0 : (w.alloc (.cells #[.int .i64 x, .int .i64 y] 73)).cell? ⟨w.heap.size, 0, none⟩ = some (.int .i64 x) := by simp
  have c1 : (w.alloc (.cells #[.int .i64 x, .int .i64 y] 73)).cell? ⟨w.heap.size, 1, none⟩ = some (.int .i64 y) := by simp
  have hk : Ext (w.alloc (.cells #[.int .i64 x, .int .i64 y] 73)) (w.alloc (.cells #[.int .i64 x, .int .i64 y] 73)).drew := Ext.drew _
  go_region_held3 (fun w' => w'.cell? ⟨w.heap.size, 0, none⟩ = some (.int .i64 x) ∧ w'.cell? ⟨w.heap.size, 1, none⟩ = some (.int .i64 y) ∧ Ext (w.alloc (.cells #[.int .i64 x, .int .i64 y] 73)) w')
    (exact ⟨hk.cellSome c0, hk.cellSome c1, hk⟩)
    (first
      | (go_at_call 47; refine (l_toIntS (HA.out.ext hk) (by omega)).mono ?_; rintro e w2 ⟨b, rfl, hrow, hbb, hx2⟩; have R1 := Lib.hid (hrow.ints HL.out (Nat.le_refl _) hm); have hk := hk.trans hx2)
      | (go_at_call 48; refine (l_toRat x y _).mono ?_; rintro e w3 ⟨rfl, hx3⟩; have hk := hk.trans hx3; first | (have R1 := Lib.hid (R1.out.ext hx3)) | skip)
      | (go_at_call 50; refine (s_losses (x := x) (y := y) R1.out).mono ?_; rintro e w4 ⟨⟨v0, rfl, ho⟩, hx4⟩; obtain ⟨a0, n0, p0, rfl, N0⟩ := ho.var; have O0 := Lib.hid ho; have hk := hk.trans hx4)
      | fail)
  all_goals
    have c0 := hk.cellSome c0
    have c1 := hk.cellSome c1
    have X4 := Lib.hid (HX.out.trans hk)
    have HA4 := Lib.hid (HA.out.ext hk)
    clear hk
    have C0 := Lib.hid c0
    have C1 := Lib.hid c1
    -- the program's answer
    go_wp2_with fail
    refine (l_toIntS HA4.out (by omega)).mono ?_
    rintro e w5 ⟨bG, rfl, hrow, hbb, hx⟩
    have c0 := hx.cellSome c0
    have c1 := hx.cellSome c1
    have X45 := Lib.hid hx
    have BG := Lib.hid hbb
    have LG := Lib.hid hrow.lt
    have RG := Lib.hid (hrow.own hbb HL.out (by omega))
    clear hx hrow hbb
    go_wp2_with fail
    refine (l_toRat x y _).mono ?_
    rintro e w6 ⟨rfl, hx⟩
    have c0 := hx.cellSome c0
    have c1 := hx.cellSome c1
    have X46 := Lib.hid (X45.out.trans hx)
    have RG6 := Lib.hid (RG.out.ext hx)
    have LG6 := Lib.hid (show bG < w6.heap.size by have := LG.out; have := hx.size; omega)
    have HI := Lib.hid (i_losses (x := x) (y := y) RG6.out.ints)
    clear hx
    go_wp2_with fail
    refine HI.out.mono ?_
    rintro e w7 ⟨⟨v1, rfl, ho⟩, hx⟩
    obtain ⟨a1, n1, p1, rfl, N1⟩ := ho.var
    have c0 := hx.cellSome c0
    have c1 := hx.cellSome c1
    have X47 := Lib.hid (X46.out.trans hx)
    have RG7 := Lib.hid (RG6.out.ext hx)
    have O1 := Lib.hid ho
    clear hx ho
    -- they are equal
    have HE := Lib.hid (l_eqRatS O1.out.rats (O0.out.ext X47.out).rats)
    rw [decide_eq_true rfl] at HE
    go_wp2_with fail
    refine HE.out.mono ?_
    rintro e w8 ⟨rfl, hx⟩
    have c0 := hx.cellSome c0
    have c1 := hx.cellSome c1
    have X48 := Lib.hid (X47.out.trans hx)
    have RG8 := Lib.hid (RG7.out.ext hx)
    have O2 := Lib.hid (O1.out.ext hx)
    clear hx
    -- the argument is as before
    go_wp2_with fail
    refine (l_toIntS (HA4.out.ext X48.out) (by omega)).mono ?_
    rintro e w9 ⟨b3, rfl, hrow, hbb, hx⟩
    have c0 := hx.cellSome c0
    have c1 := hx.cellSome c1
    have X49 := Lib.hid (X48.out.trans hx)
    have RG9 := Lib.hid (RG8.out.ext hx)
    have O3 := Lib.hid (O2.out.ext hx)
    have HE := Lib.hid (l_eqIntS RG9.out.ints (hrow.ints HL.out (Nat.le_refl _) hm))
    rw [decide_eq_true rfl] at HE
    clear hx hrow hbb
    go_wp2_with fail
    refine HE.out.mono ?_
    rintro e w10 ⟨rfl, hx⟩
    have c0 := hx.ext.cellSome c0
    have c1 := hx.ext.cellSome c1
    have X410 := Lib.hid (X49.out.trans hx.ext)
    have RG10 := Lib.hid (RG9.out.ext hx.ext)
    have O4 := Lib.hid (O3.out.ext hx.ext)
    clear hx
    -- the argument is marked
    go_wp2_with fail
    refine (l_markIntS RG10.out 1 (by omega) (by omega)).mono ?_
    rintro e w11 ⟨rfl, _, hg, _⟩
    have X411 := Lib.hid (ext_grown X410.out hg fun k hk => by have := Option.some.inj (show some bG = some k from hk); have := BG.out; omega)
    have O5 := Lib.hid (O4.out.keep fun k hk => hg.block k (O4.out.lt k hk).2 fun e => by have h1 := (O4.out.lt k hk).1; have := Option.some.inj (show some k = some bG from e); have := LG6.out; omega)
    have c0 := (X411.out).cellSome C0.out
    have c1 := (X411.out).cellSome C1.out
    clear hg
    have HE := Lib.hid (l_eqRatS O5.out.rats (O0.out.ext X411.out).rats)
    rw [decide_eq_true rfl] at HE
    have hn1 : n1 ≤ 1048576 := by have := N1.out; omega
    have hneg : ¬ (1 + (n : Int) < 0) := by omega
    go_wp2_with fail
    refine HE.out.mono ?_
    rintro e w12 ⟨rfl, hx⟩
    have X412 := Lib.hid (X411.out.trans hx)
    have O6 := Lib.hid (O5.out.ext hx)
    clear hx c0 c1
    -- the answer is marked
    go_wp2_with fail
    refine (l_markRatS O6.out 1 (by omega) (by omega)).mono ?_
    rintro e w13 ⟨rfl, ho, hg, _⟩
    have X413 := Lib.hid (ext_grown X412.out hg fun k hk => by have h1 := (O6.out.lt k hk).1; have := LG6.out; have := BG.out; omega)
    have O7 := Lib.hid ho
    clear ho hg
    have hneg1 : ¬ (1 + 2 * (n1 : Int) < 0) := by omega
    have hne : ((1 + 2 * (n1 : Int)) != (1 + 2 * (n1 : Int))) = false := by simp
    go_wp2_with fail
    refine (l_heldRatS 1 O7.out.rats (by omega) (by omega)).mono ?_
    rintro e w14 ⟨rfl, rfl⟩
    -- once more
    have c0 := (X413.out).cellSome C0.out
    have c1 := (X413.out).cellSome C1.out
    have HA13 := Lib.hid (HA4.out.ext X413.out)
    have hk := Ext.drew w13
    go_wp2_with fail
    go_region_held3 (fun w' => w'.cell? ⟨w.heap.size, 0, none⟩ = some (.int .i64 x) ∧ w'.cell? ⟨w.heap.size, 1, none⟩ = some (.int .i64 y) ∧ Ext w13 w')
      (exact ⟨hk.cellSome c0, hk.cellSome c1, hk⟩)
      (first
        | (go_at_call 47; refine (l_toIntS (HA13.out.ext hk) (by omega)).mono ?_; rintro e w15 ⟨b, rfl, hrow, hbb, hx2⟩; have R9 := Lib.hid (hrow.ints HL.out (Nat.le_refl _) hm); have hk := hk.trans hx2)
        | (go_at_call 48; refine (l_toRat x y _).mono ?_; rintro e w16 ⟨rfl, hx3⟩; have hk := hk.trans hx3; first | (have R9 := Lib.hid (R9.out.ext hx3)) | skip)
        | (go_at_call 51; refine (i_losses (x := x) (y := y) R9.out).mono ?_; rintro e w17 ⟨⟨v2, rfl, ho⟩, hx4⟩; obtain ⟨a2, n2, p2, rfl, N2⟩ := ho.var; have O9 := Lib.hid ho; have hk := hk.trans hx4)
        | fail)
    all_goals
      have X417 := Lib.hid (X413.out.trans hk)
      have O8 := Lib.hid (O7.out.ext hk)
      clear hk
      have HE := Lib.hid (l_eqRatS O9.out.rats (O0.out.ext X417.out).rats)
      rw [decide_eq_true rfl] at HE
      go_wp2_with fail
      refine HE.out.mono ?_
      rintro e w18 ⟨rfl, hx⟩
      have X418 := Lib.hid (X417.out.trans hx)
      have O10 := Lib.hid (O8.out.ext hx)
      clear hx
      go_wp2_with fail
      refine (l_heldRatS 1 O10.out.rats (by omega) (by omega)).mono ?_
      rintro e w19 ⟨rfl, rfl⟩
      go_wp2
      go_ret
      exact ⟨rfl, X4.out.trans X418.out⟩

end Go.Proofs.Ytokpmflhgehicaa
