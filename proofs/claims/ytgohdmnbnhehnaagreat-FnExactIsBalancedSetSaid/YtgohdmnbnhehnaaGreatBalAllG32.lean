import Derived.Test.YtgohdmnbnhehnaaGreatBalAllG31
namespace Go.Proofs.YtgohdmnbnhehnaaGreat
set_option linter.unusedVariables false
set_option maxRecDepth 100000
open Go.RowKit
set_option maxHeartbeats 4000000 in
theorem l_FnExactIsBalancedSet {w : World} {x : Int} {a : Option Addr} {n cap : Nat} {l : List Int} (h : Ints w a n cap l) (hl : ∀ k : Nat, l[k]?.getD 0 ≤ 9223372036854775807) :
    Calls Tryz.prog 3 #[.int .i64 x, .slice a n cap] w fun e w' => e = .returned (.bool true) ∧ Ext w w' := by
  have hm : n ≤ 9223372036854775807 := Nat.le_trans h.hcap h.hmax
  have HA := Lib.hid h
  have HL := Lib.hid h.hlen
  have HB := Lib.hid hl
  clear h hl
  by_cases hbig : 1048576 < n
  · go_enter Tryz.func3, Tryz.ntmps3
    go_wp2_with fail
    go_ret
    exact ⟨rfl, Ext.refl _⟩
  have hb : n ≤ 1048576 := by omega
  have HR := Lib.hid (bal_same x l)
  go_enter Tryz.func3, Tryz.ntmps3
  go_wp2_with fail
  refine (l_toIntS HA.out (by omega)).mono ?_
  rintro e w1 ⟨b1, rfl, hrow, hbb, hx⟩
  have R1 := Lib.hid (hrow.ints HL.out (Nat.le_refl _) hm)
  have X1 := Lib.hid hx
  clear hrow hbb hx
  go_wp2_with fail
  refine (s_IsBalancedSet (x := x) R1.out HB.out hb).mono ?_
  rintro e w2 ⟨rfl, hx⟩
  have X2 := Lib.hid (X1.out.trans hx)
  clear hx
  go_wp2_with fail
  refine (l_toIntS (HA.out.ext X2.out) (by omega)).mono ?_
  rintro e w3 ⟨b3, rfl, hrow, hbb, hx⟩
  have R3 := Lib.hid (hrow.ints HL.out (Nat.le_refl _) hm)
  have X3 := Lib.hid (X2.out.trans hx)
  clear hrow hbb hx
  go_wp2_with fail
  refine (i_IsBalancedSet (x := x) R3.out HB.out hb).mono ?_
  rw [HR.out]
  rintro e w4 ⟨rfl, hx⟩
  have R4 := Lib.hid (R3.out.ext hx)
  have X4 := Lib.hid (X3.out.trans hx)
  clear hx
  obtain ⟨z, hz⟩ : ∃ z, z = balS x l := ⟨_, rfl⟩
  rw [← hz]
  have hzz : (z != z) = false := by cases z <;> rfl
  clear hz
  go_wp2_with fail
  refine (l_toIntS (HA.out.ext X4.out) (by omega)).mono ?_
  rintro e w5 ⟨b5, rfl, hrow, hbb, hx⟩
  have HE := Lib.hid (l_eqIntS (R4.out.ext hx) (hrow.ints HL.out (Nat.le_refl _) hm))
  rw [decide_eq_true rfl] at HE
  have X5 := Lib.hid (X4.out.trans hx)
  clear hrow hbb hx
  go_wp2_with fail
  refine HE.out.mono ?_
  rintro e w6 ⟨rfl, hx⟩
  have X6 := Lib.hid (X5.out.trans hx.ext)
  clear hx
  go_wp2_with fail
  go_ret
  exact ⟨rfl, X6.out⟩
end Go.Proofs.YtgohdmnbnhehnaaGreat
