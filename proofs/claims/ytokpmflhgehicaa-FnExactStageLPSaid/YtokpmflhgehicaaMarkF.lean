/- A slice of levels marked. -/
import Derived.Test.YtokpmflhgehicaaFixed
import Derived.Test.YtokpmflhgehicaaLpO
import Derived.Deep.DeepCutAuto
namespace Go.Proofs.Ytokpmflhgehicaa
set_option linter.unusedVariables false
set_option linter.unusedSimpArgs false
open Go.RowKit

theorem cur_cell {w : World} {b n : Nat} {cur : Array Value} {t : TypeId} (h : w.heap[b]? = some (.cells cur t (0, 0))) (hs : cur.size = n) {k : Nat} (hk : k < n) : ∃ v, w.cell? ⟨b, k, none⟩ = some v := by
  rw [cell_of_row w b k cur t _ h]
  exact ⟨cur[k]'(by omega), Array.getElem?_eq_getElem (by omega)⟩

set_option maxHeartbeats 1000000 in
theorem l_markFixedS {w : World} {b n cap : Nat} {cur0 : Array Value} (h : w.heap[b]? = some (.cells cur0 105 (0, 0))) (hs : cur0.size = n * 3) (hcap : n ≤ cap) (hmax : cap ≤ 9223372036854775807) (k0 : Int) (h0 : 0 ≤ k0) (h1 : k0 + 3 * n ≤ 4611686018427387904) :
    Calls Try.prog 58 #[.slice (some ⟨b, 0, none⟩) n cap, .int .i64 k0] w fun e w' => e = .returned (.int .i64 (k0 + 3 * n)) ∧ w.grownBy w' (some b) := by
  have H0 := Lib.hid h
  have HS0 := Lib.hid hs
  clear h hs
  go_enter Try.func58, Try.ntmps58
  go_wp2_with fail
  go_loopg [1, 5] n (fun gk tt ii wr => ∃ (k : Nat) (cur : Array Value), Hid (gk + k = n) ∧ ii = .int .i64 (k : Int) ∧ tt = .int .i64 (k0 + 3 * (k : Int)) ∧ Hid (wr.heap[b]? = some (.cells cur 105 (0, 0))) ∧ Hid (cur.size = n * 3) ∧ Hid (w.grownBy wr (some b)))
  case atStart => exact ⟨0, _, Lib.hid (by omega), rfl, by simp, H0, HS0, Lib.hid (World.grownBy.refl _ _)⟩
  case round =>
    obtain ⟨g1, h_g1⟩ : ∃ x, x = gk := ⟨_, rfl⟩
    subst h_g1
    obtain ⟨wr1, h_wr1⟩ : ∃ x, x = wr := ⟨_, rfl⟩
    subst h_wr1
    obtain ⟨k, cur, HK, rfl, rfl, HC, HS, HG⟩ := hrel
    by_cases hlt : k < n
    · obtain ⟨v0, c0⟩ := cur_cell HC.out HS.out (k := k * 3) (by omega)
      obtain ⟨v1, c1⟩ := cur_cell HC.out HS.out (k := k * 3 + 1) (by omega)
      obtain ⟨v2, c2⟩ := cur_cell HC.out HS.out (k := k * 3 + 2) (by omega)
      have f0 := frozen_of_row wr1 b (k * 3) cur _ HC.out
      have f1 := frozen_of_row wr1 b (k * 3 + 1) cur _ HC.out
      have f2 := frozen_of_row wr1 b (k * 3 + 2) cur _ HC.out
      go_wp2_with fail
      go_roundg (g1 - 1)
      case measure => have := HK.out; omega
      case rel =>
        refine ⟨k + 1, _, Lib.hid (by have := HK.out; omega), by go_num, by go_num, Lib.hid (heap_setCell_same _ b _ _ _ _ (heap_setCell_same _ b _ _ _ _ (heap_setCell_same _ b _ _ _ _ HC.out))), Lib.hid (by simp [HS.out]), Lib.hid ?_⟩
        have hg := HG.out
        refine ⟨hg.os, hg.tape, hg.output, by simpa using hg.size, fun j hj hne => ?_⟩
        have hne' : j ≠ b := fun e => hne (by rw [e])
        rw [heap_setCell_other _ _ j _ hne', heap_setCell_other _ _ j _ hne', heap_setCell_other _ _ j _ hne']
        exact hg.block j hj hne
    · have hkn : k = n := by have := HK.out; omega
      subst hkn
      go_wp2_with fail
      go_ret
      exact ⟨rfl, HG.out⟩

end Go.Proofs.Ytokpmflhgehicaa
