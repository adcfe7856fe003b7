/- Which coalitions are free yet: the reference. -/
import Derived.Test.YtokpmflhgehicaaFixed
import Derived.Test.YtokpmflhgehicaaSort2
import Derived.Deep.DeepCutAuto
namespace Go.Proofs.Ytokpmflhgehicaa
set_option linter.unusedVariables false
open Go.RowKit

/-- Coalition s is in the list. -/
def hasX (l : List (Int × Int × Int)) (s : Int) : Bool := l.any fun f => f.1 == s
theorem hasX_snoc {l : List (Int × Int × Int)} {k : Nat} {s : Int} (h : k < l.length) : hasX (l.take (k + 1)) s = (hasX (l.take k) s || (l[k]?.getD (0, 0, 0)).1 == s) := by
  rw [take_snocX h]; simp [hasX]
theorem hasX_at {l : List (Int × Int × Int)} {k : Nat} {s : Int} (h : k < l.length) (e : (l[k]?.getD (0, 0, 0)).1 = s) : hasX l s = true := by
  unfold hasX
  rw [List.any_eq_true]
  exact ⟨l[k], List.getElem_mem h, by rw [List.getElem?_eq_getElem h] at e; simpa using e⟩

set_option maxHeartbeats 2000000 in
theorem s_l16Has {w : World} {a : Option Addr} {n cap : Nat} {l : List (Int × Int × Int)} (h : Fixs w a n cap l) (s : Int) :
    Calls Try.prog 170 #[.slice a n cap, .int .i64 s] w fun e w' => e = .returned (.bool (hasX l s)) ∧ w = w' := by
  have hcap := h.hcap
  have hmax := h.hmax
  have HL := Lib.hid h.hlen
  have HF := Lib.hid h
  clear h
  go_enter Try.func170, Try.ntmps170
  go_wp2_with fail
  go_loop [5] (fun ii => ∃ k : Nat, k ≤ n ∧ ii = .int .i64 (k : Int) ∧ Hid (hasX (l.take k) s = false)) (fun ii => n - (intOf ii).toNat)
  case atStart => exact ⟨0, Nat.zero_le _, rfl, Lib.hid rfl⟩
  case round =>
    obtain ⟨k, hk, rfl, HH⟩ := hrel
    by_cases hlt : k < n
    · obtain ⟨b, off, x, y, z, rfl, hx, hc, hc1, hc2⟩ := HF.out.at hlt
      by_cases hxs : x = s
      · have HT := Lib.hid (hasX_at (l := l) (k := k) (s := s) (by rw [HL.out]; exact hlt) (by rw [hx]; exact hxs))
        subst hxs
        clear hx
        go_wp2_with fail
        go_ret
        exact ⟨ret_bool HT.out.symm, rfl⟩
      · have hxb : (x == s) = false := by simpa using hxs
        have HT := Lib.hid (show hasX (l.take (k + 1)) s = false by rw [hasX_snoc (by rw [HL.out]; exact hlt), HH.out, hx]; simpa using hxs)
        clear hx
        go_wp2_with fail
        go_round
        case rel => exact ⟨k + 1, by omega, by go_num, HT⟩
        case measure => simp [intOf]; omega
    · have HT := Lib.hid (show l.take k = l from List.take_of_length_le (by rw [HL.out]; omega))
      go_wp2_with fail
      go_ret
      exact ⟨ret_bool (by have := HH.out; rw [HT.out] at this; exact this.symm), rfl⟩

/-- The free ones among 1, .., m. -/
def freeL (L : List (Int × Int × Int)) (m : Nat) : List Int := (seqI 1 m).filter fun s => !hasX L s
theorem freeL_zero (L : List (Int × Int × Int)) : freeL L 0 = [] := rfl
theorem freeL_succ (L : List (Int × Int × Int)) (m : Nat) : freeL L (m + 1) = freeL L m ++ (if hasX L ((m : Int) + 1) = true then [] else [(m : Int) + 1]) := by
  unfold freeL seqI
  rw [List.range_succ, List.map_append, List.filter_append]
  congr 1
  rw [List.map_singleton, show (1 : Int) + (m : Int) = (m : Int) + 1 by omega]
  simp only [List.filter_cons, List.filter_nil]
  cases hasX L ((m : Int) + 1) <;> rfl
theorem freeL_len (L : List (Int × Int × Int)) (m : Nat) : (freeL L m).length ≤ m := by
  unfold freeL; exact Nat.le_trans (List.length_filter_le _ _) (by simp [seqI])
theorem freeL_mem {L : List (Int × Int × Int)} {m : Nat} {s : Int} (h : s ∈ freeL L m) : 1 ≤ s ∧ s ≤ m ∧ hasX L s = false := by
  unfold freeL seqI at h
  simp only [List.mem_filter, List.mem_map, List.mem_range, Bool.not_eq_true'] at h
  obtain ⟨⟨i, hi, rfl⟩, h2⟩ := h
  exact ⟨by omega, by omega, h2⟩

set_option maxHeartbeats 4000000 in
theorem s_l16Free {w : World} (x : Int) (a : Option Addr) (n cap : Nat) (hn : n ≤ 1000) {fa : Option Addr} {fn fcap : Nat} {L : List (Int × Int × Int)} (h : Fixs w fa fn fcap L) :
    Calls Try.prog 171 #[pair x a n cap, .slice fa fn fcap] w fun e w' => (∃ v, e = .returned v ∧ OwnI w' w.heap.size v (freeL L (n - 2))) ∧ Ext w w' := by
  obtain ⟨m, hm⟩ : ∃ m, m = n - 2 := ⟨_, rfl⟩
  have HM := Lib.hid hm
  have HF := Lib.hid h
  have HX0 := Lib.hid (Ext.alloc w (.cells #[.int .i64 x, .slice a n cap] 64))
  have HO := Lib.hid (OwnI.madeS (w.alloc (.cells #[.int .i64 x, .slice a n cap] 64)) (w.heap.size + 1) (w.heap.size + 1) (by simp) (by simp))
  rw [← hm]
  clear h hm
  go_enter Try.func171, Try.ntmps171
  go_wp2_with fail
  go_loopg [5, 6] m (fun gk oo ii wr => ∃ (k : Nat) (a1 : Option Addr) (n1 p1 : Nat), Hid (gk + k = m) ∧ ii = .int .i64 ((k : Int) + 1) ∧ oo = .slice a1 n1 p1 ∧ Hid (OwnI wr (w.heap.size + 1) (.slice a1 n1 p1) (freeL L k)) ∧ Hid (Ext (w.alloc (.cells #[.int .i64 x, .slice a n cap] 64)) wr))
  case atStart => exact ⟨0, _, _, _, Lib.hid (by omega), by simp, rfl, HO, Lib.hid (Ext.alloc _ _)⟩
  case round =>
    obtain ⟨g1, h_g1⟩ : ∃ x, x = gk := ⟨_, rfl⟩
    subst h_g1
    obtain ⟨wr1, h_wr1⟩ : ∃ x, x = wr := ⟨_, rfl⟩
    subst h_wr1
    obtain ⟨k, a1, n1, p1, HK, rfl, rfl, HO1, HX⟩ := hrel
    have hsz := HX.out.size
    rw [World.size_alloc] at hsz
    have hc : wr1.cell? ⟨w.heap.size, 1, none⟩ = some (.slice a n cap) := HX.out.cellSome (by simp)
    have hkm : k ≤ m := by have := HK.out; omega
    have hm1000 : m ≤ 1000 := by have := HM.out; omega
    by_cases hlt : k < m
    · have hn1 : (k : Int) + 1 < (n : Int) - 1 := by have := HM.out; omega
      have HL := Lib.hid (freeL_len L k)
      have HC := Lib.hid (s_l16Has ((HF.out.ext HX0.out).ext HX.out) ((k : Int) + 1))
      have HS := Lib.hid (freeL_succ L k)
      cases hb : hasX L ((k : Int) + 1)
      · rw [hb] at HC HS
        clear hb
        go_wp2_with (first
          | (go_at_call 170; refine HC.out.mono ?_; rintro e w' ⟨rfl, rfl⟩)
          | (at_builtin; refine append_ints rfl _ _ rfl (w.heap.size + 1) (.slice a1 n1 p1) _ rfl (HO1.out.ext (Ext.alloc _ _)) _ 1 _ [(k : Int) + 1] rfl (Ints.oneS _ _ _ _ (by simp)) (by have := HL.out; omega) (by simp; omega) ?_; intro v5 w5 ho hg hnear; obtain ⟨a5, n5, p5, rfl, HN5⟩ := ho.var; have HO5 := Lib.hid ho; have X5 := Lib.hid (ext_grown (HX.out.trans (Ext.alloc _ _)) hg (fun j hj => by have := (HO1.out.lt j hj); simp; omega)); clear ho hg hnear))
        go_roundg (g1 - 1)
        case measure => have := HK.out; omega
        case rel => exact ⟨k + 1, a5, n5, p5, Lib.hid (by have := HK.out; omega), by go_num, rfl, Lib.hid (by have := HO5.out; rw [HS.out]; exact this), X5⟩
      · rw [hb] at HC HS
        clear hb
        go_wp2_with (first
          | (go_at_call 170; refine HC.out.mono ?_; rintro e w' ⟨rfl, rfl⟩))
        go_roundg (g1 - 1)
        case measure => have := HK.out; omega
        case rel => exact ⟨k + 1, a1, n1, p1, Lib.hid (by have := HK.out; omega), by go_num, rfl, Lib.hid (by have := HO1.out; rw [HS.out]; simpa using this), HX⟩
    · have hkn : k = m := by have := HK.out; omega
      have hnlt : ¬ (k : Int) + 1 < (n : Int) - 1 := by have := HM.out; omega
      subst hkn
      go_wp2_with fail
      go_ret
      exact ⟨⟨_, rfl, HO1.out.mono (Nat.le_succ _)⟩, HX0.out.trans HX.out⟩

end Go.Proofs.Ytokpmflhgehicaa
