/- RankOf: the program. -/
import Derived.Test.YtokpmflhgehicaaRankS
import Derived.Test.YtokpmflhgehicaaRatOps
import Derived.StillTailTactics
namespace Go.Proofs.Ytokpmflhgehicaa
set_option linter.unusedVariables false
set_option linter.unusedSimpArgs false
set_option maxRecDepth 100000
open Go.RowKit

/-- What a function value answers of a slice of ints with a property, in every world grown from w. -/
def AsksQ (P : Program) (w : World) (fid : FuncId) (ca : Array Value) (Q : List Int → Prop) (p : List Int → Bool) : Prop :=
  ∀ (l : List Int) (a : Option Addr) (n c : Nat) (w1 : World), Ext w w1 → Ints w1 a n c l → Q l → Calls P fid (#[.slice a n c] ++ ca) w1 fun e w2 => e = .returned (.bool (p l)) ∧ Ext w1 w2

set_option maxHeartbeats 400000 in
theorem indexFunc_intssQ {w : World} {a : Option Addr} {n cap : Nat} {L : List (List Int)} {fid : FuncId} {ca : Array Value} {Q : List Int → Prop} {p : List Int → Bool} (h : IntSS w a n cap L) (hg : IsGo Try.prog fid) (hf : AsksQ Try.prog w fid ca Q p) (hQ : ∀ k, k < n → Q (L[k]?.getD [])) :
    Calls Try.prog 142 #[.slice a n cap, .func (.func fid) #[] ca] w fun e w' => e = .returned (.int .i64 (indexF p L)) ∧ Ext w w' := by
  have hn := h.hcap
  have hm := h.hmax
  have HQ := Lib.hid hQ
  clear hQ
  have hcf : ∀ (args : Array Value) (w : World), (callFunc fid args).run Try.prog w = .ok (.enter fid args) w := hg
  go_enter Try.func142, Try.ntmps142
  go_wp2
  go_loopw [8] (fun i wr => ∃ k : Nat, k ≤ n ∧ i = .int .i64 k ∧ Hid ((L.take k).all (fun x => !p x) = true) ∧ Ext w wr) (fun i _ => n - (intOf i).toNat)
  case atStart => exact ⟨0, Nat.zero_le _, rfl, Lib.hid rfl, Ext.refl _⟩
  case round =>
    obtain ⟨k, hk, rfl, HA, hx⟩ := hrel
    by_cases hlt : k < n
    · obtain ⟨b, off, a', n', c', rfl, hc, hr⟩ := (h.ext hx).at hlt
      have HL := Lib.hid h.hlen
      have HF := Lib.hid (hf (L[k]?.getD []) a' n' c' wr hx hr (HQ.out k hlt))
      clear hr
      by_cases hb : p (L[k]?.getD []) = true
      · have HB := Lib.hid hb
        go_wp2_with fail
        refine HF.out.mono ?_
        rintro e w2 ⟨rfl, hx2⟩
        go_wp2
        go_ret
        exact ⟨ret_int (indexF_at (by have := HL.out; omega) HA.out HB.out).symm, hx.trans (by assumption)⟩
      · have HB := Lib.hid hb
        simp only [Bool.not_eq_true] at hb
        go_wp2_with fail
        refine HF.out.mono ?_
        rintro e w2 ⟨rfl, hx2⟩
        go_wp2
        go_roundw
        case rel => exact ⟨k + 1, by omega, by go_num, Lib.hid (by rw [takeL_snoc (by have := HL.out; omega), List.all_append, HA.out]; simpa using HB.out), hx.trans (by assumption)⟩
        case measure => simp [intOf]; omega
    · have HL := Lib.hid h.hlen
      go_wp2
      go_ret
      refine ⟨ret_int ?_, hx⟩
      have := HA.out
      rw [List.take_of_length_le (by have := HL.out; omega)] at this
      exact (indexF_none this).symm

theorem i_RankOf1 {w : World} {bc c n cap : Nat} {a : Option Addr} {l : List Int} (hb : w.cell? ⟨bc, 0, none⟩ = some (.int .i64 (c : Int))) (h : Ints w a n cap l) (hc : c < n) :
    Calls Try.prog 143 #[.slice a n cap, .pointer (some ⟨bc, 0, none⟩)] w fun e w' => e = .returned (.bool (l[c]?.getD 0 != 0)) ∧ w = w' := by
  obtain ⟨b, off, rfl, hcc⟩ := h.at hc
  have hmax := h.hmax
  have hcap := h.hcap
  clear h
  go_enter Try.func143, Try.ntmps143
  go_wp2
  go_ret
  exact ⟨rfl, rfl⟩
theorem go_RankOf1 : IsGo Try.prog 143 := isGo Try.func143 (by kernel_rfl) (by kernel_rfl)
theorem asks_RankOf1 {w : World} {bc c n : Nat} (hb : w.cell? ⟨bc, 0, none⟩ = some (.int .i64 (c : Int))) (hc : c < n) :
    AsksQ Try.prog w 143 #[.pointer (some ⟨bc, 0, none⟩)] (fun l => l.length = n) (fun r => r[c]?.getD 0 != 0) := by
  intro l a m cp w1 hx hi hq
  have hm : m = n := by rw [← hi.hlen]; exact hq
  exact (i_RankOf1 (hx.cellSome hb) hi (by omega)).mono fun e w2 ⟨he, hw⟩ => ⟨he, hw ▸ Ext.refl _⟩
theorem idx_piv {M : List (List Int)} {c d : Nat} (hd : d ≤ M.length) : indexF (fun r : List Int => r[c]?.getD 0 != 0) (M.drop d) = if pivM M c d < M.length then ((pivM M c d - d : Nat) : Int) else -1 := by
  unfold indexF pivM
  cases hf : (M.drop d).findIdx? (fun r => r[c]?.getD 0 != 0) with
  | none => simp
  | some k =>
    rw [List.findIdx?_eq_some_iff_getElem] at hf
    obtain ⟨h1, _⟩ := hf
    rw [List.length_drop] at h1
    simp only
    rw [if_pos (by omega)]
    congr 1
    omega
theorem gcd_bd {B : Int} : ∀ (l : List Int) (g : Int), 0 ≤ g → g ≤ B → (∀ x ∈ l, -B ≤ x ∧ x ≤ B) → 0 ≤ l.foldl gI g ∧ l.foldl gI g ≤ B
  | [], g, h0, h1, _ => ⟨h0, h1⟩
  | x :: l, g, h0, h1, h => by
    have hx := h x (by simp)
    have h2 : gI g x ≤ B := by
      by_cases hz : x = 0
      · subst hz; rw [gI_zero]; omega
      · have := gI_le g hz; omega
    exact gcd_bd l (gI g x) (gI_nonneg g x) h2 fun y hy => h y (by simp [hy])

end Go.Proofs.Ytokpmflhgehicaa
