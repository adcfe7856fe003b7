/- The library's IndexFunc and ContainsFunc on integers: given what the function value answers, what they return. -/
import Derived.Test.YtgohdmnbnhehnaaNum
namespace Go.Proofs.Ytgohdmnbnhehnaa
set_option linter.unusedVariables false
open Go.RowKit

/-- What a function value that asks of one integer answers, in every world grown from w. -/
def Asks (P : Program) (w : World) (fid : FuncId) (ca : Array Value) (p : Int → Bool) : Prop :=
  ∀ x (w1 : World), Ext w w1 → Calls P fid (#[.int .i64 x] ++ ca) w1 fun e w2 => e = .returned (.bool (p x)) ∧ Ext w1 w2
theorem Asks.ext {P : Program} {w w' : World} {fid : FuncId} {ca : Array Value} {p : Int → Bool} (h : Asks P w fid ca p) (hx : Ext w w') : Asks P w' fid ca p :=
  fun x w1 k => h x w1 (hx.trans k)

/-- Function fid has a body of Go's own. -/
def IsGo (P : Program) (fid : FuncId) : Prop := ∀ (args : Array Value) (w : World), (callFunc fid args).run P w = .ok (.enter fid args) w
theorem isGo {P : Program} {fid : FuncId} {fn : Func} (h : P.funcs[fid]? = some fn) (hn : (fn.name == "runtime.NumGoroutine") = false) (hb : fn.body.isNone = false) : IsGo P fid := by
  intro args w
  have hn' : fn.name ≠ "runtime.NumGoroutine" := by simpa using hn
  simp [callFunc, h, hn']
  intro hx
  rw [hx] at hb
  cases hb

/-- The place of the first that it answers yes to, else -1. -/
def indexF {α : Type} (p : α → Bool) (l : List α) : Int := match l.findIdx? p with | some i => (i : Int) | none => -1

theorem indexF_at {α : Type} {p : α → Bool} {l : List α} {k : Nat} {d : α} (hk : k < l.length) (h0 : (l.take k).all (fun x => !p x) = true) (h1 : p (l[k]?.getD d) = true) : indexF p l = k := by
  have : l.findIdx? p = some k := by
    rw [List.findIdx?_eq_some_iff_getElem]
    refine ⟨hk, by simpa [hk] using h1, fun j hj => ?_⟩
    have := List.all_eq_true.1 h0 (l[j]) (by rw [List.mem_take_iff_getElem]; exact ⟨j, by omega, rfl⟩)
    simpa using this
  simp [indexF, this]
theorem indexF_none {α : Type} {p : α → Bool} {l : List α} (h0 : l.all (fun x => !p x) = true) : indexF p l = -1 := by
  have : l.findIdx? p = none := by
    rw [List.findIdx?_eq_none_iff]
    intro x hx
    have := List.all_eq_true.1 h0 x hx
    simpa using this
  simp [indexF, this]
theorem indexF_any {α : Type} (p : α → Bool) (l : List α) : decide (0 ≤ indexF p l) = l.any p := by
  by_cases h : l.any p = true
  · rw [h]
    unfold indexF
    cases hf : l.findIdx? p with
    | some i => simp
    | none =>
      rw [List.findIdx?_eq_none_iff] at hf
      obtain ⟨x, hx, hp⟩ := List.any_eq_true.1 h
      rw [hf x hx] at hp; cases hp
  · rw [indexF_none (by simpa using h)]; simp only [Bool.not_eq_true] at h; rw [h]; rfl

set_option maxHeartbeats 400000 in
theorem indexFunc_ints {w : World} {a : Option Addr} {n cap : Nat} {l : List Int} {fid : FuncId} {ca : Array Value} {p : Int → Bool} (h : Ints w a n cap l) (hg : IsGo Try.prog fid) (hf : Asks Try.prog w fid ca p) :
    Calls Try.prog 142 #[.slice a n cap, .func (.func fid) #[] ca] w fun e w' => e = .returned (.int .i64 (indexF p l)) ∧ Ext w w' := by
  have hn := h.hcap
  have hm := h.hmax
  have hcf : ∀ (args : Array Value) (w : World), (callFunc fid args).run Try.prog w = .ok (.enter fid args) w := hg
  go_enter Try.func142, Try.ntmps142
  go_wp2
  go_loopw [8] (fun i wr => ∃ k : Nat, k ≤ n ∧ i = .int .i64 k ∧ (l.take k).all (fun x => !p x) = true ∧ Ext w wr) (fun i _ => n - (intOf i).toNat)
  case atStart => exact ⟨0, Nat.zero_le _, rfl, rfl, Ext.refl _⟩
  case round =>
    obtain ⟨k, hk, rfl, hall, hx⟩ := hrel
    have HA := Lib.hid hall
    clear hall
    by_cases hlt : k < n
    · have h' := h.ext hx
      obtain ⟨b, off, rfl, hc⟩ := h'.at hlt
      have HL := Lib.hid h.hlen
      have HF := Lib.hid (hf (l[k]?.getD 0) wr hx)
      by_cases hb : p (l[k]?.getD 0) = true
      · have HB := Lib.hid hb
        go_wp2_with fail
        refine HF.out.mono ?_
        rintro e w2 ⟨rfl, hx2⟩
        go_wp2
        go_ret
        exact ⟨ret_int (indexF_at (by have := HL.out; omega) HA.out HB.out).symm, hx.trans (by assumption)⟩
      · have HB := Lib.hid hb
        simp only [Bool.not_eq_true] at hb
        go_wp2_with fail
        refine HF.out.mono ?_
        rintro e w2 ⟨rfl, hx2⟩
        go_wp2
        go_roundw
        case rel => exact ⟨k + 1, by omega, by go_num, by rw [take_snoc (by have := HL.out; omega), List.all_append, HA.out]; simpa using HB.out, hx.trans (by assumption)⟩
        case measure => simp [intOf]; omega
    · have HL := Lib.hid h.hlen
      go_wp2
      go_ret
      refine ⟨ret_int ?_, hx⟩
      have := HA.out
      rw [List.take_of_length_le (by have := HL.out; omega)] at this
      exact (indexF_none this).symm

set_option maxHeartbeats 400000 in
theorem containsFunc_ints {w : World} {a : Option Addr} {n cap : Nat} {l : List Int} {fid : FuncId} {ca : Array Value} {p : Int → Bool} (h : Ints w a n cap l) (hg : IsGo Try.prog fid) (hf : Asks Try.prog w fid ca p) :
    Calls Try.prog 121 #[.slice a n cap, .func (.func fid) #[] ca] w fun e w' => e = .returned (.bool (l.any p)) ∧ Ext w w' := by
  have HC := Lib.hid (indexFunc_ints h hg hf)
  go_enter Try.func121, Try.ntmps121
  go_wp2_with fail
  refine HC.out.mono ?_
  rintro e w2 ⟨rfl, hx2⟩
  go_wp2
  all_goals go_ret; refine ⟨ret_bool ?_, hx2⟩; rw [← indexF_any]

end Go.Proofs.Ytgohdmnbnhehnaa
