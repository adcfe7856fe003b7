/- SwingsOf on both sides. -/
import Derived.Test.YtgohdmnbnhehnaaVeto
import Derived.Test.YtgohdmnbnhehnaaConv
import Derived.Test.YtgohdmnbnhehnaaOwn
import Derived.Deep.RegionWith
namespace Go.Proofs.Ytgohdmnbnhehnaa
set_option linter.unusedVariables false
set_option linter.unusedSimpArgs false
open Go.RowKit

theorem kwrap_sub (s k : Nat) (hs : s < 32) (hk : k < 5) : IntKind.i64.wrap ((s : Int) - 2 ^ k) = (s : Int) - 2 ^ k := by
  have := pow_pos k
  have := pow_le5 k (by omega)
  rw [IntKind.wrap_i64]; omega

/-- Is player k a swing of coalition s? -/
def swB (q : Int) (l : List Int) (s k : Nat) : Bool := bit (s : Int) k && (winsB q l (s : Int) && !winsB q l ((s : Int) - 2 ^ k))
def swN (q : Int) (l : List Int) (k : Nat) : Nat → Nat
  | 0 => 0
  | m + 1 => swN q l k m + (if swB q l m k then 1 else 0)
theorem swN_le (q : Int) (l : List Int) (k : Nat) : ∀ m, swN q l k m ≤ m
  | 0 => Nat.le_refl _
  | m + 1 => by have := swN_le q l k m; unfold swN; split <;> omega
theorem swN_step {q : Int} {l : List Int} {k j : Nat} {b : Bool} (h : swB q l j k = b) (hj : j ≤ 32) : IntKind.i64.wrap ((swN q l k j : Int) + bitI b) = (swN q l k (j + 1) : Int) := by
  have := swN_le q l k j
  rw [IntKind.wrap_i64]
  show _ = ((swN q l k j + (if swB q l j k then 1 else 0) : Nat) : Int)
  rw [h]
  cases b <;> simp [bitI] <;> omega
def swT (q : Int) (l : List Int) (m : Nat) : List Int := if validPair 1 q l then (List.range m).map fun (k : Nat) => (swN q l k (cN l.length) : Int) else []
def swL (q : Int) (l : List Int) : List Int := swT q l l.length
theorem swT_zero (q : Int) (l : List Int) : swT q l 0 = [] := by unfold swT; simp
theorem swT_not {q : Int} {l : List Int} (m : Nat) (h : validPair 1 q l = false) : swT q l m = [] := by unfold swT; rw [h]; rfl
theorem swT_succ {q : Int} {l : List Int} (m : Nat) (h : validPair 1 q l = true) : swT q l (m + 1) = swT q l m ++ [(swN q l m (cN l.length) : Int)] := by
  unfold swT
  rw [h]
  simp [List.range_succ]
theorem swT_len (q : Int) (l : List Int) (m : Nat) : (swT q l m).length ≤ m := by
  unfold swT
  split <;> simp
theorem swL_len (q : Int) (l : List Int) : (swL q l).length ≤ 1048576 := by
  unfold swL
  cases h : validPair 1 q l
  · rw [swT_not _ h]; simp
  · have := swT_len q l l.length
    have := valid_len h
    omega

end Go.Proofs.Ytgohdmnbnhehnaa
