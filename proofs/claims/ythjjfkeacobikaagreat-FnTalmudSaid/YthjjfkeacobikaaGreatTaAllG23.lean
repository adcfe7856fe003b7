import Derived.Test.YthjjfkeacobikaaGreatTaAllG22
import Derived.Test.YthjjfkeacobikaaGreatTaAllG19
import Derived.Test.YthjjfkeacobikaaGreatTaAllG6
set_option linter.unusedVariables false
set_option linter.unusedSimpArgs false
namespace Go.Proofs.YthjjfkeacobikaaGreat
set_option maxRecDepth 100000
open Go.RowKit
theorem phase_none {cost : List (Int × Int)} {t : Tb} (f : Nat) (h : costT t cost = none) : phaseT cost f t = none := by unfold phaseT; rw [h]
theorem phase_enter {cost cs : List (Int × Int)} {t : Tb} (f : Nat) (h : costT t cost = some cs) (he : enterT cs t.cols < 0) : phaseT cost f t = some ⟨t, f, cs, -1⟩ := by unfold phaseT; rw [h]; simp only [he, if_true]
theorem phase_leave {cost cs : List (Int × Int)} {t : Tb} (f : Nat) (h : costT t cost = some cs) (he : ¬ enterT cs t.cols < 0) (hl : leaveT t (enterT cs t.cols) < 0) : phaseT cost f t = some ⟨t, f, cs, enterT cs t.cols⟩ := by
 unfold phaseT; rw [h]; simp only [he, hl, if_true, if_false]
theorem phase_pivot {cost cs : List (Int × Int)} {t : Tb} {n : Nat} (hn : n ≤ 1000) (h : costT t cost = some cs) (he : ¬ enterT cs t.cols < 0) (hl : ¬ leaveT t (enterT cs t.cols) < 0) :
 phaseT cost (1000 - n) t = (pivS t n (leaveT t (enterT cs t.cols)) (enterT cs t.cols)).bind fun s => phaseT cost (1000 - s.2) s.1 := by
 unfold pivS
 by_cases hn0 : n = 1000
 ·subst hn0
  unfold phaseT; rw [h]; simp only [he, hl, if_false, if_true]; rfl
 ·rw [if_neg hn0]
  obtain ⟨f, hf⟩ : ∃ f, 1000 - n = f + 1 := ⟨999 - n, by omega⟩
  rw [hf]
  have e : 1000 - (n + 1) = f := by omega
  conv => lhs; unfold phaseT
  rw [h]; simp only [he, hl, if_false]
  cases pivotT t (leaveT t (enterT cs t.cols)) (enterT cs t.cols) with
  | none => rfl
  | some t' => simp only [Option.map_some, Option.bind_some, e]
structure Head (w wr : World) (S : Nat) (N m : Nat) (T0 : Nat → Nat → Rat) (cost : List (Int × Int)) (o : Option Ph) (gk : Nat) (nn : Nat) (f : Bool) (tt : Tb) (ra : Option Addr) (rn rc : Nat) (ba : Option Addr) (bn bc : Nat) (vs : List Value) : Prop where
 meas : gk = if f = true then 0 else 2 * (1000 - nn) + 1
 mod : Mod S w wr
 st : SolvC wr S ra rn rc ba bn bc vs tt nn f
 go : f = false → TInv N m T0 tt ∧ nn ≤ 1000 ∧ phaseT cost (1000 - nn) tt = o
 no : f = true → o = none
section
variable {w : World} {S : Nat} {ra : Option Addr} {rn rc : Nat} {ba : Option Addr} {bn bc : Nat} {vs : List Value} {t : Tb} {n : Nat}
end
end Go.Proofs.YthjjfkeacobikaaGreat
namespace Go.Proofs.YthjjfkeacobikaaGreat
set_option maxRecDepth 100000
open Go.RowKit
theorem solN_len (t : Tb) : ∀ k, (solN t k).length = t.cols.toNat + t.rows.length
 | 0 => by simp [solN]
 | k + 1 => by simp only [solN, List.length_set]; exact solN_len t k
end Go.Proofs.YthjjfkeacobikaaGreat
