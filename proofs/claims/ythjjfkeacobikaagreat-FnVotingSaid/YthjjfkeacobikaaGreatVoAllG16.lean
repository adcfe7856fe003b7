import Derived.Test.YthjjfkeacobikaaGreatVoAllG15
import Derived.Test.YthjjfkeacobikaaGreatVoAllG12
import Derived.Test.YthjjfkeacobikaaGreatVoAllG6
import Derived.Test.YthjjfkeacobikaaGreatVoAllG13
namespace Go.Proofs.YthjjfkeacobikaaGreat
set_option linter.unusedVariables false
set_option linter.unusedSimpArgs false
set_option maxRecDepth 100000
open Go.RowKit
theorem solN_len (t : Tb) : ∀ k, (solN t k).length = t.cols.toNat + t.rows.length
 | 0 => by simp [solN]
 | k + 1 => by simp only [solN, List.length_set]; exact solN_len t k
theorem coreC_snoc {V : List Int} {n k : Nat} {v : Int} (hn : V.length = n) (h : k + 1 < n) (hv : V[k + 1]?.getD 0 = v) : (coreC V).take k ++ [(-v, 1)] = (coreC V).take (k + 1) := by
 have h1 : k + 1 < V.length := by omega
 have h2 : (coreC V)[k]? = some (-v, 1) := by
  unfold coreC
  rw [List.getElem?_eq_getElem h1, Option.getD_some] at hv
  rw [List.getElem?_map, List.getElem?_drop, Nat.add_comm 1 k, List.getElem?_eq_getElem h1, hv]; rfl
 have h3 : k < (coreC V).length := (List.getElem?_eq_some_iff.1 h2).1
 rw [List.take_succ_eq_append_getElem h3, (List.getElem?_eq_some_iff.1 h2).2]
def LpcR (w : World) (e : Ending) (A : List (List Int)) (B : List Int) (C : List (Int × Int)) (ok : Bool) : Prop :=
 ∃ a na ca b nb cb c nc cc, e = .returned (.tuple #[lpW a na ca b nb cb c nc cc, .bool ok]) ∧ (ok = true → LpC w a na ca b nb cb c nc cc A B C)
theorem allR_succ (p : Nat → Bool) (k : Nat) : (List.range (k + 1)).all p = ((List.range k).all p && p k) := by
 rw [List.range_succ, List.all_append]; simp
theorem allR_false {p : Nat → Bool} {k n : Nat} (h : k < n) (hp : p k = false) : (List.range n).all p = false := by
 rw [List.all_eq_false]; exact ⟨k, List.mem_range.2 h, by simp [hp]⟩
def okRowI (m : Nat) (r : List Int) : Bool := decide (r.length = m) && r.all (inB · (-5000) 5000)
theorem okLP_eq (A : List (List Int)) (B : List Int) (C : List (Int × Int)) : okLP A B C = (decide (C.length ≤ 70) && (decide (A.length ≤ 8) && (decide (B.length = A.length) && (allV C && (A.all (okRowI C.length) && B.all (inB · (-5000) 5000)))))) := rfl
theorem all_takeL {p : List Int → Bool} {l : List (List Int)} {k : Nat} (h : k < l.length) : (l.take (k + 1)).all p = ((l.take k).all p && p (l[k]?.getD [])) := by
 rw [takeL_snoc h]; simp
theorem all_falseL {p : List Int → Bool} {l : List (List Int)} {k : Nat} (h : k < l.length) (hb : p (l[k]?.getD []) = false) : l.all p = false := by
 rw [List.all_eq_false]
 exact ⟨l[k], List.getElem_mem h, by rw [List.getElem?_eq_getElem h] at hb; simpa using hb⟩
section
variable {w : World} {a : Option Addr} {na ca : Nat} {b : Option Addr} {nb cb : Nat} {c : Option Addr} {nc cc : Nat} {A : List (List Int)} {B : List Int} {C : List (Int × Int)}
end
end Go.Proofs.YthjjfkeacobikaaGreat
