import Derived.Test.YthjjfkeacobikaaGreatTaAllG20
import Derived.Deep.DeepCutAuto
import Derived.Outline
import Derived.Test.YthjjfkeacobikaaGreatTaAllG19
import Derived.Test.YthjjfkeacobikaaGreatTaAllG4
import Derived.StillTailTactics
set_option linter.unusedVariables false
set_option linter.unusedSimpArgs false
namespace Go.Proofs.YthjjfkeacobikaaGreat
set_option maxRecDepth 100000
open Go.RowKit
theorem costN_none {t : Tb} {cost : List (Int × Int)} {k : Nat} (h : costN t cost k = none) : ∀ {n : Nat}, k ≤ n → costN t cost n = none
 | n, hn => by
   obtain ⟨d, rfl⟩ : ∃ d, n = k + d := ⟨n - k, by omega⟩
   clear hn
   induction d with
   | zero => exact h
   | succ d ih => show (costN t cost (k + d)).bind _ = none; rw [ih]; rfl
theorem sclL_len {A B r : List (Int × Int)} {k : Int × Int} (h : sclL A k B = some r) : r.length = A.length := by
 unfold sclL at h; split at h
 ·exact runT_len h
 ·cases h
theorem costN_len {t : Tb} {cost : List (Int × Int)} : ∀ {k : Nat} {cs : List (Int × Int)}, costN t cost k = some cs → cs.length = cost.length + 1
 | 0, cs, h => by simp only [costN, Option.some.injEq] at h; rw [← h]; simp
 | k + 1, cs, h => by
   simp only [costN] at h
   cases e : costN t cost k with
   | none => rw [e] at h; cases h
   | some c0 => rw [e] at h; simp only [Option.bind_some] at h; rw [sclL_len h, costN_len e]
section
variable {w : World} {ra : Option Addr} {rn rc : Nat} {ba : Option Addr} {bn bc : Nat} {t : Tb}
end
end Go.Proofs.YthjjfkeacobikaaGreat
namespace Go.Proofs.YthjjfkeacobikaaGreat
set_option maxRecDepth 100000
open Go.RowKit
theorem enterT_at {costs : List (Int × Int)} {m j : Nat} (h : m ≤ costs.length) (hj : j < m) (h0 : (costs.take j).all (fun c => !belowZ c) = true) (h1 : belowZ (costs[j]?.getD (0, 0)) = true) : enterT costs m = j := by
 unfold enterT
 rw [if_neg (by omega)]
 refine indexF_at (d := (0, 0)) (by simp; omega) (by rw [Int.toNat_natCast, List.take_take, Nat.min_eq_left (by omega)]; exact h0) ?_
 rw [Int.toNat_natCast, List.getElem?_take, if_pos hj]; exact h1
theorem enterT_none {costs : List (Int × Int)} {m : Nat} (h : m ≤ costs.length) (h0 : (costs.take m).all (fun c => !belowZ c) = true) : enterT costs m = -1 := by
 unfold enterT
 rw [if_neg (by omega), Int.toNat_natCast]
 exact indexF_none h0
theorem belowZ_snoc {costs : List (Int × Int)} {j : Nat} {c : Int × Int} (hj : j < costs.length) (hc : costs[j]?.getD (0, 0) = c) (h0 : (costs.take j).all (fun c => !belowZ c) = true) (h1 : belowZ c = false) : (costs.take (j + 1)).all (fun c => !belowZ c) = true := by
 rw [take_snocR hj, List.all_append, h0, hc]; simp [h1]
def updB (st cc bi bb : Int) : Bool := decide (st < 0) || (decide (cc < 0) || (decide (cc = 0) && decide (bi < bb)))
theorem leaveF_A {t : Tb} {c : Nat} {st : Int × (Int × Int)} {k : Nat} {p : Int × Int} (hp : t.at k c = p) (h : cmpR p (0, 1) ≤ 0) : leaveF t c st k = st := by
 unfold leaveF; rw [hp, if_pos h]
theorem leaveF_B {t : Tb} {c : Nat} {st : Int × (Int × Int)} {k u : Nat} {p q : Int × Int} (hu : u = t.cols.toNat + t.rows.length) (hp : t.at k c = p) (hq : t.at k u = q) (h : ¬ cmpR p (0, 1) ≤ 0) (hd : (divR q p).2 = false) : leaveF t c st k = st := by
 unfold leaveF; rw [hp, if_neg h, ← hu, hq, if_pos hd]
theorem leaveF_C {t : Tb} {c : Nat} {st : Int} {l : Int × Int} {k u : Nat} {p q d : Int × Int} (hu : u = t.cols.toNat + t.rows.length) (hp : t.at k c = p) (hq : t.at k u = q) (h : ¬ cmpR p (0, 1) ≤ 0) (hd : divR q p = (d, true)) {bi bb : Int} (hb : t.basis[k]?.getD 0 = bi) (hbb : t.basis[st.toNat]?.getD 0 = bb) :
 leaveF t c (st, l) k = if updB st (cmpR d l) bi bb = true then ((k : Int), d) else (st, l) := by
 unfold leaveF
 rw [hp, if_neg h, ← hu, hq, hd, if_neg (by simp)]
 simp only [hb, hbb, updB, Bool.or_eq_true, Bool.and_eq_true, decide_eq_true_eq]
theorem leaveN_bd (t : Tb) (c : Nat) : ∀ k, (leaveN t c k).1 = -1 ∨ (0 ≤ (leaveN t c k).1 ∧ (leaveN t c k).1 < k)
 | 0 => .inl rfl
 | k + 1 => by
   have ih := leaveN_bd t c k
   show (leaveF t c (leaveN t c k) k).1 = -1 ∨ (0 ≤ (leaveF t c (leaveN t c k) k).1 ∧ (leaveF t c (leaveN t c k) k).1 < ((k + 1 : Nat) : Int))
   unfold leaveF
   split
   ·omega
   ·split
    ·omega
    ·split
     ·right; simp; omega
     ·omega
section
variable {w : World} {ra : Option Addr} {rn rc : Nat} {ba : Option Addr} {bn bc : Nat} {t : Tb}
end
end Go.Proofs.YthjjfkeacobikaaGreat
