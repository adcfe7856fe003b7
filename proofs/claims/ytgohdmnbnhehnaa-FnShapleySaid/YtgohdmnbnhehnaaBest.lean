/- BestOrder on both sides. -/
import Derived.Test.YtgohdmnbnhehnaaOrders2
import Derived.Test.YtgohdmnbnhehnaaMarg
namespace Go.Proofs.Ytgohdmnbnhehnaa
set_option linter.unusedVariables false
set_option linter.unusedSimpArgs false
open Go.RowKit

theorem ordTo_prefix {n : Int} {p q : List Int} {k : Nat} (hk : k ≤ p.length) : ordTo n (p ++ q) k = ordTo n p k := by
  unfold ordTo
  rw [Bool.eq_iff_iff, List.all_eq_true, List.all_eq_true]
  refine forall_congr' fun i => forall_congr' fun hi => ?_
  have hi' : i < p.length := by have := List.mem_range.1 hi; omega
  rw [List.getElem?_append_left hi', List.take_append_of_le_length (by omega)]
theorem ordersF_ord (n : Nat) : ∀ (f : Nat) (p l : List Int), ordTo (n : Int) p p.length = true → l ∈ ordersF f n p → l.length = p.length + f ∧ ordTo (n : Int) l l.length = true
  | 0, p, l, hp, h => by
    simp only [ordersF, List.mem_singleton] at h
    subst h
    exact ⟨rfl, hp⟩
  | f + 1, p, l, hp, h => by
    simp only [ordersF, List.mem_flatMap, List.mem_range] at h
    obtain ⟨k, hk, hl⟩ := h
    split at hl
    · simp at hl
    · rename_i hh
      have hq : ordTo (n : Int) (p ++ [(k : Int)]) (p ++ [(k : Int)]).length = true := by
        rw [List.length_append, show p.length + [(k : Int)].length = p.length + 1 from rfl, ordTo_succ, ordTo_prefix (Nat.le_refl _), hp]
        simp only [Bool.true_and, List.getElem?_concat_length, Option.getD_some, Bool.and_eq_true, Bool.not_eq_true']
        refine ⟨by unfold inB; simp; omega, ?_⟩
        rw [List.take_append_of_le_length (Nat.le_refl _), List.take_length]
        simpa using hh
      have := ordersF_ord n f _ l hq hl
      simp at this ⊢
      exact ⟨by omega, this.2⟩
theorem orders_some : ∀ n : Fin 6, 1 ≤ n.val → 0 < (ordersF n.val n.val []).length ∧ (ordersF n.val n.val []).length ≤ 120 := by decide +kernel
theorem ordersOf_some (n : Nat) (h1 : 1 ≤ n) (h5 : n ≤ 5) : 0 < (ordersOf (n : Int)).length ∧ (ordersOf (n : Int)).length ≤ 120 := by
  unfold ordersOf
  rw [if_pos (by omega), Int.toNat_natCast]
  exact orders_some ⟨n, by omega⟩ h1
theorem ordersOf_ord (n : Nat) (h1 : 1 ≤ n) (h5 : n ≤ 5) (i : Nat) (hi : i < (ordersOf (n : Int)).length) :
    ((ordersOf (n : Int))[i]?.getD []).length = n ∧ ordTo (n : Int) ((ordersOf (n : Int))[i]?.getD []) n = true := by
  have hm : (ordersOf (n : Int))[i]?.getD [] ∈ ordersOf (n : Int) := by simp [hi]
  generalize (ordersOf (n : Int))[i]?.getD [] = l at hm
  unfold ordersOf at hm
  rw [if_pos (by omega), Int.toNat_natCast] at hm
  have := ordersF_ord n n [] l (by simp [ordTo]) hm
  simp at this
  exact ⟨this.1, by have h2 := this.2; rwa [this.1] at h2⟩

/-- The first greatest of X 0, X 1, .. -/
def bestAt (X : Nat → Int) : Nat → Nat × Int
  | 0 => (0, 0)
  | i + 1 => if i = 0 ∨ X i > (bestAt X i).2 then (i, X i) else bestAt X i
theorem bestAt_lt (X : Nat → Int) : ∀ i, (bestAt X (i + 1)).1 < i + 1
  | 0 => by simp [bestAt]
  | i + 1 => by
    have := bestAt_lt X i
    unfold bestAt
    split
    · simp
    · omega
/-- What player k adds in order number i. -/
def addsK (n : Nat) (V : List Int) (k i : Nat) : Int := (mvL n V ((ordersOf (n : Int))[i]?.getD []) n)[k]?.getD 0
def bestOk (p : Int) (V : List Int) (k : Int) : Bool := gameOk p V && inB k 0 (p - 1)
def bestI (p : Int) (V : List Int) (k : Int) : Nat × Int := bestAt (addsK p.toNat V k.toNat) (ordersOf p).length
def bestL (p : Int) (V : List Int) (k : Int) : List Int := if bestOk p V k then (ordersOf p)[(bestI p V k).1]?.getD [] else []
def bestM (p : Int) (V : List Int) (k : Int) : Int := if bestOk p V k then (bestI p V k).2 else 0
theorem bestL_len (p : Int) (V : List Int) (k : Int) : (bestL p V k).length ≤ 1048576 := by
  unfold bestL
  split
  · rename_i h
    unfold bestOk at h
    simp only [Bool.and_eq_true] at h
    obtain ⟨n, rfl, h1, h5, _⟩ := gameOk_len h.1
    by_cases hi : (bestI (n : Int) V k).1 < (ordersOf (n : Int)).length
    · have := (ordersOf_ord n h1 h5 _ hi).1
      omega
    · rw [List.getElem?_eq_none (by omega)]; simp
  · simp
/-- A list, a number and a truth value are returned. -/
def ListIB (w : World) (base : Nat) (e : Ending) (l : List Int) (m : Int) (b : Bool) : Prop := ∃ v, e = .returned (.tuple #[v, .int .i64 m, .bool b]) ∧ OwnI w base v l

/-- Row i of the orders. -/
theorem orders_row {w : World} {base n g N c : Nat} {vs : List Value} (h1 : 1 ≤ n) (h5 : n ≤ 5) (hv : OwnV w base (.slice (some ⟨g, 0, none⟩) N c) vs) (hr : RowsI w base vs (ordersOf (n : Int))) {i : Nat} (hi : i < N) :
    ∃ gi ci, vs[i]?.getD undef = .slice (some ⟨gi, 0, none⟩) n ci ∧ w.cell? ⟨g, i, none⟩ = some (.slice (some ⟨gi, 0, none⟩) n ci) ∧ OwnI w base (.slice (some ⟨gi, 0, none⟩) n ci) ((ordersOf (n : Int))[i]?.getD []) ∧ ordTo (n : Int) ((ordersOf (n : Int))[i]?.getD []) n = true := by
  have hlen := hv.len
  have hLi : i < (ordersOf (n : Int)).length := by rw [← hr.len, hlen]; exact hi
  have ho := ordersOf_ord n h1 h5 i hLi
  have hrow := hr.row i hLi
  obtain ⟨ai, ci, he, _⟩ := hrow.form
  rw [ho.1] at he
  rw [he] at hrow
  obtain ⟨gi, rfl, _⟩ := hrow.block (k := 0) (by omega)
  refine ⟨gi, ci, he, ?_, hrow, ho.2⟩
  obtain ⟨g', hg, _, hc⟩ := hv.cell hi
  have hgg := congrArg (Option.map Addr.block) hg
  simp at hgg
  subst hgg
  rw [hc i hi]
  have : i < vs.length := by rw [hlen]; exact hi
  simp only [this, List.getElem?_eq_getElem, Option.getD_some] at he ⊢
  rw [he]

end Go.Proofs.Ytgohdmnbnhehnaa
