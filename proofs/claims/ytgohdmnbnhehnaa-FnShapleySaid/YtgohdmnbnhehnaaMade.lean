/- Games made with a closure. -/
import Derived.Test.YtgohdmnbnhehnaaOrders
import Derived.Test.YtgohdmnbnhehnaaGame
namespace Go.Proofs.Ytgohdmnbnhehnaa
set_option linter.unusedVariables false
set_option linter.unusedSimpArgs false
open Go.RowKit

/-- A closure that answers f of a number, in every world that has grown from w; numbers below m alone. -/
def Tells (P : Program) (w : World) (fid : FuncId) (ca : Array Value) (m : Nat) (f : Nat → Int) : Prop :=
  ∀ (s : Nat) (w1 : World), s < m → Ext w w1 → Calls P fid (#[.int .i64 (s : Int)] ++ ca) w1 fun e w2 => e = .returned (.int .i64 (f s)) ∧ Ext w1 w2
theorem Tells.ext {P : Program} {w w' : World} {fid : FuncId} {ca : Array Value} {m : Nat} {f : Nat → Int} (h : Tells P w fid ca m f) (hx : Ext w w') : Tells P w' fid ca m f :=
  fun s w1 hs k => h s w1 hs (hx.trans k)

/-- f 0, f 1, .. -/
def rowF (f : Nat → Int) (m : Nat) : List Int := (List.range m).map f
theorem rowF_succ (f : Nat → Int) (m : Nat) : rowF f (m + 1) = rowF f m ++ [f m] := by simp [rowF, List.range_succ]
theorem rowF_len (f : Nat → Int) (m : Nat) : (rowF f m).length = m := by simp [rowF]
theorem rowF_ok {f : Nat → Int} {n : Nat} (h1 : 1 ≤ n) (h5 : n ≤ 5) (h0 : f 0 = 0) (hb : ∀ s, s < cN n → -500 ≤ f s ∧ f s ≤ 500) : gameOk (n : Int) (rowF f (cN n)) = true := by
  have hN := cN_le n h5
  unfold gameOk
  rw [rowF_len, cntC_nat n h5]
  simp only [Bool.and_eq_true, decide_eq_true_eq]
  refine ⟨?_, ?_, trivial, ?_⟩
  · rw [List.all_eq_true]
    intro x hx
    obtain ⟨s, hs, rfl⟩ := List.mem_map.1 hx
    have := hb s (List.mem_range.1 hs)
    unfold inB; simp; omega
  · unfold inB; simp; omega
  · have : 0 < cN n := by omega
    simp [rowF, this, h0]

theorem two_cell0 {w : World} {g : Nat} {x y : Value} {t : TypeId} (h : w.heap[g]? = some (.cells #[x, y] t (0, 0))) : w.cell? ⟨g, 0, none⟩ = some x := by rw [cell_of_row w g 0 _ t _ h]; rfl
theorem two_cell1 {w : World} {g : Nat} {x y : Value} {t : TypeId} (h : w.heap[g]? = some (.cells #[x, y] t (0, 0))) : w.cell? ⟨g, 1, none⟩ = some y := by rw [cell_of_row w g 1 _ t _ h]; rfl
theorem two_set {w : World} {g : Nat} {x y z : Value} {t : TypeId} (h : w.heap[g]? = some (.cells #[x, y] t (0, 0))) : (w.setCell ⟨g, 1, none⟩ z).heap[g]? = some (.cells #[x, z] t (0, 0)) := by
  rw [heap_setCell_same w g 1 _ t z h]; rfl

/-- A game in variables: what both sides return. -/
def GameV (w : World) (base : Nat) (e : Ending) (n : Nat) (l : List Int) (b : Bool) : Prop := ∃ v, e = .returned (.tuple #[.agg #[.int .i64 (n : Int), v], .bool b]) ∧ OwnI w base v l

end Go.Proofs.Ytgohdmnbnhehnaa
