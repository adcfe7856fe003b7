/- All orders of the players: the program's closure makes the list of the reference's recursion; AllOrders on both sides. -/
import Derived.Test.YtgohdmnbnhehnaaOrders
import Derived.Deep.RegionLaw
import Derived.Laws.EntriesVeiled
namespace Go.Proofs.Ytgohdmnbnhehnaa
set_option linter.unusedVariables false
open Go.RowKit

theorem OwnI.pop {w : World} {base : Nat} {a : Option Addr} {n cap : Nat} {l : List Int} {x : Int} (h : OwnI w base (.slice a (n + 1) cap) (l ++ [x])) : OwnI w base (.slice a n cap) l := by
  obtain ⟨a', c', he, _⟩ := h.form
  simp only [Value.slice.injEq, List.length_append, List.length_singleton] at he
  have hn : n = l.length := by omega
  subst hn
  refine ⟨by simp, ?_⟩
  rcases h.2 with ⟨he, h0⟩ | ⟨g, cap', cur, he, hb, hg, h1, h2, hs, ht⟩
  · simp at h0
  · simp only [Value.slice.injEq] at he
    obtain ⟨rfl, _, rfl⟩ := he
    refine .inr ⟨g, cap, cur, rfl, hb, hg, by simp at h1; omega, h2, hs, ?_⟩
    have := congrArg (List.take (l.length * 1)) ht
    rw [List.take_take, Nat.min_eq_left (by simp)] at this
    rw [this]
    simp

theorem heap_setCell_one {w : World} {b : Nat} {v u : Value} {t : TypeId} (h : w.heap[b]? = some (.cells #[v] t (0, 0))) : (w.setCell ⟨b, 0, none⟩ u).heap[b]? = some (.cells #[u] t (0, 0)) := one_setCell h

section
variable {w w' : World} {base bn bN bo bw n m c m' c' : Nat} {p : List Int} {L : List (List Int)} {a a' : Option Addr} {vs : List Value}

end

/-- All orders of n players. -/
def ordersOf (n : Int) : List (List Int) := if 1 ≤ n ∧ n ≤ 5 then ordersF n.toNat n.toNat [] else []

set_option maxHeartbeats 1000000 in
theorem s_AllOrders (x : Int) (w : World) :
    Calls Try.prog 22 #[.int .i64 x] w fun e w' => ∃ v, e = .returned v ∧ OwnSS w' w.heap.size v (ordersOf x) ∧ Ext w w' := by
  cases hin : inB x 1 5
  · have HI := Lib.hid (show ordersOf x = [] by unfold ordersOf; rw [if_neg]; unfold inB at hin; simp at hin; omega)
    go_enter Try.func22, Try.ntmps22
    go_wp2_with (first | (go_at_call 70; refine (s_l1In _ _ _ _).mono ?_; rintro e w' ⟨rfl, rfl⟩))
    go_ret
    exact ⟨_, rfl, by rw [HI.out]; exact ⟨[], OwnV.made w _ (Nat.le_refl _), RowsI.nil _ _⟩, Ext.alloc _ _⟩
  · have hb : 1 ≤ x ∧ x ≤ 5 := by unfold inB at hin; simpa using hin
    obtain ⟨n, rfl⟩ : ∃ n : Nat, x = n := ⟨x.toNat, by omega⟩
    have hn : n ≤ 5 := by omega
    have h5 : 5 ^ n ≤ 5 ^ 5 := Nat.pow_le_pow_right (by omega) hn
    have HI := Lib.hid (show ordersOf (n : Int) = ordersF n n [] by unfold ordersOf; rw [if_pos hb]; simp)
    have HC := Lib.hid (s_l15Orders n hn n ((w.alloc (.cells #[] 3)).alloc (.cells #[] 24)) w.heap.size w.heap.size (some ⟨w.heap.size, 0, none⟩) 0 0 [] (some ⟨w.heap.size + 1, 0, none⟩) 0 0 [] (by simp) ((OwnI.made w w.heap.size (Nat.le_refl _)).ext (Ext.alloc _ _)) ⟨[], by simpa using OwnV.made (w.alloc (.cells #[] 3)) w.heap.size (by simp), RowsI.nil _ _⟩ (by simp; omega) (by simp; omega))
    clear h5 hb
    go_enter Try.func22, Try.ntmps22
    go_wp2_with (first | (go_at_call 70; refine (s_l1In _ _ _ _).mono ?_; rintro e w' ⟨rfl, rfl⟩))
    refine HC.out.mono ?_
    rintro e w1 ⟨v, rfl, ho, hg, _⟩
    have HO := Lib.hid ho
    have HX := Lib.hid (ext_grown ((Ext.alloc w (.cells #[] 3)).trans (Ext.alloc _ (.cells #[] 24))) hg (fun k hk => by have := Option.some.inj (show some (w.heap.size + 1) = some k from hk); omega))
    clear ho hg
    go_wp2
    go_ret
    exact ⟨_, rfl, by rw [HI.out]; simpa using HO.out, HX.out⟩
end Go.Proofs.Ytgohdmnbnhehnaa
