import Derived.Test.YtgohdmnbnhehnaaLvAllG5
import Derived.Test.YtgohdmnbnhehnaaLvAllG7
import Derived.Deep.DeepCutAuto
import Derived.Test.YtgohdmnbnhehnaaLvAllG13
import Derived.Test.YtgohdmnbnhehnaaLvAllG6
import Derived.Lib.SliceRun
namespace Go.Proofs.Ytgohdmnbnhehnaa
set_option linter.unusedVariables false
set_option linter.unusedSimpArgs false
set_option maxRecDepth 100000
open Go.RowKit
theorem OwnV.madeS (w : World) (base n : Nat) (hn : n = w.heap.size) (hb : base ≤ w.heap.size) : OwnV (w.alloc (.cells #[] 24)) base (.slice (some ⟨n, 0, none⟩) 0 0) [] := by
 subst hn; exact World.ownsRow_lit w #[] 0 hb (by omega) rfl
structure Kept (p : Int → Bool) (l M : List Int) (i j : Nat) : Prop where
 len : M.length = l.length
 le : i ≤ j
 jl : j ≤ l.length
 lo : M.take i = (l.take j).filter fun x => !p x
 hi : ∀ k, j ≤ k → M[k]?.getD 0 = l[k]?.getD 0
theorem Kept.drop {p : Int → Bool} {l M : List Int} {i j : Nat} (h : Kept p l M i j) (hj : j < l.length) (hp : p (l[j]?.getD 0) = true) : Kept p l M i (j + 1) :=
 ⟨h.len, by have := h.le; omega, by omega, by rw [take_snoc hj, List.filter_append, ← h.lo]; simp [hp], fun k hk => h.hi k (by omega)⟩
theorem Kept.keep {p : Int → Bool} {l M : List Int} {i j : Nat} (h : Kept p l M i j) (hj : j < l.length) (hp : p (l[j]?.getD 0) = false) : Kept p l (M.set i (l[j]?.getD 0)) (i + 1) (j + 1) := by
 have hi : i < M.length := by have := h.le; have := h.len; omega
 refine ⟨by rw [List.length_set]; exact h.len, by have := h.le; omega, by omega, ?_, fun k hk => ?_⟩
 ·rw [take_snoc hj, List.filter_append, ← h.lo, List.take_succ_eq_append_getElem (by rw [List.length_set]; exact hi), List.take_set_of_le (Nat.le_refl _), List.getElem_set_self]
  simp [hp]
 ·have := h.le
  rw [List.getElem?_set_ne (by omega)]
  exact h.hi k (by omega)
theorem Kept.start {p : Int → Bool} {l : List Int} {i : Nat} (hi : i < l.length) (ha : (l.take i).all (fun x => !p x) = true) (hp : p (l[i]?.getD 0) = true) : Kept p l l i (i + 1) := by
 refine ⟨rfl, by omega, by omega, ?_, fun _ _ => rfl⟩
 rw [take_snoc hi, List.filter_append]
 have : (l.take i).filter (fun x => !p x) = l.take i := List.filter_eq_self.2 fun x hx => List.all_eq_true.1 ha x hx
 rw [this]; simp [hp]
theorem OwnI.zeros {base g n cap : Nat} : ∀ (m : Nat) {o : Nat} {w : World} {M : List Int}, OwnI w base (.slice (some ⟨g, 0, none⟩) n cap) M → ∃ M', OwnI (w.setCells g o (List.replicate m (.int .i64 0))) base (.slice (some ⟨g, 0, none⟩) n cap) M' ∧ M'.take o = M.take o
 | 0, _, _, M, h => ⟨M, h, rfl⟩
 | m + 1, o, w, M, h => by
   obtain ⟨M', h1, h2⟩ := OwnI.zeros m (o := o + 1) (h.set o 0)
   refine ⟨M', h1, ?_⟩
   have h3 := congrArg (List.take o) h2
   rw [List.take_take, List.take_take, Nat.min_eq_left (by omega)] at h3
   rw [h3, List.take_set_of_le (Nat.le_refl _)]
theorem OwnI.takeO {w : World} {base g n cap : Nat} {M : List Int} (h : OwnI w base (.slice (some ⟨g, 0, none⟩) n cap) M) {k : Nat} (hk : k ≤ n) : OwnI w base (.slice (some ⟨g, 0, none⟩) k cap) (M.take k) := by
 rcases h.2 with ⟨he, h0⟩ | ⟨g', cap', cur, he, hb, hg, h1, h2, hs, ht⟩
 ·cases he
 ·simp only [Value.slice.injEq, Option.some.injEq, Addr.mk.injEq, and_true] at he
  obtain ⟨rfl, rfl, rfl⟩ := he
  have hl : (M.take k).length = k := by simp; omega
  refine ⟨by simp, .inr ⟨g, cap, cur, by rw [hl], hb, hg, by omega, h2, hs, ?_⟩⟩
  rw [hl, List.map_take, ← ht, List.take_take, Nat.mul_one, Nat.mul_one, Nat.min_eq_left hk]
theorem OwnI.outS {w : World} {base g n cap : Nat} {l : List Int} (h : OwnI w base (.slice (some ⟨g, 0, none⟩) n cap) l) : base ≤ g ∧ g < w.heap.size ∧ (∀ j, w.frozen? ⟨g, j, none⟩ = false) ∧ ∀ k, k < n → w.cell? ⟨g, k, none⟩ = some (.int .i64 (l[k]?.getD 0)) := by
 rcases h.2 with ⟨he, h0⟩ | ⟨g', cap', cur, he, hb, hg, h1, h2, hs, ht⟩
 ·cases he
 ·have hgg : g' = g := by simp only [Value.slice.injEq, Option.some.injEq, Addr.mk.injEq, and_true] at he; exact he.1.symm
  subst hgg
  refine ⟨hb, lt_of_block hg, fun j => frozen_of_row w g' j cur _ hg, fun k hk => ?_⟩
  obtain ⟨b, off, e, hc⟩ := h.ints.at hk
  simp only [Option.some.injEq, Addr.mk.injEq, and_true] at e
  rw [← e.1, ← e.2, Nat.zero_add] at hc
  exact hc
theorem below_setCells' {B : Nat} {a : World} (b : Nat) (hb : B ≤ b) : ∀ (vs : List Value) (o : Nat) {w : World}, Below B a w → Below B a (w.setCells b o vs)
 | [], _, _, h => h
 | v :: r, o, w, h => below_setCells' b hb r (o + 1) (h.setCell hb v)
end Go.Proofs.Ytgohdmnbnhehnaa
