import Derived.Test.YthjjfkeacobikaaGreatMkAllG7
import Derived.Test.YthjjfkeacobikaaGreatMkAllG4
import Derived.Test.YthjjfkeacobikaaGreatMkAllG5
import Derived.Test.YthjjfkeacobikaaGreatMkAllG3
namespace Go.Proofs.YthjjfkeacobikaaGreat
set_option linter.unusedVariables false
set_option linter.unusedSimpArgs false
set_option maxRecDepth 100000
open Go.RowKit
section
variable {t : TypeId} {r b : Nat} {x : Int} {a : Option Addr} {n c : Nat}
theorem Bx.ext {f g : Bx} (h : ∀ k, f k = g k) : f = g := funext h
end
def Few (l : List Int) : Prop := ∀ x ∈ l, 0 ≤ x ∧ x ≤ 100
def FewB (l : List Int) : Prop := ∀ x ∈ l, -1 ≤ x ∧ x ≤ 101
end Go.Proofs.YthjjfkeacobikaaGreat
namespace Go.Proofs.YthjjfkeacobikaaGreat
set_option linter.unusedVariables false
set_option linter.unusedSimpArgs false
set_option maxRecDepth 100000
open Go.RowKit
theorem three_dry (x y : Int) (s : Value) (hs : ∀ y : Int, s ≠ Value.int .u8 y) : ∀ (j : Nat) (z : Int), (#[Value.int .i64 x, .int .i64 y, s] : Array Value)[j]? ≠ some (Value.int .u8 z) := fun j z e => by
 match j with
 | 0 => simp at e
 | 1 => simp at e
 | 2 => exact hs z (by simpa using e)
 | j + 3 => simp at e
def trBx (t : TypeId) (r b : Nat) (x y : Int) (a : Option Addr) (n c : Nat) : Bx := (Bx.nil.upd r (#[.int .i64 0, .int .i64 0, .slice none 0 0], t)).upd b (#[.int .i64 x, .int .i64 y, .slice a n c], t)
section
variable {t : TypeId} {r b : Nat} {x y : Int} {a : Option Addr} {n c : Nat}
theorem trBx_b : trBx t r b x y a n c b = some (#[.int .i64 x, .int .i64 y, .slice a n c], t) := Bx.same _ _ _
theorem trBx_r (h : r ≠ b) : trBx t r b x y a n c r = some (#[.int .i64 0, .int .i64 0, .slice none 0 0], t) := (Bx.other _ _ h).trans (Bx.same _ _ _)
theorem trBx_o {k : Nat} (h : k ≠ r) (h' : k ≠ b) : trBx t r b x y a n c k = none := (Bx.other _ _ h').trans (Bx.other _ _ h)
theorem trBx_set (x' y' : Int) (a' : Option Addr) (n' c' : Nat) : (trBx t r b x y a n c).upd b (#[.int .i64 x', .int .i64 y', .slice a' n' c'], t) = trBx t r b x' y' a' n' c' := by
 refine Bx.ext fun k => ?_
 by_cases e : k = b
 ·subst e; rw [Bx.same, trBx_b]
 ·rw [Bx.other _ _ e]; unfold trBx; rw [Bx.other _ _ e, Bx.other _ _ e]
end
section
variable {w wr w' : World} {cb b : Nat} {f : Bx} {x0 x1 x2 : Value} {t : TypeId}
theorem Bxs.t0 (h : Bxs w wr cb f) (hf : f b = some (#[x0, x1, x2], t)) : wr.cell? ⟨b, 0, none⟩ = some x0 := h.cell hf 0
theorem Bxs.t1 (h : Bxs w wr cb f) (hf : f b = some (#[x0, x1, x2], t)) : wr.cell? ⟨b, 1, none⟩ = some x1 := h.cell hf 1
theorem Bxs.t2 (h : Bxs w wr cb f) (hf : f b = some (#[x0, x1, x2], t)) : wr.cell? ⟨b, 2, none⟩ = some x2 := h.cell hf 2
theorem Bxs.put3 (h : Bxs w wr cb f) (hf : f b = some (#[x0, x1, x2], t)) (v0 v1 v2 : Value) (h0 : ∀ y : Int, v0 ≠ Value.int .u8 y) (h1 : ∀ y : Int, v1 ≠ Value.int .u8 y) (h2 : ∀ y : Int, v2 ≠ Value.int .u8 y) :
 Bxs w (((wr.setCell ⟨b, 0, none⟩ v0).setCell ⟨b, 1, none⟩ v1).setCell ⟨b, 2, none⟩ v2) cb (f.upd b (#[v0, v1, v2], t)) := by
 have h3 := ((h.put hf 0 v0 h0).put (Bx.same _ _ _) 1 v1 h1).put (Bx.same _ _ _) 2 v2 h2
 refine ⟨h3.cur, h3.grown, fun k p hk => h3.box k p ?_, fun k p hk => h3.dry k p ?_⟩
 all_goals
  by_cases e : k = b
  ·subst e; rw [Bx.same] at hk ⊢; rw [← hk]; rfl
  ·rw [Bx.other _ _ e] at hk; rw [Bx.other _ _ e, Bx.other _ _ e, Bx.other _ _ e]; exact hk
end
theorem RowsI.snocK {w : World} {base b2 : Nat} {vs : List Value} {L : List (List Int)} (h : RowsI w base vs L) {v : Value} {l : List Int} (ho : OwnI w b2 v l) (hb : base ≤ b2)
 (hlt : ∀ i k, i < L.length → (vs[i]?.getD undef).ownBlock = some k → k < b2) : RowsI w base (vs ++ [v]) (L ++ [l]) := by
 refine ⟨by simp [h.len], fun i hi => ?_, fun i j k hij hj hk => ?_⟩
 ·by_cases hl : i < L.length
  ·rw [List.getElem?_append_left (by rw [h.len]; exact hl), List.getElem?_append_left hl]; exact h.row i hl
  ·have : i = L.length := by simp at hi; omega
   subst this
   rw [← h.len]
   simp only [List.getElem?_concat_length, Option.getD_some]
   rw [h.len]
   simp only [List.getElem?_concat_length, Option.getD_some]
   exact ho.mono hb
 ·by_cases hl : j < L.length
  ·rw [List.getElem?_append_left (by rw [h.len]; omega)] at hk
   rw [List.getElem?_append_left (by rw [h.len]; exact hl)]
   exact h.apart i j k hij hl hk
  ·have : j = L.length := by simp at hj; omega
   subst this
   rw [List.getElem?_append_left (by rw [h.len]; omega)] at hk
   rw [← h.len]
   simp only [List.getElem?_concat_length, Option.getD_some]
   intro hk'
   have h1 := hlt i k (by omega) hk
   have h2 := (ho.lt k hk').1
   omega
theorem Mat.calls {w w' : World} {base cb : Nat} {a : Option Addr} {N cap : Nat} {vs : List Value} {M : List (List Int)} (h : Mat w base a N cap vs M) (hg : w.grownBy w' (some cb)) (hb : cb < base) : Mat w' base a N cap vs M :=
 h.keep (fun k hk => grown_block hg (h.own.lt k hk).2 (by have := (h.own.lt k hk).1; omega))
  (fun i k hi hk => by
    have := (h.rows.row i (by rw [h.len]; exact hi)).lt k hk
    exact grown_block hg this.2 (by omega))
theorem Mat.under {w : World} {base b : Nat} {a : Option Addr} {N cap : Nat} {vs : List Value} {M : List (List Int)} (h : Mat w base a N cap vs M) (hb : b < base) (i : Nat) (v : Value) : Mat (w.setCell ⟨b, i, none⟩ v) base a N cap vs M :=
 h.keep (fun k hk => heap_setCell_other _ _ _ _ (by have := (h.own.lt k hk).1; show k ≠ b; omega))
  (fun i k hi hk => by
    have := (h.rows.row i (by rw [h.len]; exact hi)).lt k hk
    exact heap_setCell_other _ _ _ _ (by show k ≠ b; omega))
theorem Mat.under3 {w : World} {base b : Nat} {a : Option Addr} {N cap : Nat} {vs : List Value} {M : List (List Int)} (h : Mat w base a N cap vs M) (hb : b < base) (v0 v1 v2 : Value) :
 Mat (((w.setCell ⟨b, 0, none⟩ v0).setCell ⟨b, 1, none⟩ v1).setCell ⟨b, 2, none⟩ v2) base a N cap vs M := ((h.under hb 0 v0).under hb 1 v1).under hb 2 v2
theorem Mat.mono {w : World} {base base' : Nat} {a : Option Addr} {N cap : Nat} {vs : List Value} {M : List (List Int)} (h : Mat w base a N cap vs M) (hb : base' ≤ base) : Mat w base' a N cap vs M := by
 refine ⟨?_, h.rows.len, fun i hi => (h.rows.row i hi).mono hb, h.rows.apart⟩
 have ho := h.own
 refine ⟨ho.1, ?_⟩
 rcases ho.2 with hn | ⟨g, cap', cur, he, hbb, rest⟩
 ·exact .inl hn
 ·exact .inr ⟨g, cap', cur, he, by omega, rest⟩
theorem Mat.nil (w : World) (base : Nat) : Mat w base none 0 0 [] [] := ⟨OwnV.nil w base, RowsI.nil w base⟩
theorem Mat.slot {w : World} {base G N cap : Nat} {vs : List Value} {M : List (List Int)} (h : Mat w base (some ⟨G, 0, none⟩) N cap vs M) {i : Nat} (hi : i < N) : w.cell? ⟨G, i, none⟩ = some (vs[i]?.getD undef) := by
 obtain ⟨G', hG, _, hc⟩ := h.own.cell hi
 simp only [Option.some.injEq, Addr.mk.injEq, and_true] at hG
 subst hG
 have hv : i < vs.length := by rw [h.vlen]; exact hi
 rw [hc i hi]
 simp [hv]
theorem OwnV.slotV {w : World} {base G n cap : Nat} {vs : List Value} (h : OwnV w base (.slice (some ⟨G, 0, none⟩) n cap) vs) {i : Nat} (hi : i < n) : w.cell? ⟨G, i, none⟩ = some (vs[i]?.getD undef) := by
 have hl := h.len
 obtain ⟨G', hG, _, hc⟩ := h.cell hi
 simp only [Option.some.injEq, Addr.mk.injEq, and_true] at hG
 subst hG
 have hv : i < vs.length := by rw [hl]; exact hi
 rw [hc i hi]
 simp [hv]
theorem OwnV.freeV {w : World} {base G n cap : Nat} {vs : List Value} (h : OwnV w base (.slice (some ⟨G, 0, none⟩) n cap) vs) (hn : 0 < n) (j : Nat) : w.frozen? ⟨G, j, none⟩ = false := by
 rcases h.2 with ⟨he, h0⟩ | ⟨g, cap', cur, he, hb, hg, _⟩
 ·simp only [Value.slice.injEq] at he
  omega
 ·simp only [Value.slice.injEq, Option.some.injEq, Addr.mk.injEq, and_true] at he
  obtain ⟨rfl, _⟩ := he
  exact frozen_of_row w G j cur _ hg
theorem Mat.regrow {w w' : World} {base G N cap : Nat} {vs : List Value} {M : List (List Int)} (h : Mat w base (some ⟨G, 0, none⟩) N cap vs M) (hb : base ≤ w.heap.size) {i : Nat} (hi : i < N) {v v' : Value} (hv : vs[i]?.getD undef = v) {l : List Int} (ho : OwnI w' base v' l) (hg : w.grownBy w' v.ownBlock) (hn : Near w v v') :
 Mat (w'.setCell ⟨G, i, none⟩ v') base (some ⟨G, 0, none⟩) N cap (vs.set i v') (M.set i l) := by
 have hil : i < M.length := by rw [h.len]; exact hi
 have hvl : i < vs.length := by rw [h.vlen]; exact hi
 obtain ⟨G', hG, hbG, hGl, _⟩ := h.outer (by omega)
 simp only [Option.some.injEq, Addr.mk.injEq, and_true] at hG
 subst hG
 have hvi : ∀ k, v.ownBlock = some k → k ≠ G := fun k hk e => by
  have hr := h.rows.row i hil
  rw [hv] at hr
  exact hr.apart h.own k hk (by subst e; rfl)
 have hO : OwnV w' base (.slice (some ⟨G, 0, none⟩) N cap) vs := h.own.keep fun k hk => by
  simp only [Value.ownBlock, Option.some.injEq] at hk
  subst hk
  exact hg.block G hGl fun e => hvi G e.symm rfl
 have hR : ∀ k, k < M.length → k ≠ i → OwnI w' base (vs[k]?.getD undef) (M[k]?.getD []) := fun k hk hki => (h.rows.row k hk).keep fun b hb' => hg.block b ((h.rows.row k hk).lt b hb').2 fun e => by
  exact h.rows.apart' hki hk hil hb' (by rw [hv]; exact e.symm)
 have hother : ∀ k, k ≠ G → (w'.setCell ⟨G, i, none⟩ v').heap[k]? = w'.heap[k]? := fun k hk => heap_setCell_other _ _ _ _ hk
 refine ⟨?_, ⟨by rw [List.length_set, List.length_set]; exact h.rows.len, fun k hk => ?_, fun a b k hab hb2 hk hk2 => ?_⟩⟩
 ·have hs := hO
  unfold OwnV at hs
  rw [h.vlen] at hs
  have := (World.ownsRow.stored hs i v').1
  unfold OwnV
  rw [List.length_set, h.vlen]
  exact this
 ·rw [List.length_set] at hk
  by_cases hki : k = i
  ·subst hki
   rw [List.getElem?_set_self hvl, List.getElem?_set_self hil]
   exact ho.keep fun b hb' => hother b fun e => by subst e; exact ho.apart hO _ hb' rfl
  ·rw [List.getElem?_set_ne (Ne.symm hki), List.getElem?_set_ne (Ne.symm hki)]
   refine (hR k hk hki).keep fun b hb' => hother b fun e => ?_
   subst e
   exact (hR k hk hki).apart hO _ hb' rfl
 ·rw [List.length_set] at hb2
  have key : ∀ c, c < M.length → c ≠ i → ∀ k, v'.ownBlock = some k → (vs[c]?.getD undef).ownBlock ≠ some k := fun c hc hci k hk e => by
   rcases hn k hk with h1 | h1
   ·exact h.rows.apart' hci hc hil e (by rw [hv]; exact h1)
   ·have := ((h.rows.row c hc).lt k e).2
    omega
  by_cases hai : a = i
  ·subst hai
   rw [List.getElem?_set_self hvl] at hk
   rw [List.getElem?_set_ne (by omega)] at hk2
   exact key b hb2 (by omega) k hk hk2
  ·rw [List.getElem?_set_ne (Ne.symm hai)] at hk
   by_cases hbi : b = i
   ·subst hbi
    rw [List.getElem?_set_self hvl] at hk2
    exact key a (by omega) hai k hk2 hk
   ·rw [List.getElem?_set_ne (Ne.symm hbi)] at hk2
    exact h.rows.apart a b k hab hb2 hk hk2
def Wide (B : Nat) (M : List (List Int)) : Prop := ∀ l ∈ M, l.length = B
theorem Wide.snoc {B : Nat} {M : List (List Int)} (h : Wide B M) {l : List Int} (hl : l.length = B) : Wide B (M ++ [l]) := fun x hx => by
 rcases List.mem_append.1 hx with h1 | h1
 ·exact h x h1
 ·rw [List.mem_singleton] at h1; subst h1; exact hl
end Go.Proofs.YthjjfkeacobikaaGreat
