/- The last statement of a stage: what is kept while the rows and the right side are put together. -/
import Derived.Test.YtokpmflhgehicaaStageP
namespace Go.Proofs.Ytokpmflhgehicaa
set_option linter.unusedVariables false
open Go.RowKit

/-- A slice of rows (those of us of the rows rs), and a list of fractions, owned; all rows lie before z. -/
structure St3 (W Wc : World) (B z : Nat) (va : Value) (us rs : List Value) (A : List (List Int)) (vc : Value) (C : List (Int × Int)) : Prop where
  out : OwnV Wc B va us
  rows : RowsI Wc B rs A
  top : ∀ i k, i < A.length → (rs[i]?.getD undef).ownBlock = some k → k < z
  c : OwnR Wc B vc C
  ext : Ext W Wc
  hz : z ≤ Wc.heap.size
theorem St3.more {W Wc Wd : World} {B z : Nat} {va : Value} {us rs : List Value} {A : List (List Int)} {vc : Value} {C : List (Int × Int)} (h : St3 W Wc B z va us rs A vc C) (hx : Ext Wc Wd) : St3 W Wd B z va us rs A vc C :=
  ⟨h.out.ext hx, h.rows.ext hx, h.top, h.c.ext hx, h.ext.trans hx, Nat.le_trans h.hz hx.size⟩
theorem St3.push {W Wc Wd We : World} {B z : Nat} {va va' : Value} {us us' rs : List Value} {A : List (List Int)} {vc : Value} {C : List (Int × Int)} (h : St3 W Wc B z va us rs A vc C) (hx : Ext Wc Wd) (hg : Wd.grownBy We va.ownBlock) (ho : OwnV We B va' us') (hB : W.heap.size ≤ B) : St3 W We B z va' us' rs A vc C := by
  have h1 := h.more hx
  refine ⟨ho, h1.rows.keep fun i k hi hk => hg.block k ((h1.rows.row i hi).lt k hk).2 fun e => (h1.rows.row i hi).apart h1.out k hk e.symm, h.top, ?_, h1.ext.grown hg fun k hk => Nat.le_trans hB (h1.out.lt k hk).1, Nat.le_trans h1.hz hg.size⟩
  exact h1.c.keep fun k hk => hg.block k (h1.c.lt k hk).2 fun e => ownsRow_apart (by decide) h1.c h1.out k hk e.symm
theorem St3.growT {W Wc Wd We : World} {B z : Nat} {va : Value} {us rs : List Value} {A : List (List Int)} {vc : Value} {C : List (Int × Int)} (h : St3 W Wc B z va us rs A vc C) (hx : Ext Wc Wd) {vT : Value} {l : List Int} (hT : OwnI Wd z vT l) (hg : Wd.grownBy We vT.ownBlock) (hzW : W.heap.size ≤ z) : St3 W We B z va us rs A vc C := by
  have h1 := h.more hx
  refine ⟨h1.out.keep fun k hk => hg.block k (h1.out.lt k hk).2 fun e => hT.apart h1.out k e.symm hk, h1.rows.keep fun i k hi hk => hg.block k ((h1.rows.row i hi).lt k hk).2 fun e => ?_, h.top, h1.c.keep fun k hk => hg.block k (h1.c.lt k hk).2 fun e => ownsRow_apart (by decide) h1.c hT k hk e.symm, h1.ext.grown hg fun k hk => Nat.le_trans hzW (hT.lt k hk).1, Nat.le_trans h1.hz hg.size⟩
  have h2 := h.top i k hi hk
  have h3 := (hT.lt k e.symm).1
  omega
theorem St3.start {W w4 w15 : World} {B : Nat} {a : Option Addr} {N cap : Nat} {vs : List Value} {A : List (List Int)} {vl : Value} {l : List Int} {vc : Value} {C : List (Int × Int)} (hM : Mat w4 B a N cap vs A) (hx : Ext w4 w15) (hl : OwnI w15 w4.heap.size vl l) (hb : B ≤ w4.heap.size) (hc : OwnR w15 B vc C) (hW : Ext W w15) :
    St3 W w15 B w15.heap.size (.slice a N cap) vs (vs ++ [vl]) (A ++ [l]) vc C :=
  have hr := hM.rows.snoc hx hl hb
  ⟨hM.own.ext hx, hr, fun i k hi hk => ((hr.row i hi).lt k hk).2, hc, hW, Nat.le_refl _⟩
theorem Ints.ofCell {w : World} {n : Nat} {x : Int} (h : w.cell? ⟨n, 0, none⟩ = some (.int .i64 x)) : Ints w (some ⟨n, 0, none⟩) 1 1 [x] :=
  ⟨rfl, Nat.le_refl _, by omega, fun k hk => ⟨n, 0, rfl, fun k hk => by
    obtain rfl : k = 0 := by omega
    exact h⟩⟩

end Go.Proofs.Ytokpmflhgehicaa
