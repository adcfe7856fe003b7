import Derived.Test.YtgohdmnbnhehnaaGreatFnAllG12
import Derived.Test.YtgohdmnbnhehnaaGreatFnAllG17
import Derived.Test.YtgohdmnbnhehnaaGreatFnAllG7
import Derived.Test.YtgohdmnbnhehnaaGreatFnAllG29
import Derived.Test.YtgohdmnbnhehnaaGreatFnAllG5
import Derived.Test.YtgohdmnbnhehnaaGreatFnAllG4
import Derived.Test.YtgohdmnbnhehnaaGreatFnAllG13
import Derived.Test.YtgohdmnbnhehnaaGreatFnAllG11
namespace Go.Proofs.YtgohdmnbnhehnaaGreat
set_option linter.unusedVariables false
set_option linter.unusedSimpArgs false
set_option maxRecDepth 100000
open Go.RowKit
set_option maxHeartbeats 1000000 in
theorem i_GrandValue {w : World} {p : Int} {a : Option Addr} {n cap : Nat} {V : List Int} (h : Ints w a n cap V) :
 Calls Tryz.prog 88 #[pair p a n cap] w fun e w' => e = .returned (.int .i64 (grandV p V)) ∧ Ext w w' := by
 have hi := h.alloc (.cells #[.int .i64 p, .slice a n cap] 47)
 have HX := Lib.hid (Ext.alloc w (.cells #[.int .i64 p, .slice a n cap] 47))
 have HL := Lib.hid h.hlen
 have HI := Lib.hid hi
 have HV := Lib.hid (i_IsValidGame (p := p) hi)
 clear h hi
 cases hv : gameOk p V
 ·rw [hv] at HV
  have HG := Lib.hid (grandV_no hv)
  clear hv
  go_enter Tryz.func88, Tryz.ntmps88
  go_wp2_with fail
  refine HV.out.mono ?_
  rintro e w1 ⟨rfl, hx⟩
  have X1 := Lib.hid (HX.out.trans hx)
  clear hx
  go_wp2_with fail
  go_ret
  exact ⟨ret_int HG.out.symm, X1.out⟩
 ·rw [hv] at HV
  obtain ⟨q, rfl, h1, h5, hlen, _, hbd⟩ := gameOk_len hv
  have hN := cN_le q h5
  obtain ⟨u, rfl⟩ : ∃ u, n = u + 1 := ⟨n - 1, by have := HL.out; omega⟩
  have HG := Lib.hid (show grandV (q : Int) V = V[u]?.getD 0 by rw [grandV_ok hv, HL.out]; rfl)
  have hu32 : u ≤ 31 := by have := HL.out; omega
  clear hv hlen hbd hN
  go_enter Tryz.func88, Tryz.ntmps88
  go_wp2_with fail
  refine HV.out.mono ?_
  rintro e w1 ⟨rfl, hx⟩
  have c1 : w1.cell? ⟨w.heap.size, 1, none⟩ = some (.slice a (u + 1) cap) := hx.cellSome (by simp)
  obtain ⟨b, off, rfl, hc⟩ := (HI.out.ext hx).at (show u < u + 1 by omega)
  have hlen1 : ((u + 1 : Nat) : Int) - 1 = (u : Int) := by omega
  have X1 := Lib.hid (HX.out.trans hx)
  clear hx
  go_wp2_with fail
  go_ret
  exact ⟨ret_int HG.out.symm, X1.out⟩
def NucRet (w : World) (base : Nat) (e : Ending) (r : NucR) : Prop :=
 ∃ pa pn pc sa sn sc, e = .returned (.agg #[.bool r.ok, .slice pa pn pc, .slice sa sn sc, .int .i64 r.rounds]) ∧ OwnR w base (.slice pa pn pc) r.pt ∧ OwnG fixE 108 w base (.slice sa sn sc) r.st
theorem NucRet.no (w : World) (base : Nat) : NucRet w base (.returned (.agg #[.bool false, .slice none 0 0, .slice none 0 0, .int .i64 0])) NucR.no :=
 ⟨Option.none, 0, 0, Option.none, 0, 0, rfl, OwnR.nil _ _, OwnG.nil _ _ _ _⟩
theorem nbox {w : World} {g : Nat} {a b c d : Value} {t : TypeId} (hb : w.heap[g]? = some (.cells #[a, b, c, d] t (0, 0))) :
 w.cell? ⟨g, 0, none⟩ = some a ∧ w.cell? ⟨g, 1, none⟩ = some b ∧ w.cell? ⟨g, 2, none⟩ = some c ∧ w.cell? ⟨g, 3, none⟩ = some d ∧ ∀ k, w.frozen? ⟨g, k, none⟩ = false := by
 refine ⟨?_, ?_, ?_, ?_, fun k => frozen_of_row w g k _ _ hb⟩ <;> rw [cell_of_row w g _ _ _ _ hb] <;> rfl
theorem nput {W : World} {r : Nat} {x0 x1 x2 x3 : Value} {t : TypeId} (hb : W.heap[r]? = some (.cells #[x0, x1, x2, x3] t (0, 0))) (v0 v1 v2 v3 : Value) :
 ((((W.setCell ⟨r, 0, none⟩ v0).setCell ⟨r, 1, none⟩ v1).setCell ⟨r, 2, none⟩ v2).setCell ⟨r, 3, none⟩ v3).heap[r]? = some (.cells #[v0, v1, v2, v3] t (0, 0)) ∧
   ∀ b, b ≠ r → ((((W.setCell ⟨r, 0, none⟩ v0).setCell ⟨r, 1, none⟩ v1).setCell ⟨r, 2, none⟩ v2).setCell ⟨r, 3, none⟩ v3).heap[b]? = W.heap[b]? := by
 have h1 := heap_setCell_same W r 0 _ t v0 hb
 have h2 := heap_setCell_same _ r 1 _ t v1 h1
 have h3 := heap_setCell_same _ r 2 _ t v2 h2
 have h4 := heap_setCell_same _ r 3 _ t v3 h3
 exact ⟨h4, fun b hb2 => (heap_setCell_other _ _ _ _ hb2).trans ((heap_setCell_other _ _ _ _ hb2).trans ((heap_setCell_other _ _ _ _ hb2).trans (heap_setCell_other _ _ _ _ hb2)))⟩
theorem nputX {w W : World} {r : Nat} (hX : Ext w W) (hr : w.heap.size ≤ r) (v0 v1 v2 v3 : Value) : Ext w ((((W.setCell ⟨r, 0, none⟩ v0).setCell ⟨r, 1, none⟩ v1).setCell ⟨r, 2, none⟩ v2).setCell ⟨r, 3, none⟩ v3) :=
 (((hX.store 0 hr v0).store 1 hr v1).store 2 hr v2).store 3 hr v3
structure NucO (W wr : World) (B : Nat) (vp vs vf : Value) (pt : List (Int × Int)) (L : List (Int × Int × Int)) (fx : List Int) (k : Nat) : Prop where
 box : wr.heap[B]? = some (.cells #[.bool true, vp, vs, .int .i64 (k : Int)] 45 (0, 0))
 pt : OwnR wr (B + 1) vp pt
 st : OwnG fixE 108 wr (B + 1) vs L
 fx : OwnI wr (B + 1) vf fx
 ext : Ext W wr
 lo : W.heap.size ≤ B
section
variable {W wr w' : World} {B : Nat} {vp vs vf : Value} {pt : List (Int × Int)} {L : List (Int × Int × Int)} {fx : List Int} {k : Nat}
theorem NucO.grow (h : NucO W wr B vp vs vf pt L fx k) (hx : Ext wr w') : NucO W w' B vp vs vf pt L fx k := ⟨hx.blk h.box, h.pt.ext hx, h.st.ext hx, h.fx.ext hx, h.ext.trans hx, h.lo⟩
theorem NucO.lt (h : NucO W wr B vp vs vf pt L fx k) : B < wr.heap.size := lt_of_block h.box
theorem NucO.off {v : Value} (h : ∀ k, v.ownBlock = some k → B + 1 ≤ k ∧ k < wr.heap.size) (j : Nat) (u : Value) : ∀ k, v.ownBlock = some k → (wr.setCell ⟨B, j, none⟩ u).heap[k]? = wr.heap[k]? := fun k hk => heap_setCell_other _ _ _ _ (by have := (h k hk).1; show k ≠ B; omega)
theorem NucO.setP (h : NucO W wr B vp vs vf pt L fx k) {vp' : Value} {pt' : List (Int × Int)} (hp : OwnR wr (B + 1) vp' pt') : NucO W (wr.setCell ⟨B, 1, none⟩ vp') B vp' vs vf pt' L fx k :=
 ⟨heap_setCell_same wr B 1 _ _ _ h.box, hp.keep (NucO.off hp.lt 1 _), h.st.keep (NucO.off h.st.lt 1 _), h.fx.keep (NucO.off h.fx.lt 1 _), h.ext.store 1 h.lo _, h.lo⟩
theorem NucO.setK (h : NucO W wr B vp vs vf pt L fx k) {k' : Nat} {i : Int} (hi : i = (k' : Int)) : NucO W (wr.setCell ⟨B, 3, none⟩ (.int .i64 i)) B vp vs vf pt L fx k' := by
 subst hi
 exact ⟨heap_setCell_same wr B 3 _ _ _ h.box, h.pt.keep (NucO.off h.pt.lt 3 _), h.st.keep (NucO.off h.st.lt 3 _), h.fx.keep (NucO.off h.fx.lt 3 _), h.ext.store 3 h.lo _, h.lo⟩
theorem NucO.grewS (h : NucO W wr B vp vs vf pt L fx k) {w1 : World} (hx : Ext wr w1) {vs' : Value} {L' : List (Int × Int × Int)} (hg : w1.grownBy w' vs.ownBlock) (ho : OwnG fixE 108 w' (B + 1) vs' L') : NucO W (w'.setCell ⟨B, 2, none⟩ vs') B vp vs' vf pt L' fx k := by
 have hb := (hg.block B (lt_of_block (hx.blk h.box)) (fun e => by have := (h.st.lt B e.symm).1; omega)).trans (hx.blk h.box)
 have h1 : OwnR w' (B + 1) vp pt := ownsRow_grown (h.pt.ext hx) (h.st.ext hx) (by decide) hg
 have h2 : OwnI w' (B + 1) vf fx := ownsRow_grown (h.fx.ext hx) (h.st.ext hx) (by decide) hg
 exact ⟨heap_setCell_same w' B 2 _ _ _ hb, h1.keep (NucO.off h1.lt 2 _), ho.keep (NucO.off ho.lt 2 _), h2.keep (NucO.off h2.lt 2 _), ((h.ext.trans hx).grown hg (fun j hj => by have := (h.st.lt j hj).1; have := h.lo; omega)).store 2 h.lo _, h.lo⟩
theorem NucO.grewP (h : NucO W wr B vp vs vf pt L fx k) {w1 : World} (hx : Ext wr w1) {vp' : Value} {pt' : List (Int × Int)} (hg : w1.grownBy w' vp.ownBlock) (ho : OwnR w' (B + 1) vp' pt') : NucO W (w'.setCell ⟨B, 1, none⟩ vp') B vp' vs vf pt' L fx k := by
 have hb := (hg.block B (lt_of_block (hx.blk h.box)) (fun e => by have := (h.pt.lt B e.symm).1; omega)).trans (hx.blk h.box)
 have h1 : OwnG fixE 108 w' (B + 1) vs L := ownsRow_grown (h.st.ext hx) (h.pt.ext hx) (by decide) hg
 have h2 : OwnI w' (B + 1) vf fx := ownsRow_grown (h.fx.ext hx) (h.pt.ext hx) (by decide) hg
 exact ⟨heap_setCell_same w' B 1 _ _ _ hb, ho.keep (NucO.off ho.lt 1 _), h1.keep (NucO.off h1.lt 1 _), h2.keep (NucO.off h2.lt 1 _), ((h.ext.trans hx).grown hg (fun j hj => by have := (h.pt.lt j hj).1; have := h.lo; omega)).store 1 h.lo _, h.lo⟩
theorem NucO.grewF (h : NucO W wr B vp vs vf pt L fx k) {w1 : World} (hx : Ext wr w1) {vf' : Value} {fx' : List Int} (hg : w1.grownBy w' vf.ownBlock) (ho : OwnI w' (B + 1) vf' fx') : NucO W w' B vp vs vf' pt L fx' k := by
 have hb := (hg.block B (lt_of_block (hx.blk h.box)) (fun e => by have := (h.fx.lt B e.symm).1; omega)).trans (hx.blk h.box)
 have h1 : OwnR w' (B + 1) vp pt := ownsRow_grown (h.pt.ext hx) (h.fx.ext hx) (by decide) hg
 have h2 : OwnG fixE 108 w' (B + 1) vs L := ownsRow_grown (h.st.ext hx) (h.fx.ext hx) (by decide) hg
 exact ⟨hb, h1, h2, ho, (h.ext.trans hx).grown hg (fun j hj => by have := (h.fx.lt j hj).1; have := h.lo; omega), h.lo⟩
end
structure Stay (lo : Nat) (w w' : World) : Prop where
 size : w.heap.size ≤ w'.heap.size
 block : ∀ k, lo ≤ k → k < w.heap.size → w'.heap[k]? = w.heap[k]?
def Off (lo hi : Nat) (v : Value) : Prop := ∀ k, v.ownBlock = some k → k < lo ∨ hi ≤ k
theorem Off.of {lo hi : Nat} {w : World} {base : Nat} {v : Value} (h : ∀ k, v.ownBlock = some k → base ≤ k ∧ k < w.heap.size) (hl : w.heap.size ≤ lo) : Off lo hi v := fun k hk => Or.inl (by have := (h k hk).2; omega)
theorem Off.nil (lo hi n c : Nat) : Off lo hi (.slice none n c) := fun k hk => by cases hk
theorem Off.near {lo hi : Nat} {w : World} {v v' : Value} (h : Off lo hi v) (hn : Near w v v') (hs : hi ≤ w.heap.size) : Off lo hi v' := fun k hk => by
 rcases hn k hk with h1 | h1
 ·exact h k h1
 ·exact Or.inr (by omega)
section
variable {lo : Nat} {w w1 w2 : World}
theorem Stay.refl (lo : Nat) (w : World) : Stay lo w w := ⟨Nat.le_refl _, fun _ _ _ => rfl⟩
theorem Stay.ext (h : Stay lo w w1) (hx : Ext w1 w2) : Stay lo w w2 := ⟨Nat.le_trans h.size hx.size, fun k h1 h2 => (hx.block k (Nat.lt_of_lt_of_le h2 h.size)).trans (h.block k h1 h2)⟩
theorem Stay.grown (h : Stay lo w w1) {v : Value} (hg : w1.grownBy w2 v.ownBlock) (ho : Off lo w.heap.size v) : Stay lo w w2 := ⟨Nat.le_trans h.size hg.size, fun k h1 h2 => (hg.block k (Nat.lt_of_lt_of_le h2 h.size) (fun e => by have := ho k e.symm; omega)).trans (h.block k h1 h2)⟩
theorem Stay.set (h : Stay lo w w1) {B j : Nat} (hB : B < lo) (v : Value) : Stay lo w (w1.setCell ⟨B, j, none⟩ v) := ⟨by rw [World.size_setCell]; exact h.size, fun k h1 h2 => (heap_setCell_other _ _ _ _ (by show k ≠ B; omega)).trans (h.block k h1 h2)⟩
theorem Stay.on (h : Stay lo w w1) {P : World → Prop} (ho : On lo w P) : On lo w1 P := ho.keep h.size h.block
theorem Stay.blk (h : Stay lo w w1) {g : Nat} {o : Obj} (hg : lo ≤ g) (hb : w.heap[g]? = some o) : w1.heap[g]? = some o := (h.block g hg (lt_of_block hb)).trans hb
theorem Stay.ints (h : Stay lo w w1) {base : Nat} {v : Value} {l : List Int} (hb : lo ≤ base) (ho : OwnI w base v l) : OwnI w1 base v l := ho.keep fun k hk => h.block k (by have := (ho.lt k hk).1; omega) (ho.lt k hk).2
end
theorem LpRet.lpc {w : World} {base : Nat} {e : Ending} {A : List (List Int)} {B : List Int} {C : List (Int × Int)} {ok : Bool} (h : LpRet w base e A B C ok) :
 ∃ a na ca b nb cb c nc cc, e = .returned (.tuple #[lpW a na ca b nb cb c nc cc, .bool ok]) ∧ LpC w a na ca b nb cb c nc cc A B C := by
 obtain ⟨va, vb, vc, vs, rfl, h1, h2, h3, h4, h5⟩ := h
 obtain ⟨a, na, ca, rfl, _⟩ := h1.var
 obtain ⟨b, nb, cb, rfl, _⟩ := h3.var
 obtain ⟨c, nc, cc, rfl, _⟩ := h4.var
 exact ⟨_, _, _, _, _, _, _, _, _, rfl, (show OwnSS w base (.slice a na ca) A from ⟨vs, h1, h2⟩).intss, h3.ints, h4.rats⟩
theorem OwnG.fixs {w : World} {base : Nat} {a : Option Addr} {n cap : Nat} {L : List (Int × Int × Int)} (h : OwnG fixE 108 w base (.slice a n cap) L) : Fixs w a n cap L := h.slc.fixs
theorem fx_snoc (x : Int) (P : List (Int × Int × Int)) (t : Int × Int × Int) : (x :: P.map fun f => f.1) ++ [t.1] = x :: (P ++ [t]).map fun f => f.1 := by simp
theorem fix_bd {V : List Int} {L : List (Int × Int × Int)} {s : Int} (hs : s ≤ 1000) (h : ∀ f ∈ L, f.1 ≤ 1000) : ∀ k : Nat, (s :: L.map (·.1))[k]?.getD 0 ≤ 9223372036854775807 := by
 intro k
 by_cases hk : k < (s :: L.map (·.1)).length
 ·rw [List.getElem?_eq_getElem hk, Option.getD_some]
  have hm := List.getElem_mem hk
  rcases List.mem_cons.1 hm with e | e
  ·rw [e]; omega
  ·obtain ⟨f, hf, he⟩ := List.mem_map.1 e
   rw [← he]; have := h f hf; omega
 ·rw [List.getElem?_eq_none (by omega)]; decide
end Go.Proofs.YtgohdmnbnhehnaaGreat
